/- Regions that draw their order and store a whole result beside reads. -/
import Derived.Test.YtckfjploafhenaaGreatPk15
import Derived.Test.YtckfjploafhenaaGreatPk19
import Derived.Test.YtckfjploafhenaaGreatPk24
import Derived.Test.YtckfjploafhenaaGreatPk20
import Derived.Test.YtckfjploafhenaaGreatPk23
set_option maxRecDepth 100000
set_option maxHeartbeats 16000000
set_option linter.unusedVariables false
set_option linter.unusedSimpArgs false
namespace Go.Proofs.YtckfjploafhenaaGreat
open Go.ChangeShapes Go.WideShapes Go.ChangeAt Go.RowKit Go.Sort
def relS (p:Nat) (obj:Obj) (B:Nat) (hp:p < B):Rm.Rel where
 rel a b:=Chg a b [p]/\(p < a.heap.size->b.heap[p]?=a.heap[p]?\/b.heap[p]?=some obj)
 base:=B
 refl w:=⟨Chg.refl w _,fun _ => .inl rfl⟩
 trans a b c h k:=⟨h.1.trans k.1,fun hlt=>by
  rcases k.2 (Nat.lt_of_lt_of_le hlt h.1.size) with e | e
  ·rw [e];exact h.2 hlt
  ·exact .inr e⟩
 ext a b h:=⟨zez _ h,fun hlt => .inl (h.block p hlt)⟩
 size a b h:=h.1.size
 keep a b h q hq hlt:=h.1.block q hlt (by rw [Mi];omega)
def stored (p:Nat) (obj:Obj):Option Tmp->Value->World->Prop:=fun d _ W=>d=none->W.heap[p]?=some obj
theorem stored_mono (p:Nat) (obj:Obj) (B:Nat) (hp:p < B) (d:Option Tmp):Rm.Mono (relS p obj B hp) (stored p obj d):=fun v w w' h hx hd=>by
 have h1:=h hd;rcases hx.2 (bx_lt h1) with e | e
 ·rw [e];exact h1
 ·exact e
theorem zcr {p g:Nat} {obj o:Obj} {B:Nat} {hp:p < B} {w:World} (h:w.heap[g]?=some o) (hne:g≠p):∀ W,(relS p obj B hp).rel w W->W.heap[g]?=some o:=fun W hW=>(hW.1.block g (bx_lt h) (by rw [Mi];exact hne)).trans h
section
variable {P:Program} {ops:Array Oper} {w:World} {L:(World->Prop)->Act->Prop} {o:Oper} {rest:List Oper} {C:World->Prop} {ps:List Nat} {a:Act}
theorem zi8 {p:Nat} {cs old:Array Value} {T:TypeId} {B:Nat} {hp:p < B} {N:Nat} {ty:TypeId} {x y:Operand} (hg:w.heap[p]?=some (.cells old T (0,0))) (hop:o.op = .store ty x y) (hd:o.dst=none) (hw:Region.wanted o (yielded ops a.tmps)=true)
  (hx:a.eval x = .pointer (some ⟨p,0,none⟩)) (hy:a.eval y = .agg cs) (hi:(P.info? ty).map (·.size)=some cs.size) (hold:old.size=cs.size) (h1:cs.all (·.oneCell')=true)
  (h:Rm.Mx (relS p (.cells cs T (0,0)) B hp) P ops ((relS p (.cells cs T (0,0)) B hp).rel w) (N,stored p (.cells cs T (0,0))) L rest (fun W=>C W/\W.heap[p]?=some (.cells cs T (0,0))) ps (a.put none undef)) :
  Rm.Mx (relS p (.cells cs T (0,0)) B hp) P ops ((relS p (.cells cs T (0,0)) B hp).rel w) (N,stored p (.cells cs T (0,0))) L (o::rest) C ps a:=by
 refine Rm.wpMix_store (by unfold zat;rw [hop]) (by show Rm.isApp0 _=true;unfold Rm.isApp0;rw [hop]) hw (stored_mono _ _ _ _ _) (fun W hW=>?_) (fun v hv=>?_)
 ·have hgW:∃ old':Array Value,W.heap[p]?=some (.cells old' T (0,0))/\old'.size=cs.size:=by
   rcases hW.2 (bx_lt hg) with e | e
   ·exact ⟨old,by rw [e];exact hg,hold⟩
   ·exact ⟨cs,e,rfl⟩
  obtain ⟨old',hg',hs'⟩:=hgW;refine ⟨W.setRow p cs, ?_,fun _=>setRow_heap W p old' cs T (0,0) hg',zcy W p cs,fun _ => .inr (setRow_heap W p old' cs T (0,0) hg')⟩
  unfold execOp;simp only [hop,hx,hy,Instr.storeAt,Instr.sureAddr,Sem.run_bind,Sem.run_pure,Result.andThen_ok,run_storeVar_row W p T ty old' cs hg' hi hs' h1]
 ·rw [hd]
  have e:(fun W=>C W/\stored p (.cells cs T (0,0)) o.dst v W)=(fun W=>C W/\W.heap[p]?=some (.cells cs T (0,0))):=by
   funext W
   simp [stored,hd]
  show Rm.Mx _ P ops _ _ L rest (fun W=>C W/\stored p (.cells cs T (0,0)) none v W) ps (a.put none v)
  rw [hd] at e;rw [e];exact h
end
theorem ziu {P:Program} {c:Code} {Q:Exit->Act->World->Prop} {a:Act} {w:World} (F:World->Prop) (hF:F w) (h:∀ W,F W->c.wp P Q a W):c.wp P Q a w:=h w hF
theorem zam {α:Type} {enc:α->List Value} {e T:TypeId} {sz:Nat} {w:World} {B p:Nat} {cs:Array Value} {A:Option Addr} {n c:Nat} {l:List α} (h:w.heap[p]?=some (.cells cs T (0,0))) (k:Ow enc e sz w B (.slice A n c) l) (hne:T≠e):p∉blk A:=fun hm=>by
 rcases k.2 with ⟨h2,_⟩ | ⟨g,cap,cur,hv,hb,hh,r⟩
 ·simp only [Value.slice.injEq] at h2;rw [h2.1] at hm;simp [blk] at hm
 ·simp only [Value.slice.injEq] at hv;rw [hv.1] at hm;simp only [blk,Mi] at hm;subst hm;rw [h] at hh;simp only [Option.some.injEq,Obj.cells.injEq] at hh;exact hne hh.2.1
theorem zcx {w:World} {B T p:Nat} {a:LAd} {l:Lg} {cs:Array Value} {t:TypeId} (h:w.heap[p]?=some (.cells cs t (0,0))) (k:LgO w B T a l) (h1:t≠162) (h2:t≠111) (h3:t≠104):p∉a.fp:=fun hm=>by
 unfold LAd.fp at hm;rw [List.mem_append,List.mem_append] at hm;rcases hm with (hm | hm) | hm
 ·exact zam h k.c h1 hm
 ·exact zam h k.s h2 hm
 ·exact zam h k.e h3 hm
theorem zhw {P:Program} {ops:Array Oper} {Q:Exit->Act->World->Prop} {l:List Oper} {a:Act} {w:World} {ty:TypeId} {x:Operand} {d:Nat} {rt:TypeId} {pos:String} {af:Array Edge} {gu:Option (Nat×Bool)} {g:Nat} {cs:Array Value} {t:TypeId} {fs:Array Field}
  (hg:w.heap[g]?=some (.cells cs t (0,0))) (hw:Region.wanted ({ dst:=some d,op := .load ty x,type:=rt,pos:=pos,after:=af,guard:=gu }:Oper) (yielded ops a.tmps)=true) (hx:a.eval x = .pointer (some ⟨g,0,none⟩)) (hu:P.underlying ty=some (.struct fs)) (hi:(P.info? ty).map (·.size)=some cs.size)
  (h:wpList P ops Q l (a.put (some d) (.agg cs)) w):Stop (wpList P ops Q ({ dst:=some d,op := .load ty x,type:=rt,pos:=pos,after:=af,guard:=gu } :: l) a w) :=
 BigFrame.wpList_want hw fun _ hK=>wp_load_row ty x rfl g hx t cs (0,0) _ hg hu rfl hi (hK _ _ h)
instance:Inhabited Lg:=⟨Lg.none⟩
instance:Inhabited LAd:=⟨LAd.none⟩
instance:Inhabited Vt:=⟨⟨0,0,0,0,0,0,Lg.none⟩⟩
instance:Inhabited Mg:=⟨⟨0,0,0,0,0,0,0,0,0,0,0,0,0,Lg.none⟩⟩
instance:Inhabited Ot:=⟨⟨0,default⟩⟩
theorem OtE.len (p:OtE):(OtE.enc p).length=18:=rfl
structure OsO (w:World) (B T:Nat) (A:Option Addr) (c:Nat) (ps:List OtE):Prop where
 r:Ow OtE.enc 47 18 w B (.slice A ps.length c) ps
 l:∀ p∈ps,LgO w B T p.1 p.2.msg.log
 nd:(blk A++ps.flatMap (fun p=>p.1.fp)).Nodup
 top:∀ k∈blk A++ps.flatMap (fun p=>p.1.fp),k < T
theorem OsO.rd {w:World} {B T:Nat} {A:Option Addr} {c:Nat} {ps:List OtE} (h:OsO w B T A c ps):OsR w A c ps:=⟨(h.r.rd OtE.len).2,fun p hp=>(h.l p hp).rd⟩
def OtE.fps (A:Option Addr) (ps:List OtE):List Nat:=blk A++ps.flatMap (fun p=>p.1.fp)
abbrev OtE.cells (a:LAd) (o:Ot):Array Value:=#[.int .i64 o.to, .int .i64 o.msg.kind, .int .i64 o.msg.frm, .int .i64 o.msg.view, .int .i64 o.msg.op, .int .i64 o.msg.commit, .int .i64 o.msg.normal, .int .i64 o.msg.nonce, .int .i64 o.msg.client, .int .i64 o.msg.req, .int .i64 o.msg.answer, .int .i64 o.msg.ck, .int .i64 o.msg.cx, .int .i64 o.msg.cv, .int .i64 o.msg.log.base, .slice a.cA o.msg.log.cells.length a.cc, .slice a.sA o.msg.log.seats.length a.sc, .slice a.eA o.msg.log.ents.length a.ec]
abbrev Mg.cs (a:LAd) (m:Mg):Array Value:=#[.int .i64 m.kind, .int .i64 m.frm, .int .i64 m.view, .int .i64 m.op, .int .i64 m.commit, .int .i64 m.normal, .int .i64 m.nonce, .int .i64 m.client, .int .i64 m.req, .int .i64 m.answer, .int .i64 m.ck, .int .i64 m.cx, .int .i64 m.cv, .int .i64 m.log.base, .slice a.cA m.log.cells.length a.cc, .slice a.sA m.log.seats.length a.sc, .slice a.eA m.log.ents.length a.ec]
def SlV {α:Type} (enc:α->List Value) (e:TypeId) (sz B:Nat) (l:List α) (v:Value) (w:World):Prop:=∃ A c,v = .slice A l.length c/\Rd enc sz w A c l/\(0 < c->Ow enc e sz w B (.slice A l.length c) l)
theorem SlV.mono {α:Type} (enc:α->List Value) (e:TypeId) (sz B:Nat) (l:List α):Mono (SlV enc e sz B l):=fun v w w' ⟨A,c,h,hr,hb⟩ hx=>⟨A,c,h,hr.keep hx,fun hl=>(hb hl).kept hx⟩
def RdF {α:Type} (enc:α->List Value) (e:TypeId) (sz:Nat) (w:World) (B:Nat) (A:Option Addr) (c:Nat) (l:List α):Prop:=Rd enc sz w A c l/\(0 < c->Ow enc e sz w B (.slice A l.length c) l)
theorem SlV.rdF {α:Type} {enc:α->List Value} {e:TypeId} {sz B:Nat} {l:List α} {A:Option Addr} {n c:Nat} {w:World} (h:SlV enc e sz B l (.slice A n c) w):RdF enc e sz w B A c l:=by
 obtain ⟨A',c',he,hr,hb⟩:=h;simp only [Value.slice.injEq] at he;obtain ⟨rfl,_,rfl⟩:=he;exact ⟨hr,hb⟩
theorem RdF.keep {α:Type} {enc:α->List Value} {e:TypeId} {sz:Nat} {w w':World} {B:Nat} {A:Option Addr} {c:Nat} {l:List α} (h:RdF enc e sz w B A c l) (hx:Ext w w'):RdF enc e sz w' B A c l:=⟨h.1.keep hx,fun hl=>(h.2 hl).kept hx⟩
theorem RdF.chg {α:Type} {enc:α->List Value} {e:TypeId} {sz:Nat} {w w':World} {B:Nat} {A:Option Addr} {c:Nat} {l:List α} {S:List Nat} (hsz:∀ x,(enc x).length=sz) (h:RdF enc e sz w B A c l) (hg:Chg w w' S) (hS:0 < c->∀ k∈blk A,k∉S):RdF enc e sz w' B A c l:=by
 by_cases hl:0 < c
 ·have h1:=(h.2 hl).chg hg (hS hl);exact ⟨(h1.rd hsz).2,fun _=>h1⟩
 ·exact ⟨⟨h.1.1,h.1.2.1,fun h9=>absurd (Nat.lt_of_lt_of_le h9 h.1.1) hl⟩,fun h=>absurd h hl⟩
theorem RdF.less {α:Type} {enc:α->List Value} {e:TypeId} {sz:Nat} {w:World} {B B':Nat} {A:Option Addr} {c:Nat} {l:List α} (h:RdF enc e sz w B A c l) (hB:B'<=B):RdF enc e sz w B' A c l:=⟨h.1,fun hl=>(h.2 hl).less hB⟩
theorem RdF.nil {α:Type} (enc:α->List Value) (e:TypeId) (sz:Nat) (w:World) (B:Nat):RdF enc e sz w B none 0 ([]:List α):=⟨⟨Nat.le_refl _,by unfold maxLen;omega,fun h=>absurd h (by simp)⟩,fun h=>absurd h (by simp)⟩
theorem Ow.rdF {α:Type} {enc:α->List Value} {e:TypeId} {sz:Nat} {w:World} {B:Nat} {A:Option Addr} {c:Nat} {l:List α} (hsz:∀ x,(enc x).length=sz) (h:Ow enc e sz w B (.slice A l.length c) l):RdF enc e sz w B A c l:=⟨(h.rd hsz).2,fun _=>h⟩
theorem run_app0 {P:Program} {α:Type} {enc:α->List Value} {w:World} (p:Nat) (t ty e:TypeId) (i:TypeInfo) (z:Value) (size bytes:Nat) (ht:P.underlying t=some (.slice e)) (hi:P.info? e=some i) (hz:i.zero=some z)
  (hsize:i.size=size) (hby:i.bytes=bytes) (hzs:z.cells.size=size) (hsz:0 < size) (hlen:∀ x,(enc x).length=size) {A:Option Addr} {c:Nat} {l:List α} (hr:Rd enc size w A c l)
  (h63:l.length<=maxLen) (hbytes:l.length * bytes<=140737488355328) (b0:Nat) (hb0:b0<=w.heap.size) :
  ∃ v' w',(Builtin.append_ #[t,t] ty #[.slice (some ⟨p,0,none⟩) 0 0, .slice A l.length c]).run P w = .ok v' w'/\SlV enc e size b0 l v' w'/\Ext w w':=by
 subst hsize
 subst hby
 have hsmall:l.length<=9223372036854775807:=by simp only [maxLen] at h63;omega
 by_cases h0:l.length=0
 ·obtain rfl:l=[]:=List.eq_nil_of_length_eq_zero h0;refine ⟨.slice (some ⟨p,0,none⟩) 0 0,w, ?_,⟨some ⟨p,0,none⟩,0,rfl,⟨Nat.le_refl _,by unfold maxLen;omega,fun h=>absurd h (by simp)⟩,fun h=>absurd h (by simp)⟩,za4 _⟩
  cases A <;> simp [Builtin.append_,run_underlying ht,sizeOf,typeInfo,hi,Builtin.lenOf,Builtin.firstCells,loadCells,loadCellsFrom,storeCells]
 ·obtain ⟨ad,rfl⟩:=hr.base (by omega)
  have hf:=zae hlen l;have hrun:=run_append_grow (P:=P) (w:=w) t ty e i z ht hi hz ⟨p,0,none⟩ 0 0 [] (by simp) (by simp) ad l.length c (l.flatMap enc) hf (hr.flat hsz hlen) (by omega) (by omega) (growslice_fits (by omega) (by simpa using hbytes))
  have hge:=grownCap_ge w (0+l.length) 0 e;have hcm:grownCap w (0+l.length) 0 e<=maxLen:=grownCap_le_maxLen w (0+l.length) 0 e (by simpa using h63)
  generalize grownCap w (0+l.length) 0 e=G at hrun hge hcm
  have hown:Ow enc e i.size (w.drew.alloc (.cells (([]:List Value).toArray++(l.flatMap enc).toArray++Builtin.zeroCells z.cells (G - (0+l.length))) e)) b0 (.slice (some ⟨w.heap.size,0,none⟩) l.length G) l:=by
   refine ⟨hf, .inr ⟨w.heap.size,_,_,rfl,hb0,heap_alloc_new w.drew _,by omega,hcm, ?_, ?_⟩⟩
   ·simp only [Array.size_append,List.size_toArray,List.length_nil,size_zeroCells,hzs,hf,Nat.zero_add];rw [<-Nat.add_mul];congr 1;omega
   ·simp only [Array.toList_append,List.append_assoc,List.nil_append];rw [<-hf];exact List.take_left
  refine ⟨_,_,hrun,⟨some ⟨w.heap.size,0,none⟩,G,by simp,(hown.rd hlen).2,fun _=>hown⟩,(zab (za4 w)).trans (za1 _ _)⟩
open Rm in
theorem wpMix_app0 {P:Program} {N:Nat} {ops:Array Oper} {w:World} {B:Bnd} {L:(World->Prop)->Act->Prop} {o:Oper} {rest:List Oper} {C:World->Prop} {ps:List Nat} {a:Act} {α:Type} {enc:α->List Value} (s x:Operand) (t:TypeId)
  (ho:o.op = .call { callee := .builtin .append,args:=#[s,x],argTypes:=#[t,t] }) (hgd:o.guard=none) (e:TypeId) (i:TypeInfo) (z:Value) (size bytes:Nat) (ht:P.underlying t=some (.slice e)) (hi:P.info? e=some i) (hz:i.zero=some z)
  (hsize:i.size=size) (hby:i.bytes=bytes) (hzs:z.cells.size=size) (hsz:0 < size) (hlen:∀ x,(enc x).length=size) (p:Nat) (hs:a.eval s = .slice (some ⟨p,0,none⟩) 0 0) (A:Option Addr) (n c:Nat) (l:List α) (hn:n=l.length) (hx:a.eval x = .slice A n c)
  (hr:∀ W,Ext w W->Rd enc size W A c l) (hΦ:B.2 o.dst=SlV enc e size w.heap.size l) (h63:l.length<=maxLen) (hbytes:l.length * bytes<=140737488355328)
  (h:∀ A' c',Rm.Mx (relE N) P ops (Ext w) B L rest (fun W=>C W/\SlV enc e size w.heap.size l (.slice A' l.length c') W) ps (a.put o.dst (.slice A' l.length c'))):Rm.Mx (relE N) P ops (Ext w) B L (o::rest) C ps a:=by
 subst hn;refine Rm.wpMix_app (R:=relE N) (by unfold zat;rw [ho]) (show Rm.isApp0 _=true by unfold Rm.isApp0;rw [ho]) (by simp [Region.wanted,hgd]) (by rw [hΦ];exact SlV.mono _ _ _ _ _) (fun W hW=>?_) (fun v hv=>?_)
 ·obtain ⟨v',w',h1,h2,h3⟩:=run_app0 (P:=P) (w:=W) p t o.type e i z size bytes ht hi hz hsize hby hzs hsz hlen (hr W hW) h63 hbytes w.heap.size hW.size;refine ⟨v',w', ?_,by rw [hΦ];exact h2,h3⟩
  unfold execOp;simp only [ho,resolve,invoke,builtin,Sem.run_bind,Sem.run_pure,Result.andThen_ok,List.map_toArray,List.map_cons,List.map_nil,hs,hx,h1]
 ·rw [hΦ] at hv ⊢;obtain ⟨W,_,A',c',rfl,_⟩:=hv;exact h A' c'
theorem zeq {α:Type} {enc:α->List Value} {e:TypeId} {sz:Nat} {w:World} {B:Nat} {A:Option Addr} {c:Nat} {l:List α} {S:List Nat} (h:RdF enc e sz w B A c l) (hS:∀ k∈S,k < B):0 < c->∀ k∈blk A,k∉S:=fun hl k hk hm=>by
 have h1:=((h.2 hl).inB k hk).1;have h2:=hS k hm;omega
def ImgV (B:Nat) (cs:List Cel) (ss:List Sea) (v:Value) (w:World):Prop:=∃ A c A' c',v = .agg #[.slice A cs.length c, .slice A' ss.length c']/\RdF Cel.enc 162 2 w B A c cs/\RdF Sea.enc 111 3 w B A' c' ss
theorem ImgV.mono (B:Nat) (cs:List Cel) (ss:List Sea):Mono (ImgV B cs ss):=fun v w w' ⟨A,c,A',c',h,h1,h2⟩ hx=>⟨A,c,A',c',h,h1.keep hx,h2.keep hx⟩
theorem ImgV.less {B B':Nat} {cs:List Cel} {ss:List Sea} {v:Value} {w:World} (h:ImgV B cs ss v w) (hB:B'<=B):ImgV B' cs ss v w:=by
 obtain ⟨A,c,A',c',h,h1,h2⟩:=h;exact ⟨A,c,A',c',h,h1.less hB,h2.less hB⟩
theorem zck (cA:Option Addr) (cc:Nat) (cs:List Cel) (sA:Option Addr) (sc:Nat) (ss:List Sea) (w:World) (hc:Rd Cel.enc 2 w cA cc cs) (hs:Rd Sea.enc 3 w sA sc ss) (hn:cs.length<=1048576) (hm:ss.length<=1048576) :
  Calls Tryz.prog 116 #[.agg #[.slice cA cs.length cc, .slice sA ss.length sc]] w fun e w'=>∃ v,e = .returned v/\ImgV w.heap.size cs ss v w'/\Ext w w':=by
 have X0:Ext w ((w.alloc (.cells #[.slice cA cs.length cc, .slice sA ss.length sc] 27)).alloc (.cells #[.slice none 0 0, .slice none 0 0] 27)):=za9 (za1 _ _) _;have HC:=Hd (fun W (h:Ext ((w.alloc (.cells #[.slice cA cs.length cc, .slice sA ss.length sc] 27)).alloc (.cells #[.slice none 0 0, .slice none 0 0] 27)) W)=>hc.keep (Ext.trans X0 h))
 have HS:=Hd (fun W (h:Ext ((w.alloc (.cells #[.slice cA cs.length cc, .slice sA ss.length sc] 27)).alloc (.cells #[.slice none 0 0, .slice none 0 0] 27)) W)=>hs.keep (Ext.trans X0 h))
 obtain ⟨i1,hi1,hz01,hz11,hz21⟩:=info_parts Tryz.infoCel;obtain ⟨i2,hi2,hz02,hz12,hz22⟩:=info_parts Tryz.infoSea;clear hc hs
 go_enter Tryz.func116,Tryz.ntmps116
 go_wp2
 (refine mrx (fun d=>if d=some 6 then SlV Cel.enc 162 2 (w.heap.size+1+1) cs else if d=some 10 then SlV Sea.enc 111 3 (w.heap.size+1+1) ss else fun _ _=>True) 8 (fun hg=>?_);simp only [Tc,Tz,Dc,Dz])
 (repeat (first | (refine mqu ?_;go_big_quiet_step (fail);refine mnil ?_) | (refine msk ?_;simp only [Act.put,Sa,Sz,Ss])))
 (refine Rm.wpMix_laid (.cells #[] 162) rfl (fun W=>by kernel_rfl) ?_;intro p1 hp1 hps1 hpi1;simp only [zen,Act.put,Sa,Sz,Ss])
 (repeat (first | (refine mqu ?_;go_big_quiet_step (fail);refine mnil ?_) | (refine msk ?_;simp only [Act.put,Sa,Sz,Ss])))
 refine wpMix_app0 (enc:=Cel.enc) _ _ 24 rfl rfl 162 i1 (.agg #[.int .i64 0, .int .i64 0]) 2 16 Tryz.underlying24 hi1 hz01 hz11 hz21 rfl (by decide) Cel.len p1 rfl cA cs.length cc cs rfl rfl (fun W hW=>HC.out W hW) (by simp [zag]) (by unfold maxLen;omega) (by omega) (fun A1 c1=>?_)
 simp only [Act.put,Sa,Sz,Ss]
 (repeat (first | (refine mqu ?_;go_big_quiet_step (fail);refine mnil ?_) | (refine msk ?_;simp only [Act.put,Sa,Sz,Ss])))
 (refine Rm.wpMix_laid (.cells #[] 111) rfl (fun W=>by kernel_rfl) ?_;intro p2 hp2 hps2 hpi2;simp only [zen,Act.put,Sa,Sz,Ss])
 (repeat (first | (refine mqu ?_;go_big_quiet_step (fail);refine mnil ?_) | (refine msk ?_;simp only [Act.put,Sa,Sz,Ss])))
 refine wpMix_app0 (enc:=Sea.enc) _ _ 25 rfl rfl 111 i2 (.agg #[.int .i64 0, .int .i64 0, .int .i64 0]) 3 24 Tryz.underlying25 hi2 hz02 hz12 hz22 rfl (by decide) Sea.len p2 rfl sA ss.length sc ss rfl rfl (fun W hW=>HS.out W hW) (by simp [zag]) (by unfold maxLen;omega) (by omega) (fun A2 c2=>?_)
 simp only [Act.put,Sa,Sz,Ss];refine Rm.wpMix_nil ?_;rintro w2 ⟨⟨⟨⟨hw2,_⟩,o1⟩,_⟩,o2⟩;have B2:=hw2.box (hNew (w:=w.alloc (.cells #[.slice cA cs.length cc, .slice sA ss.length sc] 27)) (o := .cells #[.slice none 0 0, .slice none 0 0] 27) rfl);rw [zag] at B2;have HB:=Hd B2;have o1':=o1.rdF;have o2':=o2.rdF;simp only [zag] at o1' o2';have O1:=Hd o1';have O2:=Hd o2';clear o1' o2';clear B2 o1 o2;go_wp2_with (with_reducible refine za8 27 ?_)
 refine za3 (w.heap.size+1) #[.slice A1 cs.length c1, .slice A2 ss.length c2] rfl rfl HB.out (by kernel_rfl) rfl (by simp [Value.oneCell']) ?_
 intro W4 E4 C4;have hX4:=Hd (zac (Ext.trans X0 hw2) C4 (by omega))
 have P1:=Hd ((O1.out.chg Cel.len C4 (zeq O1.out (fun k hk=>by simp only [Mi] at hk;omega))).less (show w.heap.size<=w.heap.size+1+1 by omega))
 have P2:=Hd ((O2.out.chg Sea.len C4 (zeq O2.out (fun k hk=>by simp only [Mi] at hk;omega))).less (show w.heap.size<=w.heap.size+1+1 by omega))
 go_wp2
 exact bodyPost_ret (zbm Tryz.results116 rfl Tryz.underlying27 (by kernel_rfl) E4) rfl ⟨_,rfl,⟨A1,c1,A2,c2,rfl,P1.out,P2.out⟩,hX4.out⟩
structure LgF (w:World) (B:Nat) (a:LAd) (l:Lg):Prop where
 c:RdF Cel.enc 162 2 w B a.cA a.cc l.cells
 s:RdF Sea.enc 111 3 w B a.sA a.sc l.seats
 e:RdF Ent.enc 104 5 w B a.eA a.ec l.ents
theorem LgF.rd {w:World} {B:Nat} {a:LAd} {l:Lg} (h:LgF w B a l):LgR w a l:=⟨h.c.1,h.s.1,h.e.1⟩
theorem LgF.keep {w w':World} {B:Nat} {a:LAd} {l:Lg} (h:LgF w B a l) (hx:Ext w w'):LgF w' B a l:=⟨h.c.keep hx,h.s.keep hx,h.e.keep hx⟩
theorem LgF.chg {w w':World} {B:Nat} {a:LAd} {l:Lg} {S:List Nat} (h:LgF w B a l) (hg:Chg w w' S) (hS:∀ k∈S,k < B):LgF w' B a l:=⟨h.c.chg Cel.len hg (zeq h.c hS),h.s.chg Sea.len hg (zeq h.s hS),h.e.chg Ent.len hg (zeq h.e hS)⟩
theorem LgF.less {w:World} {B B':Nat} {a:LAd} {l:Lg} (h:LgF w B a l) (hB:B'<=B):LgF w B' a l:=⟨h.c.less hB,h.s.less hB,h.e.less hB⟩
theorem zbt (a:LAd) (l:Lg) (hs:l.small) (w:World) (hr:LgR w a l) :
  Calls Tryz.prog 71 #[Lg.val a l] w fun e w'=>∃ a',e = .returned (Lg.val a' l)/\LgF w' w.heap.size a' l/\Ext w w':=by
 have X0:Ext w ((w.alloc (Lg.obj a l)).alloc (.cells #[.int .i64 0, .slice none 0 0, .slice none 0 0, .slice none 0 0] 30)):=za9 (za1 _ _) _;have HC:=Hd (fun W (h:Ext ((w.alloc (Lg.obj a l)).alloc (.cells #[.int .i64 0, .slice none 0 0, .slice none 0 0, .slice none 0 0] 30)) W)=>zck a.cA a.cc l.cells a.sA a.sc l.seats W (hr.1.keep (Ext.trans X0 h)) (hr.2.1.keep (Ext.trans X0 h)) hs.1 hs.2.1)
 have HE:=Hd (fun W (h:Ext ((w.alloc (Lg.obj a l)).alloc (.cells #[.int .i64 0, .slice none 0 0, .slice none 0 0, .slice none 0 0] 30)) W)=>hr.2.2.keep (Ext.trans X0 h))
 obtain ⟨i0,hi,hz0,hz1,hz2⟩:=info_parts Tryz.infoEnt;have hse:=hs.2.2;clear hr hs
 go_enter Tryz.func71,Tryz.ntmps71
 go_wp2
 (refine mrx (fun d=>if d=some 11 then SlV Ent.enc 104 5 (w.heap.size+1+1) l.ents else fun _ _=>True) 9 (fun hg=>?_);simp only [Tc,Tz,Dc,Dz])
 (repeat (first | (refine mqu ?_;go_big_quiet_step (fail);refine mnil ?_) | (refine msk ?_;simp only [Act.put,Sa,Sz,Ss])))
 refine mcl Tryz.func116 (ImgV (w.heap.size+1+1) l.cells l.seats) (ImgV.mono _ _ _) (fun W hW=>(HC.out W hW).mono fun e w' ⟨v,he,h1,hx⟩=>⟨v,he,h1.less (by have:=hW.size;simp at this;omega),hx⟩) (fun v1 hv1=>?_)
 obtain ⟨W1,_,A1,c1,A2,c2,rfl,_⟩:=hv1;simp only [Act.put,Sa,Sz,Ss]
 (repeat (first | (refine mqu ?_;go_big_quiet_step (fail);refine mnil ?_) | (refine msk ?_;simp only [Act.put,Sa,Sz,Ss])))
 (refine Rm.wpMix_laid (.cells #[] 104) rfl (fun W=>by kernel_rfl) ?_;intro p1 hp1 hps1 hpi1;simp only [zen,Act.put,Sa,Sz,Ss])
 (repeat (first | (refine mqu ?_;go_big_quiet_step (fail);refine mnil ?_) | (refine msk ?_;simp only [Act.put,Sa,Sz,Ss])))
 refine wpMix_app0 (enc:=Ent.enc) _ _ 28 rfl rfl 104 i0 (.agg #[.int .i64 0, .int .i64 0, .int .i64 0, .int .i64 0, .int .i64 0]) 5 40 Tryz.underlying28 hi hz0 hz1 hz2 rfl (by decide) Ent.len p1 rfl a.eA l.ents.length a.ec l.ents rfl rfl (fun W hW=>HE.out W hW) (by simp [zag]) (by unfold maxLen;omega) (by omega) (fun A3 c3=>?_)
 simp only [Act.put,Sa,Sz,Ss];refine Rm.wpMix_nil ?_;rintro w2 ⟨⟨⟨hw2,A1',c1',A2',c2',heq,o1,o2⟩,_⟩,o3⟩;simp only [Value.agg.injEq] at heq;simp at heq;obtain ⟨⟨rfl,rfl⟩,rfl,rfl⟩:=heq;have B2:=hw2.box (hNew (w:=w.alloc (Lg.obj a l)) (o := .cells #[.int .i64 0, .slice none 0 0, .slice none 0 0, .slice none 0 0] 30) rfl);rw [zag] at B2;have o3':=o3.rdF;simp only [zag] at o3';have HF:=Hd (show LgF w2 (w.heap.size+1+1) ⟨A1,c1,A2,c2,A3,c3⟩ l from ⟨o1,o2,o3'⟩)
 have HB:=Hd B2;clear B2 o1 o2 o3 o3';go_wp2_with (with_reducible refine za8 30 ?_)
 refine za3 (w.heap.size+1) #[.int .i64 l.base, .slice A1 l.cells.length c1, .slice A2 l.seats.length c2, .slice A3 l.ents.length c3] rfl rfl HB.out (by kernel_rfl) rfl (by simp [Value.oneCell']) ?_
 intro W4 E4 C4;have hX4:=Hd (zac (Ext.trans X0 hw2) C4 (by omega))
 have P4:=Hd ((HF.out.chg C4 (fun k hk=>by simp only [Mi] at hk;omega)).less (by omega:w.heap.size<=_))
 go_wp2
 exact bodyPost_ret (zbm Tryz.results71 rfl Tryz.underlying30 (by kernel_rfl) E4) rfl ⟨⟨A1,c1,A2,c2,A3,c3⟩,rfl,P4.out,hX4.out⟩
end Go.Proofs.YtckfjploafhenaaGreat
