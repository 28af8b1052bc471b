/- append of a row that is read to an empty row, inside a region that draws its order. No program in sight. -/
import Derived.Test.YtikelfmmldafpaaGreatPk8
import Derived.Test.YtikelfmmldafpaaGreatPk5
import Derived.Test.YtikelfmmldafpaaGreatPk4
namespace Go.Proofs.YtikelfmmldafpaaGreat
open Go.ChangeShapes Go.WideShapes Go.ChangeAt Go.RowKit Go.Sort
set_option linter.unusedVariables false
set_option linter.unusedSimpArgs false
def SlV {α:Type} (enc:α→List Value) (e:TypeId) (sz B:Nat) (l:List α) (v:Value) (w:World):Prop:=∃ A c,v = .slice A l.length c∧Rd enc sz w A c l∧(0 < c→Ow enc e sz w B (.slice A l.length c) l)
theorem SlV.mono {α:Type} (enc:α→List Value) (e:TypeId) (sz B:Nat) (l:List α):Mono (SlV enc e sz B l):=fun v w w' ⟨A,c,h,hr,hb⟩ hx=>⟨A,c,h,hr.keep hx,fun hl=>(hb hl).kept hx⟩
def RdF {α:Type} (enc:α→List Value) (e:TypeId) (sz:Nat) (w:World) (B:Nat) (A:Option Addr) (c:Nat) (l:List α):Prop:=Rd enc sz w A c l∧(0 < c→Ow enc e sz w B (.slice A l.length c) l)
theorem SlV.rdF {α:Type} {enc:α→List Value} {e:TypeId} {sz B:Nat} {l:List α} {A:Option Addr} {n c:Nat} {w:World} (h:SlV enc e sz B l (.slice A n c) w):RdF enc e sz w B A c l:=by
 obtain ⟨A',c',he,hr,hb⟩:=h
 simp only [Value.slice.injEq] at he
 obtain ⟨rfl,_,rfl⟩:=he
 exact ⟨hr,hb⟩
theorem RdF.keep {α:Type} {enc:α→List Value} {e:TypeId} {sz:Nat} {w w':World} {B:Nat} {A:Option Addr} {c:Nat} {l:List α} (h:RdF enc e sz w B A c l) (hx:Ext w w'):RdF enc e sz w' B A c l:=⟨h.1.keep hx,fun hl=>(h.2 hl).kept hx⟩
theorem RdF.chg {α:Type} {enc:α→List Value} {e:TypeId} {sz:Nat} {w w':World} {B:Nat} {A:Option Addr} {c:Nat} {l:List α} {S:List Nat} (hsz:∀ x,(enc x).length=sz) (h:RdF enc e sz w B A c l) (hg:Chg w w' S) (hS:0 < c→∀ k∈blk A,k∉S):RdF enc e sz w' B A c l:=by
 by_cases hl:0 < c
 ·have h1:=(h.2 hl).chg hg (hS hl)
  exact ⟨(h1.rd hsz).2,fun _=>h1⟩
 ·exact ⟨⟨h.1.1,h.1.2.1,fun h9=>absurd (Nat.lt_of_lt_of_le h9 h.1.1) hl⟩,fun h=>absurd h hl⟩
theorem RdF.less {α:Type} {enc:α→List Value} {e:TypeId} {sz:Nat} {w:World} {B B':Nat} {A:Option Addr} {c:Nat} {l:List α} (h:RdF enc e sz w B A c l) (hB:B'≤B):RdF enc e sz w B' A c l:=⟨h.1,fun hl=>(h.2 hl).less hB⟩
theorem RdF.nil {α:Type} (enc:α→List Value) (e:TypeId) (sz:Nat) (w:World) (B:Nat):RdF enc e sz w B none 0 ([]:List α):=⟨⟨Nat.le_refl _,by unfold maxLen;omega,fun h=>absurd h (by simp)⟩,fun h=>absurd h (by simp)⟩
theorem Ow.rdF {α:Type} {enc:α→List Value} {e:TypeId} {sz:Nat} {w:World} {B:Nat} {A:Option Addr} {c:Nat} {l:List α} (hsz:∀ x,(enc x).length=sz) (h:Ow enc e sz w B (.slice A l.length c) l):RdF enc e sz w B A c l:=⟨(h.rd hsz).2,fun _=>h⟩
theorem run_app0 {P:Program} {α:Type} {enc:α→List Value} {w:World} (p:Nat) (t ty e:TypeId) (i:TypeInfo) (z:Value) (size bytes:Nat) (ht:P.underlying t=some (.slice e)) (hi:P.info? e=some i) (hz:i.zero=some z)
  (hsize:i.size=size) (hby:i.bytes=bytes) (hzs:z.cells.size=size) (hsz:0 < size) (hlen:∀ x,(enc x).length=size) {A:Option Addr} {c:Nat} {l:List α} (hr:Rd enc size w A c l)
  (h63:l.length≤maxLen) (hbytes:l.length * bytes≤140737488355328) (b0:Nat) (hb0:b0≤w.heap.size) :
  ∃ v' w',(Builtin.append_ #[t,t] ty #[.slice (some ⟨p,0,none⟩) 0 0, .slice A l.length c]).run P w = .ok v' w'∧SlV enc e size b0 l v' w'∧Ext w w':=by
 subst hsize
 subst hby
 have hsmall:l.length≤9223372036854775807:=by simp only [maxLen] at h63;omega
 by_cases h0:l.length=0
 ·obtain rfl:l=[]:=List.eq_nil_of_length_eq_zero h0
  refine ⟨.slice (some ⟨p,0,none⟩) 0 0,w, ?_,⟨some ⟨p,0,none⟩,0,rfl,⟨Nat.le_refl _,by unfold maxLen;omega,fun h=>absurd h (by simp)⟩,fun h=>absurd h (by simp)⟩,ext_refl _⟩
  cases A <;> simp [Builtin.append_,run_underlying ht,sizeOf,typeInfo,hi,Builtin.lenOf,Builtin.firstCells,loadCells,loadCellsFrom,storeCells]
 ·obtain ⟨ad,rfl⟩:=hr.base (by omega)
  have hf:=flat_length hlen l
  have hrun:=run_append_grow (P:=P) (w:=w) t ty e i z ht hi hz ⟨p,0,none⟩ 0 0 [] (by simp) (by simp) ad l.length c (l.flatMap enc) hf (hr.flat hsz hlen) (by omega) (by omega) (growslice_fits (by omega) (by simpa using hbytes))
  have hge:=grownCap_ge w (0+l.length) 0 e
  have hcm:grownCap w (0+l.length) 0 e≤maxLen:=grownCap_le_maxLen w (0+l.length) 0 e (by simpa using h63)
  generalize grownCap w (0+l.length) 0 e=G at hrun hge hcm
  have hown:Ow enc e i.size (w.drew.alloc (.cells (([]:List Value).toArray++(l.flatMap enc).toArray++Builtin.zeroCells z.cells (G - (0+l.length))) e)) b0 (.slice (some ⟨w.heap.size,0,none⟩) l.length G) l:=by
   refine ⟨hf, .inr ⟨w.heap.size,_,_,rfl,hb0,heap_alloc_new w.drew _,by omega,hcm, ?_, ?_⟩⟩
   ·simp only [Array.size_append,List.size_toArray,List.length_nil,size_zeroCells,hzs,hf,Nat.zero_add]
    rw [←Nat.add_mul]
    congr 1
    omega
   ·simp only [Array.toList_append,List.append_assoc,List.nil_append]
    rw [←hf]
    exact List.take_left
  refine ⟨_,_,hrun,⟨some ⟨w.heap.size,0,none⟩,G,by simp,(hown.rd hlen).2,fun _=>hown⟩,(ext_drew (ext_refl w)).trans (ext_alloc _ _)⟩
open Ap in
theorem wpMix_app0 {P:Program} {ops:Array Oper} {w:World} {B:Bnd} {L:(World→Prop)→Act→Prop} {o:Oper} {rest:List Oper} {C:World→Prop} {ps:List Nat} {a:Act} {α:Type} {enc:α→List Value} (s x:Operand) (t:TypeId)
  (ho:o.op = .call { callee := .builtin .append,args:=#[s,x],argTypes:=#[t,t] }) (hgd:o.guard=none) (e:TypeId) (i:TypeInfo) (z:Value) (size bytes:Nat) (ht:P.underlying t=some (.slice e)) (hi:P.info? e=some i) (hz:i.zero=some z)
  (hsize:i.size=size) (hby:i.bytes=bytes) (hzs:z.cells.size=size) (hsz:0 < size) (hlen:∀ x,(enc x).length=size) (p:Nat) (hs:a.eval s = .slice (some ⟨p,0,none⟩) 0 0) (A:Option Addr) (n c:Nat) (l:List α) (hn:n=l.length) (hx:a.eval x = .slice A n c)
  (hr:∀ W,Ext w W→Rd enc size W A c l) (hΦ:B.2 o.dst=SlV enc e size w.heap.size l) (h63:l.length≤maxLen) (hbytes:l.length * bytes≤140737488355328)
  (h:∀ A' c',Ap.Mx P ops (Ext w) B L rest (fun W=>C W∧SlV enc e size w.heap.size l (.slice A' l.length c') W) ps (a.put o.dst (.slice A' l.length c'))):Ap.Mx P ops (Ext w) B L (o::rest) C ps a:=by
 subst hn
 refine Ap.wpMix_app (by unfold isAlloc;rw [ho]) (by unfold Ap.isApp;rw [ho]) (by simp [Region.wanted,hgd]) (by rw [hΦ];exact SlV.mono _ _ _ _ _) (fun W hW=>?_) (fun v hv=>?_)
 ·obtain ⟨v',w',h1,h2,h3⟩:=run_app0 (P:=P) (w:=W) p t o.type e i z size bytes ht hi hz hsize hby hzs hsz hlen (hr W hW) h63 hbytes w.heap.size hW.size
  refine ⟨v',w', ?_,by rw [hΦ];exact h2,h3⟩
  unfold execOp
  simp only [ho,resolve,invoke,builtin,Sem.run_bind,Sem.run_pure,Result.andThen_ok,List.map_toArray,List.map_cons,List.map_nil,hs,hx,h1]
 ·rw [hΦ] at hv ⊢
  obtain ⟨W,_,A',c',rfl,_⟩:=hv
  exact h A' c'
theorem low_out {α:Type} {enc:α→List Value} {e:TypeId} {sz:Nat} {w:World} {B:Nat} {A:Option Addr} {c:Nat} {l:List α} {S:List Nat} (h:RdF enc e sz w B A c l) (hS:∀ k∈S,k < B):0 < c→∀ k∈blk A,k∉S:=fun hl k hk hm=>by
 have h1:=((h.2 hl).inB k hk).1
 have h2:=hS k hm
 omega
def ImgV (B:Nat) (cs:List Cel) (ss:List Sea) (v:Value) (w:World):Prop:=∃ A c A' c',v = .agg #[.slice A cs.length c, .slice A' ss.length c']∧RdF Cel.enc 124 2 w B A c cs∧RdF Sea.enc 126 3 w B A' c' ss
theorem ImgV.mono (B:Nat) (cs:List Cel) (ss:List Sea):Mono (ImgV B cs ss):=fun v w w' ⟨A,c,A',c',h,h1,h2⟩ hx=>⟨A,c,A',c',h,h1.keep hx,h2.keep hx⟩
theorem ImgV.less {B B':Nat} {cs:List Cel} {ss:List Sea} {v:Value} {w:World} (h:ImgV B cs ss v w) (hB:B'≤B):ImgV B' cs ss v w:=by
 obtain ⟨A,c,A',c',h,h1,h2⟩:=h
 exact ⟨A,c,A',c',h,h1.less hB,h2.less hB⟩
set_option maxRecDepth 100000 in
set_option maxHeartbeats 4000000 in
theorem c_l2Copy (cA:Option Addr) (cc:Nat) (cs:List Cel) (sA:Option Addr) (sc:Nat) (ss:List Sea) (w:World) (hc:Rd Cel.enc 2 w cA cc cs) (hs:Rd Sea.enc 3 w sA sc ss) (hn:cs.length≤1048576) (hm:ss.length≤1048576) :
  Calls Tryz.prog 132 #[.agg #[.slice cA cs.length cc, .slice sA ss.length sc]] w fun e w'=>∃ v,e = .returned v∧ImgV w.heap.size cs ss v w'∧Ext w w':=by
 have X0:Ext w ((w.alloc (.cells #[.slice cA cs.length cc, .slice sA ss.length sc] 27)).alloc (.cells #[.slice none 0 0, .slice none 0 0] 27)):=ext_to (ext_alloc _ _) _
 have HC:=Hd (fun W (h:Ext ((w.alloc (.cells #[.slice cA cs.length cc, .slice sA ss.length sc] 27)).alloc (.cells #[.slice none 0 0, .slice none 0 0] 27)) W)=>hc.keep (Ext.trans X0 h))
 have HS:=Hd (fun W (h:Ext ((w.alloc (.cells #[.slice cA cs.length cc, .slice sA ss.length sc] 27)).alloc (.cells #[.slice none 0 0, .slice none 0 0] 27)) W)=>hs.keep (Ext.trans X0 h))
 obtain ⟨i1,hi1,hz01,hz11,hz21⟩:=info_parts Tryz.infoCel
 obtain ⟨i2,hi2,hz02,hz12,hz22⟩:=info_parts Tryz.infoSea
 clear hc hs
 go_enter Tryz.func132,Tryz.ntmps132
 go_wp2
 (refine Ap.wp_region_mix' (fun d=>if d=some 6 then SlV Cel.enc 124 2 (w.heap.size+1+1) cs else if d=some 10 then SlV Sea.enc 126 3 (w.heap.size+1+1) ss else fun _ _=>True) (fun _ _ _ _ _ hq=>hq) 8 (by kernel_rfl) (by kernel_rfl) (fun hg=>?_);simp only [Tc,Tz,Dc,Dz])
 (repeat (first | (refine Ap.wpMix_plain rfl rfl ?_;go_big_quiet_step (fail);refine wpQuiet_nil ?_) | (refine Ap.wpMix_skip rfl rfl ?_;simp only [Act.put,Sa,Sz,Ss])))
 (refine Ap.wpMix_alloc (.cells #[] 124) rfl (fun W=>by kernel_rfl) ?_;intro p1 hp1 hps1 hpi1;simp only [layVal,Act.put,Sa,Sz,Ss])
 (repeat (first | (refine Ap.wpMix_plain rfl rfl ?_;go_big_quiet_step (fail);refine wpQuiet_nil ?_) | (refine Ap.wpMix_skip rfl rfl ?_;simp only [Act.put,Sa,Sz,Ss])))
 refine wpMix_app0 (enc:=Cel.enc) _ _ 24 rfl rfl 124 i1 (.agg #[.int .i64 0, .int .i64 0]) 2 16 Tryz.underlying24 hi1 hz01 hz11 hz21 rfl (by decide) Cel.len p1 rfl cA cs.length cc cs rfl rfl (fun W hW=>HC.out W hW) (by simp [sz_alloc]) (by unfold maxLen;omega) (by omega) (fun A1 c1=>?_)
 simp only [Act.put,Sa,Sz,Ss]
 (repeat (first | (refine Ap.wpMix_plain rfl rfl ?_;go_big_quiet_step (fail);refine wpQuiet_nil ?_) | (refine Ap.wpMix_skip rfl rfl ?_;simp only [Act.put,Sa,Sz,Ss])))
 (refine Ap.wpMix_alloc (.cells #[] 126) rfl (fun W=>by kernel_rfl) ?_;intro p2 hp2 hps2 hpi2;simp only [layVal,Act.put,Sa,Sz,Ss])
 (repeat (first | (refine Ap.wpMix_plain rfl rfl ?_;go_big_quiet_step (fail);refine wpQuiet_nil ?_) | (refine Ap.wpMix_skip rfl rfl ?_;simp only [Act.put,Sa,Sz,Ss])))
 refine wpMix_app0 (enc:=Sea.enc) _ _ 25 rfl rfl 126 i2 (.agg #[.int .i64 0, .int .i64 0, .int .i64 0]) 3 24 Tryz.underlying25 hi2 hz02 hz12 hz22 rfl (by decide) Sea.len p2 rfl sA ss.length sc ss rfl rfl (fun W hW=>HS.out W hW) (by simp [sz_alloc]) (by unfold maxLen;omega) (by omega) (fun A2 c2=>?_)
 simp only [Act.put,Sa,Sz,Ss]
 refine Ap.wpMix_nil ?_
 rintro w2 ⟨⟨⟨⟨hw2,_⟩,o1⟩,_⟩,o2⟩
 have B2:=hw2.box (hNew (w:=w.alloc (.cells #[.slice cA cs.length cc, .slice sA ss.length sc] 27)) (o := .cells #[.slice none 0 0, .slice none 0 0] 27) rfl)
 rw [sz_alloc] at B2
 have HB:=Hd B2
 have o1':=o1.rdF
 have o2':=o2.rdF
 simp only [sz_alloc] at o1' o2'
 have O1:=Hd o1'
 have O2:=Hd o2'
 clear o1' o2'
 clear B2 o1 o2
 go_wp2_with (with_reducible refine wl_stopS 27 ?_)
 refine stop_store (w.heap.size+1) #[.slice A1 cs.length c1, .slice A2 ss.length c2] rfl rfl HB.out (by kernel_rfl) rfl (by simp [Value.oneCell']) ?_
 intro W4 E4 C4
 have hX4:=Hd (chg_new (Ext.trans X0 hw2) C4 (by omega))
 have P1:=Hd ((O1.out.chg Cel.len C4 (low_out O1.out (fun k hk=>by simp only [Mi] at hk;omega))).less (show w.heap.size≤w.heap.size+1+1 by omega))
 have P2:=Hd ((O2.out.chg Sea.len C4 (low_out O2.out (fun k hk=>by simp only [Mi] at hk;omega))).less (show w.heap.size≤w.heap.size+1+1 by omega))
 go_wp2
 exact bodyPost_ret (results_box Tryz.results132 rfl Tryz.underlying27 (by kernel_rfl) E4) rfl ⟨_,rfl,⟨A1,c1,A2,c2,rfl,P1.out,P2.out⟩,hX4.out⟩
structure LgF (w:World) (B:Nat) (a:LAd) (l:Lg):Prop where
 c:RdF Cel.enc 124 2 w B a.cA a.cc l.cells
 s:RdF Sea.enc 126 3 w B a.sA a.sc l.seats
 e:RdF Ent.enc 65 5 w B a.eA a.ec l.ents
theorem LgF.rd {w:World} {B:Nat} {a:LAd} {l:Lg} (h:LgF w B a l):LgR w a l:=⟨h.c.1,h.s.1,h.e.1⟩
theorem LgF.keep {w w':World} {B:Nat} {a:LAd} {l:Lg} (h:LgF w B a l) (hx:Ext w w'):LgF w' B a l:=⟨h.c.keep hx,h.s.keep hx,h.e.keep hx⟩
theorem LgF.chg {w w':World} {B:Nat} {a:LAd} {l:Lg} {S:List Nat} (h:LgF w B a l) (hg:Chg w w' S) (hS:∀ k∈S,k < B):LgF w' B a l:=⟨h.c.chg Cel.len hg (low_out h.c hS),h.s.chg Sea.len hg (low_out h.s hS),h.e.chg Ent.len hg (low_out h.e hS)⟩
theorem LgF.less {w:World} {B B':Nat} {a:LAd} {l:Lg} (h:LgF w B a l) (hB:B'≤B):LgF w B' a l:=⟨h.c.less hB,h.s.less hB,h.e.less hB⟩
set_option maxRecDepth 100000 in
set_option maxHeartbeats 4000000 in
theorem c_l3Copy (a:LAd) (l:Lg) (hs:l.small) (w:World) (hr:LgR w a l) :
  Calls Tryz.prog 86 #[Lg.val a l] w fun e w'=>∃ a',e = .returned (Lg.val a' l)∧LgF w' w.heap.size a' l∧Ext w w':=by
 have X0:Ext w ((w.alloc (Lg.obj a l)).alloc (.cells #[.int .i64 0, .slice none 0 0, .slice none 0 0, .slice none 0 0] 30)):=ext_to (ext_alloc _ _) _
 have HC:=Hd (fun W (h:Ext ((w.alloc (Lg.obj a l)).alloc (.cells #[.int .i64 0, .slice none 0 0, .slice none 0 0, .slice none 0 0] 30)) W)=>c_l2Copy a.cA a.cc l.cells a.sA a.sc l.seats W (hr.1.keep (Ext.trans X0 h)) (hr.2.1.keep (Ext.trans X0 h)) hs.1 hs.2.1)
 have HE:=Hd (fun W (h:Ext ((w.alloc (Lg.obj a l)).alloc (.cells #[.int .i64 0, .slice none 0 0, .slice none 0 0, .slice none 0 0] 30)) W)=>hr.2.2.keep (Ext.trans X0 h))
 obtain ⟨i0,hi,hz0,hz1,hz2⟩:=info_parts Tryz.infoEnt
 have hse:=hs.2.2
 clear hr hs
 go_enter Tryz.func86,Tryz.ntmps86
 go_wp2
 (refine Ap.wp_region_mix' (fun d=>if d=some 11 then SlV Ent.enc 65 5 (w.heap.size+1+1) l.ents else fun _ _=>True) (fun _ _ _ _ _ hq=>hq) 9 (by kernel_rfl) (by kernel_rfl) (fun hg=>?_);simp only [Tc,Tz,Dc,Dz])
 (repeat (first | (refine Ap.wpMix_plain rfl rfl ?_;go_big_quiet_step (fail);refine wpQuiet_nil ?_) | (refine Ap.wpMix_skip rfl rfl ?_;simp only [Act.put,Sa,Sz,Ss])))
 refine Ap.wpMix_call (ImgV (w.heap.size+1+1) l.cells l.seats) rfl rfl rfl (enters Tryz.func132 (by kernel_rfl) rfl) (ImgV.mono _ _ _) (fun W hW=>(HC.out W hW).mono fun e w' ⟨v,he,h1,hx⟩=>⟨v,he,h1.less (by have:=hW.size;simp at this;omega),hx⟩) rfl (fun v1 hv1=>?_)
 obtain ⟨W1,_,A1,c1,A2,c2,rfl,_⟩:=hv1
 simp only [Act.put,Sa,Sz,Ss]
 (repeat (first | (refine Ap.wpMix_plain rfl rfl ?_;go_big_quiet_step (fail);refine wpQuiet_nil ?_) | (refine Ap.wpMix_skip rfl rfl ?_;simp only [Act.put,Sa,Sz,Ss])))
 (refine Ap.wpMix_alloc (.cells #[] 65) rfl (fun W=>by kernel_rfl) ?_;intro p1 hp1 hps1 hpi1;simp only [layVal,Act.put,Sa,Sz,Ss])
 (repeat (first | (refine Ap.wpMix_plain rfl rfl ?_;go_big_quiet_step (fail);refine wpQuiet_nil ?_) | (refine Ap.wpMix_skip rfl rfl ?_;simp only [Act.put,Sa,Sz,Ss])))
 refine wpMix_app0 (enc:=Ent.enc) _ _ 28 rfl rfl 65 i0 (.agg #[.int .i64 0, .int .i64 0, .int .i64 0, .int .i64 0, .int .i64 0]) 5 40 Tryz.underlying28 hi hz0 hz1 hz2 rfl (by decide) Ent.len p1 rfl a.eA l.ents.length a.ec l.ents rfl rfl (fun W hW=>HE.out W hW) (by simp [sz_alloc]) (by unfold maxLen;omega) (by omega) (fun A3 c3=>?_)
 simp only [Act.put,Sa,Sz,Ss]
 refine Ap.wpMix_nil ?_
 rintro w2 ⟨⟨⟨hw2,A1',c1',A2',c2',heq,o1,o2⟩,_⟩,o3⟩
 simp only [Value.agg.injEq] at heq
 simp at heq
 obtain ⟨⟨rfl,rfl⟩,rfl,rfl⟩:=heq
 have B2:=hw2.box (hNew (w:=w.alloc (Lg.obj a l)) (o := .cells #[.int .i64 0, .slice none 0 0, .slice none 0 0, .slice none 0 0] 30) rfl)
 rw [sz_alloc] at B2
 have o3':=o3.rdF
 simp only [sz_alloc] at o3'
 have HF:=Hd (show LgF w2 (w.heap.size+1+1) ⟨A1,c1,A2,c2,A3,c3⟩ l from ⟨o1,o2,o3'⟩)
 have HB:=Hd B2
 clear B2 o1 o2 o3 o3'
 go_wp2_with (with_reducible refine wl_stopS 30 ?_)
 refine stop_store (w.heap.size+1) #[.int .i64 l.base, .slice A1 l.cells.length c1, .slice A2 l.seats.length c2, .slice A3 l.ents.length c3] rfl rfl HB.out (by kernel_rfl) rfl (by simp [Value.oneCell']) ?_
 intro W4 E4 C4
 have hX4:=Hd (chg_new (Ext.trans X0 hw2) C4 (by omega))
 have P4:=Hd ((HF.out.chg C4 (fun k hk=>by simp only [Mi] at hk;omega)).less (by omega:w.heap.size≤_))
 go_wp2
 exact bodyPost_ret (results_box Tryz.results86 rfl Tryz.underlying30 (by kernel_rfl) E4) rfl ⟨⟨A1,c1,A2,c2,A3,c3⟩,rfl,P4.out,hX4.out⟩
def hasNum (l:Lg) (n:Int):Bool:=logOk l && inB n l.base l.fin
theorem hasNum_ok {l:Lg} {n:Int} (h:hasNum l n=true):logOk l=true∧l.base≤n∧n≤l.fin:=by
 unfold hasNum at h
 rw [Bool.and_eq_true,inB_yes] at h
 exact h
set_option maxRecDepth 100000 in
set_option maxHeartbeats 2000000 in
theorem c_l6Log (a:LAd) (l:Lg) (n:Int) (hs:l.small) (w:World) (hr:LgR w a l) :
  Calls Tryz.prog 23 #[Lg.val a l, .int .i64 n] w fun e w'=>e = .returned (.bool (hasNum l n))∧Ext w w':=by
 have X0:=ext_alloc w (Lg.obj a l)
 have hK:=fun W (h:Ext (w.alloc (Lg.obj a l)) W)=>c_sLogOk a l hs.1 hs.2.1 hs.2.2 W (hr.keep (Ext.trans X0 h))
 cases q:logOk l
 ·rw [q] at hK
  have HK:=Hd hK
  have HV:=Hd (show false=hasNum l n by simp only [hasNum,q];rfl)
  clear hK q hr hs
  go_enter Tryz.func23,Tryz.ntmps23
  go_wp2
  (refine wp_region_mix' (fun _ _ _ _ _ hq=>hq) 11 (by kernel_rfl) (by kernel_rfl) (fun hg=>?_);simp only [headOps,Tc,Tz,List.filter_cons,List.filter_nil,isAlloc,Bool.not_false,Bf,if_true,if_false,List.append_nil,Dc,Dz])
  (repeat (first | (refine wpMix_plain rfl rfl ?_;go_big_quiet_step (fail);refine wpQuiet_nil ?_) | (refine wpMix_skip rfl rfl ?_;simp only [Act.put,Sa,Sz,Ss]) | (refine wpMix_det rfl rfl rfl (enters Tryz.func26 (by kernel_rfl) rfl) (fun W hW=>HK.out W hW) rfl ?_;simp only [Act.put,Sa,Sz,Ss])))
  (refine wpMix_nil ?_;intro w2 hw2)
  go_wp2
  go_ret
  exact ⟨ret_bool HV.out,Ext.trans X0 hw2⟩
 ·have hE:=fun W (h:Ext (w.alloc (Lg.obj a l)) W)=>c_sLogEnd a l hs.1 hs.2.1 hs.2.2 W (hr.keep (Ext.trans X0 h)) q
  rw [q] at hK
  have HK:=Hd hK
  have HE:=Hd hE
  have HV:=Hd (show inB n l.base l.fin=hasNum l n by simp only [hasNum,q];rfl)
  clear hK hE q hr hs
  go_enter Tryz.func23,Tryz.ntmps23
  go_wp2
  (refine wp_region_mix' (fun _ _ _ _ _ hq=>hq) 11 (by kernel_rfl) (by kernel_rfl) (fun hg=>?_);simp only [headOps,Tc,Tz,List.filter_cons,List.filter_nil,isAlloc,Bool.not_false,Bf,if_true,if_false,List.append_nil,Dc,Dz])
  (repeat (first | (refine wpMix_plain rfl rfl ?_;go_big_quiet_step (fail);refine wpQuiet_nil ?_) | (refine wpMix_skip rfl rfl ?_;simp only [Act.put,Sa,Sz,Ss]) | (refine wpMix_det rfl rfl rfl (enters Tryz.func26 (by kernel_rfl) rfl) (fun W hW=>HK.out W hW) rfl ?_;simp only [Act.put,Sa,Sz,Ss]) | (refine wpMix_det rfl rfl rfl (enters Tryz.func9 (by kernel_rfl) rfl) (fun W hW=>HE.out W hW) rfl ?_;simp only [Act.put,Sa,Sz,Ss]) | (refine wpMix_det rfl rfl rfl (enters Tryz.func21 (by kernel_rfl) rfl) (fun W hW=>c_l1In n l.base l.fin W) rfl ?_;simp only [Act.put,Sa,Sz,Ss])))
  (refine wpMix_nil ?_;intro w2 hw2)
  go_wp2
  go_ret
  exact ⟨ret_bool HV.out,Ext.trans X0 hw2⟩
set_option maxRecDepth 100000 in
set_option maxHeartbeats 2000000 in
theorem c_hasNumber (a:LAd) (l:Lg) (n:Int) (hs:l.small) (w:World) (hr:LgR w a l) :
  Calls Tryz.prog 41 #[Lg.val a l, .int .i64 n] w fun e w'=>e = .returned (.bool (hasNum l n))∧Ext w w':=by
 have X0:=ext_alloc w (Lg.obj a l)
 have hK:=fun W (h:Ext (w.alloc (Lg.obj a l)) W)=>c_iLogOk a l hs.1 hs.2.1 hs.2.2 W (hr.keep (Ext.trans X0 h))
 cases q:logOk l
 ·rw [q] at hK
  have HK:=Hd hK
  have HV:=Hd (show false=hasNum l n by simp only [hasNum,q];rfl)
  clear hK q hr hs
  go_enter Tryz.func41,Tryz.ntmps41
  go_wp2
  (refine wp_region_mix' (fun _ _ _ _ _ hq=>hq) 11 (by kernel_rfl) (by kernel_rfl) (fun hg=>?_);simp only [headOps,Tc,Tz,List.filter_cons,List.filter_nil,isAlloc,Bool.not_false,Bf,if_true,if_false,List.append_nil,Dc,Dz])
  (repeat (first | (refine wpMix_plain rfl rfl ?_;go_big_quiet_step (fail);refine wpQuiet_nil ?_) | (refine wpMix_skip rfl rfl ?_;simp only [Act.put,Sa,Sz,Ss]) | (refine wpMix_det rfl rfl rfl (enters Tryz.func35 (by kernel_rfl) rfl) (fun W hW=>HK.out W hW) rfl ?_;simp only [Act.put,Sa,Sz,Ss])))
  (refine wpMix_nil ?_;intro w2 hw2)
  go_wp2
  go_ret
  exact ⟨ret_bool HV.out,Ext.trans X0 hw2⟩
 ·have hb:=logOk_b q
  have hE:=fun W=>c_end a l W (by omega) (by omega) (by omega)
  rw [q] at hK
  have HK:=Hd hK
  have HE:=Hd hE
  have HV:=Hd (show inB n l.base l.fin=hasNum l n by simp only [hasNum,q];rfl)
  clear hK hE q hr hs hb
  go_enter Tryz.func41,Tryz.ntmps41
  go_wp2
  (refine wp_region_mix' (fun _ _ _ _ _ hq=>hq) 11 (by kernel_rfl) (by kernel_rfl) (fun hg=>?_);simp only [headOps,Tc,Tz,List.filter_cons,List.filter_nil,isAlloc,Bool.not_false,Bf,if_true,if_false,List.append_nil,Dc,Dz])
  (repeat (first | (refine wpMix_plain rfl rfl ?_;go_big_quiet_step (fail);refine wpQuiet_nil ?_) | (refine wpMix_skip rfl rfl ?_;simp only [Act.put,Sa,Sz,Ss]) | (refine wpMix_det rfl rfl rfl (enters Tryz.func35 (by kernel_rfl) rfl) (fun W hW=>HK.out W hW) rfl ?_;simp only [Act.put,Sa,Sz,Ss]) | (refine wpMix_det rfl rfl rfl (enters Tryz.func30 (by kernel_rfl) rfl) (fun W hW=>HE.out W) rfl ?_;simp only [Act.put,Sa,Sz,Ss]) | (refine wpMix_det rfl rfl rfl (enters Tryz.func39 (by kernel_rfl) rfl) (fun W hW=>c_from n l.base l.fin W) rfl ?_;simp only [Act.put,Sa,Sz,Ss])))
  (refine wpMix_nil ?_;intro w2 hw2)
  go_wp2
  go_ret
  exact ⟨ret_bool HV.out,Ext.trans X0 hw2⟩
def vtKind (k:Int):Bool:=k == 3 || k == 5 || k == 6 || k == 9
def vtOk (of:Int) (v:Vt):Bool:=vtKind v.kind && inB v.frm 0 (of - 1) && inB v.view 0 1000000000 && inB v.normal 0 1000000000 && inB v.op 0 1000000000 && hasNum v.log v.commit
set_option maxHeartbeats 4000000 in
theorem c_l6VoteOk (a:LAd) (v:Vt) (of:Int) (h0:-1000000≤of) (h1:of≤1000000) (hs:v.log.small) (w:World) (hr:LgR w a v.log) :
  Calls Tryz.prog 24 #[VtE.val a v, .int .i64 of] w fun e w'=>e = .returned (.bool (vtOk of v))∧Ext w w':=by
 have HS:=Hd hs
 have HR:=Hd hr
 clear hs hr
 go_enter Tryz.func24,Tryz.ntmps24
 go_wp2_with (first | (go_at_call 21;refine (c_l1In _ _ _ _).mono ?_;rintro e w1 ⟨rfl,hx⟩;obtain ⟨hc1,hf1,hs1⟩:=hx.rules;(try simp at hs1);have z0:w.heap.size < w1.heap.size:=(by omega)) | (go_at_call 22;refine (c_l1Whole _ _).mono ?_;rintro e w1 ⟨rfl,hx⟩;obtain ⟨hc1,hf1,hs1⟩:=hx.rules;(try simp at hs1);have z0:w.heap.size < w1.heap.size:=(by omega)) | (go_at_call 23;refine (c_l6Log a v.log v.commit HS.out _ (HR.out.keep (by (repeat (first | with_reducible exact ext_refl _ | with_reducible refine ext_to ?_ _ | with_reducible refine ext_set ?_ (by first | (simp;done) | (simp;omega) | omega) _ | with_reducible refine ext_drew ?_ | with_reducible refine Ext.trans ?_ (by assumption)))))).mono ?_;rintro e w1 ⟨rfl,hx⟩;obtain ⟨hc1,hf1,hs1⟩:=hx.rules;(try simp at hs1)))
 all_goals
  go_ret
  refine ⟨ret_bool ?_, ?_⟩
  ·(first | (simp [vtOk,vtKind, *];done) | (simp_all [vtOk,vtKind];done))
  ·(repeat (first | with_reducible exact ext_refl _ | with_reducible refine ext_to ?_ _ | with_reducible refine ext_set ?_ (by first | (simp;done) | (simp;omega) | omega) _ | with_reducible refine ext_drew ?_ | with_reducible refine Ext.trans ?_ (by assumption)))
set_option maxHeartbeats 4000000 in
theorem c_voteOk (a:LAd) (v:Vt) (of:Int) (h0:-1000000≤of) (h1:of≤1000000) (hs:v.log.small) (w:World) (hr:LgR w a v.log) :
  Calls Tryz.prog 44 #[VtE.val a v, .int .i64 of] w fun e w'=>e = .returned (.bool (vtOk of v))∧Ext w w':=by
 have HS:=Hd hs
 have HR:=Hd hr
 clear hs hr
 go_enter Tryz.func44,Tryz.ntmps44
 go_wp2_with (first | (go_at_call 39;refine (c_from _ _ _ _).mono ?_;rintro e w1 ⟨rfl,hx⟩;obtain ⟨hc1,hf1,hs1⟩:=hx.rules;(try simp at hs1);have z0:w.heap.size < w1.heap.size:=(by omega)) | (go_at_call 40;refine (c_isWhole _ _).mono ?_;rintro e w1 ⟨rfl,hx⟩;obtain ⟨hc1,hf1,hs1⟩:=hx.rules;(try simp at hs1);have z0:w.heap.size < w1.heap.size:=(by omega)) | (go_at_call 41;refine (c_hasNumber a v.log v.commit HS.out _ (HR.out.keep (by (repeat (first | with_reducible exact ext_refl _ | with_reducible refine ext_to ?_ _ | with_reducible refine ext_set ?_ (by first | (simp;done) | (simp;omega) | omega) _ | with_reducible refine ext_drew ?_ | with_reducible refine Ext.trans ?_ (by assumption)))))).mono ?_;rintro e w1 ⟨rfl,hx⟩;obtain ⟨hc1,hf1,hs1⟩:=hx.rules;(try simp at hs1)))
 all_goals
  go_ret
  refine ⟨ret_bool ?_, ?_⟩
  ·(first | (simp [vtOk,vtKind, *];done) | (simp_all [vtOk,vtKind];done))
  ·(repeat (first | with_reducible exact ext_refl _ | with_reducible refine ext_to ?_ _ | with_reducible refine ext_set ?_ (by first | (simp;done) | (simp;omega) | omega) _ | with_reducible refine ext_drew ?_ | with_reducible refine Ext.trans ?_ (by assumption)))
def isZ (l:Lg):Bool:=(l.base == 0) && ((l.cells.length == 0) && (l.seats.length == 0)) && (l.ents.length == 0)
abbrev zimg:Value := .agg #[.slice none 0 0, .slice none 0 0]
abbrev zlog:Value := .agg #[.int .i64 0, .slice none 0 0, .slice none 0 0, .slice none 0 0]
set_option maxHeartbeats 2000000 in
theorem c_sSameImage0 (cA:Option Addr) (n cc:Nat) (sA:Option Addr) (m sc:Nat) (w:World) (hn:n≤1048576) (hm:m≤1048576) :
  Calls Tryz.prog 53 #[.agg #[.slice cA n cc, .slice sA m sc],zimg] w fun e w'=>e = .returned (.bool ((n == 0) && (m == 0)))∧Ext w w':=by
 have X0:Ext w ((w.alloc (.cells #[.slice cA n cc, .slice sA m sc] 27)).alloc (.cells #[.slice none 0 0, .slice none 0 0] 27)):=ext_to (ext_alloc _ _) _
 by_cases h1:n=0
 ·by_cases h2:m=0
  ·subst h1 h2
   go_enter Tryz.func53,Tryz.ntmps53
   go_wp2
   go_loopw [5] (fun i wr=>i = .int .i64 0∧Ext ((w.alloc (.cells #[.slice cA 0 cc, .slice sA 0 sc] 27)).alloc (.cells #[.slice none 0 0, .slice none 0 0] 27)) wr) (fun _ _=>0)
   case atStart=>exact ⟨rfl,ext_refl _⟩
   case round =>
    obtain ⟨rfl,hx⟩:=hrel
    have b1:=bx_cell (hx.box (hOld (o := .cells #[.slice none 0 0, .slice none 0 0] 27) (hNew (w:=w) (o := .cells #[.slice cA 0 cc, .slice sA 0 sc] 27) rfl)))
    go_wp2
    go_loopw [6] (fun i wr=>i = .int .i64 0∧Ext ((w.alloc (.cells #[.slice cA 0 cc, .slice sA 0 sc] 27)).alloc (.cells #[.slice none 0 0, .slice none 0 0] 27)) wr) (fun _ _=>0)
    case atStart=>exact ⟨rfl,hx⟩
    case round =>
     clear b1 hx
     obtain ⟨rfl,hx⟩:=hrel
     have b1:=bx_cell (hx.box (hOld (o := .cells #[.slice none 0 0, .slice none 0 0] 27) (hNew (w:=w) (o := .cells #[.slice cA 0 cc, .slice sA 0 sc] 27) rfl)))
     go_wp2
     go_ret
     exact ⟨rfl,Ext.trans X0 hx⟩
  ·subst h1
   have g2:((m:Int) != 0)=true:=by simp [bne];omega
   have hv:false=((0 == 0) && (m == 0)):=by simp [h2]
   have HV:=Hd hv
   clear h2 hv
   go_enter Tryz.func53,Tryz.ntmps53
   go_wp2
   go_ret
   exact ⟨ret_bool HV.out,X0⟩
 ·have g2:((n:Int) != 0)=true:=by simp [bne];omega
  have hv:false=((n == 0) && (m == 0)):=by simp [h1]
  have HV:=Hd hv
  clear h1 hv
  go_enter Tryz.func53,Tryz.ntmps53
  go_wp2
  go_ret
  exact ⟨ret_bool HV.out,X0⟩
set_option maxHeartbeats 2000000 in
theorem c_sSameLog0 (a:LAd) (l:Lg) (w:World) (hs1:l.cells.length≤1048576) (hs2:l.seats.length≤1048576) (hs3:l.ents.length≤1048576) :
  Calls Tryz.prog 25 #[Lg.val a l,zlog] w fun e w'=>e = .returned (.bool (isZ l))∧Ext w w':=by
 have X0:Ext w ((w.alloc (Lg.obj a l)).alloc (.cells #[.int .i64 0, .slice none 0 0, .slice none 0 0, .slice none 0 0] 30)):=ext_to (ext_alloc _ _) _
 by_cases h1:l.base=0
 ·by_cases h2:l.ents.length=0
  ·have hcon:=c_sSameImage0 a.cA l.cells.length a.cc a.sA l.seats.length a.sc ((w.alloc (Lg.obj a l)).alloc (.cells #[.int .i64 0, .slice none 0 0, .slice none 0 0, .slice none 0 0] 30)) hs1 hs2
   have g1:(l.base != 0)=false:=by simp [bne,h1]
   have g2:((l.ents.length:Int) != 0)=false:=by simp [bne,h2]
   cases q:(l.cells.length == 0) && (l.seats.length == 0)
   ·rw [q] at hcon
    have HV:=Hd (show false=isZ l by simp [isZ,h1,h2,q])
    have HC:=Hd hcon
    clear q hcon h1 h2
    go_enter Tryz.func25,Tryz.ntmps25
    go_wp2_with fail
    refine HC.out.mono ?_
    rintro e w1 ⟨rfl,x1⟩
    go_wp2
    go_ret
    exact ⟨ret_bool HV.out,Ext.trans X0 x1⟩
   ·rw [q] at hcon
    have HV:=Hd (show true=isZ l by simp [isZ,h1,h2,q])
    have HC:=Hd hcon
    have g3:decide ((0:Int) < (l.ents.length:Int))=false:=by simp [h2]
    have g4:decide (0 < l.ents.length)=false:=by simp [h2]
    have g5:¬ 0 < l.ents.length:=by omega
    clear q hcon h1 h2
    go_enter Tryz.func25,Tryz.ntmps25
    go_wp2_with fail
    refine HC.out.mono ?_
    rintro e w1 ⟨rfl,x1⟩
    go_wp2
    go_loopw [5] (fun i wr=>i = .int .i64 0∧Ext ((w.alloc (Lg.obj a l)).alloc (.cells #[.int .i64 0, .slice none 0 0, .slice none 0 0, .slice none 0 0] 30)) wr) (fun _ _=>0)
    case atStart=>exact ⟨rfl,x1⟩
    case round =>
     obtain ⟨rfl,hx⟩:=hrel
     have b1:=bx_cell (hx.box (hOld (o := .cells #[.int .i64 0, .slice none 0 0, .slice none 0 0, .slice none 0 0] 30) (hNew (w:=w) (o:=Lg.obj a l) rfl)))
     go_wp2
     go_ret
     exact ⟨ret_bool HV.out,Ext.trans X0 hx⟩
  ·have HV:=Hd (show false=isZ l by simp [isZ,h2])
   have g1:(l.base != 0)=false:=by simp [bne,h1]
   have g2:((l.ents.length:Int) != 0)=true:=by simpa [bne] using h2
   clear h1 h2
   go_enter Tryz.func25,Tryz.ntmps25
   go_wp2
   go_ret
   exact ⟨ret_bool HV.out,X0⟩
 ·have HV:=Hd (show false=isZ l by simp [isZ,h1])
  have g1:(l.base != 0)=true:=by simp [bne,h1]
  clear h1
  go_enter Tryz.func25,Tryz.ntmps25
  go_wp2
  go_ret
  exact ⟨ret_bool HV.out,X0⟩
theorem c_equal0C (A:Option Addr) (n c:Nat) (w:World) (hn:n≤1048576):Calls Tryz.prog 155 #[.slice A n c, .slice none 0 0] w fun e w'=>e = .returned (.bool (n == 0))∧Ext w w':=by
 by_cases h1:n=0
 ·subst h1
  go_enter Tryz.func155,Tryz.ntmps155
  go_wp2
  go_loopw [13] (fun i wr=>i = .int .i64 0∧Ext w wr) (fun _ _=>0)
  case atStart=>exact ⟨rfl,ext_refl _⟩
  case round =>
   obtain ⟨rfl,hx⟩:=hrel
   go_wp2
   go_ret
   exact ⟨rfl,hx⟩
 ·have g2:((n:Int) != 0)=true:=by simp [bne];omega
  have HV:=Hd (show false=(n == 0) by simp [h1])
  clear h1
  go_enter Tryz.func155,Tryz.ntmps155
  go_wp2
  go_ret
  exact ⟨ret_bool HV.out,ext_refl _⟩
theorem c_equal0S (A:Option Addr) (n c:Nat) (w:World) (hn:n≤1048576):Calls Tryz.prog 156 #[.slice A n c, .slice none 0 0] w fun e w'=>e = .returned (.bool (n == 0))∧Ext w w':=by
 by_cases h1:n=0
 ·subst h1
  go_enter Tryz.func156,Tryz.ntmps156
  go_wp2
  go_loopw [13] (fun i wr=>i = .int .i64 0∧Ext w wr) (fun _ _=>0)
  case atStart=>exact ⟨rfl,ext_refl _⟩
  case round =>
   obtain ⟨rfl,hx⟩:=hrel
   go_wp2
   go_ret
   exact ⟨rfl,hx⟩
 ·have g2:((n:Int) != 0)=true:=by simp [bne];omega
  have HV:=Hd (show false=(n == 0) by simp [h1])
  clear h1
  go_enter Tryz.func156,Tryz.ntmps156
  go_wp2
  go_ret
  exact ⟨ret_bool HV.out,ext_refl _⟩
theorem c_equal0E (A:Option Addr) (n c:Nat) (w:World) (hn:n≤1048576):Calls Tryz.prog 125 #[.slice A n c, .slice none 0 0] w fun e w'=>e = .returned (.bool (n == 0))∧Ext w w':=by
 by_cases h1:n=0
 ·subst h1
  go_enter Tryz.func125,Tryz.ntmps125
  go_wp2
  go_loopw [13] (fun i wr=>i = .int .i64 0∧Ext w wr) (fun _ _=>0)
  case atStart=>exact ⟨rfl,ext_refl _⟩
  case round =>
   obtain ⟨rfl,hx⟩:=hrel
   go_wp2
   go_ret
   exact ⟨rfl,hx⟩
 ·have g2:((n:Int) != 0)=true:=by simp [bne];omega
  have HV:=Hd (show false=(n == 0) by simp [h1])
  clear h1
  go_enter Tryz.func125,Tryz.ntmps125
  go_wp2
  go_ret
  exact ⟨ret_bool HV.out,ext_refl _⟩
theorem c_iSameImage0 (cA:Option Addr) (n cc:Nat) (sA:Option Addr) (m sc:Nat) (w:World) (hn:n≤1048576) (hm:m≤1048576) :
  Calls Tryz.prog 124 #[.agg #[.slice cA n cc, .slice sA m sc],zimg] w fun e w'=>e = .returned (.bool ((n == 0) && (m == 0)))∧Ext w w':=by
 go_enter Tryz.func124,Tryz.ntmps124
 go_wp2_with (first | (go_at_call 155;refine (c_equal0C _ _ _ _ hn).mono ?_;rintro e w1 ⟨rfl,hx⟩;obtain ⟨hc1,hf1,hs1⟩:=hx.rules;(try simp at hs1);have z0:w.heap.size < w1.heap.size:=(by omega);have z1:w.heap.size+1 < w1.heap.size:=(by omega)) | (go_at_call 156;refine (c_equal0S _ _ _ _ hm).mono ?_;rintro e w1 ⟨rfl,hx⟩;obtain ⟨hc1,hf1,hs1⟩:=hx.rules;(try simp at hs1);have z0:w.heap.size < w1.heap.size:=(by omega);have z1:w.heap.size+1 < w1.heap.size:=(by omega)))
 all_goals
  go_ret
  refine ⟨ret_bool ?_, ?_⟩
  ·(first | (simp [*];done) | (simp_all;done))
  ·(repeat (first | with_reducible exact ext_refl _ | with_reducible refine ext_to ?_ _ | with_reducible refine ext_set ?_ (by first | (simp;done) | (simp;omega) | omega) _ | with_reducible refine ext_drew ?_ | with_reducible refine Ext.trans ?_ (by assumption)))
theorem c_iSameLog0 (a:LAd) (l:Lg) (w:World) (hs1:l.cells.length≤1048576) (hs2:l.seats.length≤1048576) (hs3:l.ents.length≤1048576) :
  Calls Tryz.prog 77 #[Lg.val a l,zlog] w fun e w'=>e = .returned (.bool (isZ l))∧Ext w w':=by
 obtain ⟨y,hy⟩:∃ y,(l.cells.length == 0 && l.seats.length == 0)=y:=⟨_,rfl⟩
 obtain ⟨z,hz⟩:∃ z,(l.ents.length == 0)=z:=⟨_,rfl⟩
 have HV:=Hd (show (l.base == 0 && y && z)=isZ l by unfold isZ;rw [hy,hz])
 have hI:=fun W=>c_iSameImage0 a.cA l.cells.length a.cc a.sA l.seats.length a.sc W hs1 hs2
 have hE:=fun W=>c_equal0E a.eA l.ents.length a.ec W hs3
 rw [hy] at hI
 rw [hz] at hE
 have HI:=Hd hI
 have HE:=Hd hE
 clear hy hz hI hE
 go_enter Tryz.func77,Tryz.ntmps77
 go_wp2_with (first | (go_at_call 124;refine (HI.out _).mono ?_;rintro e w1 ⟨rfl,hx⟩;obtain ⟨hc1,hf1,hs1⟩:=hx.rules;(try simp at hs1);have z0:w.heap.size < w1.heap.size:=(by omega);have z1:w.heap.size+1 < w1.heap.size:=(by omega)) | (go_at_call 125;refine (HE.out _).mono ?_;rintro e w1 ⟨rfl,hx⟩;obtain ⟨hc1,hf1,hs1⟩:=hx.rules;(try simp at hs1);have z0:w.heap.size < w1.heap.size:=(by omega);have z1:w.heap.size+1 < w1.heap.size:=(by omega)))
 all_goals
  go_ret
  refine ⟨ret_bool ?_, ?_⟩
  ·rw [←HV.out]
   (first | (simp [*];done) | (simp_all;done))
  ·(repeat (first | with_reducible exact ext_refl _ | with_reducible refine ext_to ?_ _ | with_reducible refine ext_set ?_ (by first | (simp;done) | (simp;omega) | omega) _ | with_reducible refine ext_drew ?_ | with_reducible refine Ext.trans ?_ (by assumption)))
theorem c_isLogZero (a:LAd) (l:Lg) (w:World) (hs1:l.cells.length≤1048576) (hs2:l.seats.length≤1048576) (hs3:l.ents.length≤1048576) :
  Calls Tryz.prog 45 #[Lg.val a l] w fun e w'=>e = .returned (.bool (isZ l))∧Ext w w':=by
 go_enter Tryz.func45,Tryz.ntmps45
 go_wp2_with fail
 refine (c_iSameLog0 a l _ hs1 hs2 hs3).mono ?_
 rintro e w1 ⟨rfl,x1⟩
 go_wp2
 go_ret
 exact ⟨rfl,Ext.trans (ext_alloc _ _) x1⟩
end Go.Proofs.YtikelfmmldafpaaGreat
