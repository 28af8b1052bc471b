/- Regions that draw their order and store a whole result beside reads. -/
import Derived.Test.YtikelfmmldafpaaGreatPk6
import Derived.Test.YtikelfmmldafpaaGreatPk3
import Derived.Test.YtikelfmmldafpaaGreatPk5
import Derived.Test.YtikelfmmldafpaaGreatPk4
namespace Go.Proofs.YtikelfmmldafpaaGreat
open Go.ChangeShapes Go.WideShapes Go.ChangeAt Go.RowKit Go.Sort
set_option linter.unusedVariables false
set_option linter.unusedSimpArgs false
def relE (B:Nat):Rm.Rel where
 rel:=Ext
 base:=B
 refl:=ext_refl
 trans _ _ _ h k:=Ext.trans h k
 ext _ _ h:=h
 size _ _ h:=h.size
 keep _ _ h p _ hlt:=h.block p hlt
def relS (p:Nat) (obj:Obj) (B:Nat) (hp:p < B):Rm.Rel where
 rel a b:=Chg a b [p]∧(p < a.heap.size→b.heap[p]?=a.heap[p]?∨b.heap[p]?=some obj)
 base:=B
 refl w:=⟨Chg.refl w _,fun _ => .inl rfl⟩
 trans a b c h k:=⟨h.1.trans k.1,fun hlt=>by
  rcases k.2 (Nat.lt_of_lt_of_le hlt h.1.size) with e | e
  ·rw [e];exact h.2 hlt
  ·exact .inr e⟩
 ext a b h:=⟨chg_ext _ h,fun hlt => .inl (h.block p hlt)⟩
 size a b h:=h.1.size
 keep a b h q hq hlt:=h.1.block q hlt (by rw [Mi];omega)
def stored (p:Nat) (obj:Obj):Option Tmp→Value→World→Prop:=fun d _ W=>d=none→W.heap[p]?=some obj
theorem stored_mono (p:Nat) (obj:Obj) (B:Nat) (hp:p < B) (d:Option Tmp):Rm.Mono (relS p obj B hp) (stored p obj d):=fun v w w' h hx hd=>by
 have h1:=h hd
 rcases hx.2 (bx_lt h1) with e | e
 ·rw [e];exact h1
 ·exact e
theorem relS_box {p g:Nat} {obj o:Obj} {B:Nat} {hp:p < B} {w:World} (h:w.heap[g]?=some o) (hne:g≠p):∀ W,(relS p obj B hp).rel w W→W.heap[g]?=some o:=fun W hW=>(hW.1.block g (bx_lt h) (by rw [Mi];exact hne)).trans h
section
variable {P:Program} {ops:Array Oper} {w:World} {L:(World→Prop)→Act→Prop} {o:Oper} {rest:List Oper} {C:World→Prop} {ps:List Nat} {a:Act}
theorem wpMix_st {p:Nat} {cs old:Array Value} {T:TypeId} {B:Nat} {hp:p < B} {N:Nat} {ty:TypeId} {x y:Operand} (hg:w.heap[p]?=some (.cells old T (0,0))) (hop:o.op = .store ty x y) (hd:o.dst=none) (hw:Region.wanted o (yielded ops a.tmps)=true)
  (hx:a.eval x = .pointer (some ⟨p,0,none⟩)) (hy:a.eval y = .agg cs) (hi:(P.info? ty).map (·.size)=some cs.size) (hold:old.size=cs.size) (h1:cs.all (·.oneCell')=true)
  (h:Rm.Mx (relS p (.cells cs T (0,0)) B hp) P ops ((relS p (.cells cs T (0,0)) B hp).rel w) (N,stored p (.cells cs T (0,0))) L rest (fun W=>C W∧W.heap[p]?=some (.cells cs T (0,0))) ps (a.put none undef)) :
  Rm.Mx (relS p (.cells cs T (0,0)) B hp) P ops ((relS p (.cells cs T (0,0)) B hp).rel w) (N,stored p (.cells cs T (0,0))) L (o::rest) C ps a:=by
 refine Rm.wpMix_store (by unfold isAlloc;rw [hop]) (by unfold Rm.isApp;rw [hop]) hw (stored_mono _ _ _ _ _) (fun W hW=>?_) (fun v hv=>?_)
 ·have hgW:∃ old':Array Value,W.heap[p]?=some (.cells old' T (0,0))∧old'.size=cs.size:=by
   rcases hW.2 (bx_lt hg) with e | e
   ·exact ⟨old,by rw [e];exact hg,hold⟩
   ·exact ⟨cs,e,rfl⟩
  obtain ⟨old',hg',hs'⟩:=hgW
  refine ⟨W.setRow p cs, ?_,fun _=>setRow_heap W p old' cs T (0,0) hg',chg_setRow W p cs,fun _ => .inr (setRow_heap W p old' cs T (0,0) hg')⟩
  unfold execOp
  simp only [hop,hx,hy,Instr.storeAt,Instr.sureAddr,Sem.run_bind,Sem.run_pure,Result.andThen_ok,run_storeVar_row W p T ty old' cs hg' hi hs' h1]
 ·rw [hd]
  have e:(fun W=>C W∧stored p (.cells cs T (0,0)) o.dst v W)=(fun W=>C W∧W.heap[p]?=some (.cells cs T (0,0))):=by
   funext W
   simp [stored,hd]
  show Rm.Mx _ P ops _ _ L rest (fun W=>C W∧stored p (.cells cs T (0,0)) none v W) ps (a.put none v)
  rw [hd] at e
  rw [e]
  exact h
end
theorem code_go {P:Program} {c:Code} {Q:Exit→Act→World→Prop} {a:Act} {w:World} (F:World→Prop) (hF:F w) (h:∀ W,F W→c.wp P Q a W):c.wp P Q a w:=h w hF
theorem box_apart {α:Type} {enc:α→List Value} {e T:TypeId} {sz:Nat} {w:World} {B p:Nat} {cs:Array Value} {A:Option Addr} {n c:Nat} {l:List α} (h:w.heap[p]?=some (.cells cs T (0,0))) (k:Ow enc e sz w B (.slice A n c) l) (hne:T≠e):p∉blk A:=fun hm=>by
 rcases k.2 with ⟨h2,_⟩ | ⟨g,cap,cur,hv,hb,hh,r⟩
 ·simp only [Value.slice.injEq] at h2
  rw [h2.1] at hm
  simp [blk] at hm
 ·simp only [Value.slice.injEq] at hv
  rw [hv.1] at hm
  simp only [blk,Mi] at hm
  subst hm
  rw [h] at hh
  simp only [Option.some.injEq,Obj.cells.injEq] at hh
  exact hne hh.2.1
theorem lg_box_apart {w:World} {B T p:Nat} {a:LAd} {l:Lg} {cs:Array Value} {t:TypeId} (h:w.heap[p]?=some (.cells cs t (0,0))) (k:LgO w B T a l) (h1:t≠124) (h2:t≠126) (h3:t≠65):p∉a.fp:=fun hm=>by
 unfold LAd.fp at hm
 rw [List.mem_append,List.mem_append] at hm
 rcases hm with (hm | hm) | hm
 ·exact box_apart h k.c h1 hm
 ·exact box_apart h k.s h2 hm
 ·exact box_apart h k.e h3 hm
theorem stop_loadG {P:Program} {ops:Array Oper} {Q:Exit→Act→World→Prop} {l:List Oper} {a:Act} {w:World} {ty:TypeId} {x:Operand} {d:Nat} {rt:TypeId} {pos:String} {af:Array Edge} {gu:Option (Nat×Bool)} {g:Nat} {cs:Array Value} {t:TypeId} {fs:Array Field}
  (hg:w.heap[g]?=some (.cells cs t (0,0))) (hw:Region.wanted ({ dst:=some d,op := .load ty x,type:=rt,pos:=pos,after:=af,guard:=gu }:Oper) (yielded ops a.tmps)=true) (hx:a.eval x = .pointer (some ⟨g,0,none⟩)) (hu:P.underlying ty=some (.struct fs)) (hi:(P.info? ty).map (·.size)=some cs.size)
  (h:wpList P ops Q l (a.put (some d) (.agg cs)) w):Stop (wpList P ops Q ({ dst:=some d,op := .load ty x,type:=rt,pos:=pos,after:=af,guard:=gu } :: l) a w) :=
 BigFrame.wpList_want hw fun _ hK=>wp_load_row ty x rfl g hx t cs (0,0) _ hg hu rfl hi (hK _ _ h)
instance:Inhabited Lg:=⟨Lg.none⟩
instance:Inhabited LAd:=⟨LAd.none⟩
instance:Inhabited Vt:=⟨⟨0,0,0,0,0,0,Lg.none⟩⟩
instance:Inhabited Mg:=⟨⟨0,0,0,0,0,0,0,0,0,0,0,0,0,Lg.none⟩⟩
instance:Inhabited Ot:=⟨⟨0,default⟩⟩
theorem OtE.len (p:OtE):(OtE.enc p).length=18:=rfl
structure OsO (w:World) (B T:Nat) (A:Option Addr) (c:Nat) (ps:List OtE):Prop where
 r:Ow OtE.enc 117 18 w B (.slice A ps.length c) ps
 l:∀ p∈ps,LgO w B T p.1 p.2.msg.log
 nd:(blk A++ps.flatMap (fun p=>p.1.fp)).Nodup
 top:∀ k∈blk A++ps.flatMap (fun p=>p.1.fp),k < T
def OtE.fps (A:Option Addr) (ps:List OtE):List Nat:=blk A++ps.flatMap (fun p=>p.1.fp)
abbrev OtE.cells (a:LAd) (o:Ot):Array Value:=#[.int .i64 o.to, .int .i64 o.msg.kind, .int .i64 o.msg.frm, .int .i64 o.msg.view, .int .i64 o.msg.op, .int .i64 o.msg.commit, .int .i64 o.msg.normal, .int .i64 o.msg.nonce, .int .i64 o.msg.client, .int .i64 o.msg.req, .int .i64 o.msg.answer, .int .i64 o.msg.ck, .int .i64 o.msg.cx, .int .i64 o.msg.cv, .int .i64 o.msg.log.base, .slice a.cA o.msg.log.cells.length a.cc, .slice a.sA o.msg.log.seats.length a.sc, .slice a.eA o.msg.log.ents.length a.ec]
abbrev Mg.cs (a:LAd) (m:Mg):Array Value:=#[.int .i64 m.kind, .int .i64 m.frm, .int .i64 m.view, .int .i64 m.op, .int .i64 m.commit, .int .i64 m.normal, .int .i64 m.nonce, .int .i64 m.client, .int .i64 m.req, .int .i64 m.answer, .int .i64 m.ck, .int .i64 m.cx, .int .i64 m.cv, .int .i64 m.log.base, .slice a.cA m.log.cells.length a.cc, .slice a.sA m.log.seats.length a.sc, .slice a.eA m.log.ents.length a.ec]
end Go.Proofs.YtikelfmmldafpaaGreat
