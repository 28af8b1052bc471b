/- A region that draws its order, walked once in the order of the text: its operations read, call functions that only make new memory, and lay new boxes; a forced tail ends it. No program in sight. -/
import Derived.Lib.Hide
import Derived.Deep.QuietTactic
import Derived.StillTail
import Derived.Below
import Derived.Lib.QuietBelow
namespace Go.Proofs.YtikelfmmldafpaaGreat
open Go.RowKit Go.Sort
set_option linter.unusedVariables false
theorem Hd {p : Prop} (h : p) : Hid p := Lib.hid h
theorem Sa {α : Type _} (l : List α) (i : Nat) (a : α) : l.toArray.setIfInBounds i a = (l.set i a).toArray := List.setIfInBounds_toArray ..
theorem Sz {α : Type _} {x : α} {xs : List α} {a : α} : (x :: xs).set 0 a = a :: xs := rfl
theorem Ss {α : Type _} {x : α} {xs : List α} {n : Nat} {a : α} : (x :: xs).set (n + 1) a = x :: xs.set n a := rfl
theorem Mi {α : Type _} {a b : α} : a ∈ [b] ↔ a = b := List.mem_singleton
theorem Tc {α : Type _} {a : α} {as : List α} {i : Nat} : (a :: as).take (i + 1) = a :: as.take i := rfl
theorem Dc {α : Type _} {a : α} {l : List α} {i : Nat} : (a :: l).drop (i + 1) = l.drop i := rfl
theorem Tz {α : Type _} {l : List α} : l.take 0 = [] := rfl
theorem Dz {α : Type _} {l : List α} : l.drop 0 = l := rfl
theorem Bf : (false = true) = False := Bool.false_eq_true
abbrev Ext (w w':World):Prop:=Below w.heap.size w w'
theorem Ext.trans {a b c:World} (h:Ext a b) (k:Ext b c):Ext a c:=Below.trans h (k.mono h.size)
def isAlloc (o:Oper):Bool:=match o.op,o.guard with | .alloc _,none=>true | .buildSlice ..,none=>true | _,_=>false
def layVal (o:Oper) (p:Nat):Value:=match o.op with | .buildSlice _ n _ => .slice (some ⟨p,0,none⟩) n n | _ => .pointer (some ⟨p,0,none⟩)
def isPlain (o:Oper):Bool:=match o.op with
 | .move _ | .assign _ | .pick .. | .build .. | .load .. | .binOp .. | .unOp .. | .convert .. | .field .. | .fieldAddr .. | .indexAddr .. | .index .. | .slice .. | .extract ..=>true
 | .call { callee := .builtin .len, .. } | .call { callee := .builtin .max, .. } | .call { callee := .builtin .min, .. }=>true
 | _=>false
def isCall (o:Oper):Bool:=!isPlain o && !isAlloc o
def isLate (o:Oper):Bool:=match o.op with | .move _ | .extract ..=>true | _=>false
theorem late_plain {o:Oper} (h:isLate o=true):isPlain o=true∧isAlloc o=false:=by
 obtain ⟨dst,op,type,pos,after,guard⟩:=o
 unfold isLate at h
 cases op <;> simp at h <;> exact ⟨rfl,rfl⟩
section
variable {P:Program} {ops:Array Oper} {md:Region.Mode}
theorem late_any {o:Oper} {ρ:Operand→Value} {w:World} {v:Value} (h:isLate o=true) (hr:(execOp ρ o).run P w = .ok (.value v) w):∀ w',(execOp ρ o).run P w' = .ok (.value v) w':=by
 intro w'
 obtain ⟨dst,op,type,pos,after,guard⟩:=o
 unfold isLate at h
 unfold execOp at *
 cases op <;> simp at h
 case move x=>simp only [Sem.run_pure] at *;injection hr with h1 h2;rw [h1]
 case extract t ix =>
  simp only [Sem.run_bind] at *
  unfold Instr.extract at *
  generalize ρ t=x at *
  cases x <;> first | (simp [stuck] at hr;done) | skip
  case tuple vs =>
   dsimp only at *
   cases hx:vs[ix]? with
   | none=>simp [hx,stuck] at hr
   | some y=>simp [hx] at hr ⊢;exact hr
def lateAt (md:Region.Mode) (ops:Array Oper) (listed:Array Bool) (i:Nat):Prop :=
 ∃ oi,ops[i]?=some oi∧isLate oi=true∧∀ j oj,ops[j]?=some oj→j≠i→listed.getD j true=false→(∀ e∈oj.after,Region.binds md e=true→e.on≠i)→oi.apart ops oj=true
def noisyUpon (P:Program) (w:World) (φ:Value→World→Prop):Result Next→Prop
 | .ok (.enter f args) w'=>w'=w∧Calls P f args w (fun e w''=>∃ v,e = .returned v∧φ v w''∧Ext w w'')
 | .ok (.value v) w'=>φ v w'∧Ext w w'
 | _=>False
def noisyAt (P:Program) (o:Oper) (a:Act) (w:World) (φ:Value→World→Prop):Prop:=noisyUpon P w φ ((execOp a.eval o).run P w)
def Mono (φ:Value→World→Prop):Prop:=∀ v w w',φ v w→Ext w w'→φ v w'
def laysObj (P:Program) (o:Oper) (a:Act) (obj:Obj):Prop :=
 ∀ w,(execOp a.eval o).run P w = .ok (.value (layVal o w.heap.size)) (w.alloc obj)
def readsAt (P:Program) (o:Oper) (a:Act) (C0:World→Prop) (v:Value):Prop:=∀ w,C0 w→(execOp a.eval o).run P w = .ok (.value v) w
theorem v_form {P:Program} {s:Sem Value} {w w':World} {n:Next} (h:Sem.run P (do pure (Next.value (← s))) w = .ok n w'):∃ x,n = .value x:=by
 simp only [Sem.run_bind] at h
 cases hs:s.run P w with
 | halt x y=>rw [hs] at h;cases h
 | ok x y=>rw [hs] at h;simp only [Result.andThen_ok,Sem.run_pure] at h;injection h with h1 h2;exact ⟨x,h1.symm⟩
theorem plain_form {P:Program} {o:Oper} {ρ:Operand→Value} {w w':World} {n:Next} (hp:isPlain o=true) (h:(execOp ρ o).run P w = .ok n w'):∃ x,n = .value x:=by
 obtain ⟨dst,op,type,pos,after,guard⟩:=o
 unfold isPlain at hp
 unfold execOp at h
 cases op <;> simp only [Bf] at hp
 case move x=>simp only [Sem.run_pure] at h;injection h with h1 h2;exact ⟨_,h1.symm⟩
 case assign x=>simp only [Sem.run_pure] at h;injection h with h1 h2;exact ⟨_,h1.symm⟩
 case pick c x y =>
  simp only [Sem.run_bind] at h
  cases hs:(asBool (ρ c)).run P w with
  | halt x y=>rw [hs] at h;cases h
  | ok x y=>rw [hs] at h;simp only [Result.andThen_ok,Sem.run_pure] at h;injection h with h1 h2;exact ⟨_,h1.symm⟩
 case call c =>
  obtain ⟨callee,args,argTypes⟩:=c
  cases callee with
  | value f=>simp at hp
  | invoke r m=>simp at hp
  | builtin b =>
   simp only [resolve,Sem.run_bind,Sem.run_pure,Result.andThen_ok,invoke] at h
   cases b <;> simp at hp <;> (unfold builtin at h;exact v_form h)
 all_goals exact v_form h
abbrev Kont:=(World→Prop)→List Nat→Act→Prop
def MonoW (C:World→Prop):Prop:=∀ w w',C w→Ext w w'→C w'
def Inh (C:World→Prop):Prop:=∃ w,C w
theorem monoW_and {C:World→Prop} {φ:Value→World→Prop} (h:MonoW C) (k:Mono φ) (v:Value):MonoW (fun w=>C w∧φ v w):=fun w w' hw hx=>⟨h w w' hw.1 hx,k v w w' hw.2 hx⟩
theorem monoW_heap {C:World→Prop} (h:MonoW C) (p:Nat) (obj:Obj):MonoW (fun w=>C w∧w.heap[p]?=some obj):=fun w w' hw hx =>
 ⟨h w w' hw.1 hx,by rw [hx.block p (Array.getElem?_eq_some_iff.1 hw.2).1];exact hw.2⟩
def mixStep (P:Program) (ops:Array Oper) (C0:World→Prop) (B:Nat) (o:Oper) (C:World→Prop) (ps:List Nat) (a:Act) (K:Kont):Prop :=
 if isAlloc o then ∃ obj,laysObj P o a obj∧∀ p,B≤p→p∉ps→Inh (fun w=>C w∧w.heap[p]?=some obj)→K (fun w=>C w∧w.heap[p]?=some obj) (p::ps) (a.put o.dst (layVal o p))
 else if Region.wanted o (yielded ops a.tmps) then
  if isCall o then ∃ φ,Mono φ∧(∀ w,C w→noisyAt P o a w φ)∧∀ v,Inh (fun w=>C w∧φ v w)→K (fun w=>C w∧φ v w) ps (a.put o.dst v)
  else ∃ v,readsAt P o a C0 v∧K C ps (a.put o.dst v)
 else K C ps (a.put o.dst undef)
def wpMix (P:Program) (ops:Array Oper) (C0:World→Prop) (B:Nat) (L:(World→Prop)→Act→Prop):List Oper→Kont
 | [],C,_,a=>L C a
 | o::rest,C,ps,a=>mixStep P ops C0 B o C ps a (wpMix P ops C0 B L rest)
def mixOp (P:Program) (ops:Array Oper) (C0:World→Prop) (B:Nat) (i:Nat) (C:World→Prop) (ps:List Nat) (a:Act) (K:Kont):Prop :=
 match ops[i]? with
 | none=>False
 | some o=>mixStep P ops C0 B o C ps a K
def AnyM (P:Program) (md:Region.Mode) (ops:Array Oper) (C0:World→Prop) (B n:Nat) (L:Array Bool→(World→Prop)→Act→Prop):Nat→Array Bool→Kont
 | 0,listed,C,_,a=>L listed C a
 | f+1,listed,C,ps,a=>(∀ i∈Region.ready md ops listed,i < n→mixOp P ops C0 B i C ps a (AnyM P md ops C0 B n L f (listed.setIfInBounds i true))) ∧
   ((Region.ready md ops listed≠[]∧∀ i∈Region.ready md ops listed,i < n)∨∃ i∈Region.ready md ops listed,i < n∧lateAt md ops listed i)
def Into (K K':Kont):Prop:=∀ D D' qs qs' b,MonoW D→MonoW D'→Inh D'→(∀ w,D' w→D w)→(∀ p,p∈qs→p∈qs')→K D qs b→K' D' qs' b
theorem mixStep_mono {C0:World→Prop} {B:Nat} {o:Oper} {C C':World→Prop} {ps ps':List Nat} {a:Act} {K K':Kont} (mC:MonoW C) (mC':MonoW C') (iC:Inh C') (hC:∀ w,C' w→C w) (hp:∀ p,p∈ps→p∈ps')
  (hK:Into K K') (h:mixStep P ops C0 B o C ps a K):mixStep P ops C0 B o C' ps' a K':=by
 unfold mixStep at *
 split
 ·rename_i ha
  rw [if_pos ha] at h
  obtain ⟨obj,h1,h2⟩:=h
  refine ⟨obj,h1,fun p hB hn hin=>hK _ _ _ _ _ (monoW_heap mC p obj) (monoW_heap mC' p obj) hin (fun w hw=>⟨hC w hw.1,hw.2⟩) ?_ (h2 p hB (fun hq=>hn (hp p hq)) (hin.imp fun w hw=>⟨hC w hw.1,hw.2⟩))⟩
  intro q hq
  rcases List.mem_cons.1 hq with rfl | hq
  ·exact List.mem_cons_self
  ·exact List.mem_cons_of_mem _ (hp q hq)
 ·rename_i ha
  rw [if_neg ha] at h
  split
  ·rename_i hw
   rw [if_pos hw] at h
   split
   ·rename_i hc
    rw [if_pos hc] at h
    obtain ⟨φ,h1,h2,h3⟩:=h
    exact ⟨φ,h1,fun w hw=>h2 w (hC w hw),fun v hin=>hK _ _ _ _ _ (monoW_and mC h1 v) (monoW_and mC' h1 v) hin (fun w hw=>⟨hC w hw.1,hw.2⟩) hp (h3 v (hin.imp fun w hw=>⟨hC w hw.1,hw.2⟩))⟩
   ·rename_i hc
    rw [if_neg hc] at h
    obtain ⟨v,h1,h2⟩:=h
    exact ⟨v,h1,hK _ _ _ _ _ mC mC' iC hC hp h2⟩
  ·rename_i hw
   rw [if_neg hw] at h
   exact hK _ _ _ _ _ mC mC' iC hC hp h
theorem mixOp_mono {C0:World→Prop} {B i:Nat} {C C':World→Prop} {ps ps':List Nat} {a:Act} {K K':Kont} (mC:MonoW C) (mC':MonoW C') (iC:Inh C') (hC:∀ w,C' w→C w) (hp:∀ p,p∈ps→p∈ps')
  (hK:Into K K') (h:mixOp P ops C0 B i C ps a K):mixOp P ops C0 B i C' ps' a K':=by
 unfold mixOp at *
 split
 ·rename_i hi;simp [hi] at h
 ·rename_i o hi
  simp only [hi] at h
  exact mixStep_mono mC mC' iC hC hp hK h
theorem AnyM_mono {C0:World→Prop} {B n:Nat} {L:Array Bool→(World→Prop)→Act→Prop} (hL:∀ listed C C' a,(∀ w,C' w→C w)→L listed C a→L listed C' a) :
  ∀ (f:Nat) (listed:Array Bool),Into (AnyM P md ops C0 B n L f listed) (AnyM P md ops C0 B n L f listed)
 | 0,listed=>fun C C' _ _ a _ _ _ hC _ h=>hL listed C C' a hC h
 | f+1,listed=>fun C C' ps ps' a mC mC' iC hC hp h =>
  ⟨fun i hi hin=>mixOp_mono mC mC' iC hC hp (AnyM_mono hL f _) (h.1 i hi hin),h.2⟩
end
section
variable {P:Program} {ops:Array Oper} {md:Region.Mode}
theorem heap_push_inj {w:World} {o o':Obj} (h:w.alloc o=w.alloc o'):o=o':=by
 have h1:=heap_alloc_new w o
 rw [h,heap_alloc_new w o'] at h1
 injection h1 with h1
 exact h1.symm
theorem laysObj_inj {o:Oper} {a:Act} {x y:Obj} (h:laysObj P o a x) (k:laysObj P o a y):x=y:=by
 have w:World:=default
 have h1:=h w
 rw [k w] at h1
 injection h1 with _ h2
 exact (heap_push_inj h2).symm
theorem readsAt_inj {o:Oper} {a:Act} {C0:World→Prop} {x y:Value} {w:World} (hw:C0 w) (h:readsAt P o a C0 x) (k:readsAt P o a C0 y):x=y:=by
 have h1:=h w hw
 rw [k w hw] at h1
 injection h1 with h1
 injection h1 with h1
 exact h1.symm
theorem exists_fresh (B:Nat) (ps:List Nat):∃ p,B≤p∧p∉ps:=by
 refine ⟨B+ps.sum+1,by omega,fun h=>?_⟩
 have:∀ (l:List Nat) (q:Nat),q∈l→q≤l.sum:=by
  intro l
  induction l with
  | nil=>intro q hq;cases hq
  | cons x r ih =>
   intro q hq
   rcases List.mem_cons.1 hq with rfl | hq
   ·simp
   ·have:=ih q hq;simp;omega
 have:=this ps _ h
 omega
def pad (w:World) (obj:Obj):Nat→World
 | 0=>w
 | n+1=>(pad w obj n).alloc obj
theorem pad_ext (w:World) (obj:Obj):∀ n,Ext w (pad w obj n)∧(pad w obj n).heap.size=w.heap.size+n
 | 0=>⟨Below.refl _ _,rfl⟩
 | n+1=>by
  obtain ⟨h1,h2⟩:=pad_ext w obj n
  exact ⟨h1.alloc h1.size obj,by simp [pad,h2];omega⟩
theorem fresh_world {C:World→Prop} (mC:MonoW C) (iC:Inh C) (obj:Obj) (B:Nat) (ps:List Nat):∃ p,B≤p∧p∉ps∧Inh (fun w=>C w∧w.heap[p]?=some obj):=by
 obtain ⟨w,hw⟩:=iC
 have hle:∀ (l:List Nat) (q:Nat),q∈l→q≤l.sum:=by
  intro l
  induction l with
  | nil=>intro q hq;cases hq
  | cons x r ih =>
   intro q hq
   rcases List.mem_cons.1 hq with rfl | hq
   ·simp
   ·have:=ih q hq;simp;omega
 obtain ⟨h1,h2⟩:=pad_ext w obj (B+ps.sum+1)
 have hx:Ext (pad w obj (B+ps.sum+1)) ((pad w obj (B+ps.sum+1)).alloc obj):=(Below.refl _ _).alloc (Nat.le_refl _) obj
 refine ⟨(pad w obj (B+ps.sum+1)).heap.size,by omega,fun hm=>?_,_,mC _ _ (mC _ _ hw h1) hx,heap_alloc_new _ obj⟩
 have:=hle _ _ hm
 omega
theorem noisy_inh {C:World→Prop} {o:Oper} {a:Act} {φ:Value→World→Prop} (mC:MonoW C) (iC:Inh C) (h:∀ w,C w→noisyAt P o a w φ):∃ v,Inh (fun w=>C w∧φ v w):=by
 obtain ⟨w,hw⟩:=iC
 have h4:=h w hw
 unfold noisyAt at h4
 generalize (execOp a.eval o).run P w=r at *
 cases r with
 | halt x y=>simp only [noisyUpon] at h4
 | ok nx w' =>
  cases nx <;> simp only [noisyUpon] at h4
  case value u=>exact ⟨u,w',mC _ _ hw h4.2,h4.1⟩
  case enter fn args =>
   obtain ⟨e1,hc⟩:=h4
   obtain ⟨e,w'',fr,⟨v,_,hφ,hx⟩,_⟩:=hc []
   exact ⟨v,w'',mC _ _ hw hx,hφ⟩
theorem mix_swap {C0:World→Prop} {B:Nat} {oi oj:Oper} {C:World→Prop} {ps:List Nat} {a:Act} {K:Kont} {w0:World} (h0:C0 w0)
  (hap:oi.apart ops oj=true) (hsi:∀ cs b,oi.op ≠ .select cs b) (hsj:∀ cs b,oj.op ≠ .select cs b) (hcc:isCall oi=true→isCall oj=true→False) (haa:isAlloc oi=true→isAlloc oj=true)
  (hK:Into K K) (mC:MonoW C) (iC:Inh C) (h:mixStep P ops C0 B oi C ps a (fun D qs b=>mixStep P ops C0 B oj D qs b K)) :
  mixStep P ops C0 B oj C ps a (fun D qs b=>mixStep P ops C0 B oi D qs b K):=by
 obtain ⟨g1,g2,g3⟩:=Oper.apart_spec hap
 have ei:∀ u,execOp (a.put oj.dst u).eval oi=execOp a.eval oi:=fun u=>execOp_put oi hsi a oj.dst u g3
 have ej:∀ u,execOp (a.put oi.dst u).eval oj=execOp a.eval oj:=fun u=>execOp_put oj hsj a oi.dst u g1
 have wi:∀ u,Region.wanted oi (yielded ops (a.put oj.dst u).tmps)=Region.wanted oi (yielded ops a.tmps):=fun u=>wanted_put oi a oj.dst u g3
 have wj:∀ u,Region.wanted oj (yielded ops (a.put oi.dst u).tmps)=Region.wanted oj (yielded ops a.tmps):=fun u=>wanted_put oj a oi.dst u g1
 have pc:∀ v u,(a.put oi.dst v).put oj.dst u=(a.put oj.dst u).put oi.dst v:=fun v u=>Act.put_comm a v u g2
 have lj:∀ u obj,laysObj P oj (a.put oi.dst u) obj↔laysObj P oj a obj:=fun u obj=>by unfold laysObj;rw [ej u]
 have li:∀ u obj,laysObj P oi (a.put oj.dst u) obj↔laysObj P oi a obj:=fun u obj=>by unfold laysObj;rw [ei u]
 have rj:∀ u v,readsAt P oj (a.put oi.dst u) C0 v↔readsAt P oj a C0 v:=fun u v=>by unfold readsAt;rw [ej u]
 have ri:∀ u v,readsAt P oi (a.put oj.dst u) C0 v↔readsAt P oi a C0 v:=fun u v=>by unfold readsAt;rw [ei u]
 have nj:∀ u w φ,noisyAt P oj (a.put oi.dst u) w φ↔noisyAt P oj a w φ:=fun u w φ=>by unfold noisyAt;rw [ej u]
 have ni:∀ u w φ,noisyAt P oi (a.put oj.dst u) w φ↔noisyAt P oi a w φ:=fun u w φ=>by unfold noisyAt;rw [ei u]
 unfold mixStep at h ⊢
 by_cases ai:isAlloc oi=true
 ·have aj:=haa ai
  simp only [ai,aj,if_true] at h ⊢
  obtain ⟨obi,h1,h2⟩:=h
  obtain ⟨p0,hB0,hn0,hin0⟩:=fresh_world mC iC obi B ps
  obtain ⟨obj,k1,_⟩:=h2 p0 hB0 hn0 hin0
  have k1':=(lj _ _).1 k1
  refine ⟨obj,k1',fun q hq hqn hqi=>⟨obi,(li _ _).2 h1,fun p hp hpn hpi=>?_⟩⟩
  have hp1:p∉ps:=fun hm=>hpn (List.mem_cons_of_mem _ hm)
  have hpq:p≠q:=fun e=>hpn (by rw [e];exact List.mem_cons_self)
  obtain ⟨obj',k2,k3⟩:=h2 p hp hp1 (hpi.imp fun w hw=>⟨hw.1.1,hw.2⟩)
  have:=laysObj_inj k1' ((lj _ _).1 k2)
  subst this
  have k4 := k3 q hq (fun hm => by rcases List.mem_cons.1 hm with e | hm
                                   · exact hpq e.symm
                                   · exact hqn hm) (hpi.imp fun w hw=>⟨⟨hw.1.1,hw.2⟩,hw.1.2⟩)
  rw [pc] at k4
  refine hK _ _ _ _ _ (monoW_heap (monoW_heap mC p obi) q obj) (monoW_heap (monoW_heap mC q obj) p obi) hpi (fun w hw=>⟨⟨hw.1.1,hw.2⟩,hw.1.2⟩) (fun x hx=>?_) k4
  simp only [List.mem_cons] at hx ⊢
  rcases hx with hx | hx | hx
  ·exact .inr (.inl hx)
  ·exact .inl hx
  ·exact .inr (.inr hx)
 ·simp only [ai,if_false,Bf] at h ⊢
  by_cases wiT:Region.wanted oi (yielded ops a.tmps)=true
  ·simp only [wiT,if_true] at h
   by_cases ci:isCall oi=true
   ·simp only [ci,if_true] at h
    obtain ⟨φ,h1,h2,h3⟩:=h
    obtain ⟨v0,hv0⟩:=noisy_inh mC iC h2
    by_cases aj:isAlloc oj=true
    ·simp only [aj,if_true] at h3 ⊢
     obtain ⟨obj,k1,_⟩:=h3 v0 hv0
     have k1':=(lj _ _).1 k1
     refine ⟨obj,k1',fun p hp hpn hpi=>?_⟩
     rw [if_pos (by rw [wi];exact wiT),if_pos ci]
     refine ⟨φ,h1,fun w hw=>(ni _ _ _).2 (h2 w hw.1),fun v hvi=>?_⟩
     obtain ⟨obj',k2,k3⟩:=h3 v (hvi.imp fun w hw=>⟨hw.1.1,hw.2⟩)
     have:=laysObj_inj k1' ((lj _ _).1 k2)
     subst this
     have k4:=k3 p hp hpn (hvi.imp fun w hw=>⟨⟨hw.1.1,hw.2⟩,hw.1.2⟩)
     rw [pc] at k4
     exact hK _ _ _ _ _ (monoW_heap (monoW_and mC h1 v) p _) (monoW_and (monoW_heap mC p _) h1 v) hvi (fun w hw=>⟨⟨hw.1.1,hw.2⟩,hw.1.2⟩) (fun _ hx=>hx) k4
    ·simp only [aj,if_false,Bf] at h3 ⊢
     have cj:¬ isCall oj=true:=fun hc=>hcc ci hc
     by_cases wjT:Region.wanted oj (yielded ops a.tmps)=true
     ·simp only [wj,wjT,if_true,cj,if_false,Bf] at h3 ⊢
      obtain ⟨u,k1,_⟩:=h3 v0 hv0
      have k1':=(rj _ _).1 k1
      refine ⟨u,k1', ?_⟩
      rw [if_pos (by rw [wi];exact wiT),if_pos ci]
      refine ⟨φ,h1,fun w hw=>(ni _ _ _).2 (h2 w hw),fun v hvi=>?_⟩
      obtain ⟨u',k2,k3⟩:=h3 v hvi
      have:=readsAt_inj h0 k1' ((rj _ _).1 k2)
      subst this
      rw [pc] at k3
      exact k3
     ·simp only [wj,wjT,if_false,Bf] at h3 ⊢
      rw [if_pos (by rw [wi];exact wiT),if_pos ci]
      refine ⟨φ,h1,fun w hw=>(ni _ _ _).2 (h2 w hw),fun v hvi=>?_⟩
      have k3:=h3 v hvi
      rw [pc] at k3
      exact k3
   ·simp only [ci,if_false,Bf] at h
    obtain ⟨v,h1,h2⟩:=h
    by_cases aj:isAlloc oj=true
    ·simp only [aj,if_true] at h2 ⊢
     obtain ⟨obj,k1,k2⟩:=h2
     refine ⟨obj,(lj _ _).1 k1,fun p hp hpn hpi=>?_⟩
     rw [if_pos (by rw [wi];exact wiT),if_neg ci]
     have k3:=k2 p hp hpn hpi
     rw [pc] at k3
     exact ⟨v,(ri _ _).2 h1,k3⟩
    ·simp only [aj,if_false,Bf] at h2 ⊢
     by_cases wjT:Region.wanted oj (yielded ops a.tmps)=true
     ·simp only [wj,wjT,if_true] at h2 ⊢
      by_cases cj:isCall oj=true
      ·simp only [cj,if_true] at h2 ⊢
       obtain ⟨φ,k1,k2,k3⟩:=h2
       refine ⟨φ,k1,fun w hw=>(nj _ _ _).1 (k2 w hw),fun u hui=>?_⟩
       rw [if_pos (by rw [wi];exact wiT),if_neg ci]
       have k4:=k3 u hui
       rw [pc] at k4
       exact ⟨v,(ri _ _).2 h1,k4⟩
      ·simp only [cj,if_false,Bf] at h2 ⊢
       obtain ⟨u,k1,k2⟩:=h2
       refine ⟨u,(rj _ _).1 k1, ?_⟩
       rw [if_pos (by rw [wi];exact wiT),if_neg ci]
       rw [pc] at k2
       exact ⟨v,(ri _ _).2 h1,k2⟩
     ·simp only [wj,wjT,if_false,Bf] at h2 ⊢
      rw [if_pos (by rw [wi];exact wiT),if_neg ci]
      rw [pc] at h2
      exact ⟨v,(ri _ _).2 h1,h2⟩
  ·simp only [wiT,if_false,Bf] at h
   by_cases aj:isAlloc oj=true
   ·simp only [aj,if_true] at h ⊢
    obtain ⟨obj,k1,k2⟩:=h
    refine ⟨obj,(lj _ _).1 k1,fun p hp hpn hpi=>?_⟩
    rw [if_neg (by rw [wi];exact wiT)]
    have k3:=k2 p hp hpn hpi
    rw [pc] at k3
    exact k3
   ·simp only [aj,if_false,Bf] at h ⊢
    by_cases wjT:Region.wanted oj (yielded ops a.tmps)=true
    ·simp only [wj,wjT,if_true] at h ⊢
     by_cases cj:isCall oj=true
     ·simp only [cj,if_true] at h ⊢
      obtain ⟨φ,k1,k2,k3⟩:=h
      refine ⟨φ,k1,fun w hw=>(nj _ _ _).1 (k2 w hw),fun u hui=>?_⟩
      rw [if_neg (by rw [wi];exact wiT)]
      have k4:=k3 u hui
      rw [pc] at k4
      exact k4
     ·simp only [cj,if_false,Bf] at h ⊢
      obtain ⟨u,k1,k2⟩:=h
      refine ⟨u,(rj _ _).1 k1, ?_⟩
      rw [if_neg (by rw [wi];exact wiT)]
      rw [pc] at k2
      exact k2
    ·simp only [wj,wjT,if_false,Bf] at h ⊢
     rw [if_neg (by rw [wi];exact wiT)]
     rw [pc] at h
     exact h
theorem mixOp_swap {C0:World→Prop} {B i j:Nat} {oi oj:Oper} {C:World→Prop} {ps:List Nat} {a:Act} {K:Kont} {w0:World} (hi:ops[i]?=some oi) (hj:ops[j]?=some oj) (h0:C0 w0)
  (hap:oi.apart ops oj=true) (hsi:∀ cs b,oi.op ≠ .select cs b) (hsj:∀ cs b,oj.op ≠ .select cs b) (hcc:isCall oi=true→isCall oj=true→False) (haa:isAlloc oi=true→isAlloc oj=true)
  (hK:Into K K) (mC:MonoW C) (iC:Inh C) (h:mixOp P ops C0 B i C ps a (fun D qs b=>mixOp P ops C0 B j D qs b K)):mixOp P ops C0 B j C ps a (fun D qs b=>mixOp P ops C0 B i D qs b K):=by
 unfold mixOp at *
 simp only [hi,hj] at *
 exact mix_swap h0 hap hsi hsj hcc haa hK mC iC h
def waits (md:Region.Mode) (ops:Array Oper):Nat→Nat→Nat→Bool
 | 0,_,_=>false
 | f+1,j,i=>match ops[j]? with
  | some o=>(o.after.any fun e=>e.on == i && Region.binds md e) || (o.after.any fun e=>Region.binds md e && waits md ops f e.on i)
  | none=>false
def Closed (md:Region.Mode) (ops:Array Oper) (listed:Array Bool):Prop :=
 ∀ j oj,ops[j]?=some oj→listed.getD j false=true→∀ e∈oj.after,Region.binds md e=true→listed.getD e.on false=true
theorem Closed.set {listed:Array Bool} (h:Closed md ops listed) {i:Nat} (hi:i∈Region.ready md ops listed):Closed md ops (listed.setIfInBounds i true):=by
 obtain ⟨_,oi,hoi,hall⟩:=mem_ready.1 hi
 intro j oj hj hl e he hb
 by_cases hij:i=j
 ·subst hij
  have:oj=oi:=Option.some.inj (hj.symm.trans hoi)
  subst this
  exact getD_set_true (hall e he hb)
 ·rw [getD_set_ne false hij] at hl
  exact getD_set_true (h j oj hj hl e he hb)
theorem waits_listed {listed:Array Bool} (hc:Closed md ops listed):∀ (f j i:Nat),waits md ops f j i=true→(∀ o,ops[j]?=some o→∀ e∈o.after,Region.binds md e=true→listed.getD e.on false=true) →
  listed.getD i false=true
 | 0,_,_,h,_=>by simp [waits] at h
 | f+1,j,i,h,hall=>by
  unfold waits at h
  split at h
  ·rename_i o ho
   rcases (Bool.or_eq_true _ _).mp h with h | h
   ·obtain ⟨e,he,hb⟩:=Array.any_eq_true'.1 h
    simp only [Bool.and_eq_true,beq_iff_eq] at hb
    have hl:=hall o ho e he hb.2
    rw [←hb.1];exact hl
   ·obtain ⟨e,he,hb⟩:=Array.any_eq_true'.1 h
    simp only [Bool.and_eq_true] at hb
    have hl:=hall o ho e he hb.1
    exact waits_listed hc f e.on i hb.2 (fun o' ho' e' he' hb'=>hc e.on o' ho' hl e' he' hb')
  ·cases h
theorem not_ready_of_waits {listed:Array Bool} (hc:Closed md ops listed) {f j i:Nat} (h:waits md ops f j i=true) (hi:listed.getD i false=false):j∉Region.ready md ops listed:=by
 intro hr
 obtain ⟨_,o,ho,hall⟩:=mem_ready.1 hr
 have:=waits_listed hc f j i h (fun o' ho' e he hb=>by
  have:o'=o:=Option.some.inj (ho'.symm.trans ho)
  subst this
  exact hall e he hb)
 rw [hi] at this
 cases this
def mixFree (md:Region.Mode) (ops:Array Oper) (n:Nat) (listed:Array Bool) (i:Nat):Bool :=
 match ops[i]? with
 | none=>false
 | some oi=>(List.range ops.size).all fun j=>j == i || listed.getD j true || match ops[j]? with
   | some oj=>(((decide (j < n) || isLate oi) && oi.apart ops oj && !(isCall oi && isCall oj) && (!isAlloc oi || isAlloc oj)) || waits md ops ops.size j i) && (!isLate oi || (oj.after.any fun e=>Region.binds md e && e.on == i) || oi.apart ops oj)
   | none=>true
theorem getD_tf {listed:Array Bool} {i:Nat} (hi:i < listed.size) (h:listed.getD i true=false):listed.getD i false=false:=by
 simp [hi] at h ⊢;exact h
theorem mix_first {C0:World→Prop} {B n i:Nat} {oi:Oper} {L:Array Bool→(World→Prop)→Act→Prop} {w0:World} (h0:C0 w0) (hL:∀ listed C C' a,(∀ w,C' w→C w)→L listed C a→L listed C' a)
  (hi:ops[i]?=some oi) (hin:i < n) (hsel:Region.noSelect ops=true) (hdone:∀ listed C a,L listed C a→∀ j∈Region.ready md ops listed,n≤j) :
  ∀ (f:Nat) (listed:Array Bool) (C:World→Prop) (ps:List Nat) (a:Act),MonoW C→Inh C→listed.size=ops.size→Closed md ops listed →
   (∀ j oj,ops[j]?=some oj→j≠i→listed.getD j true=false→((∃ g,waits md ops g j i=true)∨((j < n∨isLate oi=true)∧oi.apart ops oj=true∧(isCall oi=true→isCall oj=true→False)∧(isAlloc oi=true→isAlloc oj=true)))∧(isLate oi=true→(∀ e∈oj.after,Region.binds md e=true→e.on≠i)→oi.apart ops oj=true)) →
   i∈Region.ready md ops listed→mixOp P ops C0 B i C ps a (AnyM P md ops C0 B n L f (listed.setIfInBounds i true))→AnyM P md ops C0 B n L (f+1) listed C ps a:=by
 intro f
 have sel:=Region.noSelect_spec hsel
 have second:∀ (listed:Array Bool),listed.size=ops.size→Closed md ops listed →
   (∀ j oj,ops[j]?=some oj→j≠i→listed.getD j true=false→((∃ g,waits md ops g j i=true)∨((j < n∨isLate oi=true)∧oi.apart ops oj=true∧(isCall oi=true→isCall oj=true→False)∧(isAlloc oi=true→isAlloc oj=true)))∧(isLate oi=true→(∀ e∈oj.after,Region.binds md e=true→e.on≠i)→oi.apart ops oj=true)) →
   i∈Region.ready md ops listed→((Region.ready md ops listed≠[]∧∀ i∈Region.ready md ops listed,i < n)∨∃ i∈Region.ready md ops listed,i < n∧lateAt md ops listed i):=by
  intro listed hsz hc hfree hr
  have hun:=(mem_ready.1 hr).1
  have hun':listed.getD i false=false:=getD_tf (by rw [hsz];exact (Array.getElem?_eq_some_iff.1 hi).1) hun
  by_cases hl:isLate oi=true
  ·exact .inr ⟨i,hr,hin,oi,hi,hl,fun j oj hj hne hju hno=>(hfree j oj hj hne hju).2 hl hno⟩
  ·refine .inl ⟨fun h=>(by rw [h] at hr;cases hr),fun j hj=>?_⟩
   by_cases hji:j=i
   ·subst hji;exact hin
   ·obtain ⟨hjun,oj,hoj,_⟩:=mem_ready.1 hj
    rcases (hfree j oj hoj hji hjun).1 with ⟨g,hg⟩ | ⟨hjn,_⟩
    ·exact absurd hj (not_ready_of_waits hc hg hun')
    ·exact hjn.resolve_right hl
 induction f with
 | zero =>
  intro listed C ps a mC iC hsz hc hfree hr H
  have hun:=(mem_ready.1 hr).1
  have hun':listed.getD i false=false:=getD_tf (by rw [hsz];exact (Array.getElem?_eq_some_iff.1 hi).1) hun
  refine ⟨fun j hj hjn=>?_,second listed hsz hc hfree hr⟩
  by_cases hji:j=i
  ·subst hji;exact H
  ·exfalso
   obtain ⟨hjun,oj,hoj,_⟩:=mem_ready.1 hj
   rcases (hfree j oj hoj hji hjun).1 with ⟨g,hg⟩ | ⟨_,_⟩
   ·exact not_ready_of_waits hc hg hun' hj
   ·-- the continuation at fuel 0 says that nothing below n is ready behind i
    have hj':=ready_mono hj hji
    have key:∀ D qs b,¬ AnyM P md ops C0 B n L 0 (listed.setIfInBounds i true) D qs b:=fun D qs b h=>by
     have:=hdone _ _ _ h j hj'
     omega
    unfold mixOp mixStep at H
    simp only [hi] at H
    split at H
    ·obtain ⟨obj,_,h2⟩:=H
     obtain ⟨p0,hB0,hn0,hin0⟩:=fresh_world mC iC obj B ps
     exact key _ _ _ (h2 p0 hB0 hn0 hin0)
    ·split at H
     ·split at H
      ·obtain ⟨φ,_,hno,h3⟩:=H
       obtain ⟨v0,hv0⟩:=noisy_inh mC iC hno
       exact key _ _ _ (h3 v0 hv0)
      ·obtain ⟨v,_,h2⟩:=H
       exact key _ _ _ h2
     ·exact key _ _ _ H
 | succ f ih =>
  intro listed C ps a mC iC hsz hc hfree hr H
  have hun:=(mem_ready.1 hr).1
  have hun':listed.getD i false=false:=getD_tf (by rw [hsz];exact (Array.getElem?_eq_some_iff.1 hi).1) hun
  refine ⟨fun j hj hjn=>?_,second listed hsz hc hfree hr⟩
  by_cases hji:j=i
  ·subst hji;exact H
  ·obtain ⟨hjun,oj,hoj,hall⟩:=mem_ready.1 hj
   rcases (hfree j oj hoj hji hjun).1 with ⟨g,hg⟩ | ⟨_,hap,hcc,haa⟩
   ·exact absurd hj (not_ready_of_waits hc hg hun')
   ·have H1:mixOp P ops C0 B i C ps a (fun D qs b=>mixOp P ops C0 B j D qs b (AnyM P md ops C0 B n L f ((listed.setIfInBounds i true).setIfInBounds j true))) :=
     mixOp_mono mC mC iC (fun _ h=>h) (fun _ h=>h) (fun D D' qs qs' b mD mD' iD hD hq hk=>by
      have h2:=hk.1 j (ready_mono hj hji) hjn
      exact mixOp_mono mD mD' iD hD hq (AnyM_mono hL f _) h2) H
    have H2:=mixOp_swap (P:=P) hi hoj h0 hap (fun cs b=>sel i oi cs b hi) (fun cs b=>sel j oj cs b hoj) hcc haa (AnyM_mono hL f _) mC iC H1
    refine mixOp_mono mC mC iC (fun _ h=>h) (fun _ h=>h) (fun D D' qs qs' b mD mD' iD hD hq hk=>?_) H2
    refine AnyM_mono hL (f+1) _ D D' qs qs' b mD mD' iD hD hq ?_
    refine ih (listed.setIfInBounds j true) D qs b mD (iD.imp hD) (by simp [hsz]) (hc.set hj) (fun k ok hk' hki hkun=>?_) (ready_mono hr (Ne.symm hji)) ?_
    ·have hk2:listed.getD k true=false:=by
      by_cases hjk:j=k
      ·subst hjk;exact hjun
      ·rw [getD_set_ne true hjk] at hkun;exact hkun
     exact hfree k ok hk' hki hk2
    ·rw [Array.setIfInBounds_comm _ _ hji]
     exact hk
def lexMix (md:Region.Mode) (ops:Array Oper) (n g:Nat):List Nat→Array Bool→Bool
 | [],listed=>Region.seqB md ops g n listed
 | i::r,listed=>(Region.ready md ops listed).contains i && decide (i < n) && mixFree md ops n listed i && lexMix md ops n g r (listed.setIfInBounds i true)
theorem mixFree_spec {n i:Nat} {oi:Oper} {listed:Array Bool} (hi:ops[i]?=some oi) (h:mixFree md ops n listed i=true) (j:Nat) (oj:Oper) (hj:ops[j]?=some oj) (hne:j≠i)
  (hun:listed.getD j true=false):((∃ g,waits md ops g j i=true)∨((j < n∨isLate oi=true)∧oi.apart ops oj=true∧(isCall oi=true→isCall oj=true→False)∧(isAlloc oi=true→isAlloc oj=true))) ∧
   (isLate oi=true→(∀ e∈oj.after,Region.binds md e=true→e.on≠i)→oi.apart ops oj=true):=by
 unfold mixFree at h
 simp only [hi,List.all_eq_true,List.mem_range] at h
 have h1:=h j (Array.getElem?_eq_some_iff.1 hj).1
 simp only [hj,Bool.or_eq_true,beq_iff_eq,hne,false_or,hun,Bf,Bool.and_eq_true] at h1
 obtain ⟨h1,h2⟩:=h1
 refine ⟨?_,fun hl hno=>?_⟩
 rotate_left
 ·rcases h2 with (h2 | h2) | h2
  ·rw [hl] at h2;simp at h2
  ·obtain ⟨e,he,hb⟩:=Array.any_eq_true'.1 h2
   simp only [Bool.and_eq_true,beq_iff_eq] at hb
   exact absurd hb.2 (hno e he hb.1)
  ·exact h2
 rcases h1 with h1 | h1
 rotate_left
 ·exact .inl ⟨_,h1⟩
 ·simp only [decide_eq_true_eq,Bool.not_eq_true',Bool.and_eq_false_iff] at h1
  refine .inr ⟨h1.1.1.1,h1.1.1.2,fun hc hd=>?_,fun ha=>?_⟩
  ·rcases h1.1.2 with e | e
   ·rw [hc] at e;cases e
   ·rw [hd] at e;cases e
  ·rcases h1.2 with e | e
   ·rw [ha] at e;cases e
   ·exact e
theorem AnyM_lex {C0:World→Prop} {B n g:Nat} {Lq:(World→Prop)→Act→Prop} {w0:World} (h0:C0 w0) (hLq:∀ C C' a,(∀ w,C' w→C w)→Lq C a→Lq C' a) (hsel:Region.noSelect ops=true) :
  ∀ (idx:List Nat) (l:List Oper) (listed:Array Bool) (C:World→Prop) (ps:List Nat) (a:Act),MonoW C→Inh C→idx.map (fun i=>ops[i]?)=l.map some→listed.size=ops.size→Closed md ops listed →
   lexMix md ops n g idx listed=true→wpMix P ops C0 B Lq l C ps a→AnyM P md ops C0 B n (fun listed' C' a'=>Region.seqB md ops g n listed'=true∧Lq C' a') idx.length listed C ps a
 | [],l,listed,C,ps,a,_,_,hm,_,_,hB,h=>by
  obtain rfl:l=[]:=by cases l <;> simp_all
  exact ⟨by simpa [lexMix] using hB,h⟩
 | i::idx,[],listed,C,ps,a,_,_,hm,_,_,hB,h=>by simp at hm
 | i::idx,o::l,listed,C,ps,a,mC,iC,hm,hsz,hc,hB,h=>by
  simp only [List.map_cons,List.cons.injEq] at hm
  obtain ⟨hi,hm⟩:=hm
  simp only [lexMix,Bool.and_eq_true,decide_eq_true_eq] at hB
  obtain ⟨⟨⟨hr,hin⟩,hf⟩,hB'⟩:=hB
  have hr':i∈Region.ready md ops listed:=by simpa using hr
  have hLL:∀ (listed':Array Bool) (C C':World→Prop) (a:Act),(∀ w,C' w→C w)→(Region.seqB md ops g n listed'=true∧Lq C a)→(Region.seqB md ops g n listed'=true∧Lq C' a):=fun _ C C' a hC h=>⟨h.1,hLq C C' a hC h.2⟩
  refine mix_first (md:=md) (L:=fun listed' C' a'=>Region.seqB md ops g n listed'=true∧Lq C' a') h0 hLL hi hin hsel (fun listed' C' a' hL j hj=>seqB_ready hL.1 j hj) idx.length listed C ps a mC iC hsz hc (fun j oj hj hne hun=>mixFree_spec hi hf j oj hj hne hun) hr' ?_
  unfold mixOp
  simp only [hi]
  refine mixStep_mono mC mC iC (fun _ h=>h) (fun _ h=>h) (fun D D' qs qs' b mD mD' iD hD hq hk=>?_) h
  exact AnyM_mono hLL idx.length _ D D' qs qs' b mD mD' iD hD hq (AnyM_lex h0 hLq hsel idx l (listed.setIfInBounds i true) D qs b mD (iD.imp hD) hm (by simp [hsz]) (hc.set hr') hB' hk)
theorem wpAny_of_AnyM {Q:Exit→Act→World→Prop} (hQ:∀ (c:_) (a:Act) (d:Nat) (v:Value) (w:World),Q (.panic c) (a.put (some d) v) w→Q (.panic c) a w) (hsel:Region.noSelect ops=true) {w0:World} {C0:World→Prop} {B n g:Nat} {L:Array Bool→(World→Prop)→Act→Prop} (hC0:∀ w,Ext w0 w→C0 w) (hB:B≤w0.heap.size)
  (hL:∀ listed C a w,L listed C a→C w→wpAny P md ops Q g listed a w) :
  ∀ (f:Nat) (listed:Array Bool) (C:World→Prop) (ps:List Nat) (a:Act) (w:World),(∀ w w',C w→Ext w w'→C w')→C w→Ext w0 w→(∀ p,p∈ps→p < w.heap.size) →
   AnyM P md ops C0 B n L f listed C ps a→wpAny P md ops Q (f+g) listed a w
 | 0,listed,C,ps,a,w,_,hw,_,_,h=>by rw [Nat.zero_add];exact hL _ _ _ _ h hw
 | f+1,listed,C,ps,a,w,hmono,hw,hext,hps,h=>by
  rw [show f+1+g=(f+g)+1 by omega]
  rcases h.2 with hall | ⟨i,hi,hin,oi,hoi,hl,hfr⟩
  rotate_left
  ·have H:=h.1 i hi hin
   obtain ⟨hpl,hna⟩:=late_plain hl
   unfold mixOp mixStep at H
   simp only [hoi] at H
   rw [if_neg (by rw [hna];exact Bool.false_ne_true)] at H
   have hpan:∀ v c a w,Q (.panic c) (a.put oi.dst v) w→Q (.panic c) a w:=fun v c a w hq=>by
    cases hd:oi.dst with
    | none=>rw [hd] at hq;exact hq
    | some d=>rw [hd] at hq;exact hQ c a d v w hq
   split at H
   ·rename_i hwant
    rw [if_neg (by unfold isCall;rw [hpl];simp)] at H
    obtain ⟨v,h1,h2⟩:=H
    exact wpAny_first hoi (Region.noSelect_spec hsel) (hpan v) (f+g) listed a w hfr hi (.inl ⟨hwant,late_any hl (h1 w (hC0 w hext))⟩)
     (wpAny_of_AnyM hQ hsel hC0 hB hL f _ _ _ _ _ hmono hw hext hps h2)
   ·rename_i hwant
    exact wpAny_first hoi (Region.noSelect_spec hsel) (hpan undef) (f+g) listed a w hfr hi (.inr ⟨by simpa using hwant,rfl⟩)
     (wpAny_of_AnyM hQ hsel hC0 hB hL f _ _ _ _ _ hmono hw hext hps H)
  refine ⟨fun h0=>absurd h0 hall.1,fun i hi=>?_⟩
  have H:=h.1 i hi (hall.2 i hi)
  obtain ⟨_,o,ho,_⟩:=mem_ready.1 hi
  unfold mixOp mixStep at H
  unfold wpOp
  simp only [ho] at H ⊢
  split at H
  ·rename_i ha
   obtain ⟨obj,h1,h2⟩:=H
   have hwant:Region.wanted o (yielded ops a.tmps)=true:=by
    have:o.guard=none:=by unfold isAlloc at ha;split at ha <;> simp_all
    simp [Region.wanted,this]
   rw [if_pos hwant]
   refine .inl ?_
   unfold Oper.wp
   rw [h1 w]
   have hlt:w0.heap.size≤w.heap.size:=hext.size
   have hx:Ext w (w.alloc obj):=(Below.refl _ _).alloc (Nat.le_refl _) obj
   have hm2:∀ u u':World,(C u∧u.heap[w.heap.size]?=some obj)→Ext u u'→(C u'∧u'.heap[w.heap.size]?=some obj):=fun u u' hu hu'=>⟨hmono u u' hu.1 hu',by
    have hlt2:w.heap.size < u.heap.size:=(Array.getElem?_eq_some_iff.1 hu.2).1
    rw [hu'.block _ hlt2];exact hu.2⟩
   have hps2:∀ p,p∈w.heap.size::ps→p < (w.alloc obj).heap.size:=fun p hp=>by
    rcases List.mem_cons.1 hp with rfl | hp
    ·simp
    ·have:=hps p hp;simp;omega
   exact wpAny_of_AnyM hQ hsel hC0 hB hL f _ _ _ _ _ hm2 ⟨hmono w _ hw hx,heap_alloc_new w obj⟩ (Ext.trans hext hx) hps2 (h2 w.heap.size (by omega) (fun hm=>by have:=hps _ hm;omega) ⟨_,hmono w _ hw hx,heap_alloc_new w obj⟩)
  ·split at H
   ·rename_i hwant
    rw [if_pos hwant]
    refine .inl ?_
    split at H
    ·obtain ⟨φ,h1,h2,h3⟩:=H
     have h4:=h2 w hw
     unfold noisyAt at h4
     unfold Oper.wp
     generalize (execOp a.eval o).run P w=r at *
     cases r with
     | halt x y=>simp only [noisyUpon] at h4
     | ok nx w' =>
      cases nx <;> simp only [noisyUpon] at h4 <;> simp only [Oper.upon]
      case value u =>
       exact wpAny_of_AnyM hQ hsel hC0 hB hL f _ _ _ _ _ (fun x x' hx hx'=>⟨hmono x x' hx.1 hx',h1 _ _ _ hx.2 hx'⟩) ⟨hmono w _ hw h4.2,h4.1⟩ (Ext.trans hext h4.2) (fun p hp=>Nat.lt_of_lt_of_le (hps p hp) h4.2.size) (h3 u ⟨_,hmono w _ hw h4.2,h4.1⟩)
      case enter fn args =>
       obtain ⟨e1,hc⟩:=h4
       rw [e1]
       refine hc.mono fun e w'' ⟨v,he,hφ,hx⟩=>?_
       subst he
       exact wpAny_of_AnyM hQ hsel hC0 hB hL f _ _ _ _ _ (fun x x' hx hx'=>⟨hmono x x' hx.1 hx',h1 _ _ _ hx.2 hx'⟩) ⟨hmono w _ hw hx,hφ⟩ (Ext.trans hext hx) (fun p hp=>Nat.lt_of_lt_of_le (hps p hp) hx.size) (h3 v ⟨_,hmono w _ hw hx,hφ⟩)
    ·obtain ⟨v,h1,h2⟩:=H
     unfold Oper.wp
     rw [h1 w (hC0 w hext)]
     exact wpAny_of_AnyM hQ hsel hC0 hB hL f _ _ _ _ _ hmono hw hext hps h2
   ·rename_i hwant
    rw [if_neg hwant]
    exact wpAny_of_AnyM hQ hsel hC0 hB hL f _ _ _ _ _ hmono hw hext hps H
def headIdx (ops:Array Oper) (n:Nat):List Nat:=(List.range n).filter (fun i=>!((ops[i]?).map isAlloc).getD false)++(List.range n).filter (fun i=>((ops[i]?).map isAlloc).getD false)
def headOps (l:List Oper) (n:Nat):List Oper:=(l.take n).filter (fun o=>!isAlloc o)++(l.take n).filter isAlloc
def mixB (ops:Array Oper) (n:Nat):Bool :=
 Region.noSelect ops && decide (n≤ops.size) && lexMix .any ops n (ops.size - n) (headIdx ops n) (Array.replicate ops.size false)
theorem head_map (l:List Oper) (n:Nat) (hn:n≤l.length):(headIdx l.toArray n).map (fun i=>l.toArray[i]?)=(headOps l n).map some:=by
 unfold headIdx headOps
 rw [List.map_append,List.map_append]
 have key:∀ (p:Oper→Bool) (q:Nat→Bool),(∀ i o,l[i]?=some o→q i=p o)→((List.range n).filter q).map (fun i=>l.toArray[i]?)=((l.take n).filter p).map some:=by
  intro p q hq
  have:∀ (m:Nat),m≤l.length→((List.range m).filter q).map (fun i=>l.toArray[i]?)=((l.take m).filter p).map some:=by
   intro m
   induction m with
   | zero=>intro _;simp
   | succ m ih =>
    intro hm
    have hlt:m < l.length:=by omega
    have hget:l[m]?=some l[m]:=List.getElem?_eq_getElem hlt
    rw [List.range_succ,List.filter_append,List.map_append,ih (by omega),List.take_succ_eq_append_getElem hlt,List.filter_append,List.map_append]
    congr 1
    have:=hq m l[m] hget
    simp only [List.filter_cons,List.filter_nil,this]
    split <;> simp [hget]
  exact this n hn
 rw [key (fun o=>!isAlloc o) _ (fun i o hi=>by simp [hi]),key isAlloc _ (fun i o hi=>by simp [hi])]
theorem wp_region_mix {id:Nat} {Q:Exit→Act→World→Prop} (hQ:∀ (c:_) (a:Act) (d:Nat) (v:Value) (w:World),Q (.panic c) (a.put (some d) v) w→Q (.panic c) a w) {a:Act} {w:World} {l:List Oper} (n:Nat) (hm:P.follows .mixedOrders=true) (hB:mixB l.toArray n=true)
  (h:wpMix P l.toArray (Ext w) w.heap.size (fun C a'=>∀ w',C w'→wpList P l.toArray Q (l.drop n) a' w') (headOps l n) (Ext w) [] a):(Code.region id l.toArray true).wp P Q a w:=by
 simp only [mixB,Bool.and_eq_true,decide_eq_true_eq] at hB
 obtain ⟨⟨hsel,hn⟩,hlex⟩:=hB
 have hn':n≤l.length:=by simpa using hn
 have hlen:(headIdx l.toArray n).length=n:=by
  unfold headIdx
  rw [List.length_append]
  have:∀ (q:Nat→Bool) (m:List Nat),(m.filter (fun i=>!q i)).length+(m.filter q).length=m.length:=by
   intro q m
   induction m with
   | nil=>rfl
   | cons x r ih=>simp only [List.filter_cons];cases q x <;> simp <;> omega
  rw [this];simp
 have H:=AnyM_lex (md := .any) (C0:=Ext w) (g:=l.toArray.size - n) (Below.refl _ _) (fun C C' a hC h w' hw'=>h w' (hC w' hw')) hsel (headIdx l.toArray n) (headOps l n) (Array.replicate l.toArray.size false) (Ext w) [] a (fun u u' hu hu'=>Ext.trans hu hu') ⟨w,Below.refl _ _⟩ (head_map l n hn') (by simp)
  (fun j oj _ hl=>(by rw [getD_replicate_false] at hl;cases hl)) hlex h
 refine wp_region_any hm ?_
 have:=wpAny_of_AnyM (P:=P) (md := .any) (ops:=l.toArray) (Q:=Q) hQ hsel (w0:=w) (g:=l.toArray.size - n) (fun _ h=>h) (Nat.le_refl _) (fun listed C a' w' hL hw'=>by
  have:=wpAny_of_seq (md := .any) (Q':=Q) (l.drop n) n listed a' w' (fun j=>by simp [List.getElem?_drop]) (by simpa using hL.1) (hL.2 w' hw')
  simpa using this) _ _ _ _ _ { w with drawn:=w.drawn+1 } (fun u u' hu hu'=>Ext.trans hu hu') ((Below.refl _ w).drew) ((Below.refl _ w).drew) (fun p hp=>by cases hp) H
 rw [hlen,show n+(l.toArray.size - n)=l.toArray.size by simp;omega] at this
 exact this
structure Mx (P:Program) (ops:Array Oper) (C0:World→Prop) (B:Nat) (L:(World→Prop)→Act→Prop) (l:List Oper) (C:World→Prop) (ps:List Nat) (a:Act):Prop where
 out:wpMix P ops C0 B L l C ps a
theorem cell_grown (w:World) (d:Nat) (os:Array Obj) (b o:Nat) (h:b < w.heap.size):(grow (redrawn w d) os).cell? ⟨b,o,none⟩=w.cell? ⟨b,o,none⟩ :=
 (below_regrown w d os).cell (p:=⟨b,o,none⟩) h
theorem wp_region_mix' {id:Nat} {Q:Exit→Act→World→Prop} (hQ:∀ (c:_) (a:Act) (d:Nat) (v:Value) (w:World),Q (.panic c) (a.put (some d) v) w→Q (.panic c) a w) {a:Act} {w:World} {l:List Oper} (n:Nat) (hm:P.follows .mixedOrders=true) (hB:mixB l.toArray n=true)
  (h:(∀ (d:Nat) (os:Array Obj) (b o:Nat),b < w.heap.size→(grow (redrawn w d) os).cell? ⟨b,o,none⟩=w.cell? ⟨b,o,none⟩) →
   Mx P l.toArray (Ext w) w.heap.size (fun C a'=>∀ w',C w'→wpList P l.toArray Q (l.drop n) a' w') (headOps l n) (Ext w) [] a):(Code.region id l.toArray true).wp P Q a w :=
 wp_region_mix hQ n hm hB (h (cell_grown w)).out
theorem Ext.rules {a b:World} (h:Ext a b):(∀ x y:Nat,x < a.heap.size→b.cell? ⟨x,y,none⟩=a.cell? ⟨x,y,none⟩)∧(∀ x y:Nat,x < a.heap.size→b.frozen? ⟨x,y,none⟩=a.frozen? ⟨x,y,none⟩)∧a.heap.size≤b.heap.size :=
 ⟨fun x y hx=>h.cell (p:=⟨x,y,none⟩) hx,fun x y hx=>h.frozen (p:=⟨x,y,none⟩) hx,h.size⟩
section
variable {w:World} {B:Nat} {L:(World→Prop)→Act→Prop} {o:Oper} {rest:List Oper} {C:World→Prop} {ps:List Nat} {a:Act}
theorem wpMix_plain (hal:isAlloc o=false) (hp:isPlain o=true)
  (h:wpQuiet P ops (fun w'=>∃ p:Regrown,w'=grow (redrawn w p.d) p.os) (fun a'=>Mx P ops (Ext w) B L rest C ps a') [o] a):Mx P ops (Ext w) B L (o::rest) C ps a:=by
 refine ⟨?_⟩
 unfold wpMix mixStep
 rw [if_neg (by rw [hal];exact Bool.false_ne_true)]
 unfold wpQuiet at h
 split
 ·rename_i hw
  rw [if_pos hw] at h
  rw [if_neg (by unfold isCall;rw [hp];simp)]
  obtain ⟨v,h1,h2⟩:=h
  refine ⟨v,fun w' hw'=>?_,h2.out⟩
  have h3:=h1 w' (regrown_of_below hw')
  unfold Oper.quietAt at h3
  cases hr:(execOp a.eval o).run P w' with
  | halt x y=>rw [hr] at h3;exact h3.elim
  | ok n y =>
   obtain ⟨x,rfl⟩:=plain_form hp hr
   rw [hr] at h3
   obtain ⟨e1,e2⟩:=h3
   rw [e1,e2]
 ·rename_i hw
  rw [if_neg hw] at h
  exact h.out
theorem wpMix_skip (hal:isAlloc o=false) (hw:Region.wanted o (yielded ops a.tmps)=false) (h:Mx P ops (Ext w) B L rest C ps (a.put o.dst undef)):Mx P ops (Ext w) B L (o::rest) C ps a:=by
 refine ⟨?_⟩
 unfold wpMix mixStep
 rw [if_neg (by rw [hal];exact Bool.false_ne_true),if_neg (by rw [hw];exact Bool.false_ne_true)]
 exact h.out
def Enters (P:Program) (f:FuncId):Prop:=∀ args w,(callFunc f args).run P w = .ok (.enter f args) w
theorem run_call {f:FuncId} {args:Array Operand} {ts:Array TypeId} {ρ:Operand→Value} {vals:Array Value} (hρ:ρ (.func f) = .func (.func f) #[] #[]) (hent:Enters P f) (hop:o.op = .call { callee := .value (.func f),args:=args,argTypes:=ts })
  (ha:args.map ρ=vals) (w:World):(execOp ρ o).run P w = .ok (.enter f vals) w:=by
 unfold execOp
 simp only [hop,resolve,ha,hρ]
 simp only [Deferred.ofValue,Sem.run_bind,Sem.run_pure,Result.andThen_ok,invoke]
 have:=hent vals w
 simpa using this
theorem eval_func (a:Act) (f:FuncId):a.eval (.func f) = .func (.func f) #[] #[]:=rfl
theorem wpMix_call {f:FuncId} {args:Array Operand} {ts:Array TypeId} {vals:Array Value} (φ:Value→World→Prop) (hal:isAlloc o=false) (hop:o.op = .call { callee := .value (.func f),args:=args,argTypes:=ts })
  (hw:Region.wanted o (yielded ops a.tmps)=true) (hent:Enters P f) (hφ:Mono φ) (hc:∀ W,C W→Calls P f vals W fun e w'=>∃ v,e = .returned v∧φ v w'∧Ext W w') (ha:args.toList.map a.eval=vals.toList)
  (h:∀ v,Inh (fun W=>C W∧φ v W)→Mx P ops (Ext w) B L rest (fun W=>C W∧φ v W) ps (a.put o.dst v)):Mx P ops (Ext w) B L (o::rest) C ps a:=by
 refine ⟨?_⟩
 unfold wpMix mixStep
 rw [if_neg (by rw [hal];exact Bool.false_ne_true),if_pos hw,if_pos (by unfold isCall isPlain;rw [hop,hal];rfl)]
 refine ⟨φ,hφ,fun W hW=>?_,fun v hv=>(h v hv).out⟩
 unfold noisyAt
 rw [run_call (eval_func a f) hent hop (show args.map a.eval=vals from Array.ext' (by rw [Array.toList_map];exact ha)) W]
 exact ⟨rfl,hc W hW⟩
theorem wpMix_det {f:FuncId} {args:Array Operand} {ts:Array TypeId} {vals:Array Value} {c:Value} (hal:isAlloc o=false) (hop:o.op = .call { callee := .value (.func f),args:=args,argTypes:=ts })
  (hw:Region.wanted o (yielded ops a.tmps)=true) (hent:Enters P f) (hc:∀ W,C W→Calls P f vals W fun e w'=>e = .returned c∧Ext W w') (ha:args.toList.map a.eval=vals.toList)
  (h:Mx P ops (Ext w) B L rest C ps (a.put o.dst c)):Mx P ops (Ext w) B L (o::rest) C ps a:=by
 refine wpMix_call (fun v _=>v=c) hal hop hw hent (fun v _ _ h _=>h) (fun W hW=>(hc W hW).mono fun e w' ⟨he,hx⟩=>⟨c,he,rfl,hx⟩) ha (fun v hin=>?_)
 obtain ⟨_,_,rfl⟩:=hin
 simpa using h
theorem wpMix_nil (h:L C a):Mx P ops (Ext w) B L [] C ps a:=⟨h⟩
theorem wpMix_alloc (obj:Obj) (hal:isAlloc o=true) (hobj:laysObj P o a obj)
  (h:∀ p,B≤p→p∉ps→Inh (fun W=>C W∧W.heap[p]?=some obj)→Mx P ops (Ext w) B L rest (fun W=>C W∧W.heap[p]?=some obj) (p::ps) (a.put o.dst (layVal o p))):Mx P ops (Ext w) B L (o::rest) C ps a:=by
 refine ⟨?_⟩
 unfold wpMix mixStep
 rw [if_pos hal]
 exact ⟨obj,hobj,fun p h1 h2 h3=>(h p h1 h2 h3).out⟩
end
end
end Go.Proofs.YtikelfmmldafpaaGreat
