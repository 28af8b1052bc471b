/- A region that draws its order, walked once: its operations read, check for nil, call functions, lay new boxes, append and store, all within one relation of worlds; a forced tail ends it. No program in sight. -/
import Derived.Lib.Hide
import Derived.Deep.QuietTactic
import Derived.StillTail
import Derived.Below
import Derived.Laws.Tables
import Derived.Laws.Rows
import Derived.Lib.QuietBelow
set_option maxRecDepth 100000
set_option maxHeartbeats 16000000
set_option linter.unusedVariables false
set_option linter.unusedSimpArgs false
namespace Go.Proofs.YtckfjploafhenaaGreat
open Go.RowKit Go.Sort
theorem Hd {p : Prop} (h : p) : Hid p := Lib.hid h
theorem Sa {α : Type _} (l : List α) (i : Nat) (a : α) : l.toArray.setIfInBounds i a = (l.set i a).toArray := List.setIfInBounds_toArray ..
theorem Sz {α : Type _} {x : α} {xs : List α} {a : α} : (x :: xs).set 0 a = a :: xs := rfl
theorem Ss {α : Type _} {x : α} {xs : List α} {n : Nat} {a : α} : (x :: xs).set (n + 1) a = x :: xs.set n a := rfl
theorem Mi {α : Type _} {a b : α} : a ∈ [b] ↔ a = b := List.mem_singleton
theorem Tc {α : Type _} {a : α} {as : List α} {i : Nat} : (a :: as).take (i + 1) = a :: as.take i := rfl
theorem Dc {α : Type _} {a : α} {l : List α} {i : Nat} : (a :: l).drop (i + 1) = l.drop i := rfl
theorem Tz {α : Type _} {l : List α} : l.take 0 = [] := rfl
theorem Dz {α : Type _} {l : List α} : l.drop 0 = l := rfl
theorem Bf : (false = true) = False := Bool.false_eq_true
abbrev Ext (w w':World):Prop:=Below w.heap.size w w'
theorem Ext.trans {a b c:World} (h:Ext a b) (k:Ext b c):Ext a c:=Below.trans h (k.mono h.size)
def zat (o:Oper):Bool:=match o.op,o.guard with | .alloc _,none=>true | .buildSlice ..,none=>true | _,_=>false
def zen (o:Oper) (p:Nat):Value:=match o.op with | .buildSlice _ n _ => .slice (some ⟨p,0,none⟩) n n | _ => .pointer (some ⟨p,0,none⟩)
def isPlain (o:Oper):Bool:=match o.op with
 | .move _ | .assign _ | .pick .. | .build .. | .load .. | .binOp .. | .unOp .. | .convert .. | .field .. | .fieldAddr .. | .indexAddr .. | .index .. | .slice .. | .extract ..=>true
 | .call { callee := .builtin .len, .. } | .call { callee := .builtin .max, .. } | .call { callee := .builtin .min, .. }=>true
 | _=>false
def zek (o:Oper):Bool:=match o.op with | .move _ | .extract ..=>true | _=>false
theorem late_plain {o:Oper} (h:zek o=true):isPlain o=true/\zat o=false:=by
 obtain ⟨dst,op,type,pos,after,guard⟩:=o;unfold zek at h;cases op <;> simp at h <;> exact ⟨rfl,rfl⟩
section
variable {P:Program} {ops:Array Oper} {md:Region.Mode}
theorem late_any {o:Oper} {ρ:Operand->Value} {w:World} {v:Value} (h:zek o=true) (hr:(execOp ρ o).run P w = .ok (.value v) w):∀ w',(execOp ρ o).run P w' = .ok (.value v) w':=by
 intro w';obtain ⟨dst,op,type,pos,after,guard⟩:=o;unfold zek at h;unfold execOp at *;cases op <;> simp at h
 case move x=>simp only [Sem.run_pure] at *;injection hr with h1 h2;rw [h1]
 case extract t ix =>
  simp only [Sem.run_bind] at *;unfold Instr.extract at *;generalize ρ t=x at *;cases x <;> first | (simp [stuck] at hr;done) | skip
  case tuple vs =>
   dsimp only at *;cases hx:vs[ix]? with
   | none=>simp [hx,stuck] at hr
   | some y=>simp [hx] at hr ⊢;exact hr
def lateAt (md:Region.Mode) (ops:Array Oper) (listed:Array Bool) (i:Nat):Prop :=
 ∃ oi,ops[i]?=some oi/\zek oi=true/\∀ j oj,ops[j]?=some oj->j≠i->listed.getD j true=false->(∀ e∈oj.after,Region.binds md e=true->e.on≠i)->oi.apart ops oj=true
def zeh (P:Program) (o:Oper) (a:Act) (obj:Obj):Prop :=
 ∀ w,(execOp a.eval o).run P w = .ok (.value (zen o w.heap.size)) (w.alloc obj)
def zgd (P:Program) (o:Oper) (a:Act) (C0:World->Prop) (v:Value):Prop:=∀ w,C0 w->(execOp a.eval o).run P w = .ok (.value v) w
theorem v_form {P:Program} {s:Sem Value} {w w':World} {n:Next} (h:Sem.run P (do pure (Next.value (<- s))) w = .ok n w'):∃ x,n = .value x:=by
 simp only [Sem.run_bind] at h;cases hs:s.run P w with
 | halt x y=>rw [hs] at h;cases h
 | ok x y=>rw [hs] at h;simp only [Result.andThen_ok,Sem.run_pure] at h;injection h with h1 h2;exact ⟨x,h1.symm⟩
theorem plain_form {P:Program} {o:Oper} {ρ:Operand->Value} {w w':World} {n:Next} (hp:isPlain o=true) (h:(execOp ρ o).run P w = .ok n w'):∃ x,n = .value x:=by
 obtain ⟨dst,op,type,pos,after,guard⟩:=o;unfold isPlain at hp;unfold execOp at h;cases op <;> simp only [Bf] at hp
 case move x=>simp only [Sem.run_pure] at h;injection h with h1 h2;exact ⟨_,h1.symm⟩
 case assign x=>simp only [Sem.run_pure] at h;injection h with h1 h2;exact ⟨_,h1.symm⟩
 case pick c x y =>
  simp only [Sem.run_bind] at h;cases hs:(asBool (ρ c)).run P w with
  | halt x y=>rw [hs] at h;cases h
  | ok x y=>rw [hs] at h;simp only [Result.andThen_ok,Sem.run_pure] at h;injection h with h1 h2;exact ⟨_,h1.symm⟩
 case call c =>
  obtain ⟨callee,args,argTypes⟩:=c;cases callee with
  | value f=>simp at hp
  | invoke r m=>simp at hp
  | builtin b =>
   simp only [resolve,Sem.run_bind,Sem.run_pure,Result.andThen_ok,invoke] at h;cases b <;> simp at hp <;> (unfold builtin at h;exact v_form h)
 all_goals exact v_form h
def Mono (φ:Value->World->Prop):Prop:=∀ v w w',φ v w->Ext w w'->φ v w'
def Inh (C:World->Prop):Prop:=∃ w,C w
theorem cell_grown (w:World) (d:Nat) (os:Array Obj) (b o:Nat) (h:b < w.heap.size):(grow (redrawn w d) os).cell? ⟨b,o,none⟩=w.cell? ⟨b,o,none⟩ :=
 (below_regrown w d os).cell (p:=⟨b,o,none⟩) h
theorem Ext.rules {a b:World} (h:Ext a b):(∀ x y:Nat,x < a.heap.size->b.cell? ⟨x,y,none⟩=a.cell? ⟨x,y,none⟩)/\(∀ x y:Nat,x < a.heap.size->b.frozen? ⟨x,y,none⟩=a.frozen? ⟨x,y,none⟩)/\a.heap.size<=b.heap.size :=
 ⟨fun x y hx=>h.cell (p:=⟨x,y,none⟩) hx,fun x y hx=>h.frozen (p:=⟨x,y,none⟩) hx,h.size⟩
end
end Go.Proofs.YtckfjploafhenaaGreat
namespace Go.Proofs.YtckfjploafhenaaGreat.Rm
open Go.RowKit Go.Sort
def isApp0 (o:Oper):Bool:=match o.op with | .call { callee := .builtin .append, .. }=>true | .store ..=>true | _=>false
inductive AppK
 | both
 | apps
 | stores
def isApp:AppK->Oper->Bool
 | .both,o=>isApp0 o
 | .apps,o=>match o.op with | .call { callee := .builtin .append, .. }=>true | _=>false
 | .stores,o=>match o.op with | .store ..=>true | _=>false
theorem isApp_0:∀ (k:AppK) (o:Oper),isApp k o=true->isApp0 o=true
 | .both,_,h=>h
 | .apps,o,h=>by
  have h:(match o.op with | .call { callee := .builtin .append, .. }=>true | _=>false)=true:=h
  unfold isApp0;split at h
  ·rename_i he;rw [he]
  ·cases h
 | .stores,o,h=>by
  have h:(match o.op with | .store ..=>true | _=>false)=true:=h
  unfold isApp0;split at h
  ·rename_i he;rw [he]
  ·cases h
structure RelK (k:AppK) where
 rel:World->World->Prop
 base:Nat
 refl:∀ w,rel w w
 trans:∀ a b c,rel a b->rel b c->rel a c
 ext:∀ a b,Ext a b->rel a b
 size:∀ a b,rel a b->a.heap.size<=b.heap.size
 keep:∀ a b,rel a b->∀ p,base<=p->p < a.heap.size->b.heap[p]?=a.heap[p]?
abbrev Rel:=RelK .both
end Go.Proofs.YtckfjploafhenaaGreat.Rm
namespace Go.Proofs.YtckfjploafhenaaGreat
open Go.RowKit Go.Sort
def relE (B:Nat):Rm.Rel where
 rel:=Ext
 base:=B
 refl w:=Below.refl _ w
 trans _ _ _ h k:=Ext.trans h k
 ext _ _ h:=h
 size _ _ h:=h.size
 keep _ _ h p _ hlt:=h.block p hlt
end Go.Proofs.YtckfjploafhenaaGreat
namespace Go.Proofs.YtckfjploafhenaaGreat.Rm
open Go.RowKit Go.Sort
def RelK.app {k:AppK} (_:RelK k) (o:Oper):Bool:=isApp k o
theorem RelK.appc {k:AppK} (R:RelK k) (o:Oper) (h:R.app o=true):isApp0 o=true:=isApp_0 k o h
variable {k:AppK}
def isNil (o:Oper):Bool:=match o.op with | .nilCheck ..=>true | _=>false
def isPlain (o:Oper):Bool:=Go.Proofs.YtckfjploafhenaaGreat.isPlain o || isNil o
theorem late_plain {o:Oper} (h:zek o=true):isPlain o=true/\zat o=false:=⟨by unfold isPlain;rw [(Go.Proofs.YtckfjploafhenaaGreat.late_plain h).1];rfl,(Go.Proofs.YtckfjploafhenaaGreat.late_plain h).2⟩
def zei (R:RelK k) (P:Program) (w:World) (φ:Value->World->Prop):Result Next->Prop
 | .ok (.enter f args) w'=>w'=w/\Calls P f args w (fun e w''=>∃ v,e = .returned v/\φ v w''/\R.rel w w'')
 | .ok (.value v) w'=>φ v w'/\R.rel w w'
 | .ok .skip w'=>φ undef w'/\R.rel w w'
 | _=>False
def zcc (R:RelK k) (P:Program) (o:Oper) (a:Act) (w:World) (φ:Value->World->Prop):Prop:=zei R P w φ ((execOp a.eval o).run P w)
def Mono (R:RelK k) (φ:Value->World->Prop):Prop:=∀ v w w',φ v w->R.rel w w'->φ v w'
def zb5 (R:RelK k) (o:Oper):Bool:=!isPlain o && !zat o && !R.app o
abbrev Bnd:=Nat×(Option Tmp->Value->World->Prop)
section
variable {R:RelK k} {P:Program} {ops:Array Oper} {md:Region.Mode}
abbrev Kont:=(World->Prop)->List Nat->Act->Prop
def MonoW (R:RelK k) (C0 C:World->Prop):Prop:=(∀ w w',C w->R.rel w w'->C w')/\∀ w,C w->C0 w
theorem zbb {C0 C:World->Prop} {φ:Value->World->Prop} (h:MonoW R C0 C) (k:Mono R φ) (v:Value):MonoW R C0 (fun w=>C w/\φ v w):=⟨fun w w' hw hx=>⟨h.1 w w' hw.1 hx,k v w w' hw.2 hx⟩,fun w hw=>h.2 w hw.1⟩
theorem zbw {C0 C:World->Prop} (h:MonoW R C0 C) (p:Nat) (hp:R.base<=p) (obj:Obj):MonoW R C0 (fun w=>C w/\w.heap[p]?=some obj):=⟨fun w w' hw hx =>
 ⟨h.1 w w' hw.1 hx,by rw [R.keep _ _ hx p hp (Array.getElem?_eq_some_iff.1 hw.2).1];exact hw.2⟩,fun w hw=>h.2 w hw.1⟩
def zbh (R:RelK k) (P:Program) (ops:Array Oper) (C0:World->Prop) (B:Bnd) (o:Oper) (C:World->Prop) (ps:List Nat) (a:Act) (K:Kont):Prop :=
 if zat o then ∃ obj,zeh P o a obj/\∀ p,R.base<=p->p∉ps->Inh (fun w=>C w/\w.heap[p]?=some obj)->K (fun w=>C w/\w.heap[p]?=some obj) (p::ps) (a.put o.dst (zen o p))
 else if Region.wanted o (yielded ops a.tmps) then
  if R.app o then Mono R (B.2 o.dst)/\(∀ w,C0 w->zcc R P o a w (B.2 o.dst))/\∀ v,Inh (fun w=>C w/\B.2 o.dst v w)->K (fun w=>C w/\B.2 o.dst v w) ps (a.put o.dst v)
  else if zb5 R o then ∃ φ,Mono R φ/\(∀ w,C w->zcc R P o a w φ)/\∀ v,Inh (fun w=>C w/\φ v w)->K (fun w=>C w/\φ v w) ps (a.put o.dst v)
  else ∃ v,zgd P o a C0 v/\K C ps (a.put o.dst v)
 else K C ps (a.put o.dst undef)
theorem plain_no_app {o:Oper} (h:isPlain o=true):¬ R.app o=true:=fun h3=>by
 have h2:=R.appc o h3;clear h3;obtain ⟨dst,op,type,pos,after,guard⟩:=o;unfold isApp0 at h2;split at h2
 ·rename_i he;simp only at he;subst he;simp [isPlain,isNil,Go.Proofs.YtckfjploafhenaaGreat.isPlain] at h
 ·rename_i he;simp only at he;subst he;simp [isPlain,isNil,Go.Proofs.YtckfjploafhenaaGreat.isPlain] at h
 ·cases h2
def wpMix (R:RelK k) (P:Program) (ops:Array Oper) (C0:World->Prop) (B:Bnd) (L:(World->Prop)->Act->Prop):List Oper->Kont
 | [],C,_,a=>L C a
 | o::rest,C,ps,a=>zbh R P ops C0 B o C ps a (wpMix R P ops C0 B L rest)
def mixOp (R:RelK k) (P:Program) (ops:Array Oper) (C0:World->Prop) (B:Bnd) (i:Nat) (C:World->Prop) (ps:List Nat) (a:Act) (K:Kont):Prop :=
 match ops[i]? with
 | none=>False
 | some o=>zbh R P ops C0 B o C ps a K
def AnyM (R:RelK k) (P:Program) (md:Region.Mode) (ops:Array Oper) (C0:World->Prop) (B:Bnd) (n:Nat) (L:Array Bool->(World->Prop)->Act->Prop):Nat->Array Bool->Kont
 | 0,listed,C,_,a=>L listed C a
 | f+1,listed,C,ps,a=>(∀ i∈Region.ready md ops listed,i < n->mixOp R P ops C0 B i C ps a (AnyM R P md ops C0 B n L f (listed.setIfInBounds i true))) /\
   ((Region.ready md ops listed≠[]/\∀ i∈Region.ready md ops listed,i < n)\/∃ i∈Region.ready md ops listed,i < n/\lateAt md ops listed i)
def Into (R:RelK k) (C0:World->Prop) (K K':Kont):Prop:=∀ D D' qs qs' b,MonoW R C0 D->MonoW R C0 D'->Inh D'->(∀ w,D' w->D w)->(∀ p,p∈qs->p∈qs')->K D qs b->K' D' qs' b
theorem mixStep_mono {C0:World->Prop} {B:Bnd} {o:Oper} {C C':World->Prop} {ps ps':List Nat} {a:Act} {K K':Kont} (mC:MonoW R C0 C) (mC':MonoW R C0 C') (iC:Inh C') (hC:∀ w,C' w->C w) (hp:∀ p,p∈ps->p∈ps')
  (hK:Into R C0 K K') (h:zbh R P ops C0 B o C ps a K):zbh R P ops C0 B o C' ps' a K':=by
 unfold zbh at *;split
 ·rename_i ha;rw [if_pos ha] at h;obtain ⟨obj,h1,h2⟩:=h;refine ⟨obj,h1,fun p hB hn hin=>hK _ _ _ _ _ (zbw mC p hB obj) (zbw mC' p hB obj) hin (fun w hw=>⟨hC w hw.1,hw.2⟩) ?_ (h2 p hB (fun hq=>hn (hp p hq)) (hin.imp fun w hw=>⟨hC w hw.1,hw.2⟩))⟩
  intro q hq;rcases List.mem_cons.1 hq with rfl | hq
  ·exact List.mem_cons_self
  ·exact List.mem_cons_of_mem _ (hp q hq)
 ·rename_i ha;rw [if_neg ha] at h;split
  ·rename_i hw;rw [if_pos hw] at h;split
   ·rename_i hp';rw [if_pos hp'] at h;obtain ⟨h1,h2,h3⟩:=h;exact ⟨h1,h2,fun v hin=>hK _ _ _ _ _ (zbb mC h1 v) (zbb mC' h1 v) hin (fun w hw=>⟨hC w hw.1,hw.2⟩) hp (h3 v (hin.imp fun w hw=>⟨hC w hw.1,hw.2⟩))⟩
   rename_i hp';rw [if_neg hp'] at h;split
   ·rename_i hc;rw [if_pos hc] at h;obtain ⟨φ,h1,h2,h3⟩:=h;exact ⟨φ,h1,fun w hw=>h2 w (hC w hw),fun v hin=>hK _ _ _ _ _ (zbb mC h1 v) (zbb mC' h1 v) hin (fun w hw=>⟨hC w hw.1,hw.2⟩) hp (h3 v (hin.imp fun w hw=>⟨hC w hw.1,hw.2⟩))⟩
   ·rename_i hc;rw [if_neg hc] at h;obtain ⟨v,h1,h2⟩:=h;exact ⟨v,h1,hK _ _ _ _ _ mC mC' iC hC hp h2⟩
  ·rename_i hw;rw [if_neg hw] at h;exact hK _ _ _ _ _ mC mC' iC hC hp h
theorem zh9 {C0:World->Prop} {B:Bnd} {i:Nat} {C C':World->Prop} {ps ps':List Nat} {a:Act} {K K':Kont} (mC:MonoW R C0 C) (mC':MonoW R C0 C') (iC:Inh C') (hC:∀ w,C' w->C w) (hp:∀ p,p∈ps->p∈ps')
  (hK:Into R C0 K K') (h:mixOp R P ops C0 B i C ps a K):mixOp R P ops C0 B i C' ps' a K':=by
 unfold mixOp at *;split
 ·rename_i hi;simp [hi] at h
 ·rename_i o hi;simp only [hi] at h;exact mixStep_mono mC mC' iC hC hp hK h
theorem zgx {C0:World->Prop} {B:Bnd} {n:Nat} {L:Array Bool->(World->Prop)->Act->Prop} (hL:∀ listed C C' a,(∀ w,C' w->C w)->L listed C a->L listed C' a) :
  ∀ (f:Nat) (listed:Array Bool),Into R C0 (AnyM R P md ops C0 B n L f listed) (AnyM R P md ops C0 B n L f listed)
 | 0,listed=>fun C C' _ _ a _ _ _ hC _ h=>hL listed C C' a hC h
 | f+1,listed=>fun C C' ps ps' a mC mC' iC hC hp h =>
  ⟨fun i hi hin=>zh9 mC mC' iC hC hp (zgx hL f _) (h.1 i hi hin),h.2⟩
end
section
variable {R:RelK k} {P:Program} {ops:Array Oper} {md:Region.Mode}
theorem heap_push_inj {w:World} {o o':Obj} (h:w.alloc o=w.alloc o'):o=o':=by
 have h1:=heap_alloc_new w o;rw [h,heap_alloc_new w o'] at h1;injection h1 with h1
 exact h1.symm
theorem zie {o:Oper} {a:Act} {x y:Obj} (h:zeh P o a x) (k:zeh P o a y):x=y:=by
 have w:World:=default;have h1:=h w;rw [k w] at h1;injection h1 with _ h2
 exact (heap_push_inj h2).symm
theorem zig {o:Oper} {a:Act} {C0:World->Prop} {x y:Value} {w:World} (hw:C0 w) (h:zgd P o a C0 x) (k:zgd P o a C0 y):x=y:=by
 have h1:=h w hw;rw [k w hw] at h1;injection h1 with h1
 injection h1 with h1
 exact h1.symm
theorem exists_fresh (B:Nat) (ps:List Nat):∃ p,B<=p/\p∉ps:=by
 refine ⟨B+ps.sum+1,by omega,fun h=>?_⟩
 have:∀ (l:List Nat) (q:Nat),q∈l->q<=l.sum:=by
  intro l;induction l with
  | nil=>intro q hq;cases hq
  | cons x r ih =>
   intro q hq;rcases List.mem_cons.1 hq with rfl | hq
   ·simp
   ·have:=ih q hq;simp;omega
 have:=this ps _ h
 omega
def pad (w:World) (obj:Obj):Nat->World
 | 0=>w
 | n+1=>(pad w obj n).alloc obj
theorem pad_ext (w:World) (obj:Obj):∀ n,Ext w (pad w obj n)/\(pad w obj n).heap.size=w.heap.size+n
 | 0=>⟨Below.refl _ _,rfl⟩
 | n+1=>by
  obtain ⟨h1,h2⟩:=pad_ext w obj n;exact ⟨h1.alloc h1.size obj,by simp [pad,h2];omega⟩
theorem zis {C0 C:World->Prop} (mC:MonoW R C0 C) (iC:Inh C) (obj:Obj) (B:Nat) (ps:List Nat):∃ p,B<=p/\p∉ps/\Inh (fun w=>C w/\w.heap[p]?=some obj):=by
 obtain ⟨w,hw⟩:=iC
 have hle:∀ (l:List Nat) (q:Nat),q∈l->q<=l.sum:=by
  intro l;induction l with
  | nil=>intro q hq;cases hq
  | cons x r ih =>
   intro q hq;rcases List.mem_cons.1 hq with rfl | hq
   ·simp
   ·have:=ih q hq;simp;omega
 obtain ⟨h1,h2⟩:=pad_ext w obj (B+ps.sum+1);have hx:R.rel (pad w obj (B+ps.sum+1)) ((pad w obj (B+ps.sum+1)).alloc obj):=R.ext _ _ ((Below.refl _ _).alloc (Nat.le_refl _) obj)
 refine ⟨(pad w obj (B+ps.sum+1)).heap.size,by omega,fun hm=>?_,_,mC.1 _ _ (mC.1 _ _ hw (R.ext _ _ h1)) hx,heap_alloc_new _ obj⟩
 have:=hle _ _ hm
 omega
theorem noisy_inh {C0 C:World->Prop} {o:Oper} {a:Act} {φ:Value->World->Prop} (mC:MonoW R C0 C) (iC:Inh C) (h:∀ w,C w->zcc R P o a w φ):∃ v,Inh (fun w=>C w/\φ v w):=by
 obtain ⟨w,hw⟩:=iC;have h4:=h w hw;unfold zcc at h4;generalize (execOp a.eval o).run P w=r at *;cases r with
 | halt x y=>simp only [zei] at h4
 | ok nx w' =>
  cases nx <;> simp only [zei] at h4
  case value u=>exact ⟨u,w',mC.1 _ _ hw h4.2,h4.1⟩
  case skip=>exact ⟨undef,w',mC.1 _ _ hw h4.2,h4.1⟩
  case enter fn args =>
   obtain ⟨e1,hc⟩:=h4;obtain ⟨e,w'',fr,⟨v,_,hφ,hx⟩,_⟩:=hc [];exact ⟨v,w'',mC.1 _ _ hw hx,hφ⟩
theorem app_inh {C0 C:World->Prop} {o:Oper} {a:Act} {φ:Value->World->Prop} (mC:MonoW R C0 C) (iC:Inh C) (h:∀ w,C0 w->zcc R P o a w φ):∃ v,Inh (fun w=>C w/\φ v w):=noisy_inh mC iC (fun w hw=>h w (mC.2 w hw))
theorem mix_swap {C0:World->Prop} {B:Bnd} {oi oj:Oper} {C:World->Prop} {ps:List Nat} {a:Act} {K:Kont} {w0:World} (h0:C0 w0)
  (hap:oi.apart ops oj=true) (hsi:∀ cs b,oi.op ≠ .select cs b) (hsj:∀ cs b,oj.op ≠ .select cs b) (hcc:zb5 R oi=true->zb5 R oj=true->False) (haa:zat oi=true->zb5 R oj=true->False) (hpc:R.app oi=true->zb5 R oj=true->False)
  (hK:Into R C0 K K) (mC:MonoW R C0 C) (iC:Inh C) (h:zbh R P ops C0 B oi C ps a (fun D qs b=>zbh R P ops C0 B oj D qs b K)) :
  zbh R P ops C0 B oj C ps a (fun D qs b=>zbh R P ops C0 B oi D qs b K):=by
 obtain ⟨g1,g2,g3⟩:=Oper.apart_spec hap;have ei:∀ u,execOp (a.put oj.dst u).eval oi=execOp a.eval oi:=fun u=>execOp_put oi hsi a oj.dst u g3
 have ej:∀ u,execOp (a.put oi.dst u).eval oj=execOp a.eval oj:=fun u=>execOp_put oj hsj a oi.dst u g1
 have wi:∀ u,Region.wanted oi (yielded ops (a.put oj.dst u).tmps)=Region.wanted oi (yielded ops a.tmps):=fun u=>wanted_put oi a oj.dst u g3
 have wj:∀ u,Region.wanted oj (yielded ops (a.put oi.dst u).tmps)=Region.wanted oj (yielded ops a.tmps):=fun u=>wanted_put oj a oi.dst u g1
 have pc:∀ v u,(a.put oi.dst v).put oj.dst u=(a.put oj.dst u).put oi.dst v:=fun v u=>Act.put_comm a v u g2
 have lj:∀ u obj,zeh P oj (a.put oi.dst u) obj↔zeh P oj a obj:=fun u obj=>by unfold zeh;rw [ej u]
 have li:∀ u obj,zeh P oi (a.put oj.dst u) obj↔zeh P oi a obj:=fun u obj=>by unfold zeh;rw [ei u]
 have rj:∀ u v,zgd P oj (a.put oi.dst u) C0 v↔zgd P oj a C0 v:=fun u v=>by unfold zgd;rw [ej u]
 have ri:∀ u v,zgd P oi (a.put oj.dst u) C0 v↔zgd P oi a C0 v:=fun u v=>by unfold zgd;rw [ei u]
 have nj:∀ u w φ,zcc R P oj (a.put oi.dst u) w φ↔zcc R P oj a w φ:=fun u w φ=>by unfold zcc;rw [ej u]
 have ni:∀ u w φ,zcc R P oi (a.put oj.dst u) w φ↔zcc R P oi a w φ:=fun u w φ=>by unfold zcc;rw [ei u]
 unfold zbh at h ⊢;by_cases ai:zat oi=true
 ·by_cases aj:zat oj=true
  ·simp only [ai,aj,if_true] at h ⊢;obtain ⟨obi,h1,h2⟩:=h;obtain ⟨p0,hB0,hn0,hin0⟩:=zis mC iC obi R.base ps;obtain ⟨obj,k1,_⟩:=h2 p0 hB0 hn0 hin0;have k1':=(lj _ _).1 k1;refine ⟨obj,k1',fun q hq hqn hqi=>⟨obi,(li _ _).2 h1,fun p hp hpn hpi=>?_⟩⟩
   have hp1:p∉ps:=fun hm=>hpn (List.mem_cons_of_mem _ hm)
   have hpq:p≠q:=fun e=>hpn (by rw [e];exact List.mem_cons_self)
   obtain ⟨obj',k2,k3⟩:=h2 p hp hp1 (hpi.imp fun w hw=>⟨hw.1.1,hw.2⟩)
   have:=zie k1' ((lj _ _).1 k2)
   subst this
   have k4 := k3 q hq (fun hm => by rcases List.mem_cons.1 hm with e | hm
                                    · exact hpq e.symm
                                    · exact hqn hm) (hpi.imp fun w hw=>⟨⟨hw.1.1,hw.2⟩,hw.1.2⟩)
   rw [pc] at k4;refine hK _ _ _ _ _ (zbw (zbw mC p (by assumption) obi) q (by assumption) obj) (zbw (zbw mC q (by assumption) obj) p (by assumption) obi) hpi (fun w hw=>⟨⟨hw.1.1,hw.2⟩,hw.1.2⟩) (fun x hx=>?_) k4
   simp only [List.mem_cons] at hx ⊢;rcases hx with hx | hx | hx
   ·exact .inr (.inl hx)
   ·exact .inl hx
   ·exact .inr (.inr hx)
  ·simp only [ai,aj,if_true,if_false,Bf] at h ⊢;obtain ⟨obi,h1,h2⟩:=h;obtain ⟨p0,hB0,hn0,hin0⟩:=zis mC iC obi R.base ps;have cj:¬ zb5 R oj=true:=fun hc=>haa ai hc
   by_cases wjT:Region.wanted oj (yielded ops a.tmps)=true
   ·simp only [wj,wjT,if_true,cj,if_false,Bf] at h2 ⊢;by_cases pj:R.app oj=true
    ·simp only [pj,if_true] at h2 ⊢;obtain ⟨m0,k1,_⟩:=h2 p0 hB0 hn0 hin0;refine ⟨m0,fun w hw=>(nj _ _ _).1 (k1 w hw),fun u hui=>⟨obi,(li _ _).2 h1,fun p hp hpn hpi=>?_⟩⟩
     obtain ⟨_,_,k3⟩:=h2 p hp hpn (hpi.imp fun w hw=>⟨hw.1.1,hw.2⟩)
     have k4:=k3 u (hpi.imp fun w hw=>⟨⟨hw.1.1,hw.2⟩,hw.1.2⟩)
     rw [pc] at k4;exact hK _ _ _ _ _ (zbb (zbw mC p (by assumption) _) m0 u) (zbw (zbb mC m0 u) p (by assumption) _) hpi (fun w hw=>⟨⟨hw.1.1,hw.2⟩,hw.1.2⟩) (fun _ hx=>hx) k4
    ·simp only [pj,if_false,Bf] at h2 ⊢;obtain ⟨v,k1,_⟩:=h2 p0 hB0 hn0 hin0;have k1':=(rj _ _).1 k1;refine ⟨v,k1',obi,(li _ _).2 h1,fun p hp hpn hpi=>?_⟩
     obtain ⟨v',k2,k3⟩:=h2 p hp hpn hpi
     have:=zig h0 k1' ((rj _ _).1 k2)
     subst this;rw [pc] at k3;exact k3
   ·simp only [wj,wjT,if_false,Bf] at h2 ⊢;refine ⟨obi,(li _ _).2 h1,fun p hp hpn hpi=>?_⟩
    have k3:=h2 p hp hpn hpi;rw [pc] at k3;exact k3
 ·simp only [ai,if_false,Bf] at h ⊢;by_cases wiT:Region.wanted oi (yielded ops a.tmps)=true
  ·simp only [wiT,if_true] at h;by_cases pi:R.app oi=true
   ·simp only [pi,if_true] at h;obtain ⟨m1,h2,h3⟩:=h;obtain ⟨v0,hv0⟩:=app_inh mC iC h2;by_cases aj:zat oj=true
    ·simp only [aj,if_true] at h3 ⊢;obtain ⟨obj,k1,_⟩:=h3 v0 hv0;have k1':=(lj _ _).1 k1;refine ⟨obj,k1',fun p hp hpn hpi=>?_⟩
     rw [if_pos (by rw [wi];exact wiT),if_pos pi]
     refine ⟨m1,fun w hw=>(ni _ _ _).2 (h2 w hw),fun v hvi=>?_⟩
     obtain ⟨obj',k2,k3⟩:=h3 v (hvi.imp fun w hw=>⟨hw.1.1,hw.2⟩)
     have:=zie k1' ((lj _ _).1 k2)
     subst this;have k4:=k3 p hp hpn (hvi.imp fun w hw=>⟨⟨hw.1.1,hw.2⟩,hw.1.2⟩)
     rw [pc] at k4;exact hK _ _ _ _ _ (zbw (zbb mC m1 v) p (by assumption) _) (zbb (zbw mC p (by assumption) _) m1 v) hvi (fun w hw=>⟨⟨hw.1.1,hw.2⟩,hw.1.2⟩) (fun _ hx=>hx) k4
    ·simp only [aj,if_false,Bf] at h3 ⊢;have cj:¬ zb5 R oj=true:=fun hc=>hpc pi hc
     by_cases wjT:Region.wanted oj (yielded ops a.tmps)=true
     ·simp only [wj,wjT,if_true,cj,if_false,Bf] at h3 ⊢;by_cases pj:R.app oj=true
      ·simp only [pj,if_true] at h3 ⊢;obtain ⟨m2,k1,_⟩:=h3 v0 hv0;refine ⟨m2,fun w hw=>(nj _ _ _).1 (k1 w hw),fun u hui=>?_⟩
       rw [if_pos (by rw [wi];exact wiT),if_pos pi]
       refine ⟨m1,fun w hw=>(ni _ _ _).2 (h2 w hw),fun v hvi=>?_⟩
       obtain ⟨_,_,k3⟩:=h3 v (hvi.imp fun w hw=>⟨hw.1.1,hw.2⟩)
       have k4:=k3 u (hvi.imp fun w hw=>⟨⟨hw.1.1,hw.2⟩,hw.1.2⟩)
       rw [pc] at k4;exact hK _ _ _ _ _ (zbb (zbb mC m1 v) m2 u) (zbb (zbb mC m2 u) m1 v) hvi (fun w hw=>⟨⟨hw.1.1,hw.2⟩,hw.1.2⟩) (fun _ hx=>hx) k4
      ·simp only [pj,if_false,Bf] at h3 ⊢;obtain ⟨u,k1,_⟩:=h3 v0 hv0;have k1':=(rj _ _).1 k1;refine ⟨u,k1', ?_⟩;rw [if_pos (by rw [wi];exact wiT),if_pos pi]
       refine ⟨m1,fun w hw=>(ni _ _ _).2 (h2 w hw),fun v hvi=>?_⟩
       obtain ⟨u',k2,k3⟩:=h3 v hvi
       have:=zig h0 k1' ((rj _ _).1 k2)
       subst this;rw [pc] at k3;exact k3
     ·simp only [wj,wjT,if_false,Bf] at h3 ⊢;rw [if_pos (by rw [wi];exact wiT),if_pos pi]
      refine ⟨m1,fun w hw=>(ni _ _ _).2 (h2 w hw),fun v hvi=>?_⟩
      have k3:=h3 v hvi;rw [pc] at k3;exact k3
   simp only [pi,if_false,Bf] at h;by_cases ci:zb5 R oi=true
   ·simp only [ci,if_true] at h;obtain ⟨φ,h1,h2,h3⟩:=h;obtain ⟨v0,hv0⟩:=noisy_inh mC iC h2;by_cases aj:zat oj=true
    ·simp only [aj,if_true] at h3 ⊢;obtain ⟨obj,k1,_⟩:=h3 v0 hv0;have k1':=(lj _ _).1 k1;refine ⟨obj,k1',fun p hp hpn hpi=>?_⟩
     rw [if_pos (by rw [wi];exact wiT),if_neg pi,if_pos ci]
     refine ⟨φ,h1,fun w hw=>(ni _ _ _).2 (h2 w hw.1),fun v hvi=>?_⟩
     obtain ⟨obj',k2,k3⟩:=h3 v (hvi.imp fun w hw=>⟨hw.1.1,hw.2⟩)
     have:=zie k1' ((lj _ _).1 k2)
     subst this;have k4:=k3 p hp hpn (hvi.imp fun w hw=>⟨⟨hw.1.1,hw.2⟩,hw.1.2⟩)
     rw [pc] at k4;exact hK _ _ _ _ _ (zbw (zbb mC h1 v) p (by assumption) _) (zbb (zbw mC p (by assumption) _) h1 v) hvi (fun w hw=>⟨⟨hw.1.1,hw.2⟩,hw.1.2⟩) (fun _ hx=>hx) k4
    ·simp only [aj,if_false,Bf] at h3 ⊢;have cj:¬ zb5 R oj=true:=fun hc=>hcc ci hc
     by_cases wjT:Region.wanted oj (yielded ops a.tmps)=true
     ·simp only [wj,wjT,if_true,cj,if_false,Bf] at h3 ⊢;by_cases pj:R.app oj=true
      ·simp only [pj,if_true] at h3 ⊢;obtain ⟨m2,k1,_⟩:=h3 v0 hv0;refine ⟨m2,fun w hw=>(nj _ _ _).1 (k1 w hw),fun u hui=>?_⟩
       rw [if_pos (by rw [wi];exact wiT),if_neg pi,if_pos ci]
       refine ⟨φ,h1,fun w hw=>(ni _ _ _).2 (h2 w hw.1),fun v hvi=>?_⟩
       obtain ⟨_,_,k3⟩:=h3 v (hvi.imp fun w hw=>⟨hw.1.1,hw.2⟩)
       have k4:=k3 u (hvi.imp fun w hw=>⟨⟨hw.1.1,hw.2⟩,hw.1.2⟩)
       rw [pc] at k4;exact hK _ _ _ _ _ (zbb (zbb mC h1 v) m2 u) (zbb (zbb mC m2 u) h1 v) hvi (fun w hw=>⟨⟨hw.1.1,hw.2⟩,hw.1.2⟩) (fun _ hx=>hx) k4
      simp only [pj,if_false,Bf] at h3 ⊢;obtain ⟨u,k1,_⟩:=h3 v0 hv0;have k1':=(rj _ _).1 k1;refine ⟨u,k1', ?_⟩;rw [if_pos (by rw [wi];exact wiT),if_neg pi,if_pos ci]
      refine ⟨φ,h1,fun w hw=>(ni _ _ _).2 (h2 w hw),fun v hvi=>?_⟩
      obtain ⟨u',k2,k3⟩:=h3 v hvi
      have:=zig h0 k1' ((rj _ _).1 k2)
      subst this;rw [pc] at k3;exact k3
     ·simp only [wj,wjT,if_false,Bf] at h3 ⊢;rw [if_pos (by rw [wi];exact wiT),if_neg pi,if_pos ci]
      refine ⟨φ,h1,fun w hw=>(ni _ _ _).2 (h2 w hw),fun v hvi=>?_⟩
      have k3:=h3 v hvi;rw [pc] at k3;exact k3
   ·simp only [ci,if_false,Bf] at h;obtain ⟨v,h1,h2⟩:=h;by_cases aj:zat oj=true
    ·simp only [aj,if_true] at h2 ⊢;obtain ⟨obj,k1,k2⟩:=h2;refine ⟨obj,(lj _ _).1 k1,fun p hp hpn hpi=>?_⟩
     rw [if_pos (by rw [wi];exact wiT),if_neg pi,if_neg ci]
     have k3:=k2 p hp hpn hpi;rw [pc] at k3;exact ⟨v,(ri _ _).2 h1,k3⟩
    ·simp only [aj,if_false,Bf] at h2 ⊢;by_cases wjT:Region.wanted oj (yielded ops a.tmps)=true
     ·simp only [wj,wjT,if_true] at h2 ⊢;by_cases pj:R.app oj=true
      ·simp only [pj,if_true] at h2 ⊢;obtain ⟨m2,k2,k3⟩:=h2;refine ⟨m2,fun w hw=>(nj _ _ _).1 (k2 w hw),fun u hui=>?_⟩
       rw [if_pos (by rw [wi];exact wiT),if_neg pi,if_neg ci]
       have k4:=k3 u hui;rw [pc] at k4;exact ⟨v,(ri _ _).2 h1,k4⟩
      simp only [pj,if_false,Bf] at h2 ⊢;by_cases cj:zb5 R oj=true
      ·simp only [cj,if_true] at h2 ⊢;obtain ⟨φ,k1,k2,k3⟩:=h2;refine ⟨φ,k1,fun w hw=>(nj _ _ _).1 (k2 w hw),fun u hui=>?_⟩
       rw [if_pos (by rw [wi];exact wiT),if_neg pi,if_neg ci]
       have k4:=k3 u hui;rw [pc] at k4;exact ⟨v,(ri _ _).2 h1,k4⟩
      ·simp only [cj,if_false,Bf] at h2 ⊢;obtain ⟨u,k1,k2⟩:=h2;refine ⟨u,(rj _ _).1 k1, ?_⟩;rw [if_pos (by rw [wi];exact wiT),if_neg pi,if_neg ci]
       rw [pc] at k2;exact ⟨v,(ri _ _).2 h1,k2⟩
     ·simp only [wj,wjT,if_false,Bf] at h2 ⊢;rw [if_pos (by rw [wi];exact wiT),if_neg pi,if_neg ci]
      rw [pc] at h2;exact ⟨v,(ri _ _).2 h1,h2⟩
  ·simp only [wiT,if_false,Bf] at h;by_cases aj:zat oj=true
   ·simp only [aj,if_true] at h ⊢;obtain ⟨obj,k1,k2⟩:=h;refine ⟨obj,(lj _ _).1 k1,fun p hp hpn hpi=>?_⟩
    rw [if_neg (by rw [wi];exact wiT)]
    have k3:=k2 p hp hpn hpi;rw [pc] at k3;exact k3
   ·simp only [aj,if_false,Bf] at h ⊢;by_cases wjT:Region.wanted oj (yielded ops a.tmps)=true
    ·simp only [wj,wjT,if_true] at h ⊢;by_cases pj:R.app oj=true
     ·simp only [pj,if_true] at h ⊢;obtain ⟨m2,k2,k3⟩:=h;refine ⟨m2,fun w hw=>(nj _ _ _).1 (k2 w hw),fun u hui=>?_⟩
      rw [if_neg (by rw [wi];exact wiT)]
      have k4:=k3 u hui;rw [pc] at k4;exact k4
     simp only [pj,if_false,Bf] at h ⊢;by_cases cj:zb5 R oj=true
     ·simp only [cj,if_true] at h ⊢;obtain ⟨φ,k1,k2,k3⟩:=h;refine ⟨φ,k1,fun w hw=>(nj _ _ _).1 (k2 w hw),fun u hui=>?_⟩
      rw [if_neg (by rw [wi];exact wiT)]
      have k4:=k3 u hui;rw [pc] at k4;exact k4
     ·simp only [cj,if_false,Bf] at h ⊢;obtain ⟨u,k1,k2⟩:=h;refine ⟨u,(rj _ _).1 k1, ?_⟩;rw [if_neg (by rw [wi];exact wiT)]
      rw [pc] at k2;exact k2
    ·simp only [wj,wjT,if_false,Bf] at h ⊢;rw [if_neg (by rw [wi];exact wiT)]
     rw [pc] at h;exact h
theorem mixOp_swap {C0:World->Prop} {B:Bnd} {i j:Nat} {oi oj:Oper} {C:World->Prop} {ps:List Nat} {a:Act} {K:Kont} {w0:World} (hi:ops[i]?=some oi) (hj:ops[j]?=some oj) (h0:C0 w0)
  (hap:oi.apart ops oj=true) (hsi:∀ cs b,oi.op ≠ .select cs b) (hsj:∀ cs b,oj.op ≠ .select cs b) (hcc:zb5 R oi=true->zb5 R oj=true->False) (haa:zat oi=true->zb5 R oj=true->False) (hpc:R.app oi=true->zb5 R oj=true->False)
  (hK:Into R C0 K K) (mC:MonoW R C0 C) (iC:Inh C) (h:mixOp R P ops C0 B i C ps a (fun D qs b=>mixOp R P ops C0 B j D qs b K)):mixOp R P ops C0 B j C ps a (fun D qs b=>mixOp R P ops C0 B i D qs b K):=by
 unfold mixOp at *;simp only [hi,hj] at *;exact mix_swap h0 hap hsi hsj hcc haa hpc hK mC iC h
def waits (md:Region.Mode) (ops:Array Oper):Nat->Nat->Nat->Bool
 | 0,_,_=>false
 | f+1,j,i=>match ops[j]? with
  | some o=>(o.after.any fun e=>e.on == i && Region.binds md e) || (o.after.any fun e=>Region.binds md e && waits md ops f e.on i)
  | none=>false
def Closed (md:Region.Mode) (ops:Array Oper) (listed:Array Bool):Prop :=
 ∀ j oj,ops[j]?=some oj->listed.getD j false=true->∀ e∈oj.after,Region.binds md e=true->listed.getD e.on false=true
theorem Closed.set {listed:Array Bool} (h:Closed md ops listed) {i:Nat} (hi:i∈Region.ready md ops listed):Closed md ops (listed.setIfInBounds i true):=by
 obtain ⟨_,oi,hoi,hall⟩:=mem_ready.1 hi;intro j oj hj hl e he hb;by_cases hij:i=j
 ·subst hij
  have:oj=oi:=Option.some.inj (hj.symm.trans hoi)
  subst this;exact getD_set_true (hall e he hb)
 ·rw [getD_set_ne false hij] at hl;exact getD_set_true (h j oj hj hl e he hb)
theorem waits_listed {listed:Array Bool} (hc:Closed md ops listed):∀ (f j i:Nat),waits md ops f j i=true->(∀ o,ops[j]?=some o->∀ e∈o.after,Region.binds md e=true->listed.getD e.on false=true) ->
  listed.getD i false=true
 | 0,_,_,h,_=>by simp [waits] at h
 | f+1,j,i,h,hall=>by
  unfold waits at h;split at h
  ·rename_i o ho;rcases (Bool.or_eq_true _ _).mp h with h | h
   ·obtain ⟨e,he,hb⟩:=Array.any_eq_true'.1 h;simp only [Bool.and_eq_true,beq_iff_eq] at hb;have hl:=hall o ho e he hb.2;rw [<-hb.1];exact hl
   ·obtain ⟨e,he,hb⟩:=Array.any_eq_true'.1 h;simp only [Bool.and_eq_true] at hb;have hl:=hall o ho e he hb.1;exact waits_listed hc f e.on i hb.2 (fun o' ho' e' he' hb'=>hc e.on o' ho' hl e' he' hb')
  ·cases h
theorem zd7 {listed:Array Bool} (hc:Closed md ops listed) {f j i:Nat} (h:waits md ops f j i=true) (hi:listed.getD i false=false):j∉Region.ready md ops listed:=by
 intro hr;obtain ⟨_,o,ho,hall⟩:=mem_ready.1 hr
 have:=waits_listed hc f j i h (fun o' ho' e he hb=>by
  have:o'=o:=Option.some.inj (ho'.symm.trans ho)
  subst this
  exact hall e he hb)
 rw [hi] at this;cases this
-- who waits for whom,by masks of bits
theorem waits_up:∀ (f j i:Nat),waits md ops f j i=true->waits md ops (f+1) j i=true
 | 0,_,_,h=>by unfold waits at h;cases h
 | f+1,j,i,h=>by
  unfold waits at h ⊢;cases ho:ops[j]? with
  | none=>simp only [ho] at h;cases h
  | some o =>
   simp only [ho,Bool.or_eq_true,Array.any_eq_true'] at h ⊢;rcases h with ⟨e,h1,h2⟩ | ⟨e,h1,h2⟩
   ·exact .inl ⟨e,h1,h2⟩
   ·rw [Bool.and_eq_true] at h2;exact .inr ⟨e,h1,by rw [Bool.and_eq_true];exact ⟨h2.1,waits_up f _ _ h2.2⟩⟩
theorem waits_le {f j i:Nat} (h:waits md ops f j i=true):∀ g,waits md ops (f+g) j i=true
 | 0=>h
 | g+1=>waits_up _ _ _ (waits_le h g)
def mOf (md:Region.Mode) (ms:List Nat):List Edge->Nat
 | []=>0
 | e::r=>if Region.binds md e=true then (mOf md ms r ||| 2 ^ e.on) ||| ms.getD e.on 0 else mOf md ms r
def masks (md:Region.Mode):List Oper->List Nat->List Nat
 | [],ms=>ms
 | o::r,ms=>masks md r (ms++[mOf md ms o.after.toList])
def MsOk (md:Region.Mode) (ops:Array Oper) (ms:List Nat):Prop:=∀ j m i,ms[j]?=some m->m.testBit i=true->waits md ops (j+1) j i=true
theorem mOf_ok {ms:List Nat} (h:MsOk md ops ms) (i:Nat):∀ (es:List Edge),(mOf md ms es).testBit i=true->∃ e∈es,Region.binds md e=true/\(e.on=i\/waits md ops ms.length e.on i=true)
 | [],hb=>by simp [mOf] at hb
 | e::r,hb=>by
  unfold mOf at hb;split at hb
  ·rename_i he;rw [Nat.testBit_or,Nat.testBit_or,Bool.or_eq_true,Bool.or_eq_true] at hb;rcases hb with (hb | hb) | hb
   ·obtain ⟨x,h1,h2⟩:=mOf_ok h i r hb;exact ⟨x,List.mem_cons_of_mem _ h1,h2⟩
   ·rw [Nat.testBit_two_pow] at hb;exact ⟨e,List.mem_cons_self,he, .inl (by simpa using hb)⟩
   ·refine ⟨e,List.mem_cons_self,he, .inr ?_⟩;cases hm:ms[e.on]? with
    | none=>rw [List.getD_eq_getElem?_getD,hm] at hb;simp at hb
    | some m =>
     rw [List.getD_eq_getElem?_getD,hm] at hb;have h1:=h e.on m i hm hb;have h2:e.on < ms.length:=(List.getElem?_eq_some_iff.1 hm).1;have h3:=waits_le h1 (ms.length - (e.on+1))
     rwa [show e.on+1+(ms.length - (e.on+1))=ms.length by omega] at h3
  ·obtain ⟨x,h1,h2⟩:=mOf_ok h i r hb;exact ⟨x,List.mem_cons_of_mem _ h1,h2⟩
theorem masks_ok:∀ (l:List Oper) (ms:List Nat),MsOk md ops ms->(∀ k o,l[k]?=some o->ops[ms.length+k]?=some o)->MsOk md ops (masks md l ms)
 | [],ms,h,_=>h
 | o::r,ms,h,hl=>by
  unfold masks;refine masks_ok r _ ?_ ?_
  ·intro j m i hj hb;by_cases hlt:j < ms.length
   ·rw [List.getElem?_append_left hlt] at hj;exact h j m i hj hb
   ·rw [List.getElem?_append_right (by omega)] at hj
    by_cases he:j - ms.length=0
    ·rw [he] at hj;simp at hj;subst hj;obtain ⟨e,h1,h2,h3⟩:=mOf_ok h i _ hb;have hj:j=ms.length:=by omega
     subst hj;have ho:=hl 0 o rfl;rw [Nat.add_zero] at ho;unfold waits;simp only [ho,Bool.or_eq_true,Array.any_eq_true',Bool.and_eq_true,beq_iff_eq];rcases h3 with h3 | h3
     ·exact .inl ⟨e,by simpa using h1,h3,h2⟩
     ·exact .inr ⟨e,by simpa using h1,h2,h3⟩
    ·rw [List.getElem?_eq_none (by simp;omega)] at hj
     cases hj
  ·intro k q hk
   have:=hl (k+1) q (by simpa using hk)
   rw [List.length_append];rw [show ms.length + [mOf md ms o.after.toList].length+k=ms.length+(k+1) by simp;omega]
   exact this
def bitOf (mk:List Nat) (j i:Nat):Bool:=(mk.getD j 0).testBit i
theorem bit_waits {l:List Oper} (j i:Nat) (h:bitOf (masks md l []) j i=true):waits md l.toArray l.toArray.size j i=true:=by
 have hok:MsOk md l.toArray (masks md l []):=masks_ok l [] (fun j m i hj=>by simp at hj) (fun k o hk=>by simpa using hk)
 unfold bitOf at h;cases hm:(masks md l [])[j]? with
 | none=>rw [List.getD_eq_getElem?_getD,hm] at h;simp at h
 | some m =>
  rw [List.getD_eq_getElem?_getD,hm] at h;have h1:=hok j m i hm h;by_cases hj:j < l.toArray.size
  ·have:=waits_le h1 (l.toArray.size - (j+1))
   rwa [show j+1+(l.toArray.size - (j+1))=l.toArray.size by omega] at this
  ·unfold waits at h1;rw [Array.getElem?_eq_none (by omega)] at h1
   cases h1
def mixFree (R:RelK k) (md:Region.Mode) (mk:List Nat) (ops:Array Oper) (n:Nat) (listed:Array Bool) (i:Nat):Bool :=
 match ops[i]? with
 | none=>false
 | some oi=>(List.range ops.size).all fun j=>j == i || listed.getD j true || match ops[j]? with
   | some oj=>(bitOf mk j i || ((decide (j < n) || zek oi) && oi.apart ops oj && !(zb5 R oi && zb5 R oj) && !(zat oi && zb5 R oj) && !(R.app oi && zb5 R oj))) && (!zek oi || (oj.after.any fun e=>Region.binds md e && e.on == i) || oi.apart ops oj)
   | none=>true
theorem getD_tf {listed:Array Bool} {i:Nat} (hi:i < listed.size) (h:listed.getD i true=false):listed.getD i false=false:=by
 simp [hi] at h ⊢;exact h
theorem mix_first {C0:World->Prop} {B:Bnd} {n i:Nat} {oi:Oper} {L:Array Bool->(World->Prop)->Act->Prop} {w0:World} (h0:C0 w0) (hL:∀ listed C C' a,(∀ w,C' w->C w)->L listed C a->L listed C' a)
  (hi:ops[i]?=some oi) (hin:i < n) (hsel:Region.noSelect ops=true) (hdone:∀ listed C a,L listed C a->∀ j∈Region.ready md ops listed,n<=j) :
  ∀ (f:Nat) (listed:Array Bool) (C:World->Prop) (ps:List Nat) (a:Act),MonoW R C0 C->Inh C->listed.size=ops.size->Closed md ops listed ->
   (∀ j oj,ops[j]?=some oj->j≠i->listed.getD j true=false->((∃ g,waits md ops g j i=true)\/((j < n\/zek oi=true)/\oi.apart ops oj=true/\(zb5 R oi=true->zb5 R oj=true->False)/\(zat oi=true->zb5 R oj=true->False)/\(R.app oi=true->zb5 R oj=true->False)))/\(zek oi=true->(∀ e∈oj.after,Region.binds md e=true->e.on≠i)->oi.apart ops oj=true)) ->
   i∈Region.ready md ops listed->mixOp R P ops C0 B i C ps a (AnyM R P md ops C0 B n L f (listed.setIfInBounds i true))->AnyM R P md ops C0 B n L (f+1) listed C ps a:=by
 intro f;have sel:=Region.noSelect_spec hsel
 have second:∀ (listed:Array Bool),listed.size=ops.size->Closed md ops listed ->
   (∀ j oj,ops[j]?=some oj->j≠i->listed.getD j true=false->((∃ g,waits md ops g j i=true)\/((j < n\/zek oi=true)/\oi.apart ops oj=true/\(zb5 R oi=true->zb5 R oj=true->False)/\(zat oi=true->zb5 R oj=true->False)/\(R.app oi=true->zb5 R oj=true->False)))/\(zek oi=true->(∀ e∈oj.after,Region.binds md e=true->e.on≠i)->oi.apart ops oj=true)) ->
   i∈Region.ready md ops listed->((Region.ready md ops listed≠[]/\∀ i∈Region.ready md ops listed,i < n)\/∃ i∈Region.ready md ops listed,i < n/\lateAt md ops listed i):=by
  intro listed hsz hc hfree hr;have hun:=(mem_ready.1 hr).1;have hun':listed.getD i false=false:=getD_tf (by rw [hsz];exact (Array.getElem?_eq_some_iff.1 hi).1) hun
  by_cases hl:zek oi=true
  ·exact .inr ⟨i,hr,hin,oi,hi,hl,fun j oj hj hne hju hno=>(hfree j oj hj hne hju).2 hl hno⟩
  ·refine .inl ⟨fun h=>(by rw [h] at hr;cases hr),fun j hj=>?_⟩
   by_cases hji:j=i
   ·subst hji;exact hin
   ·obtain ⟨hjun,oj,hoj,_⟩:=mem_ready.1 hj;rcases (hfree j oj hoj hji hjun).1 with ⟨g,hg⟩ | ⟨hjn,_⟩
    ·exact absurd hj (zd7 hc hg hun')
    ·exact hjn.resolve_right hl
 induction f with
 | zero =>
  intro listed C ps a mC iC hsz hc hfree hr H;have hun:=(mem_ready.1 hr).1;have hun':listed.getD i false=false:=getD_tf (by rw [hsz];exact (Array.getElem?_eq_some_iff.1 hi).1) hun
  refine ⟨fun j hj hjn=>?_,second listed hsz hc hfree hr⟩
  by_cases hji:j=i
  ·subst hji;exact H
  ·exfalso;obtain ⟨hjun,oj,hoj,_⟩:=mem_ready.1 hj;rcases (hfree j oj hoj hji hjun).1 with ⟨g,hg⟩ | ⟨_,_⟩
   ·exact zd7 hc hg hun' hj
   ·-- the continuation at fuel 0 says that nothing below n is ready behind i
    have hj':=ready_mono hj hji
    have key:∀ D qs b,¬ AnyM R P md ops C0 B n L 0 (listed.setIfInBounds i true) D qs b:=fun D qs b h=>by
     have:=hdone _ _ _ h j hj'
     omega
    unfold mixOp zbh at H;simp only [hi] at H;split at H
    ·obtain ⟨obj,_,h2⟩:=H;obtain ⟨p0,hB0,hn0,hin0⟩:=zis mC iC obj R.base ps;exact key _ _ _ (h2 p0 hB0 hn0 hin0)
    ·split at H
     ·split at H
      ·obtain ⟨_,hno,h3⟩:=H;obtain ⟨v0,hv0⟩:=app_inh mC iC hno;exact key _ _ _ (h3 v0 hv0)
      ·split at H
       ·obtain ⟨φ,_,hno,h3⟩:=H;obtain ⟨v0,hv0⟩:=noisy_inh mC iC hno;exact key _ _ _ (h3 v0 hv0)
       ·obtain ⟨v,_,h2⟩:=H;exact key _ _ _ h2
     ·exact key _ _ _ H
 | succ f ih =>
  intro listed C ps a mC iC hsz hc hfree hr H;have hun:=(mem_ready.1 hr).1;have hun':listed.getD i false=false:=getD_tf (by rw [hsz];exact (Array.getElem?_eq_some_iff.1 hi).1) hun
  refine ⟨fun j hj hjn=>?_,second listed hsz hc hfree hr⟩
  by_cases hji:j=i
  ·subst hji;exact H
  ·obtain ⟨hjun,oj,hoj,hall⟩:=mem_ready.1 hj;rcases (hfree j oj hoj hji hjun).1 with ⟨g,hg⟩ | ⟨_,hap,hcc,haa,hpc⟩
   ·exact absurd hj (zd7 hc hg hun')
   ·have H1:mixOp R P ops C0 B i C ps a (fun D qs b=>mixOp R P ops C0 B j D qs b (AnyM R P md ops C0 B n L f ((listed.setIfInBounds i true).setIfInBounds j true))) :=
     zh9 mC mC iC (fun _ h=>h) (fun _ h=>h) (fun D D' qs qs' b mD mD' iD hD hq hk=>by
      have h2:=hk.1 j (ready_mono hj hji) hjn
      exact zh9 mD mD' iD hD hq (zgx hL f _) h2) H
    have H2:=mixOp_swap (P:=P) hi hoj h0 hap (fun cs b=>sel i oi cs b hi) (fun cs b=>sel j oj cs b hoj) hcc haa hpc (zgx hL f _) mC iC H1
    refine zh9 mC mC iC (fun _ h=>h) (fun _ h=>h) (fun D D' qs qs' b mD mD' iD hD hq hk=>?_) H2
    refine zgx hL (f+1) _ D D' qs qs' b mD mD' iD hD hq ?_;refine ih (listed.setIfInBounds j true) D qs b mD (iD.imp hD) (by simp [hsz]) (hc.set hj) (fun k ok hk' hki hkun=>?_) (ready_mono hr (Ne.symm hji)) ?_
    ·have hk2:listed.getD k true=false:=by
      by_cases hjk:j=k
      ·subst hjk;exact hjun
      ·rw [getD_set_ne true hjk] at hkun;exact hkun
     exact hfree k ok hk' hki hk2
    ·rw [Array.setIfInBounds_comm _ _ hji];exact hk
def lexMix (R:RelK k) (md:Region.Mode) (mk:List Nat) (ops:Array Oper) (n g:Nat):List Nat->Array Bool->Bool
 | [],listed=>Region.seqB md ops g n listed
 | i::r,listed=>(Region.ready md ops listed).contains i && decide (i < n) && mixFree R md mk ops n listed i && lexMix R md mk ops n g r (listed.setIfInBounds i true)
theorem mixFree_spec {mk:List Nat} (hmk:∀ j i,bitOf mk j i=true->∃ g,waits md ops g j i=true) {n i:Nat} {oi:Oper} {listed:Array Bool} (hi:ops[i]?=some oi) (h:mixFree R md mk ops n listed i=true) (j:Nat) (oj:Oper) (hj:ops[j]?=some oj) (hne:j≠i)
  (hun:listed.getD j true=false):((∃ g,waits md ops g j i=true)\/((j < n\/zek oi=true)/\oi.apart ops oj=true/\(zb5 R oi=true->zb5 R oj=true->False)/\(zat oi=true->zb5 R oj=true->False)/\(R.app oi=true->zb5 R oj=true->False))) /\
   (zek oi=true->(∀ e∈oj.after,Region.binds md e=true->e.on≠i)->oi.apart ops oj=true):=by
 unfold mixFree at h;simp only [hi,List.all_eq_true,List.mem_range] at h;have h1:=h j (Array.getElem?_eq_some_iff.1 hj).1;simp only [hj,Bool.or_eq_true,beq_iff_eq,hne,false_or,hun,Bf,Bool.and_eq_true] at h1;obtain ⟨h1,h2⟩:=h1;refine ⟨?_,fun hl hno=>?_⟩
 rotate_left
 ·rcases h2 with (h2 | h2) | h2
  ·rw [hl] at h2;simp at h2
  ·obtain ⟨e,he,hb⟩:=Array.any_eq_true'.1 h2;simp only [Bool.and_eq_true,beq_iff_eq] at hb;exact absurd hb.2 (hno e he hb.1)
  ·exact h2
 rcases h1 with h1 | h1
 ·exact .inl (hmk _ _ h1)
 ·simp only [decide_eq_true_eq,Bool.not_eq_true',Bool.and_eq_false_iff] at h1;refine .inr ⟨h1.1.1.1.1,h1.1.1.1.2,fun hc hd=>?_,fun hc hd=>?_,fun hc hd=>?_⟩
  ·rcases h1.1.1.2 with e | e
   ·rw [hc] at e;cases e
   ·rw [hd] at e;cases e
  ·rcases h1.1.2 with e | e
   ·rw [hc] at e;cases e
   ·rw [hd] at e;cases e
  ·rcases h1.2 with e | e
   ·rw [hc] at e;cases e
   ·rw [hd] at e;cases e
theorem AnyM_lex {mk:List Nat} (hmk:∀ j i,bitOf mk j i=true->∃ g,waits md ops g j i=true) {C0:World->Prop} {B:Bnd} {n g:Nat} {Lq:(World->Prop)->Act->Prop} {w0:World} (h0:C0 w0) (hLq:∀ C C' a,(∀ w,C' w->C w)->Lq C a->Lq C' a) (hsel:Region.noSelect ops=true) :
  ∀ (idx:List Nat) (l:List Oper) (listed:Array Bool) (C:World->Prop) (ps:List Nat) (a:Act),MonoW R C0 C->Inh C->idx.map (fun i=>ops[i]?)=l.map some->listed.size=ops.size->Closed md ops listed ->
   lexMix R md mk ops n g idx listed=true->wpMix R P ops C0 B Lq l C ps a->AnyM R P md ops C0 B n (fun listed' C' a'=>Region.seqB md ops g n listed'=true/\Lq C' a') idx.length listed C ps a
 | [],l,listed,C,ps,a,_,_,hm,_,_,hB,h=>by
  obtain rfl:l=[]:=by cases l <;> simp_all
  exact ⟨by simpa [lexMix] using hB,h⟩
 | i::idx,[],listed,C,ps,a,_,_,hm,_,_,hB,h=>by simp at hm
 | i::idx,o::l,listed,C,ps,a,mC,iC,hm,hsz,hc,hB,h=>by
  simp only [List.map_cons,List.cons.injEq] at hm;obtain ⟨hi,hm⟩:=hm;simp only [lexMix,Bool.and_eq_true,decide_eq_true_eq] at hB;obtain ⟨⟨⟨hr,hin⟩,hf⟩,hB'⟩:=hB;have hr':i∈Region.ready md ops listed:=by simpa using hr
  have hLL:∀ (listed':Array Bool) (C C':World->Prop) (a:Act),(∀ w,C' w->C w)->(Region.seqB md ops g n listed'=true/\Lq C a)->(Region.seqB md ops g n listed'=true/\Lq C' a):=fun _ C C' a hC h=>⟨h.1,hLq C C' a hC h.2⟩
  refine mix_first (md:=md) (L:=fun listed' C' a'=>Region.seqB md ops g n listed'=true/\Lq C' a') h0 hLL hi hin hsel (fun listed' C' a' hL j hj=>seqB_ready hL.1 j hj) idx.length listed C ps a mC iC hsz hc (fun j oj hj hne hun=>mixFree_spec hmk hi hf j oj hj hne hun) hr' ?_
  unfold mixOp;simp only [hi];refine mixStep_mono mC mC iC (fun _ h=>h) (fun _ h=>h) (fun D D' qs qs' b mD mD' iD hD hq hk=>?_) h
  exact zgx hLL idx.length _ D D' qs qs' b mD mD' iD hD hq (AnyM_lex hmk h0 hLq hsel idx l (listed.setIfInBounds i true) D qs b mD (iD.imp hD) hm (by simp [hsz]) (hc.set hr') hB' hk)
theorem zb1 {Q:Exit->Act->World->Prop} (hQ:∀ (c:_) (a:Act) (d:Nat) (v:Value) (w:World),Q (.panic c) (a.put (some d) v) w->Q (.panic c) a w) (hsel:Region.noSelect ops=true) {w0:World} {C0:World->Prop} {B:Bnd} {n g:Nat} {L:Array Bool->(World->Prop)->Act->Prop} (hC0:∀ w,R.rel w0 w->C0 w) (hB:R.base<=w0.heap.size)
  (hL:∀ listed C a w,L listed C a->C w->wpAny P md ops Q g listed a w) :
  ∀ (f:Nat) (listed:Array Bool) (C:World->Prop) (ps:List Nat) (a:Act) (w:World),(∀ w w',C w->R.rel w w'->C w')->C w->R.rel w0 w->(∀ p,p∈ps->p < w.heap.size) ->
   AnyM R P md ops C0 B n L f listed C ps a->wpAny P md ops Q (f+g) listed a w
 | 0,listed,C,ps,a,w,_,hw,_,_,h=>by rw [Nat.zero_add];exact hL _ _ _ _ h hw
 | f+1,listed,C,ps,a,w,hmono,hw,hext,hps,h=>by
  rw [show f+1+g=(f+g)+1 by omega]
  rcases h.2 with hall | ⟨i,hi,hin,oi,hoi,hl,hfr⟩
  rotate_left
  ·have H:=h.1 i hi hin;obtain ⟨hpl,hna⟩:=late_plain hl;unfold mixOp zbh at H;simp only [hoi] at H;rw [if_neg (by rw [hna];exact Bool.false_ne_true)] at H
   have hpan:∀ v c a w,Q (.panic c) (a.put oi.dst v) w->Q (.panic c) a w:=fun v c a w hq=>by
    cases hd:oi.dst with
    | none=>rw [hd] at hq;exact hq
    | some d=>rw [hd] at hq;exact hQ c a d v w hq
   split at H
   ·rename_i hwant;rw [if_neg (plain_no_app hpl),if_neg (by unfold zb5;rw [hpl];simp)] at H
    obtain ⟨v,h1,h2⟩:=H
    exact wpAny_first hoi (Region.noSelect_spec hsel) (hpan v) (f+g) listed a w hfr hi (.inl ⟨hwant,late_any hl (h1 w (hC0 w hext))⟩)
     (zb1 hQ hsel hC0 hB hL f _ _ _ _ _ hmono hw hext hps h2)
   ·rename_i hwant
    exact wpAny_first hoi (Region.noSelect_spec hsel) (hpan undef) (f+g) listed a w hfr hi (.inr ⟨by simpa using hwant,rfl⟩)
     (zb1 hQ hsel hC0 hB hL f _ _ _ _ _ hmono hw hext hps H)
  refine ⟨fun h0=>absurd h0 hall.1,fun i hi=>?_⟩
  have H:=h.1 i hi (hall.2 i hi);obtain ⟨_,o,ho,_⟩:=mem_ready.1 hi;unfold mixOp zbh at H;unfold wpOp;simp only [ho] at H ⊢;split at H
  ·rename_i ha;obtain ⟨obj,h1,h2⟩:=H
   have hwant:Region.wanted o (yielded ops a.tmps)=true:=by
    have:o.guard=none:=by unfold zat at ha;split at ha <;> simp_all
    simp [Region.wanted,this]
   rw [if_pos hwant];refine .inl ?_;unfold Oper.wp;rw [h1 w];have hlt:w0.heap.size<=w.heap.size:=R.size _ _ hext;have hx:R.rel w (w.alloc obj):=R.ext _ _ ((Below.refl _ _).alloc (Nat.le_refl _) obj)
   have hm2:∀ u u':World,(C u/\u.heap[w.heap.size]?=some obj)->R.rel u u'->(C u'/\u'.heap[w.heap.size]?=some obj):=fun u u' hu hu'=>⟨hmono u u' hu.1 hu',by
    have hlt2:w.heap.size < u.heap.size:=(Array.getElem?_eq_some_iff.1 hu.2).1
    rw [R.keep _ _ hu' _ (by omega) hlt2];exact hu.2⟩
   have hps2:∀ p,p∈w.heap.size::ps->p < (w.alloc obj).heap.size:=fun p hp=>by
    rcases List.mem_cons.1 hp with rfl | hp
    ·simp
    ·have:=hps p hp;simp;omega
   exact zb1 hQ hsel hC0 hB hL f _ _ _ _ _ hm2 ⟨hmono w _ hw hx,heap_alloc_new w obj⟩ (R.trans _ _ _ hext hx) hps2 (h2 w.heap.size (by omega) (fun hm=>by have:=hps _ hm;omega) ⟨_,hmono w _ hw hx,heap_alloc_new w obj⟩)
  ·split at H
   ·rename_i hwant;rw [if_pos hwant];refine .inl ?_;split at H
    ·obtain ⟨h1,h2,h3⟩:=H;have h4:=h2 w (hC0 w hext);unfold zcc at h4;unfold Oper.wp;generalize (execOp a.eval o).run P w=r at *;cases r with
     | halt x y=>simp only [zei] at h4
     | ok nx w' =>
      cases nx <;> simp only [zei] at h4 <;> simp only [Oper.upon]
      case value u =>
       exact zb1 hQ hsel hC0 hB hL f _ _ _ _ _ (fun x x' hx hx'=>⟨hmono x x' hx.1 hx',h1 _ _ _ hx.2 hx'⟩) ⟨hmono w _ hw h4.2,h4.1⟩ (R.trans _ _ _ hext h4.2) (fun p hp=>Nat.lt_of_lt_of_le (hps p hp) (R.size _ _ h4.2)) (h3 u ⟨_,hmono w _ hw h4.2,h4.1⟩)
      case skip =>
       exact zb1 hQ hsel hC0 hB hL f _ _ _ _ _ (fun x x' hx hx'=>⟨hmono x x' hx.1 hx',h1 _ _ _ hx.2 hx'⟩) ⟨hmono w _ hw h4.2,h4.1⟩ (R.trans _ _ _ hext h4.2) (fun p hp=>Nat.lt_of_lt_of_le (hps p hp) (R.size _ _ h4.2)) (h3 undef ⟨_,hmono w _ hw h4.2,h4.1⟩)
      case enter fn args =>
       obtain ⟨e1,hc⟩:=h4;rw [e1];refine hc.mono fun e w'' ⟨v,he,hφ,hx⟩=>?_
       subst he;exact zb1 hQ hsel hC0 hB hL f _ _ _ _ _ (fun x x' hx hx'=>⟨hmono x x' hx.1 hx',h1 _ _ _ hx.2 hx'⟩) ⟨hmono w _ hw hx,hφ⟩ (R.trans _ _ _ hext hx) (fun p hp=>Nat.lt_of_lt_of_le (hps p hp) (R.size _ _ hx)) (h3 v ⟨_,hmono w _ hw hx,hφ⟩)
    ·split at H
     ·obtain ⟨φ,h1,h2,h3⟩:=H;have h4:=h2 w hw;unfold zcc at h4;unfold Oper.wp;generalize (execOp a.eval o).run P w=r at *;cases r with
      | halt x y=>simp only [zei] at h4
      | ok nx w' =>
       cases nx <;> simp only [zei] at h4 <;> simp only [Oper.upon]
       case value u =>
        exact zb1 hQ hsel hC0 hB hL f _ _ _ _ _ (fun x x' hx hx'=>⟨hmono x x' hx.1 hx',h1 _ _ _ hx.2 hx'⟩) ⟨hmono w _ hw h4.2,h4.1⟩ (R.trans _ _ _ hext h4.2) (fun p hp=>Nat.lt_of_lt_of_le (hps p hp) (R.size _ _ h4.2)) (h3 u ⟨_,hmono w _ hw h4.2,h4.1⟩)
       case skip =>
        exact zb1 hQ hsel hC0 hB hL f _ _ _ _ _ (fun x x' hx hx'=>⟨hmono x x' hx.1 hx',h1 _ _ _ hx.2 hx'⟩) ⟨hmono w _ hw h4.2,h4.1⟩ (R.trans _ _ _ hext h4.2) (fun p hp=>Nat.lt_of_lt_of_le (hps p hp) (R.size _ _ h4.2)) (h3 undef ⟨_,hmono w _ hw h4.2,h4.1⟩)
       case enter fn args =>
        obtain ⟨e1,hc⟩:=h4;rw [e1];refine hc.mono fun e w'' ⟨v,he,hφ,hx⟩=>?_
        subst he;exact zb1 hQ hsel hC0 hB hL f _ _ _ _ _ (fun x x' hx hx'=>⟨hmono x x' hx.1 hx',h1 _ _ _ hx.2 hx'⟩) ⟨hmono w _ hw hx,hφ⟩ (R.trans _ _ _ hext hx) (fun p hp=>Nat.lt_of_lt_of_le (hps p hp) (R.size _ _ hx)) (h3 v ⟨_,hmono w _ hw hx,hφ⟩)
     ·obtain ⟨v,h1,h2⟩:=H;unfold Oper.wp;rw [h1 w (hC0 w hext)];exact zb1 hQ hsel hC0 hB hL f _ _ _ _ _ hmono hw hext hps h2
   ·rename_i hwant;rw [if_neg hwant];exact zb1 hQ hsel hC0 hB hL f _ _ _ _ _ hmono hw hext hps H
def mixB (R:RelK k) (l:List Oper) (n:Nat):Bool :=
 Region.noSelect l.toArray && decide (n<=l.toArray.size) && lexMix R .any (masks .any l []) l.toArray n (l.toArray.size - n) (List.range n) (Array.replicate l.toArray.size false)
theorem head_map (l:List Oper) (n:Nat) (hn:n<=l.length):(List.range n).map (fun i=>l.toArray[i]?)=(l.take n).map some:=by
 apply List.ext_getElem?;intro i;by_cases hi:i < n
 ·simp [hi,show i < l.length by omega]
 ·simp [hi];omega
theorem wp_region_mix (Φ:Option Tmp->Value->World->Prop) {id:Nat} {Q:Exit->Act->World->Prop} (hQ:∀ (c:_) (a:Act) (d:Nat) (v:Value) (w:World),Q (.panic c) (a.put (some d) v) w->Q (.panic c) a w) {a:Act} {w:World} {l:List Oper} (n:Nat) (hb:R.base<=w.heap.size) (hm:P.follows .mixedOrders=true) (hB:mixB R l n=true)
  (h:wpMix R P l.toArray (R.rel w) (w.heap.size,Φ) (fun C a'=>∀ w',C w'->wpList P l.toArray Q (l.drop n) a' w') (l.take n) (R.rel w) [] a):(Code.region id l.toArray true).wp P Q a w:=by
 simp only [mixB,Bool.and_eq_true,decide_eq_true_eq] at hB;obtain ⟨⟨hsel,hn⟩,hlex⟩:=hB;have hn':n<=l.length:=by simpa using hn
 have H:=AnyM_lex (fun j i h=>⟨_,bit_waits j i h⟩) (md := .any) (C0:=R.rel w) (g:=l.toArray.size - n) (R.refl _) (fun C C' a hC h w' hw'=>h w' (hC w' hw')) hsel (List.range n) (l.take n) (Array.replicate l.toArray.size false) (R.rel w) [] a ⟨fun u u' hu hu'=>R.trans _ _ _ hu hu',fun _ h=>h⟩ ⟨w,R.refl _⟩ (head_map l n hn') (by simp)
  (fun j oj _ hl=>(by rw [getD_replicate_false] at hl;cases hl)) hlex h
 refine wp_region_any hm ?_
 have:=zb1 (P:=P) (md := .any) (ops:=l.toArray) (Q:=Q) hQ hsel (w0:=w) (g:=l.toArray.size - n) (B:=(w.heap.size,Φ)) (fun _ h=>h) hb (fun listed C a' w' hL hw'=>by
  have:=wpAny_of_seq (md := .any) (Q':=Q) (l.drop n) n listed a' w' (fun j=>by simp [List.getElem?_drop]) (by simpa using hL.1) (hL.2 w' hw')
  simpa using this) _ _ _ _ _ { w with drawn:=w.drawn+1 } (fun u u' hu hu'=>R.trans _ _ _ hu hu') (R.ext _ _ ((Below.refl _ w).drew)) (R.ext _ _ ((Below.refl _ w).drew)) (fun p hp=>by cases hp) H
 rw [List.length_range,show n+(l.toArray.size - n)=l.toArray.size by simp;omega] at this
 exact this
structure Mx (R:RelK k) (P:Program) (ops:Array Oper) (C0:World->Prop) (B:Bnd) (L:(World->Prop)->Act->Prop) (l:List Oper) (C:World->Prop) (ps:List Nat) (a:Act):Prop where
 out:wpMix R P ops C0 B L l C ps a
theorem wp_region_mix' (Φ:Option Tmp->Value->World->Prop) {id:Nat} {Q:Exit->Act->World->Prop} (hQ:∀ (c:_) (a:Act) (d:Nat) (v:Value) (w:World),Q (.panic c) (a.put (some d) v) w->Q (.panic c) a w) {a:Act} {w:World} {l:List Oper} (n:Nat) (hb:R.base<=w.heap.size) (hm:P.follows .mixedOrders=true) (hB:mixB R l n=true)
  (h:Mx R P l.toArray (R.rel w) (w.heap.size,Φ) (fun C a'=>∀ w',C w'->wpList P l.toArray Q (l.drop n) a' w') (l.take n) (R.rel w) [] a):(Code.region id l.toArray true).wp P Q a w :=
 wp_region_mix Φ hQ n hb hm hB h.out
theorem region_ext (Φ:Option Tmp->Value->World->Prop) {id:Nat} {Q:Exit->Act->World->Prop} (hQ:∀ (c:_) (a:Act) (d:Nat) (v:Value) (w:World),Q (.panic c) (a.put (some d) v) w->Q (.panic c) a w) {a:Act} {w:World} {l:List Oper} (n:Nat) (hm:P.follows .mixedOrders=true) (hB:mixB (relE w.heap.size) l n=true)
  (h:(∀ (d:Nat) (os:Array Obj) (b o:Nat),b < w.heap.size->(grow (redrawn w d) os).cell? ⟨b,o,none⟩=w.cell? ⟨b,o,none⟩) ->
   Mx (relE w.heap.size) P l.toArray (Ext w) (w.heap.size,Φ) (fun C a'=>∀ w',C w'->wpList P l.toArray Q (l.drop n) a' w') (l.take n) (Ext w) [] a):(Code.region id l.toArray true).wp P Q a w :=
 wp_region_mix' (R:=relE w.heap.size) Φ hQ n (Nat.le_refl _) hm hB (h (cell_grown w))
section
variable {w:World} {B:Bnd} {L:(World->Prop)->Act->Prop} {o:Oper} {rest:List Oper} {C:World->Prop} {ps:List Nat} {a:Act}
theorem wpMix_eq (E:World->Prop) (hE:∀ w',R.rel w w'->E w') (hal:zat o=false) (hp0:Go.Proofs.YtckfjploafhenaaGreat.isPlain o=true)
  (h:wpQuiet P ops E (fun a'=>Mx R P ops (R.rel w) B L rest C ps a') [o] a):Mx R P ops (R.rel w) B L (o::rest) C ps a:=by
 have hp:isPlain o=true:=by unfold isPlain;rw [hp0];rfl
 refine ⟨?_⟩;unfold wpMix zbh;rw [if_neg (by rw [hal];exact Bool.false_ne_true)]
 unfold wpQuiet at h;split
 ·rename_i hw;rw [if_pos hw] at h;rw [if_neg (plain_no_app hp),if_neg (by unfold zb5;rw [hp];simp)]
  obtain ⟨v,h1,h2⟩:=h;refine ⟨v,fun w' hw'=>?_,h2.out⟩
  have h3:=h1 w' (hE w' hw');unfold Oper.quietAt at h3;cases hr:(execOp a.eval o).run P w' with
  | halt x y=>rw [hr] at h3;exact h3.elim
  | ok n y =>
   obtain ⟨x,rfl⟩:=plain_form hp0 hr;rw [hr] at h3;obtain ⟨e1,e2⟩:=h3;rw [e1,e2]
 ·rename_i hw;rw [if_neg hw] at h;exact h.out
theorem wpMix_plain (hal:zat o=false) (hp0:Go.Proofs.YtckfjploafhenaaGreat.isPlain o=true)
  (h:wpQuiet P ops (fun _=>True) (fun a'=>Mx R P ops (R.rel w) B L rest C ps a') [o] a):Mx R P ops (R.rel w) B L (o::rest) C ps a:=wpMix_eq _ (fun _ _=>trivial) hal hp0 h
theorem wpMix_quiet {N:Nat} (hal:zat o=false) (hp0:Go.Proofs.YtckfjploafhenaaGreat.isPlain o=true)
  (h:wpQuiet P ops (fun w'=>∃ p:Regrown,w'=grow (redrawn w p.d) p.os) (fun a'=>Mx (relE N) P ops (Ext w) B L rest C ps a') [o] a):Mx (relE N) P ops (Ext w) B L (o::rest) C ps a:=wpMix_eq (R:=relE N) _ (fun _ h=>regrown_of_below h) hal hp0 h
theorem wpMix_nilp {x:Operand} {ad:Addr} (hop:o.op = .nilCheck x) (hw:Region.wanted o (yielded ops a.tmps)=true) (hx:a.eval x = .pointer (some ad))
  (h:Mx R P ops (R.rel w) B L rest C ps (a.put o.dst (.pointer (some ad)))):Mx R P ops (R.rel w) B L (o::rest) C ps a:=by
 refine ⟨?_⟩;unfold wpMix zbh;rw [if_neg (by unfold zat;rw [hop];exact Bool.false_ne_true),if_pos hw,if_neg (fun hq=>by have:=R.appc _ hq;unfold isApp0 at this;rw [hop] at this;cases this),if_neg (by unfold zb5 isPlain isNil;rw [hop];simp)]
 refine ⟨.pointer (some ad),fun W hW=>?_,h.out⟩
 unfold execOp;simp only [hop,hx,Sem.run_pure]
theorem run_loadAgg {W:World} {ty:TypeId} {g o:Nat} {cs:Array Value} {fs:Array Field} (hu:P.underlying ty=some (.struct fs)) (hi:(P.info? ty).map (·.size)=some cs.size) (hc:∀ j v,cs.toList[j]?=some v->W.cell? ⟨g,o+j,none⟩=some v) :
  (loadVar ty ⟨g,o,none⟩).run P W = .ok (.agg cs) W:=by
 have h1:=run_loadCells_list (P:=P) (w:=W) ⟨g,o,none⟩ cs.toList (fun j v h=>by
  have hadd:(⟨g,o,none⟩:Addr).add j=⟨g,o+j,none⟩:=by unfold Addr.add;split <;> simp_all
  rw [hadd];exact hc j v h)
 obtain ⟨ie,hie,hs⟩:=Option.map_eq_some_iff.1 hi;rw [Array.length_toList] at h1
 have hagg:(isAgg ty).run P W = .ok true W:=by
  unfold isAgg;rw [Sem.run_bind,run_underlying hu W]
  simp
 have hti:(typeInfo ty).run P W = .ok ie W:=by simp [typeInfo,hie,go_sem]
 simp [loadVar,hagg,sizeOf,hti,hs,h1,Result.andThen]
theorem wpMix_loadAgg {ty:TypeId} {x:Operand} {g k:Nat} {cs:Array Value} {fs:Array Field} (hc:∀ W,R.rel w W->∀ j v,cs.toList[j]?=some v->W.cell? ⟨g,k+j,none⟩=some v) (hop:o.op = .load ty x) (hw:Region.wanted o (yielded ops a.tmps)=true)
  (hx:a.eval x = .pointer (some ⟨g,k,none⟩)) (hu:P.underlying ty=some (.struct fs)) (hi:(P.info? ty).map (·.size)=some cs.size)
  (h:Mx R P ops (R.rel w) B L rest C ps (a.put o.dst (.agg cs))):Mx R P ops (R.rel w) B L (o::rest) C ps a:=by
 refine ⟨?_⟩;unfold wpMix zbh;rw [if_neg (by unfold zat;rw [hop];exact Bool.false_ne_true),if_pos hw,if_neg (fun hq=>by have:=R.appc _ hq;unfold isApp0 at this;rw [hop] at this;cases this),if_neg (by unfold zb5 isPlain Go.Proofs.YtckfjploafhenaaGreat.isPlain;rw [hop];simp)]
 refine ⟨.agg cs,fun W hW=>?_,h.out⟩
 unfold execOp;simp only [hop,hx,Instr.loadAt,Instr.sureAddr,Sem.run_bind,Sem.run_pure,Result.andThen_ok,run_loadAgg hu hi (hc W hW)]
theorem wpMix_load1 {ty:TypeId} {x:Operand} {g k:Nat} {v:Value} {d:TypeDesc} (hc:∀ W,R.rel w W->W.cell? ⟨g,k,none⟩=some v) (hop:o.op = .load ty x) (hw:Region.wanted o (yielded ops a.tmps)=true)
  (hx:a.eval x = .pointer (some ⟨g,k,none⟩)) (hu:P.underlying ty=some d) (hd:(match d with | .struct _ | .array _ _=>false | _=>true)=true)
  (h:Mx R P ops (R.rel w) B L rest C ps (a.put o.dst v)):Mx R P ops (R.rel w) B L (o::rest) C ps a:=by
 refine ⟨?_⟩;unfold wpMix zbh;rw [if_neg (by unfold zat;rw [hop];exact Bool.false_ne_true),if_pos hw,if_neg (fun hq=>by have:=R.appc _ hq;unfold isApp0 at this;rw [hop] at this;cases this),if_neg (by unfold zb5 isPlain Go.Proofs.YtckfjploafhenaaGreat.isPlain;rw [hop];simp)]
 refine ⟨v,fun W hW=>?_,h.out⟩
 have hagg:(isAgg ty).run P W = .ok false W:=by
  unfold isAgg;rw [Sem.run_bind,run_underlying hu W];cases d <;> simp_all
 unfold execOp;simp only [hop,hx,Instr.loadAt,Instr.sureAddr,Sem.run_bind,Sem.run_pure,Result.andThen_ok,loadVar,hagg,run_load,hc W hW,Bf,if_false]
theorem wpMix_skip (hal:zat o=false) (hw:Region.wanted o (yielded ops a.tmps)=false) (h:Mx R P ops (R.rel w) B L rest C ps (a.put o.dst undef)):Mx R P ops (R.rel w) B L (o::rest) C ps a:=by
 refine ⟨?_⟩;unfold wpMix zbh;rw [if_neg (by rw [hal];exact Bool.false_ne_true),if_neg (by rw [hw];exact Bool.false_ne_true)]
 exact h.out
def Enters (P:Program) (f:FuncId):Prop:=∀ args w,(callFunc f args).run P w = .ok (.enter f args) w
theorem run_call {f:FuncId} {args:Array Operand} {ts:Array TypeId} {ρ:Operand->Value} {vals:Array Value} (hρ:ρ (.func f) = .func (.func f) #[] #[]) (hent:Enters P f) (hop:o.op = .call { callee := .value (.func f),args:=args,argTypes:=ts })
  (ha:args.map ρ=vals) (w:World):(execOp ρ o).run P w = .ok (.enter f vals) w:=by
 unfold execOp;simp only [hop,resolve,ha,hρ];simp only [Deferred.ofValue,Sem.run_bind,Sem.run_pure,Result.andThen_ok,invoke]
 have:=hent vals w
 simpa using this
theorem eval_func (a:Act) (f:FuncId):a.eval (.func f) = .func (.func f) #[] #[]:=rfl
theorem wpMix_call {f:FuncId} {args:Array Operand} {ts:Array TypeId} {vals:Array Value} (φ:Value->World->Prop) (hal:zat o=false) (hop:o.op = .call { callee := .value (.func f),args:=args,argTypes:=ts })
  (hw:Region.wanted o (yielded ops a.tmps)=true) (hent:Enters P f) (hφ:Mono R φ) (hc:∀ W,C W->Calls P f vals W fun e w'=>∃ v,e = .returned v/\φ v w'/\R.rel W w') (ha:args.toList.map a.eval=vals.toList)
  (h:∀ v,Inh (fun W=>C W/\φ v W)->Mx R P ops (R.rel w) B L rest (fun W=>C W/\φ v W) ps (a.put o.dst v)):Mx R P ops (R.rel w) B L (o::rest) C ps a:=by
 refine ⟨?_⟩;unfold wpMix zbh
 rw [if_neg (by rw [hal];exact Bool.false_ne_true),if_pos hw,if_neg (fun hq=>by have:=R.appc _ hq;unfold isApp0 at this;rw [hop] at this;cases this),if_pos (by
  have hna:R.app o=false:=by
   cases hq:R.app o
   ·rfl
   ·have:=R.appc _ hq
    unfold isApp0 at this;rw [hop] at this;cases this
  unfold zb5 isPlain Go.Proofs.YtckfjploafhenaaGreat.isPlain isNil;rw [hna,hop,hal]
  rfl)]
 refine ⟨φ,hφ,fun W hW=>?_,fun v hv=>(h v hv).out⟩
 unfold zcc;rw [run_call (eval_func a f) hent hop (show args.map a.eval=vals from Array.ext' (by rw [Array.toList_map];exact ha)) W]
 exact ⟨rfl,hc W hW⟩
theorem wpMix_det {f:FuncId} {args:Array Operand} {ts:Array TypeId} {vals:Array Value} {c:Value} (hal:zat o=false) (hop:o.op = .call { callee := .value (.func f),args:=args,argTypes:=ts })
  (hw:Region.wanted o (yielded ops a.tmps)=true) (hent:Enters P f) (hc:∀ W,C W->Calls P f vals W fun e w'=>e = .returned c/\R.rel W w') (ha:args.toList.map a.eval=vals.toList)
  (h:Mx R P ops (R.rel w) B L rest C ps (a.put o.dst c)):Mx R P ops (R.rel w) B L (o::rest) C ps a:=by
 refine wpMix_call (fun v _=>v=c) hal hop hw hent (fun v _ _ h _=>h) (fun W hW=>(hc W hW).mono fun e w' ⟨he,hx⟩=>⟨c,he,rfl,hx⟩) ha (fun v hin=>?_)
 obtain ⟨_,_,rfl⟩:=hin;simpa using h
theorem wpMix_app (hal:zat o=false) (happ:R.app o=true) (hw:Region.wanted o (yielded ops a.tmps)=true) (hφ:Mono R (B.2 o.dst)) (hrun:∀ W,R.rel w W->∃ v W',(execOp a.eval o).run P W = .ok (.value v) W'/\B.2 o.dst v W'/\R.rel W W')
  (h:∀ v,Inh (fun W=>C W/\B.2 o.dst v W)->Mx R P ops (R.rel w) B L rest (fun W=>C W/\B.2 o.dst v W) ps (a.put o.dst v)):Mx R P ops (R.rel w) B L (o::rest) C ps a:=by
 refine ⟨?_⟩;unfold wpMix zbh;rw [if_neg (by rw [hal];exact Bool.false_ne_true),if_pos hw,if_pos happ]
 refine ⟨hφ,fun W hW=>?_,fun v hv=>(h v hv).out⟩
 obtain ⟨v,W',hr,h1,h2⟩:=hrun W hW;unfold zcc;rw [hr];exact ⟨h1,h2⟩
theorem wpMix_store (hal:zat o=false) (happ:R.app o=true) (hw:Region.wanted o (yielded ops a.tmps)=true) (hφ:Mono R (B.2 o.dst)) (hrun:∀ W,R.rel w W->∃ W',(execOp a.eval o).run P W = .ok .skip W'/\B.2 o.dst undef W'/\R.rel W W')
  (h:∀ v,Inh (fun W=>C W/\B.2 o.dst v W)->Mx R P ops (R.rel w) B L rest (fun W=>C W/\B.2 o.dst v W) ps (a.put o.dst v)):Mx R P ops (R.rel w) B L (o::rest) C ps a:=by
 refine ⟨?_⟩;unfold wpMix zbh;rw [if_neg (by rw [hal];exact Bool.false_ne_true),if_pos hw,if_pos happ]
 refine ⟨hφ,fun W hW=>?_,fun v hv=>(h v hv).out⟩
 obtain ⟨W',hr,h1,h2⟩:=hrun W hW;unfold zcc;rw [hr];exact ⟨h1,h2⟩
theorem wpMix_storeC {ty:TypeId} {x y:Operand} (φ:Value->World->Prop) (hop:o.op = .store ty x y) (hna:R.app o=false) (hw:Region.wanted o (yielded ops a.tmps)=true) (hφ:Mono R φ) (hrun:∀ W,C W->∃ W',(execOp a.eval o).run P W = .ok .skip W'/\φ undef W'/\R.rel W W')
  (h:∀ v,Inh (fun W=>C W/\φ v W)->Mx R P ops (R.rel w) B L rest (fun W=>C W/\φ v W) ps (a.put o.dst v)):Mx R P ops (R.rel w) B L (o::rest) C ps a:=by
 have hal:zat o=false:=by unfold zat;rw [hop]
 refine ⟨?_⟩;unfold wpMix zbh;rw [if_neg (by rw [hal];exact Bool.false_ne_true),if_pos hw,if_neg (by rw [hna];exact Bool.false_ne_true),if_pos (by unfold zb5 isPlain Go.Proofs.YtckfjploafhenaaGreat.isPlain isNil;rw [hna,hop,hal];rfl)]
 refine ⟨φ,hφ,fun W hW=>?_,fun v hv=>(h v hv).out⟩
 obtain ⟨W',hr,h1,h2⟩:=hrun W hW;unfold zcc;rw [hr];exact ⟨h1,h2⟩
theorem wpMix_appC {args:Array Operand} {ts:Array TypeId} (φ:Value->World->Prop) (hop:o.op = .call { callee := .builtin .append,args:=args,argTypes:=ts }) (hna:R.app o=false) (hw:Region.wanted o (yielded ops a.tmps)=true) (hφ:Mono R φ)
  (hrun:∀ W,C W->∃ v W',(execOp a.eval o).run P W = .ok (.value v) W'/\φ v W'/\R.rel W W')
  (h:∀ v,Inh (fun W=>C W/\φ v W)->Mx R P ops (R.rel w) B L rest (fun W=>C W/\φ v W) ps (a.put o.dst v)):Mx R P ops (R.rel w) B L (o::rest) C ps a:=by
 have hal:zat o=false:=by unfold zat;rw [hop]
 refine ⟨?_⟩;unfold wpMix zbh;rw [if_neg (by rw [hal];exact Bool.false_ne_true),if_pos hw,if_neg (by rw [hna];exact Bool.false_ne_true),if_pos (by unfold zb5 isPlain Go.Proofs.YtckfjploafhenaaGreat.isPlain isNil;rw [hna,hop,hal];rfl)]
 refine ⟨φ,hφ,fun W hW=>?_,fun v hv=>(h v hv).out⟩
 obtain ⟨v,W',hr,h1,h2⟩:=hrun W hW;unfold zcc;rw [hr];exact ⟨h1,h2⟩
theorem more {C0:World->Prop} (h:Mx R P ops C0 B L (o::rest) C ps a):Mx R P ops C0 B L (o::rest) C ps a:=h
theorem wpMix_nil (h:L C a):Mx R P ops (R.rel w) B L [] C ps a:=⟨h⟩
theorem wpMix_alloc (obj:Obj) (hal:zat o=true) (hobj:zeh P o a obj)
  (h:∀ p,R.base<=p->p∉ps->Inh (fun W=>C W/\W.heap[p]?=some obj)->Mx R P ops (R.rel w) B L rest (fun W=>C W/\W.heap[p]?=some obj) (p::ps) (a.put o.dst (zen o p))):Mx R P ops (R.rel w) B L (o::rest) C ps a:=by
 refine ⟨?_⟩;unfold wpMix zbh;rw [if_pos hal];exact ⟨obj,hobj,fun p h1 h2 h3=>(h p h1 h2 h3).out⟩
theorem wpMix_laid {N:Nat} (obj:Obj) (hal:zat o=true) (hobj:zeh P o a obj)
  (h:∀ p,N<=p->p∉ps->Inh (fun W=>C W/\W.heap[p]?=some obj)->Mx (relE N) P ops (Ext w) B L rest (fun W=>C W/\W.heap[p]?=some obj) (p::ps) (a.put o.dst (zen o p))):Mx (relE N) P ops (Ext w) B L (o::rest) C ps a:=wpMix_alloc (R:=relE N) obj hal hobj h
end
end
end Go.Proofs.YtckfjploafhenaaGreat.Rm
