/- Slices of flat structs as lists: a weak reading (Rd) and facts on worlds. No program in sight. -/
import Derived.Test.YtinfkgbgeajphaaMix
import Derived.WalkKit
import Derived.ProofKit
import Derived.WalkSpells
import Derived.WalkLawsBesides
import Derived.Lib.Hide
import Derived.BigQuiet
namespace Go.Proofs.Ytinfkgbgeajphaa
open Go.ChangeShapes Go.WideShapes Go.ChangeAt Go.RowKit Go.Sort
set_option linter.unusedVariables false

/-- the slice value '.slice A l.length c' reads as the list l of structs, each of sz cells -/
def Rd {α : Type} (enc : α → List Value) (sz : Nat) (w : World) (A : Option Addr) (c : Nat) (l : List α) : Prop :=
  l.length ≤ c ∧ c ≤ maxLen ∧ (0 < l.length → ∃ b o, A = some ⟨b, o, none⟩ ∧ b < w.heap.size ∧ ∀ k (h : k < l.length) j u, (enc l[k])[j]? = some u → w.cell? ⟨b, o + k * sz + j, none⟩ = some u)

theorem Rd.keep {α : Type} {enc : α → List Value} {sz : Nat} {w w' : World} {A : Option Addr} {c : Nat} {l : List α} (h : Rd enc sz w A c l) (hb : Ext w w') : Rd enc sz w' A c l := by
  refine ⟨h.1, h.2.1, fun hl => ?_⟩
  obtain ⟨b, o, e, hlt, hc⟩ := h.2.2 hl
  exact ⟨b, o, e, Nat.lt_of_lt_of_le hlt hb.size, fun k hk j u hu => (hb.cell (p := ⟨b, o + k * sz + j, none⟩) hlt).trans (hc k hk j u hu)⟩

theorem ext_refl (w : World) : Ext w w := Below.refl _ _
theorem ext_alloc (w : World) (o : Obj) : Ext w (w.alloc o) := (Below.refl _ _).alloc (Nat.le_refl _) o
theorem ext_to {a b : World} (h : Ext a b) (o : Obj) : Ext a (b.alloc o) := h.alloc h.size o
theorem ext_drew {a b : World} (h : Ext a b) : Ext a b.drew := h.drew
theorem ext_set {a b : World} (h : Ext a b) {p : Addr} (hp : a.heap.size ≤ p.block) (u : Value) : Ext a (b.setCell p u) := Below.setCell h hp u

theorem enters {P : Program} {f : FuncId} {fn : Func} (hf : P.funcs[f]? = some fn) (hn : (fn.name == "runtime.NumGoroutine") = false) (hb : fn.body.isNone = false) : Enters P f := by
  intro args w
  unfold callFunc
  simp only [Sem.run_bind, run_program, Result.andThen_ok, hf, hn, hb, Bool.false_eq_true, if_false, Sem.run_pure]

theorem bx_cell {W : World} {p : Nat} {cs : Array Value} {T : TypeId} (h : W.heap[p]? = some (.cells cs T (0, 0))) : ∀ y, W.cell? ⟨p, y, none⟩ = cs[y]? := fun y => cell_of_row W p y cs T (0, 0) h
theorem bx_frozen {W : World} {p : Nat} {cs : Array Value} {T : TypeId} (h : W.heap[p]? = some (.cells cs T (0, 0))) : ∀ y, W.frozen? ⟨p, y, none⟩ = false := fun y => frozen_of_row W p y cs T h
theorem bx_lt {W : World} {p : Nat} {o : Obj} (h : W.heap[p]? = some o) : p < W.heap.size := (Array.getElem?_eq_some_iff.1 h).1

theorem ret_bool {a b : Bool} (h : a = b) : Ending.returned (.bool a) = .returned (.bool b) := by rw [h]
theorem ret_int {k : IntKind} {a b : Int} (h : a = b) : Ending.returned (.int k a) = .returned (.int k b) := by rw [h]

end Go.Proofs.Ytinfkgbgeajphaa
