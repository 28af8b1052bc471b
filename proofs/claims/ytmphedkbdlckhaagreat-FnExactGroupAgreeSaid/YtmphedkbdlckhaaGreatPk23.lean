/- Regions that draw their order and store a whole result beside reads. -/
import Derived.Test.YtmphedkbdlckhaaGreatPk22
import Derived.Test.YtmphedkbdlckhaaGreatPk9
import Derived.Test.YtmphedkbdlckhaaGreatPk11
namespace Go.Proofs.YtmphedkbdlckhaaGreat
open Go.ChangeShapes Go.WideShapes Go.ChangeAt Go.RowKit Go.Sort
set_option linter.unusedVariables false
set_option linter.unusedSimpArgs false
def relE (B : Nat) : Rm.Rel where
 rel := Ext
 base := B
 refl := ext_refl
 trans _ _ _ h k := Ext.trans h k
 ext _ _ h := h
 size _ _ h := h.size
 keep _ _ h p _ hlt := h.block p hlt
def stored (p : Nat) (obj : Obj) : Option Tmp → Value → World → Prop := fun d _ W => d = none → W.heap[p]? = some obj
section
variable {P : Program} {ops : Array Oper} {w : World} {L : (World → Prop) → Act → Prop} {o : Oper} {rest : List Oper} {C : World → Prop} {ps : List Nat} {a : Act}
end
theorem box_apart {α : Type} {enc : α → List Value} {e T : TypeId} {sz : Nat} {w : World} {B p : Nat} {cs : Array Value} {A : Option Addr} {n c : Nat} {l : List α} (h : w.heap[p]? = some (.cells cs T (0, 0))) (k : Ow enc e sz w B (.slice A n c) l) (hne : T ≠ e) : p ∉ blk A := fun hm => by
 rcases k.2 with ⟨h2, _⟩ | ⟨g, cap, cur, hv, hb, hh, r⟩
 ·simp only [Value.slice.injEq] at h2
  rw [h2.1] at hm
  simp [blk] at hm
 ·simp only [Value.slice.injEq] at hv
  rw [hv.1] at hm
  simp only [blk, Mi] at hm
  subst hm
  rw [h] at hh
  simp only [Option.some.injEq, Obj.cells.injEq] at hh
  exact hne hh.2.1
theorem stop_loadG {P : Program} {ops : Array Oper} {Q : Exit → Act → World → Prop} {l : List Oper} {a : Act} {w : World} {ty : TypeId} {x : Operand} {d : Nat} {rt : TypeId} {pos : String} {af : Array Edge} {gu : Option (Nat × Bool)} {g : Nat} {cs : Array Value} {t : TypeId} {fs : Array Field}
  (hg : w.heap[g]? = some (.cells cs t (0, 0))) (hw : Region.wanted ({ dst := some d, op := .load ty x, type := rt, pos := pos, after := af, guard := gu } : Oper) (yielded ops a.tmps) = true) (hx : a.eval x = .pointer (some ⟨g, 0, none⟩)) (hu : P.underlying ty = some (.struct fs)) (hi : (P.info? ty).map (·.size) = some cs.size)
  (h : wpList P ops Q l (a.put (some d) (.agg cs)) w) : Stop (wpList P ops Q ({ dst := some d, op := .load ty x, type := rt, pos := pos, after := af, guard := gu } :: l) a w) :=
 BigFrame.wpList_want hw fun _ hK => wp_load_row ty x rfl g hx t cs (0, 0) _ hg hu rfl hi (hK _ _ h)
end Go.Proofs.YtmphedkbdlckhaaGreat
