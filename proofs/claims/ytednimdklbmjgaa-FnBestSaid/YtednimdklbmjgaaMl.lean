/- The laws' own functions on images and logs: marked, held. -/
import Derived.Test.YtednimdklbmjgaaDm
import Derived.Test.YtednimdklbmjgaaGc
namespace Go.Proofs.Ytednimdklbmjgaa
open Go.ChangeShapes Go.WideShapes Go.ChangeAt Go.RowKit Go.Sort
set_option linter.unusedVariables false
set_option linter.unusedSimpArgs false

/-- the marks of a log -/
def Lg.mk' (k : Int) (b : Int) (l : Lg) : Lg := ⟨b, marksCel k l.cells.length, marksSea (k + 2 * l.cells.length) l.seats.length, marksEnt (k + 2 * l.cells.length + 3 * l.seats.length) l.ents.length⟩
/-- how many they are -/
def Lg.mN (l : Lg) : Int := 2 * l.cells.length + 3 * l.seats.length + 5 * l.ents.length
theorem Lg.mk_cells (k b : Int) (l : Lg) : (l.mk' k b).cells.length = l.cells.length := marksCel_length _ _
theorem Lg.mk_seats (k b : Int) (l : Lg) : (l.mk' k b).seats.length = l.seats.length := marksSea_length _ _
theorem Lg.mk_ents (k b : Int) (l : Lg) : (l.mk' k b).ents.length = l.ents.length := marksEnt_length _ _
theorem Lg.mN_pos (l : Lg) : 0 ≤ l.mN := by unfold Lg.mN; omega
theorem Lg.mN_small (l : Lg) (h : l.small) : l.mN ≤ 10485760 := by obtain ⟨a, b, c⟩ := h; unfold Lg.mN; omega

theorem LgO.nd1 {w : World} {B T : Nat} {a : LAd} {l : Lg} (h : LgO w B T a l) : ∀ k, k ∈ blk a.sA → k ∉ blk a.cA := fun k hk hc => by
  have := h.nd
  unfold LAd.fp at this
  rw [List.append_assoc, List.nodup_append] at this
  exact this.2.2 k hc k (by simp [hk]) rfl
theorem LgO.nd2 {w : World} {B T : Nat} {a : LAd} {l : Lg} (h : LgO w B T a l) : ∀ k, k ∈ blk a.eA → k ∉ blk a.cA := fun k hk hc => by
  have := h.nd
  unfold LAd.fp at this
  rw [List.append_assoc, List.nodup_append] at this
  exact this.2.2 k hc k (by simp [hk]) rfl
theorem LgO.nd3 {w : World} {B T : Nat} {a : LAd} {l : Lg} (h : LgO w B T a l) : ∀ k, k ∈ blk a.eA → k ∉ blk a.sA := fun k hk hc => by
  have := h.nd
  unfold LAd.fp at this
  rw [List.nodup_append] at this
  exact this.2.2 k (by simp [hc]) k hk rfl
theorem fp_c (a : LAd) : ∀ k, k ∈ blk a.cA → k ∈ a.fp := fun k h => by simp [LAd.fp, h]
theorem fp_s (a : LAd) : ∀ k, k ∈ blk a.sA → k ∈ a.fp := fun k h => by simp [LAd.fp, h]
theorem fp_e (a : LAd) : ∀ k, k ∈ blk a.eA → k ∈ a.fp := fun k h => by simp [LAd.fp, h]

/-- the three rows marked one behind the other, other blocks grown between -/
theorem LgO.marked {w v1 w1 v2 w2 v3 w3 : World} {B T : Nat} {a : LAd} {l : Lg} (k b : Int) (h : LgO w B T a l) (x1 : Ext w v1)
    (o1 : Ow Cel.enc 63 2 w1 B (.slice a.cA l.cells.length a.cc) (marksCel k l.cells.length)) (g1 : v1.grownBy w1 (Value.slice a.cA l.cells.length a.cc).ownBlock) (x2 : Ext w1 v2)
    (o2 : Ow Sea.enc 65 3 w2 B (.slice a.sA l.seats.length a.sc) (marksSea (k + 2 * l.cells.length) l.seats.length)) (g2 : v2.grownBy w2 (Value.slice a.sA l.seats.length a.sc).ownBlock) (x3 : Ext w2 v3)
    (o3 : Ow Ent.enc 53 5 w3 B (.slice a.eA l.ents.length a.ec) (marksEnt (k + 2 * l.cells.length + 3 * l.seats.length) l.ents.length)) (g3 : v3.grownBy w3 (Value.slice a.eA l.ents.length a.ec).ownBlock) :
    LgO w3 B T a (l.mk' k b) ∧ Chg w w3 a.fp := by
  have c1 := chg_grown g1
  have c2 := chg_grown g2
  have c3 := chg_grown g3
  have p1 := ((o1.kept x2).chg c2 (fun k hk hm => h.nd1 k hm hk)).kept x3 |>.chg c3 (fun k hk hm => h.nd2 k hm hk)
  have p2 := (o2.kept x3).chg c3 (fun k hk hm => h.nd3 k hm hk)
  refine ⟨⟨?_, ?_, ?_, h.nd, h.top⟩, ?_⟩
  · rw [Lg.mk_cells]; exact p1
  · rw [Lg.mk_seats]; exact p2
  · rw [Lg.mk_ents]; exact o3
  · exact (chg_ext _ x1).trans ((c1.more (fp_c a)).trans ((chg_ext _ x2).trans ((c2.more (fp_s a)).trans ((chg_ext _ x3).trans (c3.more (fp_e a))))))

theorem own_ne {α : Type} {enc : α → List Value} {e : TypeId} {sz : Nat} {w : World} {B : Nat} {A : Option Addr} {n c : Nat} {l : List α} (h : Ow enc e sz w B (.slice A n c) l) {k : Nat} (hk : w.heap.size ≤ k) : (Value.slice A n c).ownBlock ≠ some k := fun he => by
  have := (h.lt k he).2
  omega

abbrev Lg.val (a : LAd) (l : Lg) : Value := .agg #[.int .i64 l.base, .slice a.cA l.cells.length a.cc, .slice a.sA l.seats.length a.sc, .slice a.eA l.ents.length a.ec]
abbrev Lg.obj (a : LAd) (l : Lg) : Obj := .cells #[.int .i64 l.base, .slice a.cA l.cells.length a.cc, .slice a.sA l.seats.length a.sc, .slice a.eA l.ents.length a.ec] 33

end Go.Proofs.Ytednimdklbmjgaa
