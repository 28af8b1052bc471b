/- Drawn ranges. -/
import Derived.Test.YtinfkgbgeajphaaCur
import Derived.Test.YtinfkgbgeajphaaFlR
import Derived.RegionTactic
import Derived.ChangeAlike
import Derived.BigRegion
import Derived.Deep.RegionWith
namespace Go.Proofs.Ytinfkgbgeajphaa
open Go.ChangeShapes Go.WideShapes Go.ChangeAt Go.RowKit Go.Sort
set_option linter.unusedVariables false
set_option linter.unusedSimpArgs false

def Small (lo hi : Int) : Prop := -100000 ≤ lo ∧ lo ≤ 100000 ∧ -100000 ≤ hi ∧ hi ≤ 100000
def DrawnR (w : World) (P : Nat) (A : Option Addr) (n c : Nat) (e : Ending) (w' : World) : Prop := ∃ lo hi : Int, Small lo hi ∧ e = .returned (.agg #[.int .i64 lo, .int .i64 hi]) ∧ Cur w' P A n c ∧ w.grownBy w' (some P)
theorem grown_setNew {w w' : World} {row : Option Nat} (h : w.grownBy w' row) {p : Addr} (hp : w.heap.size ≤ p.block) (u : Value) : w.grownBy (w'.setCell p u) row :=
  ⟨h.os, h.tape, h.output, by simpa using h.size, fun k hk hne => (Below.heap_setCell _ _ _ _ (by omega)).trans (h.block k hk hne)⟩
theorem Cur.set {w : World} {P : Nat} {A : Option Addr} {n c : Nat} (h : Cur w P A n c) {p : Addr} (hp : P < p.block) (u : Value) : Cur (w.setCell p u) P A n c :=
  h.grown (grown_set (World.grownBy.refl w (some p.block)) rfl) (fun g he => by simp only [Option.some.injEq] at he; omega)
theorem box_drew {w : World} {P : Nat} {o : Obj} (h : w.heap[P]? = some o) : w.drew.heap[P]? = some o := h
theorem grown_drew {w w' : World} {row : Option Nat} (h : w.grownBy w' row) : w.grownBy w'.drew row := ⟨h.os, h.tape, h.output, h.size, h.block⟩
theorem ownsRow_drew {w : World} {B : Nat} {e : TypeId} {sz : Nat} {v : Value} {n : Nat} {xs : List Value} (h : w.ownsRow B e sz v n xs) : w.drew.ownsRow B e sz v n xs := h
theorem ownsRow_less {w : World} {B B' : Nat} {e : TypeId} {sz : Nat} {v : Value} {n : Nat} {xs : List Value} (h : w.ownsRow B e sz v n xs) (hB : B' ≤ B) : w.ownsRow B' e sz v n xs := by
  refine ⟨h.1, ?_⟩
  rcases h.2 with h2 | ⟨g, cap, cur, hv, hb, r⟩
  · exact .inl h2
  · exact .inr ⟨g, cap, cur, hv, by omega, r⟩
theorem grown_alloc {w w' : World} {row : Option Nat} (h : w.grownBy w' row) (o : Obj) : w.grownBy (w'.alloc o) row := grown_trans h (grown_of_ext (ext_alloc _ _))

set_option maxHeartbeats 2000000 in
set_option maxRecDepth 100000 in
theorem c_l10DrawRange (P : Nat) (A : Option Addr) (n c : Nat) (w : World) (hc : Cur w P A n c) : Calls Try.prog 106 #[.pointer (some ⟨P, 0, none⟩)] w (DrawnR w P A n c) := by
  have hPl := hc.lt
  have hc0 := hc.ext (ext_alloc w (.cells #[.int .i64 0, .int .i64 0] 25))
  go_enter Try.func106, Try.ntmps106
  go_wp2_with fail
  refine (c_l1Below P A n c 30 _ hc0 (by omega)).mono ?_
  rintro e w1 ⟨x1, ⟨p1, q1⟩, rfl, hc1, hg1⟩
  have B1 := box_beside (hNew (w := w) (o := .cells #[.int .i64 0, .int .i64 0] 25) rfl) hg1 (by simp only [ne_eq, Option.some.injEq]; omega)
  have G1 := grown_trans (grown_alloc (World.grownBy.refl w (some P)) _) hg1
  go_wp2_with fail
  refine (c_l1Below P A n c 12 _ hc1 (by omega)).mono ?_
  rintro e w2 ⟨x2, ⟨p2, q2⟩, rfl, hc2, hg2⟩
  have B2 := box_beside B1 hg2 (by simp only [ne_eq, Option.some.injEq]; omega)
  have G2 := grown_trans G1 hg2
  have s2 := G2.size
  go_wp2_with fail
  refine (c_l1Below P A n c 20 _ (hc2.ext (ext_alloc _ _)) (by omega)).mono ?_
  rintro e w3 ⟨x3, ⟨p3, q3⟩, rfl, hc3, hg3⟩
  have B3 := box_beside (hOld B2) hg3 (by simp only [ne_eq, Option.some.injEq]; omega)
  have hP2 := hc2.lt
  have C3 := box_beside (hNew (w := w2) (o := .cells #[.int .i64 x1, .int .i64 (x1 + 1 + x2)] 25) rfl) hg3 (by simp only [ne_eq, Option.some.injEq]; omega)
  have G3 := grown_trans (grown_alloc G2 _) hg3
  have HB3 := Lib.hid B3
  have HC3 := Lib.hid C3
  have hb2 := bx_lt B2
  have hb3 := bx_lt C3
  have b0 := bx_cell B3
  have c0 := bx_cell C3
  have fb := bx_frozen B3
  have fc := bx_frozen C3
  clear B1 B2 B3 C3 hg1 hg2 hg3 hc0 hc1 hc2
  by_cases h0 : x3 = 0
  · subst h0
    go_wp2
    go_region_with (go_at_call 97; refine (c_l1Below P A n c 2 _ (hc3.ext (ext_drew (ext_refl _))) (by omega)).mono ?_; rintro e w4 ⟨x4, ⟨p4, q4⟩, rfl, hc4, hg4⟩; have C4 := box_beside (box_drew HC3.out) hg4 (by simp only [ne_eq, Option.some.injEq]; omega); have B4 := box_beside (box_drew HB3.out) hg4 (by simp only [ne_eq, Option.some.injEq]; omega); have c4 := bx_cell C4; have g4 := bx_frozen C4; have b4 := bx_cell B4; have e4 := bx_frozen B4; have z4 := hg4.size; have HC4 := Lib.hid hc4; have HG4 := Lib.hid (grown_trans (grown_drew G3) hg4); have hwr : IntKind.i64.wrap (x1 - x4) = x1 - x4 := (by rw [IntKind.wrap_i64]; omega); clear C4 B4 hc4 hg4)
    all_goals
      go_wp2
      refine bodyPost_ret (v := .agg #[.int .i64 x1, .int .i64 (x1 - x4)]) (by simp [results, Try.results106, go_sem, *]) rfl ⟨x1, x1 - x4, ?_, rfl, ?_, ?_⟩
      · unfold Small
        omega
      · exact ((HC4.out.set (show P < w2.heap.size by omega) _).set (show P < w.heap.size by omega) _).set (show P < w.heap.size by omega) _
      · exact grown_setNew (grown_setNew (grown_setNew HG4.out (show w.heap.size ≤ w2.heap.size by omega) _) (show w.heap.size ≤ w.heap.size by omega) _) (show w.heap.size ≤ w.heap.size by omega) _
  · have h0' : (x3 == 0) = false := by simpa using h0
    by_cases h1 : x3 = 1
    · subst h1
      go_wp2_with fail
      refine (c_l1PickInt P A n c w3.heap.size [-1, 0, 990] _ (hc3.ext (ext_alloc _ _)) (by decide) (by decide) (hNew rfl) (by omega)).mono ?_
      rintro e w4 ⟨x4, hx4, rfl, hc4, hg4⟩
      have C4 := box_beside (hOld HC3.out) hg4 (by simp only [ne_eq, Option.some.injEq]; omega)
      have B4 := box_beside (hOld HB3.out) hg4 (by simp only [ne_eq, Option.some.injEq]; omega)
      have G4 := grown_trans (grown_alloc G3 _) hg4
      have s4 := G4.size
      have hP4 := hc4.lt
      go_wp2_with fail
      refine (c_l1PickInt P A n c w4.heap.size [1000, 1001] _ (hc4.ext (ext_alloc _ _)) (by decide) (by decide) (hNew rfl) (by omega)).mono ?_
      rintro e w5 ⟨x5, hx5, rfl, hc5, hg5⟩
      have C5 := box_beside (hOld C4) hg5 (by simp only [ne_eq, Option.some.injEq]; omega)
      have B5 := box_beside (hOld B4) hg5 (by simp only [ne_eq, Option.some.injEq]; omega)
      have G5 := grown_trans (grown_alloc G4 _) hg5
      simp only [OneOf, List.mem_cons, List.not_mem_nil, or_false] at hx4 hx5
      have HX4 := Lib.hid hx4
      have HX5 := Lib.hid hx5
      clear hx4 hx5 C4 B4 b0 c0 fb fc hg4 hg5
      have zb := bx_lt B5
      have zc := bx_lt C5
      have b0 := bx_cell B5
      have c0 := bx_cell C5
      have fb := bx_frozen B5
      have fc := bx_frozen C5
      go_wp2
      refine bodyPost_ret (v := .agg #[.int .i64 x4, .int .i64 x5]) (by simp [results, Try.results106, go_sem, *]) rfl ⟨x4, x5, ?_, rfl, ?_, ?_⟩
      · have := HX4.out
        have := HX5.out
        unfold Small
        omega
      · exact (((hc5.set (show P < w2.heap.size by omega) _).set (show P < w2.heap.size by omega) _).set (show P < w.heap.size by omega) _).set (show P < w.heap.size by omega) _
      · exact grown_setNew (grown_setNew (grown_setNew (grown_setNew G5 (show w.heap.size ≤ w2.heap.size by omega) _) (show w.heap.size ≤ w2.heap.size by omega) _) (show w.heap.size ≤ w.heap.size by omega) _) (show w.heap.size ≤ w.heap.size by omega) _
    · have h1' : (x3 == 1) = false := by simpa using h1
      clear h0 h1
      go_wp2
      refine bodyPost_ret (v := .agg #[.int .i64 x1, .int .i64 (x1 + 1 + x2)]) (by simp [results, Try.results106, go_sem, *]) rfl ⟨x1, x1 + 1 + x2, ?_, rfl, ?_, ?_⟩
      · unfold Small
        omega
      · exact (hc3.set (show P < w.heap.size by omega) _).set (show P < w.heap.size by omega) _
      · exact grown_setNew (grown_setNew G3 (show w.heap.size ≤ w.heap.size by omega) _) (show w.heap.size ≤ w.heap.size by omega) _
end Go.Proofs.Ytinfkgbgeajphaa
