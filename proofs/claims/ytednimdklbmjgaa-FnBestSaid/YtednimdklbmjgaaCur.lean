/- The cursor of a draw: its bytes, and what is drawn of them. -/
import Derived.Test.YtednimdklbmjgaaProg
import Derived.Test.YtednimdklbmjgaaCpy
import Derived.Deep.QuietTactic
import Derived.BigQuiet
namespace Go.Proofs.Ytednimdklbmjgaa
open Go.ChangeShapes Go.WideShapes Go.ChangeAt Go.RowKit Go.Sort
set_option linter.unusedVariables false
set_option linter.unusedSimpArgs false

theorem bits_and_le (x : Int) (m : Nat) (hm : m < 9223372036854775808) : 0 ≤ bits .and .i64 x m ∧ bits .and .i64 x m ≤ m := by
  have e : bits .and .i64 x m = IntKind.i64.wrap ((BitVec.ofInt 64 x &&& BitVec.ofInt 64 (m : Int)).toNat : Int) := rfl
  have h1 : (BitVec.ofInt 64 x &&& BitVec.ofInt 64 (m : Int)).toNat ≤ m := by
    rw [BitVec.toNat_and]
    refine Nat.le_trans Nat.and_le_right ?_
    rw [BitVec.toNat_ofInt]
    omega
  rw [e, IntKind.wrap_i64]
  generalize (BitVec.ofInt 64 x &&& BitVec.ofInt 64 (m : Int)).toNat = q at *
  omega

/-- the bytes of a code, in a block below P -/
def CodeOk (w : World) (A : Option Addr) (n P : Nat) : Prop := n ≤ 1048576 ∧ (0 < n → ∃ b o, A = some ⟨b, o, none⟩ ∧ b < P ∧ ∀ k, k < n → ∃ y : Nat, y ≤ 255 ∧ w.cell? ⟨b, o + k, none⟩ = some (.int .u8 y))
theorem CodeOk.grown {w w' : World} {A : Option Addr} {n P : Nat} (h : CodeOk w A n P) (hP : P ≤ w.heap.size) {row : Option Nat} (hg : w.grownBy w' row) (hr : ∀ g, row = some g → P ≤ g) : CodeOk w' A n P := by
  refine ⟨h.1, fun h0 => ?_⟩
  obtain ⟨b, o, e, hb, hc⟩ := h.2 h0
  refine ⟨b, o, e, hb, fun k hk => ?_⟩
  obtain ⟨y, hy, hcell⟩ := hc k hk
  refine ⟨y, hy, ?_⟩
  rw [World.cell?_of_block (a := ⟨b, o + k, none⟩) (hg.block b (by omega) (fun he => by have := hr b he.symm; omega))]
  exact hcell
theorem CodeOk.up {w : World} {A : Option Addr} {n P P' : Nat} (h : CodeOk w A n P) (hP : P ≤ P') : CodeOk w A n P' := ⟨h.1, fun h0 => by
  obtain ⟨b, o, e, hb, hc⟩ := h.2 h0
  exact ⟨b, o, e, by omega, hc⟩⟩

/-- a cursor in block P -/
def Cur (w : World) (P : Nat) (A : Option Addr) (n c : Nat) : Prop := n ≤ c ∧ c ≤ 9223372036854775807 ∧ CodeOk w A n P ∧ ∃ (i : Nat) (h : Int), i ≤ n ∧ w.heap[P]? = some (.cells #[.slice A n c, .int .i64 i, .int .i64 h] 47 (0, 0))
theorem Cur.lt {w : World} {P : Nat} {A : Option Addr} {n c : Nat} (h : Cur w P A n c) : P < w.heap.size := by
  obtain ⟨_, _, _, i, x, _, hb⟩ := h
  exact bx_lt hb
theorem Cur.grown {w w' : World} {P : Nat} {A : Option Addr} {n c : Nat} (h : Cur w P A n c) {row : Option Nat} (hg : w.grownBy w' row) (hr : ∀ g, row = some g → P < g) : Cur w' P A n c := by
  have hl := h.lt
  obtain ⟨h1, h2, h3, i, x, hi, hb⟩ := h
  exact ⟨h1, h2, h3.grown (by omega) hg (fun g he => by have := hr g he; omega), i, x, hi, box_beside hb hg (fun he => by have := hr P he; omega)⟩
theorem Cur.ext {w w' : World} {P : Nat} {A : Option Addr} {n c : Nat} (h : Cur w P A n c) (hx : Ext w w') : Cur w' P A n c := h.grown (grown_of_ext (row := none) hx) (fun g he => by cases he)

/-- what a draw leaves: a number, the cursor -/
def Drawn (w : World) (P : Nat) (A : Option Addr) (n c : Nat) (Q : Int → Prop) (e : Ending) (w' : World) : Prop := ∃ x : Int, Q x ∧ e = .returned (.int .i64 x) ∧ Cur w' P A n c ∧ w.grownBy w' (some P)
def Byte255 (x : Int) : Prop := 0 ≤ x ∧ x ≤ 255

theorem drawn_mk {w w' : World} {P : Nat} {A : Option Addr} {n c : Nat} {Q : Int → Prop} {x : Int} (hq : Q x) (hc : Cur w' P A n c) (hg : w.grownBy w' (some P)) : Drawn w P A n c Q (.returned (.int .i64 x)) w' := ⟨x, hq, rfl, hc, hg⟩
theorem grown_set {w w' : World} {p : Addr} {u : Value} {P : Nat} (h : w.grownBy w' (some P)) (hp : p.block = P) : w.grownBy (w'.setCell p u) (some P) :=
  ⟨h.os, h.tape, h.output, by simpa using h.size, fun k hk hne => (Below.heap_setCell _ _ _ _ (fun e => hne (by rw [e, hp]))).trans (h.block k hk hne)⟩

theorem grown_drewN {w w' : World} {row : Option Nat} (h : w.grownBy w' row) (n : Nat) : w.grownBy (w'.drewN n) row := ⟨h.os, h.tape, h.output, h.size, h.block⟩
theorem box_drewN {w : World} {P : Nat} {o : Obj} (h : w.heap[P]? = some o) (n : Nat) : (w.drewN n).heap[P]? = some o := h
set_option maxHeartbeats 1000000 in
theorem c_l1Byte (P : Nat) (A : Option Addr) (n c : Nat) (w : World) (hc : Cur w P A n c) : Calls Try.prog 19 #[.pointer (some ⟨P, 0, none⟩)] w (Drawn w P A n c Byte255) := by
  obtain ⟨h1, h2, h3, i, h, hi, hb⟩ := hc
  have hn20 := h3.1
  have cb := bx_cell hb
  have fb := bx_frozen hb
  have zb := bx_lt hb
  have H3 := Lib.hid h3
  have HB := Lib.hid hb
  clear h3 hb
  by_cases hlt : i < n
  · obtain ⟨bb, oo, rfl, hbb, hcell⟩ := H3.out.2 (by omega)
    obtain ⟨y, hy, e0⟩ := hcell i hlt
    have hbw : bb < w.heap.size := by omega
    have hne : ¬ bb = P := by omega
    clear hcell
    go_enter Try.func19, Try.ntmps19
    go_wp2
    go_quiet (fail)
    go_wp2
    go_quiet (fail)
    go_wp2
    go_quiet (fail)
    go_wp2
    go_ret
    refine drawn_mk (bits_and_le _ 255 (by omega)) ?_ ?_
    · exact ⟨h1, h2, H3.out.grown (by omega) (grown_set (grown_drewN (grown_set (World.grownBy.refl w _) rfl) _) rfl) (fun g he => by simp only [Option.some.injEq] at he; omega), i + 1, _, by omega, box_put (box_drewN (box_put HB.out 2 _) _) 1 _⟩
    · exact grown_set (grown_drewN (grown_set (World.grownBy.refl w _) rfl) _) rfl
  · obtain rfl : i = n := by omega
    go_enter Try.func19, Try.ntmps19
    go_wp2
    go_quiet (fail)
    go_wp2
    go_quiet (fail)
    go_wp2
    go_ret
    refine drawn_mk (bits_and_le _ 255 (by omega)) ?_ ?_
    · exact ⟨h1, h2, H3.out.grown (by omega) (grown_drewN (grown_drewN (grown_set (World.grownBy.refl w _) rfl) _) _) (fun g he => by simp only [Option.some.injEq] at he; omega), i, _, by omega, box_drewN (box_drewN (box_put HB.out 2 _) _) _⟩
    · exact grown_drewN (grown_drewN (grown_set (World.grownBy.refl w _) rfl) _) _

def Less (m : Int) (x : Int) : Prop := 0 ≤ x ∧ (x < m ∨ m ≤ 0 ∧ x = 0)
set_option maxRecDepth 100000 in
set_option maxHeartbeats 1000000 in
theorem c_l1Below (P : Nat) (A : Option Addr) (n c : Nat) (m : Int) (w : World) (hc : Cur w P A n c) (hm : m ≤ 9223372036854775807) : Calls Try.prog 10 #[.pointer (some ⟨P, 0, none⟩), .int .i64 m] w (Drawn w P A n c (Less m)) := by
  by_cases h0 : m ≤ 0
  · go_enter Try.func10, Try.ntmps10
    go_wp2
    go_ret
    exact drawn_mk ⟨by omega, .inr ⟨h0, rfl⟩⟩ hc (World.grownBy.refl _ _)
  · by_cases h1 : m ≤ 256
    · go_enter Try.func10, Try.ntmps10
      go_wp2_with fail
      refine (c_l1Byte P A n c w hc).mono ?_
      rintro e w1 ⟨x, ⟨hx0, hx1⟩, rfl, hc1, hg1⟩
      have hr := Int.emod_nonneg x (show m ≠ 0 by omega)
      have hr2 := Int.emod_lt_of_pos x (show 0 < m by omega)
      go_wp2
      go_ret
      exact drawn_mk ⟨hr, .inl hr2⟩ hc1 hg1
    · go_enter Try.func10, Try.ntmps10
      go_wp2_with fail
      refine (c_l1Byte P A n c w hc).mono ?_
      rintro e w1 ⟨x1, ⟨p1, q1⟩, rfl, hc1, hg1⟩
      go_wp2_with fail
      refine (c_l1Byte P A n c _ hc1).mono ?_
      rintro e w2 ⟨x2, ⟨p2, q2⟩, rfl, hc2, hg2⟩
      go_wp2_with fail
      refine (c_l1Byte P A n c _ hc2).mono ?_
      rintro e w3 ⟨x3, ⟨p3, q3⟩, rfl, hc3, hg3⟩
      go_wp2_with fail
      refine (c_l1Byte P A n c _ hc3).mono ?_
      rintro e w4 ⟨x4, ⟨p4, q4⟩, rfl, hc4, hg4⟩
      have hr := Int.emod_nonneg (x1 * 16777216 + x2 * 65536 + x3 * 256 + x4) (show m ≠ 0 by omega)
      have hr2 := Int.emod_lt_of_pos (x1 * 16777216 + x2 * 65536 + x3 * 256 + x4) (show 0 < m by omega)
      go_wp2
      go_ret
      exact drawn_mk ⟨hr, .inl hr2⟩ hc4 (grown_trans hg1 (grown_trans hg2 (grown_trans hg3 hg4)))

/-- what a draw leaves: yes or no, the cursor -/
def DrawnB (w : World) (P : Nat) (A : Option Addr) (n c : Nat) (e : Ending) (w' : World) : Prop := ∃ b : Bool, e = .returned (.bool b) ∧ Cur w' P A n c ∧ w.grownBy w' (some P)
theorem c_l1Once (P : Nat) (A : Option Addr) (n c : Nat) (m : Int) (w : World) (hc : Cur w P A n c) (hm : m ≤ 9223372036854775807) : Calls Try.prog 11 #[.pointer (some ⟨P, 0, none⟩), .int .i64 m] w (DrawnB w P A n c) := by
  go_enter Try.func11, Try.ntmps11
  go_wp2_with fail
  refine (c_l1Below P A n c m w hc hm).mono ?_
  rintro e w1 ⟨x, _, rfl, hc1, hg1⟩
  go_wp2
  go_ret
  exact ⟨_, rfl, hc1, hg1⟩

def OneOf (l : List Int) (x : Int) : Prop := x ∈ l
set_option maxRecDepth 100000 in
set_option maxHeartbeats 1000000 in
theorem c_l1PickInt (P : Nat) (A : Option Addr) (n c : Nat) (g : Nat) (l : List Int) (w : World) (hc : Cur w P A n c) (hl : 0 < l.length) (hl2 : l.length ≤ 256) (hg : w.heap[g]? = some (.cells (l.map (Value.int .i64)).toArray 3 (0, 0))) (hgP : g ≠ P) :
    Calls Try.prog 12 #[.pointer (some ⟨P, 0, none⟩), .slice (some ⟨g, 0, none⟩) l.length l.length] w (Drawn w P A n c (OneOf l)) := by
  go_enter Try.func12, Try.ntmps12
  go_wp2_with fail
  refine (c_l1Below P A n c l.length w hc (by omega)).mono ?_
  rintro e w1 ⟨x, ⟨hx0, hx1⟩, rfl, hc1, hg1⟩
  obtain ⟨k, rfl⟩ : ∃ k : Nat, x = k := ⟨x.toNat, by omega⟩
  have hk : k < l.length := by omega
  have hcell : w1.cell? ⟨g, k, none⟩ = some (.int .i64 l[k]) := by
    rw [bx_cell (box_beside hg hg1 (by simp only [ne_eq, Option.some.injEq]; omega)) k]
    simp [hk]
  clear hx1
  go_wp2
  go_ret
  exact drawn_mk (List.getElem_mem hk) hc1 hg1

set_option maxRecDepth 100000 in
set_option maxHeartbeats 1000000 in
theorem c_l1New (A : Option Addr) (n c : Nat) (w : World) (hc : CodeOk w A n w.heap.size) (hnc : n ≤ c) (hcm : c ≤ 9223372036854775807) : Calls Try.prog 9 #[.slice A n c] w fun e w' => (∃ P, e = .returned (.pointer (some ⟨P, 0, none⟩)) ∧ w.heap.size ≤ P ∧ Cur w' P A n c) ∧ Ext w w' := by
  have hn20 := hc.1
  go_enter Try.func9, Try.ntmps9
  go_wp2
  go_loop [3, 4] (fun h i => ∃ (k : Nat) (x : Int), k ≤ n ∧ i = .int .i64 k ∧ h = .int .i64 x) (fun _ i => n - (intOf i).toNat)
  case atStart => exact ⟨0, _, Nat.zero_le _, rfl, rfl⟩
  case round =>
    obtain ⟨k, x, hk, rfl, rfl⟩ := hrel
    by_cases hlt : k < n
    · by_cases h4 : k < 4000
      · obtain ⟨b, o, rfl, hb, hcell⟩ := hc.2 (by omega)
        obtain ⟨y, hy, e0⟩ := hcell k hlt
        clear hcell
        go_wp2
        go_round
        case rel => exact ⟨k + 1, _, by omega, by go_num, rfl⟩
        case measure => simp [intOf] <;> omega
      · have h4' : decide ((k : Int) < 4000) = false := by simp; omega
        go_wp2
        go_ret
        exact ⟨⟨_, rfl, Nat.le_refl _, hnc, hcm, (hc.up (Nat.le_refl _)).grown (Nat.le_refl _) (grown_of_ext (row := none) (ext_alloc _ _)) (fun g he => by cases he), 0, _, Nat.zero_le _, hNew rfl⟩, ext_alloc _ _⟩
    · go_wp2
      go_ret
      exact ⟨⟨_, rfl, Nat.le_refl _, hnc, hcm, (hc.up (Nat.le_refl _)).grown (Nat.le_refl _) (grown_of_ext (row := none) (ext_alloc _ _)) (fun g he => by cases he), 0, _, Nat.zero_le _, hNew rfl⟩, ext_alloc _ _⟩
theorem c_big_no (A : Option Addr) (n c : Nat) (w : World) (h : n ≤ 1048576) : Calls Try.prog 4 #[.slice A n c] w fun e w' => e = .returned (.bool false) ∧ Ext w w' := by
  have h' : decide ((1048576 : Int) < (n : Int)) = false := by simp; omega
  go_enter Try.func4, Try.ntmps4
  go_wp2
  go_ret
  exact ⟨rfl, ext_refl _⟩
theorem c_big_yes (A : Option Addr) (n c : Nat) (w : World) (h : 1048576 < n) (h2 : n ≤ 9223372036854775807) : Calls Try.prog 4 #[.slice A n c] w fun e w' => e = .returned (.bool true) ∧ Ext w w' := by
  have h' : decide ((1048576 : Int) < (n : Int)) = true := by simp; omega
  go_enter Try.func4, Try.ntmps4
  go_wp2
  go_ret
  exact ⟨rfl, ext_refl _⟩
theorem old_cell {w w' : World} (hx : Ext w w') {b y : Nat} (hb : b < w.heap.size) : w'.cell? ⟨b, y, none⟩ = w.cell? ⟨b, y, none⟩ := hx.rules.1 b y hb
end Go.Proofs.Ytednimdklbmjgaa
