/- Rows of bytes: equal, marked, held, copied. -/
import Derived.Test.YtpghedeghoegmaaPk20
import Derived.Test.YtpghedeghoegmaaProg
import Derived.Test.YtpghedeghoegmaaPk1
import Derived.Test.YtpghedeghoegmaaPk2
import Derived.Deep.QuietTactic
import Derived.BigQuiet
import Derived.Test.YtpghedeghoegmaaPk37
namespace Go.Proofs.Ytpghedeghoegmaa
open Go.ChangeShapes Go.WideShapes Go.ChangeAt Go.RowKit Go.Sort
set_option linter.unusedVariables false
set_option linter.unusedSimpArgs false

set_option maxHeartbeats 2000000 in
theorem c_eqByteS_same (A B : Option Addr) (ca cb : Nat) (l : List Nat) (w : World) (ha : Rd bEnc 1 w A ca l) (hb : Rd bEnc 1 w B cb l) (hn : l.length ≤ 1099511627776) :
    Calls Try.prog 11 #[.slice A l.length ca, .slice B l.length cb] w fun e w' => e = .returned (.bool true) ∧ Ext w w' := by
  have hl' : ((l.length : Int) != (l.length : Int)) = false := by simp
  have HA := Lib.hid ha
  have HB := Lib.hid hb
  clear ha hb
  go_enter Try.func11, Try.ntmps11
  go_wp2
  go_loopw [5] (fun i wr => ∃ k : Nat, k ≤ l.length ∧ i = .int .i64 k ∧ Ext w wr) (fun i _ => l.length - (intOf i).toNat)
  case atStart => exact ⟨0, Nat.zero_le _, rfl, ext_refl _⟩
  case round =>
    obtain ⟨k, hk, rfl, hx⟩ := hrel
    by_cases hlt : k < l.length
    · obtain ⟨ab, ao, rfl, hab, a0⟩ := (HA.out.keep hx).atB hlt
      obtain ⟨bb, bo, rfl, hbb, b0⟩ := (HB.out.keep hx).atB hlt
      have t0 : (((l[k] : Nat) : Int) != ((l[k] : Nat) : Int)) = false := by simp
      go_wp2
      (refine wp_region_mix' (fun _ _ _ _ _ hq => hq) 9 (by kernel_rfl) (by kernel_rfl) (fun hg => ?_); simp only [headOps, List.take_succ_cons, List.take_zero, List.filter_cons, List.filter_nil, isAlloc, Bool.not_false, Bool.false_eq_true, if_true, if_false, List.append_nil, List.drop_succ_cons, List.drop_zero])
      (repeat (first | (refine wpMix_plain rfl rfl ?_; go_big_quiet_step (fail); refine wpQuiet_nil ?_) | (refine wpMix_skip rfl rfl ?_; simp only [Act.put, List.setIfInBounds_toArray, List.set_cons_zero, List.set_cons_succ])))
      (refine wpMix_nil ?_; intro w2 hw2)
      go_wp2
      go_roundw
      case rel => exact ⟨k + 1, by omega, by go_num, Ext.trans hx hw2⟩
      case measure => simp [intOf]; omega
    · have hkl : k = l.length := by omega
      go_wp2
      go_ret
      exact ⟨rfl, hx⟩

def bMark (k : Nat) (i : Nat) : Nat := (k + i) % 256
def marksB (k n : Nat) : List Nat := (List.range n).map (bMark k)
set_option maxHeartbeats 2000000 in
theorem c_markByteS (A : Option Addr) (c : Nat) (l : List Nat) (B : Nat) (k : Nat) (w : World) (h : Ow bEnc 5 1 w B (.slice A l.length c) l) (h1 : k ≤ 1099511627776) (hn : l.length ≤ 1099511627776) :
    Calls Try.prog 14 #[.slice A l.length c, .int .i64 k] w fun e w' => e = .returned (.int .i64 ((k + l.length : Nat) : Int)) ∧ Ow bEnc 5 1 w' B (.slice A l.length c) (marksB k l.length) ∧ w.grownBy w' (Value.slice A l.length c).ownBlock := by
  unfold Ow at h
  go_enter Try.func14, Try.ntmps14
  go_wp2
  go_loopw [1, 5] (fun q i wr => ∃ j : Nat, j ≤ l.length ∧ i = .int .i64 j ∧ q = .int .i64 ((k + j : Nat) : Int) ∧ wr.ownsRow B 5 1 (.slice A l.length c) l.length ((mixed (bMark k) l j).flatMap bEnc) ∧ w.grownBy wr (Value.slice A l.length c).ownBlock) (fun _ i _ => l.length - (intOf i).toNat)
  case atStart => exact ⟨0, Nat.zero_le _, rfl, by simp, by rw [mixed_zero]; exact h, World.grownBy.refl _ _⟩
  case round =>
    obtain ⟨j, hj, rfl, rfl, hown, hgr⟩ := hrel
    by_cases hlt : j < l.length
    · obtain ⟨g, rfl, hgB, hgl⟩ := ownsRow_form hown (by omega)
      obtain ⟨x0, e0⟩ : ∃ x, wr.cell? ⟨g, j, none⟩ = some x := ⟨_, (World.ownsRow.cellAt hown j (by omega)).trans (List.getElem?_eq_getElem (by rw [hown.1]; omega))⟩
      have hfz := World.ownsRow.frozenAt hown
      have HO := Lib.hid hown
      have HG := Lib.hid hgr
      have hwr : IntKind.u8.wrap ((k + j : Nat) : Int) = (((k + j) % 256 : Nat) : Int) := by rw [IntKind.wrap_u8]; omega
      clear hown h hgr
      go_wp2
      have s0 := World.ownsRow.stored HO.out j (.int .u8 (((k + j) % 256 : Nat) : Int))
      have hnext := setAll_mixed bEnc_len (bMark k) l j hlt
      go_roundw
      case rel => exact ⟨j + 1, by omega, by go_num, by go_num, ownsRow_congr s0.1 (by rw [Nat.mul_one] at hnext; exact hnext), grown_trans HG.out s0.2⟩
      case measure => simp [intOf]; omega
    · have hkl : j = l.length := by omega
      go_wp2
      go_ret
      refine ⟨ret_int (by first | rfl | omega), ?_, hgr⟩
      unfold Ow marksB
      rw [List.length_map, List.length_range]
      exact ownsRow_congr hown (by rw [hkl, mixed_all])

end Go.Proofs.Ytpghedeghoegmaa

/- Contracts of the functions on one range. -/
namespace Go.Proofs.Ytpghedeghoegmaa
open Go.ChangeShapes Go.WideShapes Go.ChangeAt Go.RowKit Go.Sort
set_option linter.unusedVariables false

structure Rng where
  lo : Int
  hi : Int
deriving DecidableEq

def Rng.enc (r : Rng) : List Value := [.int .i64 r.lo, .int .i64 r.hi]
abbrev Rng.agg (r : Rng) : Value := .agg #[.int .i64 r.lo, .int .i64 r.hi]
def Rng.ok (r : Rng) : Bool := decide (0 ≤ r.lo) && decide (r.lo < r.hi) && decide (r.hi ≤ 1000)

def Rng.zero : Rng := ⟨0, 0⟩
end Go.Proofs.Ytpghedeghoegmaa

/- What an argument of a law reads as: the law's own struct types opened. -/
namespace Go.Proofs.Ytpghedeghoegmaa
open Go.ChangeShapes Go.WideShapes Go.ChangeAt Go.RowKit Go.Joins Go.Deep
set_option linter.unusedVariables false

end Go.Proofs.Ytpghedeghoegmaa

/- The cursor of a draw: its bytes, and what is drawn of them. -/
namespace Go.Proofs.Ytpghedeghoegmaa
open Go.ChangeShapes Go.WideShapes Go.ChangeAt Go.RowKit Go.Sort
set_option linter.unusedVariables false
set_option linter.unusedSimpArgs false

/-- the bytes of a code, in a block below P -/
def CodeOk (w : World) (A : Option Addr) (n P : Nat) : Prop := n ≤ 1048576 ∧ (0 < n → ∃ b o, A = some ⟨b, o, none⟩ ∧ b < P ∧ ∀ k, k < n → ∃ y : Nat, y ≤ 255 ∧ w.cell? ⟨b, o + k, none⟩ = some (.int .u8 y))
theorem CodeOk.grown {w w' : World} {A : Option Addr} {n P : Nat} (h : CodeOk w A n P) (hP : P ≤ w.heap.size) {row : Option Nat} (hg : w.grownBy w' row) (hr : ∀ g, row = some g → P ≤ g) : CodeOk w' A n P := by
  refine ⟨h.1, fun h0 => ?_⟩
  obtain ⟨b, o, e, hb, hc⟩ := h.2 h0
  refine ⟨b, o, e, hb, fun k hk => ?_⟩
  obtain ⟨y, hy, hcell⟩ := hc k hk
  refine ⟨y, hy, ?_⟩
  rw [World.cell?_of_block (a := ⟨b, o + k, none⟩) (hg.block b (by omega) (fun he => by have := hr b he.symm; omega))]
  exact hcell
theorem CodeOk.up {w : World} {A : Option Addr} {n P P' : Nat} (h : CodeOk w A n P) (hP : P ≤ P') : CodeOk w A n P' := ⟨h.1, fun h0 => by
  obtain ⟨b, o, e, hb, hc⟩ := h.2 h0
  exact ⟨b, o, e, by omega, hc⟩⟩

/-- a cursor in block P -/
def Cur (w : World) (P : Nat) (A : Option Addr) (n c : Nat) : Prop := n ≤ c ∧ c ≤ 9223372036854775807 ∧ CodeOk w A n P ∧ ∃ (i : Nat) (h : Int), i ≤ n ∧ w.heap[P]? = some (.cells #[.slice A n c, .int .i64 i, .int .i64 h] 123 (0, 0))
theorem Cur.lt {w : World} {P : Nat} {A : Option Addr} {n c : Nat} (h : Cur w P A n c) : P < w.heap.size := by
  obtain ⟨_, _, _, i, x, _, hb⟩ := h
  exact bx_lt hb
theorem Cur.grown {w w' : World} {P : Nat} {A : Option Addr} {n c : Nat} (h : Cur w P A n c) {row : Option Nat} (hg : w.grownBy w' row) (hr : ∀ g, row = some g → P < g) : Cur w' P A n c := by
  have hl := h.lt
  obtain ⟨h1, h2, h3, i, x, hi, hb⟩ := h
  exact ⟨h1, h2, h3.grown (by omega) hg (fun g he => by have := hr g he; omega), i, x, hi, box_beside hb hg (fun he => by have := hr P he; omega)⟩
theorem Cur.ext {w w' : World} {P : Nat} {A : Option Addr} {n c : Nat} (h : Cur w P A n c) (hx : Ext w w') : Cur w' P A n c := h.grown (grown_of_ext (row := none) hx) (fun g he => by cases he)

end Go.Proofs.Ytpghedeghoegmaa

/- A slice of bytes that came in. -/
namespace Go.Proofs.Ytpghedeghoegmaa
open Go.ChangeShapes Go.WideShapes Go.ChangeAt Go.RowKit Go.Joins Go.Deep
set_option linter.unusedVariables false

/-- the bytes, however many -/
def BytesR (w : World) (A : Option Addr) (n : Nat) : Prop := 0 < n → ∃ b o, A = some ⟨b, o, none⟩ ∧ b < w.heap.size ∧ ∀ k, k < n → ∃ y : Nat, y ≤ 255 ∧ w.cell? ⟨b, o + k, none⟩ = some (.int .u8 y)
theorem Try.cellsU8 : Try.prog.cellsOf 5 = 1 := by kernel_rfl
set_option maxRecDepth 100000 in
theorem open_code {H : Type} {enc : TypeId × Value → H} {W : World} {base b0 : Nat} {sp : Nat → Bool} {held : Bool} {v : Value} {d : DataW H} {p : List MemPlace}
    (hv : Value.okWide Try.prog W .any base 34 v) (h : DataW.Trod enc Try.prog W b0 sp held 34 v d p) : ∃ A n c, v = .slice A n c ∧ n ≤ c ∧ c ≤ maxLen ∧ BytesR W A n := by
  obtain ⟨a0, len, cap, rfl⟩ := okWide_slice Try.underlying34 hv
  obtain ⟨fuel, hf⟩ := h
  rcases open_slice Try.underlying34 hf with ⟨hcs, hx⟩ | ⟨a, len', cap', m, n, D, Pl, hcs, hb, hl, hm, hmm, hx, hi⟩
  · simp only [Value.cells, List.cons.injEq, and_true, Value.slice.injEq] at hcs
    obtain ⟨rfl, rfl, rfl⟩ := hcs
    exact ⟨none, 0, 0, rfl, Nat.le_refl _, by unfold maxLen; omega, fun h => absurd h (by simp)⟩
  · simp only [Value.cells, List.cons.injEq, and_true, Value.slice.injEq] at hcs
    obtain ⟨rfl, rfl, rfl⟩ := hcs
    have hlm : len ≤ m := by rw [hmm]; split <;> omega
    refine ⟨some a, len, cap, rfl, hl, hm, fun hpos => ?_⟩
    have each : ∀ i, i < len → ∃ y : Nat, y ≤ 255 ∧ W.cell? (a.add i) = some (.int .u8 y) := by
      intro i hin
      obtain ⟨cs', hc, ht'⟩ := hi i (by omega)
      rw [Try.cellsU8, Nat.mul_one] at hc
      obtain ⟨_, hcl, hat⟩ := World.cells?_some hc
      obtain ⟨z, hz, _, hwf⟩ := DataW.trod_int Try.underlying5 ht'
      have h0 := hat 0 (by omega)
      rw [hz] at h0
      have hb2 : 0 ≤ z ∧ z ≤ 255 := by simpa [Lit.wf, IntKind.min, IntKind.max, IntKind.signed, IntKind.bits] using hwf
      refine ⟨z.toNat, by omega, ?_⟩
      rw [show ((z.toNat : Nat) : Int) = z by omega]
      simpa [Addr.add] using h0
    obtain ⟨b, o, s⟩ := a
    obtain ⟨y0, _, hc0⟩ := each 0 hpos
    have hs : s = none := by
      cases s with
      | none => rfl
      | some q =>
        exfalso
        simp [Addr.add, World.cell?] at hc0
        split at hc0 <;> simp at hc0
    subst hs
    have hlt : b < W.heap.size := by
      have := block_lt_of_cell hc0
      simpa [Addr.add] using this
    refine ⟨b, o, rfl, hlt, fun k hk => ?_⟩
    obtain ⟨y, hy, hc⟩ := each k hk
    refine ⟨y, hy, ?_⟩
    rwa [Addr.add_lit] at hc
end Go.Proofs.Ytpghedeghoegmaa

/- Bytes that came in: read, copied; messages held. -/
namespace Go.Proofs.Ytpghedeghoegmaa
open Go.ChangeShapes Go.WideShapes Go.ChangeAt Go.RowKit Go.Joins Go.Deep Go.Sort
set_option linter.unusedVariables false
set_option linter.unusedSimpArgs false

/-- bytes that came in are a list of bytes -/
theorem bytes_rd {w : World} {A : Option Addr} {n c : Nat} (h : BytesR w A n) (hc : n ≤ c) (hm : c ≤ maxLen) : ∃ b : List Nat, b.length = n ∧ Byt b ∧ Rd bEnc 1 w A c b := by
  by_cases h0 : 0 < n
  · obtain ⟨g, o, rfl, hg, hk⟩ := h h0
    have hf : ∀ k : Fin n, ∃ y : Nat, y ≤ 255 ∧ w.cell? ⟨g, o + k.1, none⟩ = some (.int .u8 y) := fun k => hk k.1 k.2
    obtain ⟨f, hf⟩ := Classical.axiomOfChoice hf
    refine ⟨List.ofFn f, by simp, ?_, by simpa using hc, hm, fun _ => ⟨g, o, rfl, hg, ?_⟩⟩
    · intro x hx
      obtain ⟨k, rfl⟩ := (List.mem_ofFn ..).1 hx
      have := (hf k).1
      omega
    · intro k hkl j u hj
      have hkn : k < n := by simpa using hkl
      have hj0 : j = 0 ∧ u = .int .u8 (f ⟨k, hkn⟩ : Nat) := by
        simp only [List.getElem_ofFn, bEnc] at hj
        cases j with
        | zero => simpa using hj.symm
        | succ j => simp at hj
      obtain ⟨rfl, rfl⟩ := hj0
      simpa using (hf ⟨k, hkn⟩).2
  · obtain rfl : n = 0 := by omega
    exact ⟨[], rfl, (by intro x hx; cases hx), by simp, hm, fun h => absurd h (by simp)⟩
set_option maxHeartbeats 1000000 in
theorem c_toByteS (A : Option Addr) (c : Nat) (l : List Nat) (w : World) (ha : Rd bEnc 1 w A c l) (hn : l.length ≤ 1048576) :
    Calls Try.prog 17 #[.slice A l.length c] w fun e w' => ∃ g, e = .returned (.slice (some ⟨g, 0, none⟩) l.length l.length) ∧ Ow bEnc 5 1 w' w.heap.size (.slice (some ⟨g, 0, none⟩) l.length l.length) l ∧ Ext w w' := by
  obtain ⟨i0, hi, hz0, hz1, hz2⟩ := info_parts Try.infoU8
  have hcap2 : (l.length : Int) ≤ 9223372036854775807 := by omega
  go_enter Try.func17, Try.ntmps17
  go_wp2_with (at_make; refine wpList_make_full _ rfl _ _ 34 rfl w.heap.size 5 i0 (.int .u8 0) 1 Try.underlying34 hi hz0 hz1 .i64 .i64 _ _ l.length rfl rfl rfl rfl ?c1 ?c2 ?c3 ?_)
  case c1 => rw [hz2]; omega
  case c2 => unfold maxLen; omega
  case c3 => simp
  intro w1 hown hgr
  have hx1 : Ext w w1 := Below.grown (Below.refl _ _) hgr (Nat.le_refl _) (fun k hk => by cases hk)
  have hgl : w.heap.size < w1.heap.size := (World.ownsRow.lt hown _ rfl).2
  obtain ⟨g, hgv⟩ : ∃ g, g = w.heap.size := ⟨_, rfl⟩
  have hown' : w1.ownsRow w.heap.size 5 1 (.slice (some ⟨g, 0, none⟩) l.length l.length) l.length ((madeCells (.int .u8 0 : Value).cells (l.length * 1)).toList) := by rw [hgv, Nat.mul_one]; exact hown
  have hlen : ((madeCells (.int .u8 0 : Value).cells (l.length * 1)).toList).length = l.length * 1 := by simp [size_madeCells]
  generalize (madeCells (.int .u8 0 : Value).cells (l.length * 1)).toList = zs at hown' hlen
  have hgB : w.heap.size ≤ g := by omega
  have hgl : g < w1.heap.size := by omega
  rw [← hgv]
  clear hown hgv hgr hz0 hz1 hz2 hi
  go_wp2
  go_loopw [4] (fun i wr => ∃ k : Nat, k ≤ l.length ∧ i = .int .i64 k ∧ wr.ownsRow w.heap.size 5 1 (.slice (some ⟨g, 0, none⟩) l.length l.length) l.length ((l.take k).flatMap bEnc ++ zs.drop (k * 1)) ∧ Ext w wr ∧ g < wr.heap.size) (fun i _ => l.length - (intOf i).toNat)
  case atStart => exact ⟨0, Nat.zero_le _, rfl, by simpa using hown', hx1, hgl⟩
  case round =>
    obtain ⟨k, hk, rfl, hownk, hxr, hgr⟩ := hrel
    by_cases hlt : k < l.length
    · obtain ⟨b, o, rfl, hb, a0⟩ := (ha.keep hxr).atB hlt
      have hlk := hownk.1
      obtain ⟨x0, e0⟩ : ∃ x, wr.cell? ⟨g, k, none⟩ = some x := ⟨_, (World.ownsRow.cellAt hownk k (by omega)).trans (List.getElem?_eq_getElem (by omega))⟩
      have hfz := World.ownsRow.frozenAt hownk
      have HO := Lib.hid hownk
      clear hlk hownk
      go_wp2
      have s0 := World.ownsRow.stored HO.out k (.int .u8 l[k])
      have hnext := setAll_next bEnc_len l zs k hlt hlen
      rw [Nat.mul_one] at hnext
      go_roundw
      case rel => exact ⟨k + 1, by omega, by go_num, ownsRow_congr s0.1 (by rw [Nat.mul_one]; exact hnext), ext_set hxr hgB _, by simp; omega⟩
      case measure => simp [intOf]; omega
    · have hkl : k = l.length := by omega
      go_wp2
      go_ret
      refine ⟨g, rfl, ?_, hxr⟩
      unfold Ow
      refine ownsRow_congr hownk ?_
      rw [hkl, List.take_length, List.drop_eq_nil_of_le (by omega), List.append_nil]

set_option maxHeartbeats 1000000 in
theorem c_markMsgQ (a : LAd) (m : Mg) (B T : Nat) (k : Int) (w : World) (h : LgO w B T a m.log) (h0 : 0 ≤ k) (h1 : k ≤ 1000000000) (hs : m.log.small) :
    Calls Try.prog 13 #[Mg.val a m, .int .i64 k] w fun e w' => e = .returned (.int .i64 (k + m.log.mN)) ∧ LgO w' B T a (m.log.mk' k m.log.base) ∧ Chg w w' a.fp := by
  have X0 := ext_alloc w (Mg.obj a m)
  have HL := Lib.hid (h.kept X0)
  have HS := Lib.hid hs
  clear h hs
  go_enter Try.func13, Try.ntmps13
  go_wp2_with fail
  refine (c_markLog a m.log B T k _ HL.out h0 h1 HS.out).mono ?_
  rintro e w1 ⟨rfl, o1, c1⟩
  have O1 := Lib.hid o1
  have C1 := Lib.hid c1
  clear o1 c1
  go_wp2
  go_ret
  exact ⟨rfl, O1.out, (chg_ext _ X0).trans C1.out⟩
set_option maxHeartbeats 1000000 in
theorem c_heldMsg (a : LAd) (m : Mg) (k : Int) (w : World) (h : LgR w a (m.log.mk' k m.log.base)) (h0 : 0 ≤ k) (h1 : k ≤ 1000000000) (hs : m.log.small) :
    Calls Try.prog 19 #[Mg.val a m, .int .i64 k] w fun e w' => e = .returned (.int .i64 (k + m.log.mN)) ∧ Ext w w' := by
  have X0 := ext_alloc w (Mg.obj a m)
  have HC := Lib.hid (c_heldLog a m.log.base m.log k _ (h.keep X0) h0 h1 hs)
  have hm0 := m.log.mN_pos
  have hg : decide (k + m.log.mN < 0) = false := by simp; omega
  clear h hs
  go_enter Try.func19, Try.ntmps19
  go_wp2_with fail
  refine HC.out.mono ?_
  rintro e w1 ⟨rfl, x1⟩
  go_wp2
  go_ret
  exact ⟨rfl, Ext.trans X0 x1⟩
/-- a row of bytes marked leaves a log alone -/
theorem LgQ.besideB {w w' : World} {B B' : Nat} {a : LAd} {l : Lg} {A : Option Addr} {n c : Nat} {q : List Nat} (h : LgQ w B a l) (k : Ow bEnc 5 1 w B' (.slice A n c) q) (hg : w.grownBy w' (Value.slice A n c).ownBlock) : LgQ w' B a l :=
  ⟨h.1.chg (chg_grown hg) (h.1.apart k (by decide)), h.2.1.chg (chg_grown hg) (h.2.1.apart k (by decide)), h.2.2.chg (chg_grown hg) (h.2.2.apart k (by decide))⟩
theorem LgQ.own {w : World} {B : Nat} {a : LAd} {l : Lg} (h : LgQ w B a l) : LgO w B w.heap.size a l := lgO_of h.1 h.2.1 h.2.2
end Go.Proofs.Ytpghedeghoegmaa

