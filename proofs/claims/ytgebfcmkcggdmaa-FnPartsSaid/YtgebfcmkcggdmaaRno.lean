/- rangesOf of the program. -/
import Derived.Test.YtgebfcmkcggdmaaRun
import Derived.Test.YtgebfcmkcggdmaaGa
namespace Go.Proofs.Ytgebfcmkcggdmaa
open Go.ChangeShapes Go.WideShapes Go.ChangeAt Go.RowKit Go.Sort
set_option linter.unusedVariables false
set_option linter.unusedSimpArgs false

theorem hi_row (l : List Rng) (m : Nat) (hm : m < l.length) (y : Int) : (l.flatMap Rng.enc).set (m * 2 + 1) (.int .i64 y) = (l.set m ⟨l[m].lo, y⟩).flatMap Rng.enc := by
  have h := setAll_one Rng.enc_len l m hm ⟨l[m].lo, y⟩
  rw [← h]
  have g0 := flat_get Rng.enc_len l m hm 0 (by omega)
  have e0 : (l.flatMap Rng.enc).set (m * 2) (.int .i64 l[m].lo) = l.flatMap Rng.enc := list_set_self (by simpa [Rng.enc] using g0)
  simp only [Rng.enc, setAll]
  rw [e0]

set_option maxHeartbeats 2000000 in
set_option maxRecDepth 100000 in
theorem c_rangesOf (g : Nat) (lb : Array Value) (is : Nat → Bool) (eg : ∀ args w, (callFunc g args).run Try.prog w = .ok (.enter g args) w) (w : World)
    (hp : ∀ W, Ext w W → ∀ k : Nat, k < 1000 → Calls Try.prog g (#[.int .i64 k] ++ lb) W fun e w' => e = .returned (.bool (is k)) ∧ Ext W w') :
    Calls Try.prog 25 #[.func (.func g) #[] lb] w fun e w' => ∃ v, e = .returned v ∧ Ow Rng.enc 35 2 w' w.heap.size v (runsTo is 1000) ∧ Ext w w' := by
  have HP := Lib.hid hp
  clear hp
  obtain ⟨i0, hi, hz0, hz1, hz2⟩ := info_parts Try.infoRng
  go_enter Try.func25, Try.ntmps25
  go_wp2
  go_loopw [3, 7] (fun o i wr => ∃ k : Nat, k ≤ 1000 ∧ i = .int .i64 k ∧ Ow Rng.enc 35 2 wr w.heap.size o (runsTo is k) ∧ Ext w wr) (fun _ i _ => 1000 - (intOf i).toNat)
  case atStart => exact ⟨0, Nat.zero_le _, rfl, (World.ownsRow_made w #[] 0 (Nat.le_refl _) (Nat.zero_le _) (by simp)), ext_alloc _ _⟩
  case round =>
    obtain ⟨k, hk, rfl, ho, hx0⟩ := hrel
    obtain ⟨l, hl⟩ : ∃ l, runsTo is k = l := ⟨_, rfl⟩
    rw [hl] at ho
    have HL := Lib.hid hl
    have hll : l.length ≤ 1000 := by rw [← hl]; exact Nat.le_trans (runsTo_len is k) hk
    clear hl
    obtain ⟨A, c, rfl⟩ := ho.form
    by_cases hlt : k < 1000
    · have hcall := HP.out wr hx0 k hlt
      cases hq : is k
      · rw [hq] at hcall
        have HQ := Lib.hid (runsTo_no HL.out hq)
        clear hq HP HL
        go_wp2_with fail
        refine hcall.mono ?_
        rintro e w1 ⟨rfl, hx⟩
        clear hcall
        go_wp2
        go_roundw
        case rel => exact ⟨k + 1, by omega, by go_num, by rw [HQ.out]; exact ho.kept hx, Ext.trans hx0 hx⟩
        case measure => simp [intOf] <;> omega
      · rw [hq] at hcall
        cases hj : joins l k
        · have HQ := Lib.hid (runsTo_new HL.out hq hj)
          have hj0 := hj
          clear hq HP HL hj
          rcases Nat.eq_zero_or_pos l.length with hm | hm
          · obtain rfl : l = [] := List.eq_nil_of_length_eq_zero hm
            simp only [List.length_nil] at ho ⊢
            go_wp2_with fail
            refine hcall.mono ?_
            rintro e w1 ⟨rfl, hx⟩
            clear hcall
            have o1 := ho.kept hx
            have s1 := hx0.size
            have s2 := hx.size
            go_wp2_with (at_builtin; refine wpList_append_own _ rfl _ _ 32 rfl (w.heap.size) 35 i0 (.agg #[.int .i64 0, .int .i64 0]) 2 16 Try.underlying32 hi hz0 hz1 hz2 rfl (by decide) _ _ _ rfl (ownsRow_ext o1 (ext_alloc _ _)) _ 1 1 [.int .i64 k, .int .i64 (k + 1)] rfl rfl (alloc_cellB _ _ _ _ (by first | rfl | (simp; done) | (simp; omega))) (by intro u hu; simp at hu; rcases hu with rfl | rfl <;> rfl) (by unfold maxLen; (try simp) <;> omega) (by (try simp) <;> omega) (by (try simp) <;> omega) ?_)
            intro v w2 h2 g2 _
            have x2 := ext_app (ext_to (Ext.trans hx0 hx) _) g2 (ownsRow_ext o1 (ext_alloc _ _)) (Nat.le_refl _)
            clear g2
            go_wp2
            go_roundw
            case rel => exact ⟨k + 1, by omega, by go_num, by rw [HQ.out]; exact own_snoc h2 rfl rfl, x2⟩
            case measure => simp [intOf] <;> omega
          · obtain ⟨m, hm1⟩ : ∃ m, l.length = m + 1 := ⟨l.length - 1, by omega⟩
            have hml : m < l.length := by omega
            have hne := hj0
            rw [joins_at hm1, decide_eq_false_iff_not] at hne
            have hne' : (l[m].hi == (k : Int)) = false := by simpa using hne
            obtain ⟨g1, c1, hA, hg1, hg2⟩ := ho.base hm
            simp only [Value.slice.injEq] at hA
            obtain ⟨rfl, _, rfl⟩ := hA
            have HO := Lib.hid ho
            have HM := Lib.hid hm1
            rw [hm1]
            rw [hm1] at hll
            clear hne hm1 hj0 ho hm
            go_wp2_with fail
            refine hcall.mono ?_
            rintro e w1 ⟨rfl, hx⟩
            clear hcall
            have o1 := HO.out.kept hx
            obtain ⟨bb, oo, hbo, hb1, a0, a1⟩ := (o1.rd Rng.enc_len).2.atRng hml
            simp only [Option.some.injEq, Addr.mk.injEq] at hbo
            obtain ⟨rfl, rfl, _⟩ := hbo
            rw [Nat.zero_add] at a0 a1
            have s1 := hx0.size
            have s2 := hx.size
            have O1 := Lib.hid (show w1.ownsRow w.heap.size 35 2 (.slice (some ⟨g1, 0, none⟩) (m + 1) c) (m + 1) (l.flatMap Rng.enc) by have := o1; unfold Ow at this; rw [HM.out] at this; exact this)
            clear o1
            go_wp2_with (at_builtin; refine wpList_append_own _ rfl _ _ 32 rfl (w.heap.size) 35 i0 (.agg #[.int .i64 0, .int .i64 0]) 2 16 Try.underlying32 hi hz0 hz1 hz2 rfl (by decide) _ _ _ rfl (ownsRow_ext O1.out (ext_alloc _ _)) _ 1 1 [.int .i64 k, .int .i64 (k + 1)] rfl rfl (alloc_cellB _ _ _ _ (by first | rfl | (simp; done) | (simp; omega))) (by intro u hu; simp at hu; rcases hu with rfl | rfl <;> rfl) (by unfold maxLen; (try simp) <;> omega) (by (try simp) <;> omega) (by (try simp) <;> omega) ?_)
            intro v w2 h2 g2 _
            have x2 := ext_app (ext_to (Ext.trans hx0 hx) _) g2 (ownsRow_ext O1.out (ext_alloc _ _)) (Nat.le_refl _)
            clear g2
            go_wp2
            go_roundw
            case rel => exact ⟨k + 1, by omega, by go_num, by rw [HQ.out]; exact own_snoc h2 (by rw [HM.out]) rfl, x2⟩
            case measure => simp [intOf] <;> omega
        · have HQ := Lib.hid (runsTo_join HL.out hq hj)
          have hm : 0 < l.length := by
            rcases Nat.eq_zero_or_pos l.length with h | h
            · rw [joins_nil h] at hj; cases hj
            · exact h
          obtain ⟨m, hm1⟩ : ∃ m, l.length = m + 1 := ⟨l.length - 1, by omega⟩
          have hml : m < l.length := by omega
          have HG := Lib.hid (show longer l = l.set m ⟨l[m].lo, l[m].hi + 1⟩ from longer_at hm1)
          have hne := hj
          rw [joins_at hm1, decide_eq_true_eq] at hne
          have hne' : (l[m].hi == (k : Int)) = true := by simpa using hne
          have hy0 : 0 ≤ l[m].hi := by omega
          have hy1 : l[m].hi ≤ 1000 := by omega
          obtain ⟨g1, c1, hA, hg1, hg2⟩ := ho.base hm
          simp only [Value.slice.injEq] at hA
          obtain ⟨rfl, _, rfl⟩ := hA
          have HO := Lib.hid ho
          have HM := Lib.hid hm1
          rw [hm1]
          rw [hm1] at hll
          clear hne hm1 hj ho hm hq HP HL
          go_wp2_with fail
          refine hcall.mono ?_
          rintro e w1 ⟨rfl, hx⟩
          clear hcall
          have o1 := HO.out.kept hx
          obtain ⟨bb, oo, hbo, hb1, a0, a1⟩ := (o1.rd Rng.enc_len).2.atRng hml
          simp only [Option.some.injEq, Addr.mk.injEq] at hbo
          obtain ⟨rfl, rfl, _⟩ := hbo
          rw [Nat.zero_add] at a0 a1
          have s1 := hx0.size
          have s2 := hx.size
          have hfz := World.ownsRow.frozenAt o1
          have O1 := Lib.hid o1
          clear o1
          go_wp2
          have st := World.ownsRow.stored O1.out (m * 2 + 1) (.int .i64 (l[m].hi + 1))
          go_roundw
          case rel =>
            refine ⟨k + 1, by omega, by go_num, ?_, ext_set (Ext.trans hx0 hx) hg1 _⟩
            rw [HQ.out, HG.out]
            have h1 := st.1
            rw [hi_row l m hml] at h1
            rw [← HM.out]
            exact own_of h1 (by simp)
          case measure => simp [intOf] <;> omega
    · have hkl : k = 1000 := by omega
      subst hkl
      go_wp2
      go_ret
      exact ⟨_, rfl, by rw [HL.out]; exact ho, hx0⟩
end Go.Proofs.Ytgebfcmkcggdmaa
