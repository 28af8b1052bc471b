/- Drawn parts. -/
import Derived.Test.YtgebfcmkcggdmaaP18
import Derived.Test.YtgebfcmkcggdmaaSSpl
import Derived.Test.YtgebfcmkcggdmaaCur
import Derived.RegionTactic
import Derived.BigRegion
namespace Go.Proofs.Ytgebfcmkcggdmaa
open Go.ChangeShapes Go.WideShapes Go.ChangeAt Go.RowKit Go.Sort
set_option linter.unusedVariables false
set_option linter.unusedSimpArgs false

theorem own_one1 {α : Type} {enc : α → List Value} {e : TypeId} {sz : Nat} {w : World} {p B : Nat} {cs : Array Value} {x : α} (h : w.heap[p]? = some (.cells cs e (0, 0))) (hB : B ≤ p) (hc : cs.toList = enc x) (hl : (enc x).length = sz) : Ow enc e sz w B (.slice (some ⟨p, 0, none⟩) 1 1) [x] := by
  have hs : cs.size = 1 * sz := by rw [← Array.length_toList, hc, hl, Nat.one_mul]
  refine ⟨by simpa using hl, .inr ⟨p, 1, cs, rfl, hB, h, Nat.le_refl _, by unfold maxLen; omega, hs, ?_⟩⟩
  rw [List.take_of_length_le (by rw [Array.length_toList, hs]; exact Nat.le_refl _), hc]
  simp
theorem rd_take1 {α : Type} {enc : α → List Value} {sz : Nat} {w : World} {A : Option Addr} {c : Nat} {l : List α} (h : Rd enc sz w A c l) (n : Nat) : Rd enc sz w A c (l.take n) := by
  refine ⟨Nat.le_trans (by simp; omega) h.1, h.2.1, fun h0 => ?_⟩
  have hl : 0 < l.length := by
    rw [List.length_take] at h0; omega
  obtain ⟨b, o, e, hb, hc⟩ := h.2.2 hl
  refine ⟨b, o, e, hb, fun k hk j u hu => ?_⟩
  have hk2 : k < l.length := by rw [List.length_take] at hk; omega
  refine hc k hk2 j u ?_
  rw [List.getElem_take] at hu
  exact hu
theorem grown_alloc1 {w w' : World} {row : Option Nat} (h : w.grownBy w' row) (o : Obj) : w.grownBy (w'.alloc o) row := grown_trans h (grown_of_ext (ext_alloc _ _))
theorem grown_ext1 {w w' w'' : World} {row : Option Nat} (h : w.grownBy w' row) (k : Ext w' w'') : w.grownBy w'' row := grown_trans h (grown_of_ext k)
/-- parts that are right have each key below 1000, so the key's part may be given away -/
theorem give_can {l : List Prt} (h : PartsOk l) {k : Nat} (hk : k < 1000) {ow : Int} (h0 : 0 ≤ ow) (h1 : ow ≤ 3) : giveB l k ow = true := by
  obtain ⟨n, hn, he, _⟩ := own_some h hk
  unfold giveB
  rw [at_val (decide_eq_true h), he]
  simp only [Bool.and_eq_true, decide_eq_true_eq]
  exact ⟨by omega, (inB_iff _ _ _).2 ⟨h0, h1⟩⟩
def DrawnPo (w : World) (P : Nat) (A : Option Addr) (n c : Nat) (e : Ending) (w' : World) : Prop := ∃ (v : Value) (l : List Prt), e = .returned v ∧ PartsOk l ∧ Ow Prt.enc 37 3 w' w.heap.size v l ∧ Cur w' P A n c ∧ w.grownBy w' (some P)

set_option maxHeartbeats 4000000 in
set_option maxRecDepth 100000 in
theorem c_l10DrawParts (P : Nat) (A : Option Addr) (n c : Nat) (w : World) (hc : Cur w P A n c) : Calls Try.prog 27 #[.pointer (some ⟨P, 0, none⟩)] w (DrawnPo w P A n c) := by
  have hPl := hc.lt
  go_enter Try.func27, Try.ntmps27
  go_wp2_with fail
  refine (c_l1Below P A n c 4 _ hc (by omega)).mono ?_
  rintro e w1 ⟨x1, ⟨p1, q1⟩, rfl, hc1, hg1⟩
  have s1 := hg1.size
  have HO1 := Lib.hid (own_one1 (enc := Prt.enc) (sz := 3) (x := ⟨0, 1000, x1⟩) (B := w.heap.size) (hNew (w := w1) (o := .cells #[.int .i64 0, .int .i64 1000, .int .i64 x1] 37) rfl) (by omega) rfl rfl)
  have HP0 := Lib.hid (show PartsOk [⟨0, 1000, x1⟩] from (partsOk_seg _).2 ⟨by simp, by simp, rfl, by simp, by simp; omega, by simp; omega, rfl⟩)
  have G1 := grown_alloc1 hg1 (.cells #[.int .i64 0, .int .i64 1000, .int .i64 x1] 37)
  have hc1' := hc1.ext (ext_alloc w1 (.cells #[.int .i64 0, .int .i64 1000, .int .i64 x1] 37))
  have hP1 := hc1.lt
  clear hc hc1 hg1
  go_wp2_with fail
  refine (c_l1Below P A n c 6 _ hc1' (by omega)).mono ?_
  rintro e w2 ⟨x2, ⟨p2, q2⟩, rfl, hc2, hg2⟩
  have HO2 := Lib.hid (HO1.out.beside hg2 (fun k hk => by have := HO1.out.lt k hk; simp only [ne_eq, Option.some.injEq]; omega))
  have G2 := grown_trans G1 hg2
  clear hc1' hg2 G1 HO1
  go_wp2_with fail
  refine (c_l1Once P A n c 20 _ hc2 (by omega)).mono ?_
  rintro e w3 ⟨b3, rfl, hc3, hg3⟩
  have HO3 := Lib.hid (HO2.out.beside hg3 (fun k hk => by have := HO2.out.lt k hk; simp only [ne_eq, Option.some.injEq]; omega))
  have HG3 := Lib.hid (grown_trans G2 hg3)
  clear hc2 hg3 G2 HO2
  cases b3
  · skip
    go_wp2
    go_loopw [3, 5] (fun o i wr => ∃ (k : Nat) (l : List Prt), (k : Int) ≤ x2 ∧ i = .int .i64 k ∧ PartsOk l ∧ Ow Prt.enc 37 3 wr w.heap.size o l ∧ Cur wr P A n c ∧ w.grownBy wr (some P)) (fun _ i _ => (x2 - intOf i).toNat)
    case atStart => exact ⟨0, _, by omega, rfl, HP0.out, HO3.out, hc3, HG3.out⟩
    case round =>
      clear hc3 HO3 HG3 HP0
      obtain ⟨k, l, hk, rfl, hp, ho, hcr, hgr⟩ := hrel
      obtain ⟨Ao, co, rfl⟩ := ho.form
      have HP := Lib.hid hp
      have hlb := hp.2.1
      have hla := hp.1
      clear hp
      by_cases hlt : (k : Int) < x2
      · go_wp2_with fail
        refine (c_l1Below P A n c 40 _ hcr (by omega)).mono ?_
        rintro e w4 ⟨x4, ⟨p4, q4⟩, rfl, hc4, hg4⟩
        obtain ⟨y, rfl⟩ : ∃ y : Nat, x4 = y := ⟨x4.toNat, by omega⟩
        have o4 := ho.beside hg4 (fun k hk => by have := ho.lt k hk; simp only [ne_eq, Option.some.injEq]; omega)
        have G4 := grown_trans hgr hg4
        have s4 := G4.size
        have hP4 := hc4.lt
        clear ho hcr hgr hg4
        have R4 := (o4.rd Prt.enc_len).2
        obtain ⟨sb, hsb⟩ : ∃ b, spB l y = b := ⟨_, rfl⟩
        obtain ⟨sv, hsv⟩ : ∃ b, spV l y = b := ⟨_, rfl⟩
        have hcon := c_sSplitAt Ao co l y w4 R4 (by omega)
        rw [hsb, hsv] at hcon
        have HS := Lib.hid (show sb = true → PartsOk sv from fun h => by rw [← hsv]; exact (sp_ok (hsb.trans h)).1)
        clear hsb hsv R4
        go_wp2_with fail
        refine hcon.mono ?_
        rintro e w5 ⟨v5, rfl, o5, x5⟩
        clear hcon
        have HO4 := Lib.hid (o4.kept x5)
        have G5 := grown_ext1 G4 x5
        have hc5 := hc4.ext x5
        have s5 := G5.size
        clear o4 hc4 G4
        cases sb
        · clear o5 HS
          go_wp2_with fail
          refine (c_l1Below P A n c 4 _ hc5 (by omega)).mono ?_
          rintro e w6 ⟨x6, ⟨p6, q6⟩, rfl, hc6, hg6⟩
          have o6 := HO4.out.beside hg6 (fun k hk => by have := HO4.out.lt k hk; simp only [ne_eq, Option.some.injEq]; omega)
          have G6 := grown_trans G5 hg6
          have s6 := G6.size
          have hP6 := hc6.lt
          clear hg6 hc5
          have HGb := Lib.hid (give_can HP.out (show y < 1000 by omega) (ow := x6) (by omega) (by omega))
          have HGo := Lib.hid (give_ok HGb.out).1
          obtain ⟨gv, hgv⟩ : ∃ b, giveV l y x6 = b := ⟨_, rfl⟩
          have hcon := c_sGiveTo Ao co l y x6 w6 (o6.rd Prt.enc_len).2 (by omega)
          rw [HGb.out, hgv] at hcon
          rw [hgv] at HGo
          clear hgv HGb
          go_wp2_with fail
          refine hcon.mono ?_
          rintro e w7 ⟨v7, rfl, o7, x7⟩
          clear hcon
          have HO7 := Lib.hid (o7.less (show w.heap.size ≤ w6.heap.size by omega))
          have HG7 := Lib.hid (grown_ext1 G6 x7)
          have HC7 := Lib.hid (hc6.ext x7)
          clear o7 x7 o6 hc6
          go_wp2
          go_roundw
          case rel => exact ⟨k + 1, gv, by omega, by go_num, HGo.out, HO7.out, HC7.out, HG7.out⟩
          case measure => simp [intOf] <;> omega
        · skip
          obtain ⟨A5, c5, rfl⟩ := o5.form
          have HP5 := Lib.hid (HS.out (by first | rfl | trivial))
          have hlb5 := HP5.out.2.1
          have hla5 := HP5.out.1
          have HO5 := Lib.hid (o5.less (show w.heap.size ≤ w4.heap.size by omega))
          clear HO4 o5 HS
          go_wp2_with fail
          refine (c_l1Below P A n c 4 _ hc5 (by omega)).mono ?_
          rintro e w6 ⟨x6, ⟨p6, q6⟩, rfl, hc6, hg6⟩
          have o6 := HO5.out.beside hg6 (fun k hk => by have := HO5.out.lt k hk; simp only [ne_eq, Option.some.injEq]; omega)
          have G6 := grown_trans G5 hg6
          have s6 := G6.size
          have hP6 := hc6.lt
          clear hg6 hc5
          have HGb := Lib.hid (give_can HP5.out (show y < 1000 by omega) (ow := x6) (by omega) (by omega))
          have HGo := Lib.hid (give_ok HGb.out).1
          obtain ⟨gv, hgv⟩ : ∃ b, giveV sv y x6 = b := ⟨_, rfl⟩
          have hcon := c_sGiveTo A5 c5 sv y x6 w6 (o6.rd Prt.enc_len).2 (by omega)
          rw [HGb.out, hgv] at hcon
          rw [hgv] at HGo
          clear hgv HGb
          go_wp2_with fail
          refine hcon.mono ?_
          rintro e w7 ⟨v7, rfl, o7, x7⟩
          clear hcon
          have HO7 := Lib.hid (o7.less (show w.heap.size ≤ w6.heap.size by omega))
          have HG7 := Lib.hid (grown_ext1 G6 x7)
          have HC7 := Lib.hid (hc6.ext x7)
          clear o7 x7 o6 hc6
          go_wp2
          go_roundw
          case rel => exact ⟨k + 1, gv, by omega, by go_num, HGo.out, HO7.out, HC7.out, HG7.out⟩
          case measure => simp [intOf] <;> omega
      · go_wp2
        go_ret
        exact ⟨_, l, rfl, HP.out, ho, hcr, hgr⟩
  · skip
    go_wp2
    go_loopw [3, 5] (fun o i wr => ∃ (k : Nat) (l : List Prt), (k : Int) ≤ 40 ∧ i = .int .i64 k ∧ PartsOk l ∧ Ow Prt.enc 37 3 wr w.heap.size o l ∧ Cur wr P A n c ∧ w.grownBy wr (some P)) (fun _ i _ => (40 - intOf i).toNat)
    case atStart => exact ⟨0, _, by omega, rfl, HP0.out, HO3.out, hc3, HG3.out⟩
    case round =>
      clear hc3 HO3 HG3 HP0
      obtain ⟨k, l, hk, rfl, hp, ho, hcr, hgr⟩ := hrel
      obtain ⟨Ao, co, rfl⟩ := ho.form
      have HP := Lib.hid hp
      have hlb := hp.2.1
      have hla := hp.1
      clear hp
      by_cases hlt : (k : Int) < 40
      · go_wp2_with fail
        refine (c_l1Below P A n c 40 _ hcr (by omega)).mono ?_
        rintro e w4 ⟨x4, ⟨p4, q4⟩, rfl, hc4, hg4⟩
        obtain ⟨y, rfl⟩ : ∃ y : Nat, x4 = y := ⟨x4.toNat, by omega⟩
        have o4 := ho.beside hg4 (fun k hk => by have := ho.lt k hk; simp only [ne_eq, Option.some.injEq]; omega)
        have G4 := grown_trans hgr hg4
        have s4 := G4.size
        have hP4 := hc4.lt
        clear ho hcr hgr hg4
        have R4 := (o4.rd Prt.enc_len).2
        obtain ⟨sb, hsb⟩ : ∃ b, spB l y = b := ⟨_, rfl⟩
        obtain ⟨sv, hsv⟩ : ∃ b, spV l y = b := ⟨_, rfl⟩
        have hcon := c_sSplitAt Ao co l y w4 R4 (by omega)
        rw [hsb, hsv] at hcon
        have HS := Lib.hid (show sb = true → PartsOk sv from fun h => by rw [← hsv]; exact (sp_ok (hsb.trans h)).1)
        clear hsb hsv R4
        go_wp2_with fail
        refine hcon.mono ?_
        rintro e w5 ⟨v5, rfl, o5, x5⟩
        clear hcon
        have HO4 := Lib.hid (o4.kept x5)
        have G5 := grown_ext1 G4 x5
        have hc5 := hc4.ext x5
        have s5 := G5.size
        clear o4 hc4 G4
        cases sb
        · clear o5 HS
          go_wp2_with fail
          refine (c_l1Below P A n c 4 _ hc5 (by omega)).mono ?_
          rintro e w6 ⟨x6, ⟨p6, q6⟩, rfl, hc6, hg6⟩
          have o6 := HO4.out.beside hg6 (fun k hk => by have := HO4.out.lt k hk; simp only [ne_eq, Option.some.injEq]; omega)
          have G6 := grown_trans G5 hg6
          have s6 := G6.size
          have hP6 := hc6.lt
          clear hg6 hc5
          have HGb := Lib.hid (give_can HP.out (show y < 1000 by omega) (ow := x6) (by omega) (by omega))
          have HGo := Lib.hid (give_ok HGb.out).1
          obtain ⟨gv, hgv⟩ : ∃ b, giveV l y x6 = b := ⟨_, rfl⟩
          have hcon := c_sGiveTo Ao co l y x6 w6 (o6.rd Prt.enc_len).2 (by omega)
          rw [HGb.out, hgv] at hcon
          rw [hgv] at HGo
          clear hgv HGb
          go_wp2_with fail
          refine hcon.mono ?_
          rintro e w7 ⟨v7, rfl, o7, x7⟩
          clear hcon
          have HO7 := Lib.hid (o7.less (show w.heap.size ≤ w6.heap.size by omega))
          have HG7 := Lib.hid (grown_ext1 G6 x7)
          have HC7 := Lib.hid (hc6.ext x7)
          clear o7 x7 o6 hc6
          go_wp2
          go_roundw
          case rel => exact ⟨k + 1, gv, by omega, by go_num, HGo.out, HO7.out, HC7.out, HG7.out⟩
          case measure => simp [intOf] <;> omega
        · skip
          obtain ⟨A5, c5, rfl⟩ := o5.form
          have HP5 := Lib.hid (HS.out (by first | rfl | trivial))
          have hlb5 := HP5.out.2.1
          have hla5 := HP5.out.1
          have HO5 := Lib.hid (o5.less (show w.heap.size ≤ w4.heap.size by omega))
          clear HO4 o5 HS
          go_wp2_with fail
          refine (c_l1Below P A n c 4 _ hc5 (by omega)).mono ?_
          rintro e w6 ⟨x6, ⟨p6, q6⟩, rfl, hc6, hg6⟩
          have o6 := HO5.out.beside hg6 (fun k hk => by have := HO5.out.lt k hk; simp only [ne_eq, Option.some.injEq]; omega)
          have G6 := grown_trans G5 hg6
          have s6 := G6.size
          have hP6 := hc6.lt
          clear hg6 hc5
          have HGb := Lib.hid (give_can HP5.out (show y < 1000 by omega) (ow := x6) (by omega) (by omega))
          have HGo := Lib.hid (give_ok HGb.out).1
          obtain ⟨gv, hgv⟩ : ∃ b, giveV sv y x6 = b := ⟨_, rfl⟩
          have hcon := c_sGiveTo A5 c5 sv y x6 w6 (o6.rd Prt.enc_len).2 (by omega)
          rw [HGb.out, hgv] at hcon
          rw [hgv] at HGo
          clear hgv HGb
          go_wp2_with fail
          refine hcon.mono ?_
          rintro e w7 ⟨v7, rfl, o7, x7⟩
          clear hcon
          have HO7 := Lib.hid (o7.less (show w.heap.size ≤ w6.heap.size by omega))
          have HG7 := Lib.hid (grown_ext1 G6 x7)
          have HC7 := Lib.hid (hc6.ext x7)
          clear o7 x7 o6 hc6
          go_wp2
          go_roundw
          case rel => exact ⟨k + 1, gv, by omega, by go_num, HGo.out, HO7.out, HC7.out, HG7.out⟩
          case measure => simp [intOf] <;> omega
      · go_wp2
        go_ret
        exact ⟨_, l, rfl, HP.out, ho, hcr, hgr⟩
theorem put_lo (l : List Prt) (k : Nat) (hk : k < l.length) (x : Int) : (l.flatMap Prt.enc).set (k * 3) (.int .i64 x) = (l.set k ⟨x, l[k].hi, l[k].owner⟩).flatMap Prt.enc := by
  rw [← setAll_one Prt.enc_len l k hk ⟨x, l[k].hi, l[k].owner⟩]
  have g0 := flat_get Prt.enc_len l k hk 0 (by omega)
  have g1 := flat_get Prt.enc_len l k hk 1 (by omega)
  have g2 := flat_get Prt.enc_len l k hk 2 (by omega)
  simp only [Prt.enc, setAll]
  rw [list_set_self (l := (l.flatMap Prt.enc).set (k * 3) (.int .i64 x)) (i := k * 3 + 1) (by rw [List.getElem?_set_ne (by omega)]; simpa [Prt.enc] using g1)]
  rw [list_set_self (l := (l.flatMap Prt.enc).set (k * 3) (.int .i64 x)) (i := k * 3 + 1 + 1) (by rw [List.getElem?_set_ne (by omega)]; simpa [Prt.enc] using g2)]
theorem put_hi (l : List Prt) (k : Nat) (hk : k < l.length) (x : Int) : (l.flatMap Prt.enc).set (k * 3 + 1) (.int .i64 x) = (l.set k ⟨l[k].lo, x, l[k].owner⟩).flatMap Prt.enc := by
  rw [← setAll_one Prt.enc_len l k hk ⟨l[k].lo, x, l[k].owner⟩]
  have g0 := flat_get Prt.enc_len l k hk 0 (by omega)
  have g1 := flat_get Prt.enc_len l k hk 1 (by omega)
  have g2 := flat_get Prt.enc_len l k hk 2 (by omega)
  simp only [Prt.enc, setAll]
  rw [list_set_self (l := l.flatMap Prt.enc) (i := k * 3) (by simpa [Prt.enc, hk] using g0)]
  rw [list_set_self (l := (l.flatMap Prt.enc).set (k * 3 + 1) (.int .i64 x)) (i := k * 3 + 1 + 1) (by rw [List.getElem?_set_ne (by omega)]; simpa [Prt.enc] using g2)]
theorem put_ow (l : List Prt) (k : Nat) (hk : k < l.length) (x : Int) : (l.flatMap Prt.enc).set (k * 3 + 2) (.int .i64 x) = (l.set k ⟨l[k].lo, l[k].hi, x⟩).flatMap Prt.enc := by
  rw [← setAll_one Prt.enc_len l k hk ⟨l[k].lo, l[k].hi, x⟩]
  have g0 := flat_get Prt.enc_len l k hk 0 (by omega)
  have g1 := flat_get Prt.enc_len l k hk 1 (by omega)
  have g2 := flat_get Prt.enc_len l k hk 2 (by omega)
  simp only [Prt.enc, setAll]
  rw [list_set_self (l := l.flatMap Prt.enc) (i := k * 3) (by simpa [Prt.enc, hk] using g0)]
  rw [list_set_self (l := l.flatMap Prt.enc) (i := k * 3 + 1) (by simpa [Prt.enc, hk] using g1)]

theorem Cur.set1 {w : World} {P : Nat} {A : Option Addr} {n c : Nat} (h : Cur w P A n c) {p : Addr} (hp : P < p.block) (u : Value) : Cur (w.setCell p u) P A n c :=
  h.grown (grown_set (World.grownBy.refl w (some p.block)) rfl) (fun g he => by simp only [Option.some.injEq] at he; omega)
theorem grown_set1 {w w' : World} {row : Option Nat} (h : w.grownBy w' row) {p : Addr} (hp : w.heap.size ≤ p.block) (u : Value) : w.grownBy (w'.setCell p u) row :=
  ⟨h.os, h.tape, h.output, by simpa using h.size, fun k hk hne => (Below.heap_setCell _ _ _ _ (by omega)).trans (h.block k hk hne)⟩
/-- parts that were drawn, right or not -/
def DrawnPs (w : World) (P : Nat) (A : Option Addr) (n c : Nat) (e : Ending) (w' : World) : Prop := ∃ (Ar : Option Addr) (cr : Nat) (l : List Prt), e = .returned (.slice Ar (List.length l) cr) ∧ l.length ≤ 16 ∧ Rd Prt.enc 3 w' Ar cr l ∧ (∀ a, Ar = some a → w.heap.size ≤ a.block) ∧ Cur w' P A n c ∧ w.grownBy w' (some P)
set_option maxHeartbeats 4000000 in
set_option maxRecDepth 100000 in
theorem c_l10DrawAny (P : Nat) (A : Option Addr) (n c : Nat) (w : World) (hc : Cur w P A n c) : Calls Try.prog 16 #[.pointer (some ⟨P, 0, none⟩)] w (DrawnPs w P A n c) := by
  have hPl := hc.lt
  go_enter Try.func16, Try.ntmps16
  go_wp2_with fail
  refine (c_l10DrawParts P A n c _ hc).mono ?_
  rintro e w1 ⟨v1, l, rfl, hp, o1, hc1, hg1⟩
  have hlb := hp.2.1
  have hla := hp.1
  obtain ⟨g, c1, rfl, hgB, hgl⟩ := o1.base (by omega)
  have hgP : ¬ g = P := by omega
  go_wp2_with fail
  refine (c_l1Below P A n c l.length _ hc1 (by omega)).mono ?_
  rintro e w2 ⟨x2, ⟨p2, q2⟩, rfl, hc2, hg2⟩
  obtain ⟨k, rfl⟩ : ∃ k : Nat, x2 = k := ⟨x2.toNat, by omega⟩
  have hk : k < l.length := by omega
  have HO2 := Lib.hid (o1.beside hg2 (fun q hq => by simp only [Value.ownBlock, Option.some.injEq] at hq; simp only [ne_eq, Option.some.injEq]; omega))
  have G2 := grown_trans hg1 hg2
  have HB := Lib.hid (hp.at hk)
  clear hc1 hg1 hg2 o1 hp q2 hc
  go_wp2_with fail
  refine (c_l1Below P A n c 25 _ hc2 (by omega)).mono ?_
  rintro e w3 ⟨x3, ⟨p3, q3⟩, rfl, hc3, hg3⟩
  have HO3 := Lib.hid (HO2.out.beside hg3 (fun q hq => by simp only [Value.ownBlock, Option.some.injEq] at hq; simp only [ne_eq, Option.some.injEq]; omega))
  have G3 := grown_trans G2 hg3
  have s3 := G3.size
  have hgl3 : g < w3.heap.size := by have := hg3.size; have := (HO2.out.lt g rfl).2; omega
  clear hc2 hg3 G2 HO2
  have HCell := Lib.hid (show ∀ j, j < 3 → w3.cell? ⟨g, k * 3 + j, none⟩ = (Prt.enc l[k])[j]? from fun j hj => (World.ownsRow.cellAt HO3.out (k * 3 + j) (by omega)).trans (flat_get Prt.enc_len l k hk j hj))
  have b0 := HB.out.1
  have b1 := HB.out.2.1
  have b2 := HB.out.2.2.1
  by_cases h0 : x3 = 0
  · subst h0
    have e0 : w3.cell? ⟨g, k * 3, none⟩ = some (.int .i64 l[k].lo) := HCell.out 0 (by omega)
    have hfz := World.ownsRow.frozenAt HO3.out
    go_wp2
    have s2 := World.ownsRow.stored HO3.out (k * 3) (.int .i64 (l[k].lo + 1))
    go_ret
    refine ⟨some ⟨g, 0, none⟩, c1, l.set k ⟨l[k].lo + 1, l[k].hi, l[k].owner⟩, by rw [List.length_set]; rfl, by simp; omega, ?_, fun a ha => by cases ha; exact hgB, ?_, ?_⟩
    · have := s2.1
      rw [put_lo l k hk (l[k].lo + 1)] at this
      exact (Ow.rd Prt.enc_len (show Ow Prt.enc 37 3 _ w.heap.size (.slice (some ⟨g, 0, none⟩) l.length c1) (l.set k ⟨l[k].lo + 1, l[k].hi, l[k].owner⟩) by unfold Ow; rw [List.length_set]; exact this)).2
    · exact hc3.set1 (show P < g by omega) _
    · exact grown_set1 G3 (show w.heap.size ≤ g from hgB) _
  · have h0' : (x3 == 0) = false := by simpa using h0
    by_cases h1 : x3 = 1
    · subst h1
      have hgw : ¬ g = w3.heap.size := by omega
      go_wp2_with fail
      refine (c_l1PickInt P A n c w3.heap.size [-1, 4] _ (hc3.ext (ext_alloc _ _)) (by decide) (by decide) (hNew rfl) (by have := hc3.lt; omega)).mono ?_
      rintro e w4 ⟨x4, hx4, rfl, hc4, hg4⟩
      have HO4 := Lib.hid ((HO3.out.kept (ext_alloc w3 (.cells #[.int .i64 (-1), .int .i64 4] 3))).beside hg4 (fun q hq => by simp only [Value.ownBlock, Option.some.injEq] at hq; simp only [ne_eq, Option.some.injEq]; omega))
      have G4 := grown_trans (grown_alloc1 G3 _) hg4
      have hgl4 : g < w4.heap.size := (HO4.out.lt g rfl).2
      have e0 : w4.cell? ⟨g, k * 3 + 2, none⟩ = some (.int .i64 l[k].owner) := (World.ownsRow.cellAt HO4.out (k * 3 + 2) (by omega)).trans (flat_get Prt.enc_len l k hk 2 (by omega))
      have hfz := World.ownsRow.frozenAt HO4.out
      clear hc3 hg4 G3 hx4 HCell HO3
      go_wp2
      have s2 := World.ownsRow.stored HO4.out (k * 3 + 2) (.int .i64 x4)
      go_ret
      refine ⟨some ⟨g, 0, none⟩, c1, l.set k ⟨l[k].lo, l[k].hi, x4⟩, by rw [List.length_set]; rfl, by simp; omega, ?_, fun a ha => by cases ha; exact hgB, ?_, ?_⟩
      · have := s2.1
        rw [put_ow l k hk x4] at this
        exact (Ow.rd Prt.enc_len (show Ow Prt.enc 37 3 _ w.heap.size (.slice (some ⟨g, 0, none⟩) l.length c1) (l.set k ⟨l[k].lo, l[k].hi, x4⟩) by unfold Ow; rw [List.length_set]; exact this)).2
      · exact hc4.set1 (show P < g by omega) _
      · exact grown_set1 G4 (show w.heap.size ≤ g from hgB) _
    · have h1' : (x3 == 1) = false := by simpa using h1
      by_cases h2 : x3 = 2
      · subst h2
        have hkc : (k : Int) ≤ c1 := by have := ((HO3.out.rd Prt.enc_len).2).1; omega
        have hTk : (l.take k).length = k := by rw [List.length_take]; omega
        go_wp2
        go_ret
        refine ⟨some ⟨g, 0, none⟩, c1, l.take k, by rw [hTk]; rfl, by omega, rd_take1 (HO3.out.rd Prt.enc_len).2 k, fun a ha => by cases ha; exact hgB, hc3, G3⟩
      · have h2' : (x3 == 2) = false := by simpa using h2
        by_cases h3 : x3 = 3
        · subst h3
          have e0 : w3.cell? ⟨g, k * 3, none⟩ = some (.int .i64 l[k].lo) := HCell.out 0 (by omega)
          have e1 : w3.cell? ⟨g, k * 3 + 1, none⟩ = some (.int .i64 l[k].hi) := HCell.out 1 (by omega)
          have hfz := World.ownsRow.frozenAt HO3.out
          go_wp2
          have s2 := World.ownsRow.stored HO3.out (k * 3 + 1) (.int .i64 l[k].lo)
          go_ret
          refine ⟨some ⟨g, 0, none⟩, c1, l.set k ⟨l[k].lo, l[k].lo, l[k].owner⟩, by rw [List.length_set]; rfl, by simp; omega, ?_, fun a ha => by cases ha; exact hgB, ?_, ?_⟩
          · have := s2.1
            rw [put_hi l k hk l[k].lo] at this
            exact (Ow.rd Prt.enc_len (show Ow Prt.enc 37 3 _ w.heap.size (.slice (some ⟨g, 0, none⟩) l.length c1) (l.set k ⟨l[k].lo, l[k].lo, l[k].owner⟩) by unfold Ow; rw [List.length_set]; exact this)).2
          · exact hc3.set1 (show P < g by omega) _
          · exact grown_set1 G3 (show w.heap.size ≤ g from hgB) _
        · have h3' : (x3 == 3) = false := by simpa using h3
          clear HCell
          go_wp2
          go_ret
          exact ⟨some ⟨g, 0, none⟩, c1, l, rfl, by omega, (HO3.out.rd Prt.enc_len).2, fun a ha => by cases ha; exact hgB, hc3, G3⟩
theorem c_l10DrawKey (P : Nat) (A : Option Addr) (n c : Nat) (w : World) (hc : Cur w P A n c) : Calls Try.prog 17 #[.pointer (some ⟨P, 0, none⟩)] w (Drawn w P A n c (fun x => -1 ≤ x ∧ x ≤ 1000)) := by
  have hPl := hc.lt
  go_enter Try.func17, Try.ntmps17
  go_wp2_with fail
  refine (c_l1Once P A n c 12 _ hc (by omega)).mono ?_
  rintro e w1 ⟨b1, rfl, hc1, hg1⟩
  have s1 := hg1.size
  cases b1
  · go_wp2_with fail
    refine (c_l1Below P A n c 45 _ hc1 (by omega)).mono ?_
    rintro e w2 ⟨x2, ⟨p2, q2⟩, rfl, hc2, hg2⟩
    go_wp2
    go_ret
    exact ⟨x2, ⟨by omega, by omega⟩, rfl, hc2, grown_trans hg1 hg2⟩
  · go_wp2_with fail
    refine (c_l1PickInt P A n c w1.heap.size [-1, 0, 999, 1000] _ (hc1.ext (ext_alloc _ _)) (by decide) (by decide) (hNew rfl) (by omega)).mono ?_
    rintro e w2 ⟨x2, hx2, rfl, hc2, hg2⟩
    have HX := Lib.hid hx2
    clear hx2
    go_wp2
    go_ret
    refine ⟨x2, ?_, rfl, hc2, grown_trans (grown_alloc1 hg1 _) hg2⟩
    have := HX.out
    simp only [OneOf, List.mem_cons, List.not_mem_nil, or_false] at this
    omega
/-- drawn: parts, a key and an owner -/
def DrawnGive (w : World) (e : Ending) (w' : World) : Prop := ∃ (Ar : Option Addr) (cr : Nat) (l : List Prt) (key ow : Int), e = .returned (.tuple #[.slice Ar (List.length l) cr, .int .i64 key, .int .i64 ow]) ∧ l.length ≤ 16 ∧ Rd Prt.enc 3 w' Ar cr l ∧ (-1 ≤ key ∧ key ≤ 1000) ∧ (-1 ≤ ow ∧ ow ≤ 4) ∧ Ext w w'
set_option maxHeartbeats 2000000 in
theorem c_DrawGiveTo (A : Option Addr) (n c : Nat) (w : World) (hc : CodeOk w A n w.heap.size) (hnc : n ≤ c) (hcm : c ≤ 9223372036854775807) : Calls Try.prog 5 #[.slice A n c] w (DrawnGive w) := by
  go_enter Try.func5, Try.ntmps5
  go_wp2_with fail
  refine (c_l1New A n c _ hc hnc hcm).mono ?_
  rintro e w1 ⟨⟨P, rfl, hP, hc1⟩, x1⟩
  have s1 := x1.size
  have hP1 := hc1.lt
  go_wp2_with fail
  refine (c_l10DrawAny P A n c _ hc1).mono ?_
  rintro e w2 ⟨Ar, cr, l, rfl, hl, r2, hA, hc2, g2⟩
  have X2 : Ext w w2 := ext_grown x1 g2 (fun q hq => by simp only [Option.some.injEq] at hq; omega)
  go_wp2_with fail
  refine (c_l10DrawKey P A n c _ hc2).mono ?_
  rintro e w3 ⟨key, hkey, rfl, hc3, g3⟩
  have X3 : Ext w w3 := ext_grown X2 g3 (fun q hq => by simp only [Option.some.injEq] at hq; omega)
  have r3 := r2.beside g3 (fun a ha => by have := hA a ha; simp only [ne_eq, Option.some.injEq]; omega)
  go_wp2_with fail
  refine (c_l1Below P A n c 6 _ hc3 (by omega)).mono ?_
  rintro e w4 ⟨x4, ⟨p4, q4⟩, rfl, hc4, g4⟩
  have X4 : Ext w w4 := ext_grown X3 g4 (fun q hq => by simp only [Option.some.injEq] at hq; omega)
  have r4 := r3.beside g4 (fun a ha => by have := hA a ha; simp only [ne_eq, Option.some.injEq]; omega)
  go_wp2
  exact bodyPost_ret (v := .tuple #[.slice Ar l.length cr, .int .i64 key, .int .i64 (x4 - 1)]) (by simp [results, Try.results5, go_sem]) rfl ⟨Ar, cr, l, key, x4 - 1, rfl, hl, r4, hkey, ⟨by omega, by omega⟩, X4⟩
end Go.Proofs.Ytgebfcmkcggdmaa
