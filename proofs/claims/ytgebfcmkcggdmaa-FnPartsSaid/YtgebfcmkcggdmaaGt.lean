/- GiveTo of the reference and of the program. -/
import Derived.Test.YtgebfcmkcggdmaaPa
import Derived.Test.YtgebfcmkcggdmaaCloP
namespace Go.Proofs.Ytgebfcmkcggdmaa
open Go.ChangeShapes Go.WideShapes Go.ChangeAt Go.RowKit Go.Sort
set_option linter.unusedVariables false
set_option linter.unusedSimpArgs false

theorem partAtV_lt {l : List Prt} {key : Int} (h0 : 0 ≤ partAtV l key) : ∃ k : Nat, partAtV l key = k ∧ k < l.length ∧ partsOk l = true := by
  unfold partAtV at *
  split at h0
  · rename_i h
    rw [if_pos h]
    obtain ⟨k, h1, h2⟩ := idxOf_lt h0
    exact ⟨k, h1, h2, h⟩
  · omega
theorem partsOk_le {l : List Prt} (h : partsOk l = true) : 1 ≤ l.length ∧ l.length ≤ 16 := by
  have := of_decide_eq_true (p := PartsOk l) h
  exact ⟨this.1, this.2.1⟩

def giveB (l : List Prt) (key ow : Int) : Bool := decide (0 ≤ partAtV l key) && inB ow 0 3
def giveL (l : List Prt) (k : Nat) (ow : Int) : List Prt := l.set k ⟨(l.getD k Prt.z).lo, (l.getD k Prt.z).hi, ow⟩
def giveV (l : List Prt) (key ow : Int) : List Prt := if giveB l key ow = true then giveL l (partAtV l key).toNat ow else []
theorem giveV_len (l : List Prt) (key ow : Int) : (giveV l key ow).length ≤ l.length := by
  unfold giveV; split <;> simp [giveL]
theorem give_no {l : List Prt} {key ow : Int} (h : giveB l key ow = false) : false = giveB l key ow ∧ giveV l key ow = [] := by
  unfold giveV; rw [h]; simp
theorem give_yes {l : List Prt} {key ow : Int} {k : Nat} (hk : partAtV l key = k) (h : inB ow 0 3 = true) : true = giveB l key ow ∧ giveV l key ow = giveL l k ow := by
  have hb : giveB l key ow = true := by unfold giveB; rw [hk, h]; simp
  unfold giveV; rw [hb, hk]; simp
/-- the owner's cell written: the row -/
theorem give_row (l : List Prt) (k : Nat) (hk : k < l.length) (ow : Int) : (l.flatMap Prt.enc).set (k * 3 + 2) (.int .i64 ow) = (giveL l k ow).flatMap Prt.enc := by
  have h := setAll_one Prt.enc_len l k hk ⟨(l.getD k Prt.z).lo, (l.getD k Prt.z).hi, ow⟩
  unfold giveL
  rw [← h]
  have g0 := flat_get Prt.enc_len l k hk 0 (by omega)
  have g1 := flat_get Prt.enc_len l k hk 1 (by omega)
  have e0 : (l.flatMap Prt.enc).set (k * 3) (.int .i64 (l.getD k Prt.z).lo) = l.flatMap Prt.enc := list_set_self (by simpa [hk, Prt.enc] using g0)
  have e1 : (l.flatMap Prt.enc).set (k * 3 + 1) (.int .i64 (l.getD k Prt.z).hi) = l.flatMap Prt.enc := list_set_self (by simpa [hk, Prt.enc] using g1)
  simp only [Prt.enc, setAll]
  rw [e0, e1]

set_option maxHeartbeats 1000000 in
theorem c_iGiveTo (A : Option Addr) (c : Nat) (l : List Prt) (key ow : Int) (w : World) (ha : Rd Prt.enc 3 w A c l) (hn : l.length ≤ 1048576) :
    Calls Try.prog 7 #[.slice A l.length c, .int .i64 key, .int .i64 ow] w fun e w' => ∃ v, e = .returned (.tuple #[v, .bool (giveB l key ow)]) ∧ Ow Prt.enc 37 3 w' w.heap.size v (giveV l key ow) ∧ Ext w w' := by
  have hcon := c_iPartAt A c l key w ha (by omega)
  by_cases hp : 0 ≤ partAtV l key
  · obtain ⟨k, hk, hkl, hok⟩ := partAtV_lt hp
    rw [hk] at hcon
    have h16 := (partsOk_le hok).2
    have HK := Lib.hid hk
    clear hp hk hok
    have hk0 : decide ((k : Int) < 0) = false := by simp
    cases hq : inB ow 0 3
    · have HB := Lib.hid (give_no (l := l) (key := key) (ow := ow) (by unfold giveB; rw [hq]; simp))
      go_enter Try.func7, Try.ntmps7
      go_wp2_with fail
      refine hcon.mono ?_
      rintro e w1 ⟨rfl, x1⟩
      clear hcon
      go_wp2_with fail
      refine (c_isGroup _ _).mono ?_
      rintro e w2 ⟨rfl, x2⟩
      go_wp2
      go_ret2
      exact ⟨_, ret_vb HB.out.1, by rw [HB.out.2]; exact World.ownsRow_nil _ _ _ _, Ext.trans x1 x2⟩
    · have HB := Lib.hid (give_yes HK.out hq)
      go_enter Try.func7, Try.ntmps7
      go_wp2_with fail
      refine hcon.mono ?_
      rintro e w1 ⟨rfl, x1⟩
      clear hcon
      go_wp2_with fail
      refine (c_isGroup _ _).mono ?_
      rintro e w2 ⟨rfl, x2⟩
      have X2 := Ext.trans x1 x2
      go_wp2_with fail
      refine (c_clonePartS A c l w2 (ha.keep X2) hn).mono ?_
      rintro e w3 ⟨v, rfl, o3, x3⟩
      obtain ⟨g, c3, rfl, hgB, hgl⟩ := o3.base (by omega)
      obtain ⟨x, e2⟩ : ∃ x, w3.cell? ⟨g, k * 3 + 2, none⟩ = some x := ⟨_, (World.ownsRow.cellAt o3 (k * 3 + 2) (by omega)).trans (List.getElem?_eq_getElem (by rw [flat_length Prt.enc_len]; omega))⟩
      have hfz := World.ownsRow.frozenAt o3
      have HO := Lib.hid o3
      clear o3
      go_wp2
      have s2 := World.ownsRow.stored HO.out (k * 3 + 2) (.int .i64 ow)
      go_ret2
      refine ⟨_, ret_vb HB.out.1, ?_, ?_⟩
      · rw [HB.out.2]
        refine Ow.less ?_ (Nat.le_trans X2.size (Nat.le_refl _))
        have := s2.1
        rw [give_row l k hkl ow] at this
        unfold Ow
        rw [show (giveL l k ow).length = l.length by simp [giveL]]
        exact this
      · exact ext_set (Ext.trans X2 x3) (Nat.le_trans X2.size hgB) _
  · have hb : giveB l key ow = false := by unfold giveB; simp [hp]
    have HB := Lib.hid (give_no hb)
    obtain ⟨z, hz⟩ : ∃ z, partAtV l key = z := ⟨_, rfl⟩
    rw [hz] at hp hcon
    have hz0 : decide (z < 0) = true := by simp; omega
    clear hz hb hp
    go_enter Try.func7, Try.ntmps7
    go_wp2_with fail
    refine hcon.mono ?_
    rintro e w1 ⟨rfl, x1⟩
    go_wp2
    go_ret2
    exact ⟨_, ret_vb HB.out.1, by rw [HB.out.2]; exact World.ownsRow_nil _ _ _ _, x1⟩
set_option maxHeartbeats 1000000 in
theorem c_sGiveTo (A : Option Addr) (c : Nat) (l : List Prt) (key ow : Int) (w : World) (ha : Rd Prt.enc 3 w A c l) (hn : l.length ≤ 1048576) :
    Calls Try.prog 9 #[.slice A l.length c, .int .i64 key, .int .i64 ow] w fun e w' => ∃ v, e = .returned (.tuple #[v, .bool (giveB l key ow)]) ∧ Ow Prt.enc 37 3 w' w.heap.size v (giveV l key ow) ∧ Ext w w' := by
  have hcon := c_sPartAt A c l key w ha (by omega)
  by_cases hp : 0 ≤ partAtV l key
  · obtain ⟨k, hk, hkl, hok⟩ := partAtV_lt hp
    rw [hk] at hcon
    have h16 := (partsOk_le hok).2
    have HK := Lib.hid hk
    clear hp hk hok
    have hk0 : decide ((k : Int) < 0) = false := by simp
    cases hq : inB ow 0 3
    · have HB := Lib.hid (give_no (l := l) (key := key) (ow := ow) (by unfold giveB; rw [hq]; simp))
      go_enter Try.func9, Try.ntmps9
      go_wp2_with fail
      refine hcon.mono ?_
      rintro e w1 ⟨rfl, x1⟩
      clear hcon
      go_wp2_with fail
      refine (c_l1In _ _ _ _).mono ?_
      rintro e w2 ⟨rfl, x2⟩
      go_wp2
      go_ret2
      exact ⟨_, ret_vb HB.out.1, by rw [HB.out.2]; exact (World.ownsRow_made _ #[] 0 (Nat.le_trans x1.size x2.size) (Nat.zero_le _) (by simp)), ext_to (Ext.trans x1 x2) _⟩
    · have HB := Lib.hid (give_yes HK.out hq)
      go_enter Try.func9, Try.ntmps9
      go_wp2_with fail
      refine hcon.mono ?_
      rintro e w1 ⟨rfl, x1⟩
      clear hcon
      go_wp2_with fail
      refine (c_l1In _ _ _ _).mono ?_
      rintro e w2 ⟨rfl, x2⟩
      have X2 := Ext.trans x1 x2
      obtain ⟨a, rfl⟩ := ha.base (by omega)
      obtain ⟨i0, hi, hz0, hz1, hz2⟩ := info_parts Try.infoPrt
      have HF := Lib.hid ((ha.keep X2).flat (by decide) Prt.enc_len)
      have HL := Lib.hid (flat_length Prt.enc_len l)
      go_wp2_with (at_builtin; refine wpList_append_own _ rfl _ _ 24 rfl w2.heap.size 37 i0 (.agg #[.int .i64 0, .int .i64 0, .int .i64 0]) 3 24 Try.underlying24 hi hz0 hz1 hz2 rfl (by decide) _ _ _ rfl (World.ownsRow_made w2 #[] 0 (Nat.le_refl _) (Nat.zero_le _) (by simp)) a l.length c (l.flatMap Prt.enc) rfl ?c1 ?c2 ?c3 ?c4 ?c5 ?c6 ?_)
      case c1 => exact HL.out
      case c2 => intro j u hj; exact Lib.cell?_alloc_some _ (HF.out j u hj)
      case c3 => exact flat_one (fun x u hu => by simp [Prt.enc] at hu; rcases hu with rfl | rfl | rfl <;> rfl) l
      case c4 => unfold maxLen; omega
      case c5 => omega
      case c6 => simp
      intro v w3 hown hgrow hnil
      have x3 : Ext w2 w3 := ((Below.refl _ w2).alloc (Nat.le_refl _) _).grown hgrow (by simp) (by intro k hk; simp [Value.ownBlock] at hk; omega)
      have o3 : Ow Prt.enc 37 3 w3 w2.heap.size v l := by unfold Ow; simpa using hown
      clear hown hgrow hnil hi hz0 hz1 hz2
      obtain ⟨g, c3, rfl, hgB, hgl⟩ := o3.base (by omega)
      obtain ⟨x, e2⟩ : ∃ x, w3.cell? ⟨g, k * 3 + 2, none⟩ = some x := ⟨_, (World.ownsRow.cellAt o3 (k * 3 + 2) (by omega)).trans (List.getElem?_eq_getElem (by rw [flat_length Prt.enc_len]; omega))⟩
      have hfz := World.ownsRow.frozenAt o3
      have HO := Lib.hid o3
      clear o3
      go_wp2
      have s2 := World.ownsRow.stored HO.out (k * 3 + 2) (.int .i64 ow)
      go_ret2
      refine ⟨_, ret_vb HB.out.1, ?_, ?_⟩
      · rw [HB.out.2]
        refine Ow.less ?_ (Nat.le_trans X2.size (Nat.le_refl _))
        have := s2.1
        rw [give_row l k hkl ow] at this
        unfold Ow
        rw [show (giveL l k ow).length = l.length by simp [giveL]]
        exact this
      · exact ext_set (Ext.trans X2 x3) (Nat.le_trans X2.size hgB) _
  · have hb : giveB l key ow = false := by unfold giveB; simp [hp]
    have HB := Lib.hid (give_no hb)
    obtain ⟨z, hz⟩ : ∃ z, partAtV l key = z := ⟨_, rfl⟩
    rw [hz] at hp hcon
    have hz0 : decide (z < 0) = true := by simp; omega
    clear hz hb hp
    go_enter Try.func9, Try.ntmps9
    go_wp2_with fail
    refine hcon.mono ?_
    rintro e w1 ⟨rfl, x1⟩
    go_wp2
    go_ret2
    exact ⟨_, ret_vb HB.out.1, by rw [HB.out.2]; exact (World.ownsRow_made _ #[] 0 x1.size (Nat.zero_le _) (by simp)), ext_to x1 _⟩
end Go.Proofs.Ytgebfcmkcggdmaa
