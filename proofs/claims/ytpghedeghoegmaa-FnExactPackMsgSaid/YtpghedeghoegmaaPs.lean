/- Rows of numbers written as bytes: PutNums of the reference and of the program. -/
import Derived.Test.YtpghedeghoegmaaPn
import Derived.Test.YtpghedeghoegmaaWm
namespace Go.Proofs.Ytpghedeghoegmaa
open Go.ChangeShapes Go.WideShapes Go.ChangeAt Go.RowKit Go.Sort
set_option linter.unusedVariables false
set_option linter.unusedSimpArgs false

/-- a row of whole numbers -/
def zEnc (x : Int) : List Value := [.int .i64 x]
theorem zEnc_len (x : Int) : (zEnc x).length = 1 := rfl
theorem zEnc_one (x : Int) : ∀ u ∈ zEnc x, u.oneCell' = true := by
  intro u hu
  simp only [zEnc, List.mem_singleton] at hu
  subst hu
  rfl
theorem Try.infoZ : (Try.prog.info? 3).map (fun i => (i.zero, i.size, i.bytes)) = some (some (.int .i64 0), 1, 8) := by kernel_rfl
theorem Rd.atZ {w : World} {A : Option Addr} {c : Nat} {l : List Int} (h : Rd zEnc 1 w A c l) {k : Nat} (hk : k < l.length) : ∃ b o, A = some ⟨b, o, none⟩ ∧ b < w.heap.size ∧ w.cell? ⟨b, o + k, none⟩ = some (.int .i64 l[k]) := by
  obtain ⟨b, o, e, hlt, hc⟩ := h.2.2 (by omega)
  exact ⟨b, o, e, hlt, by simpa using hc k hk 0 _ rfl⟩
theorem Rd.atB {w : World} {A : Option Addr} {c : Nat} {l : List Nat} (h : Rd bEnc 1 w A c l) {k : Nat} (hk : k < l.length) : ∃ b o, A = some ⟨b, o, none⟩ ∧ b < w.heap.size ∧ w.cell? ⟨b, o + k, none⟩ = some (.int .u8 l[k]) := by
  obtain ⟨b, o, e, hlt, hc⟩ := h.2.2 (by omega)
  exact ⟨b, o, e, hlt, by simpa using hc k hk 0 _ rfl⟩
/-- the numbers may be written -/
def Nn (l : List Int) : Prop := ∀ x ∈ l, 0 ≤ x ∧ x < 9223372036854775808
theorem packZ_len9 {l : List Int} (h : Nn l) : (packZ l).length ≤ 9 * l.length := by
  induction l with
  | nil => simp [packZ]
  | cons x l ih =>
    rw [packZ_cons, List.length_append, List.length_cons]
    have h1 := putN_len9 (x := x.toNat) (by have := h x List.mem_cons_self; omega)
    have h2 := ih (fun y hy => h y (List.mem_cons_of_mem _ hy))
    omega
theorem packZ_next {l : List Int} {k : Nat} (hk : k < l.length) : packZ (l.take (k + 1)) = packZ (l.take k) ++ putN l[k].toNat := by
  rw [List.take_succ_eq_append_getElem hk, packZ_append]
  simp [packZ]
theorem Nn.take {l : List Int} (h : Nn l) (k : Nat) : Nn (l.take k) := fun x hx => h x (List.mem_of_mem_take hx)
set_option maxRecDepth 100000 in
set_option maxHeartbeats 4000000 in
theorem c_sPutNums (A : Option Addr) (c : Nat) (l : List Int) (w : World) (hr : Rd zEnc 1 w A c l) (hz : Nn l) (hn : l.length ≤ 1048576) : Calls Try.prog 30 #[.slice A l.length c] w fun e w' => (∃ A' c', e = .returned (.slice A' (packZ l).length c') ∧ Ow bEnc 5 1 w' w.heap.size (.slice A' (packZ l).length c') (packZ l)) ∧ Ext w w' := by
  obtain ⟨i0, hi, hz0, hz1, hz2⟩ := info_parts Try.infoU8
  have HR := Lib.hid hr
  have HZ := Lib.hid hz
  clear hr hz
  go_enter Try.func30, Try.ntmps30
  go_wp2
  go_loopw [3, 4] (fun o i wr => ∃ k : Nat, k ≤ l.length ∧ i = .int .i64 k ∧ Ow bEnc 5 1 wr w.heap.size o (packZ (l.take k)) ∧ Ext w wr) (fun _ i _ => l.length - (intOf i).toNat)
  case atStart => exact ⟨0, Nat.zero_le _, rfl, own_empty (hNew rfl) (Nat.le_refl _), ext_alloc _ _⟩
  case round =>
    obtain ⟨k, hk, rfl, ho, X⟩ := hrel
    obtain ⟨Ao, co, rfl⟩ := ho.form
    have HO := Lib.hid ho
    have hs := X.size
    have hpl : (packZ (l.take k)).length ≤ 9437184 := by
      have h1 := packZ_len9 (HZ.out.take k)
      rw [List.length_take] at h1
      omega
    clear ho
    by_cases hlt : k < l.length
    · obtain ⟨zb, zo, hA, hzb, z0⟩ := (HR.out.keep X).atZ hlt
      subst hA
      obtain ⟨hx0, hx1⟩ := HZ.out l[k] (List.getElem_mem hlt)
      obtain ⟨y, hy⟩ : ∃ y : Nat, l[k] = (y : Int) := ⟨l[k].toNat, by omega⟩
      have HN := Lib.hid (packZ_next hlt)
      rw [hy] at z0 HN
      rw [show ((y : Int)).toNat = y by omega] at HN
      have hneg : decide ((y : Int) < 0) = false := by simp
      clear hx0
      go_wp2_with fail
      refine (c_sPutNum y (by omega) wr).mono ?_
      rintro e w2 ⟨⟨A2, c2, rfl, o2⟩, x2⟩
      have h9 := putN_len9 (x := y) (by omega)
      have HO2 := Lib.hid (o2.rd bEnc_len).2
      have HP := Lib.hid (HO.out.kept x2)
      have X2 := Ext.trans X x2
      have hs2 := X2.size
      clear o2 x2 X HO z0
      generalize hP : packZ (l.take k) = P at HP HN hpl ⊢
      generalize hQ : putN y = Q at HO2 HN h9 ⊢
      go_wp2_with (at_builtin; refine wl_app (enc := bEnc) rfl _ _ 34 rfl w.heap.size 5 i0 (.int .u8 0) 1 1 Try.underlying34 hi hz0 hz1 hz2 rfl (by decide) bEnc_len bEnc_one (.slice Ao P.length co) P rfl HP.out A2 c2 Q Q.length rfl rfl HO2.out (by unfold maxLen; omega) (by omega) (by omega) ?_)
      intro v' w4 ho4 hg4
      have X4 := ext_app2 X2 hg4 HP.out (Nat.le_refl _)
      clear hg4 HP HO2
      go_wp2
      go_roundw
      case rel => exact ⟨k + 1, by omega, by go_num, by rw [HN.out]; exact ho4, X4⟩
      case measure => simp [intOf] <;> omega
    · obtain rfl : k = l.length := by omega
      rw [List.take_length] at HO ⊢
      go_wp2
      go_ret
      exact ⟨⟨Ao, co, rfl, HO.out⟩, X⟩
set_option maxRecDepth 100000 in
set_option maxHeartbeats 4000000 in
theorem c_iPutNums (A : Option Addr) (c : Nat) (l : List Int) (w : World) (hr : Rd zEnc 1 w A c l) (hz : Nn l) (hn : l.length ≤ 1048576) : Calls Try.prog 38 #[.slice A l.length c] w fun e w' => (∃ A' c', e = .returned (.slice A' (packZ l).length c') ∧ Ow bEnc 5 1 w' w.heap.size (.slice A' (packZ l).length c') (packZ l)) ∧ Ext w w' := by
  obtain ⟨i0, hi, hz0, hz1, hz2⟩ := info_parts Try.infoU8
  have HR := Lib.hid hr
  have HZ := Lib.hid hz
  clear hr hz
  go_enter Try.func38, Try.ntmps38
  go_wp2
  go_loopw [3, 5, 9] (fun o x i wr => ∃ k : Nat, k ≤ l.length ∧ i = .int .i64 k ∧ Ow bEnc 5 1 wr w.heap.size o (packZ (l.take k)) ∧ Ext w wr) (fun _ _ i _ => l.length - (intOf i).toNat)
  case atStart => exact ⟨0, Nat.zero_le _, rfl, own_empty (hNew rfl) (Nat.le_refl _), ext_alloc _ _⟩
  case round =>
    obtain ⟨k, hk, rfl, ho, X⟩ := hrel
    obtain ⟨Ao, co, rfl⟩ := ho.form
    have HO := Lib.hid ho
    have hs := X.size
    have hpl : (packZ (l.take k)).length ≤ 9437184 := by
      have h1 := packZ_len9 (HZ.out.take k)
      rw [List.length_take] at h1
      omega
    clear ho
    by_cases hlt : k < l.length
    · obtain ⟨zb, zo, hA, hzb, z0⟩ := (HR.out.keep X).atZ hlt
      subst hA
      obtain ⟨hx0, hx1⟩ := HZ.out l[k] (List.getElem_mem hlt)
      obtain ⟨y, hy⟩ : ∃ y : Nat, l[k] = (y : Int) := ⟨l[k].toNat, by omega⟩
      have HN := Lib.hid (packZ_next hlt)
      rw [hy] at z0 HN
      rw [show ((y : Int)).toNat = y by omega] at HN
      have hneg : decide ((y : Int) < 0) = false := by simp
      clear hx0
      go_wp2_with fail
      refine (c_iPutNum y (by omega) wr).mono ?_
      rintro e w2 ⟨⟨A2, c2, rfl, o2⟩, x2⟩
      have h9 := putN_len9 (x := y) (by omega)
      have HO2 := Lib.hid (o2.rd bEnc_len).2
      have HP := Lib.hid (HO.out.kept x2)
      have X2 := Ext.trans X x2
      have hs2 := X2.size
      clear o2 x2 X HO z0
      generalize hP : packZ (l.take k) = P at HP HN hpl ⊢
      generalize hQ : putN y = Q at HO2 HN h9 ⊢
      go_wp2_with (at_builtin; refine wl_app (enc := bEnc) rfl _ _ 34 rfl w.heap.size 5 i0 (.int .u8 0) 1 1 Try.underlying34 hi hz0 hz1 hz2 rfl (by decide) bEnc_len bEnc_one (.slice Ao P.length co) P rfl HP.out A2 c2 Q Q.length rfl rfl HO2.out (by unfold maxLen; omega) (by omega) (by omega) ?_)
      intro v' w4 ho4 hg4
      have X4 := ext_app2 X2 hg4 HP.out (Nat.le_refl _)
      clear hg4 HP HO2
      go_wp2
      go_roundw
      case rel => exact ⟨k + 1, by omega, by go_num, by rw [HN.out]; exact ho4, X4⟩
      case measure => simp [intOf] <;> omega
    · obtain rfl : k = l.length := by omega
      rw [List.take_length] at HO ⊢
      go_wp2
      go_ret
      exact ⟨⟨Ao, co, rfl, HO.out⟩, X⟩
end Go.Proofs.Ytpghedeghoegmaa
