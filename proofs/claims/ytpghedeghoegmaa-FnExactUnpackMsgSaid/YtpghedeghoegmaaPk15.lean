/- MsgFits of the program. -/
import Derived.Test.YtpghedeghoegmaaPk14
import Derived.Test.YtpghedeghoegmaaPk12
namespace Go.Proofs.Ytpghedeghoegmaa
open Go.ChangeShapes Go.WideShapes Go.ChangeAt Go.RowKit Go.Sort
set_option linter.unusedVariables false
set_option linter.unusedSimpArgs false

theorem c_numOf (P : Nat) (b : Int) (w : World) : Calls Try.prog 40 #[.pointer (some ⟨P, 0, none⟩), .int .u8 b] w fun e w' => e = .returned (.pointer (some ⟨P, nOff b, none⟩)) ∧ Ext w w' := by
  go_enter Try.func40, Try.ntmps40
  go_wp2
  all_goals
    go_ret
    refine ⟨?_, ext_refl _⟩
    (first | (simp [nOff, *]; done) | (simp_all [nOff]; done))
theorem iForm_small (k : Int) : (iForm k).size ≤ 100 := by unfold iForm; (repeat' split) <;> decide
theorem sForm_small (k : Int) : (sForm k).size ≤ 100 := by unfold sForm; (repeat' split) <;> decide
def fOne (h : Bool) (b n : Int) : Bool := h && fOk b n || !h && n == 0
def iLet (k : Nat) : Int := if h : k < 9 then (((⟨#[70, 86, 79, 67, 78, 110, 99, 114, 65]⟩ : ByteArray)[k]'h).toNat : Int) else 0
def iVal (m : Mg) : Nat → Int
  | 0 => m.frm
  | 1 => m.view
  | 2 => m.op
  | 3 => m.commit
  | 4 => m.normal
  | 5 => m.nonce
  | 6 => m.client
  | 7 => m.req
  | _ => m.answer
def Mg.cells (a : LAd) (m : Mg) : Array Value := match Mg.val a m with | .agg x => x | _ => #[]
theorem iLet_at (a : LAd) (m : Mg) (k : Nat) (h : k < 9) : (Mg.cells a m)[nOff (iLet k)]? = some (.int .i64 (iVal m k)) := by
  have h9 : k = 0 ∨ k = 1 ∨ k = 2 ∨ k = 3 ∨ k = 4 ∨ k = 5 ∨ k = 6 ∨ k = 7 ∨ k = 8 := by omega
  rcases h9 with rfl | rfl | rfl | rfl | rfl | rfl | rfl | rfl | rfl <;> rfl
/-- the field of the letter fits -/
def iFld (m : Mg) (f : ByteArray) (k : Nat) : Bool := fOne (sHas f (iLet k)) (iLet k) (iVal m k)
def iTo (m : Mg) (f : ByteArray) (k : Nat) : Prop := ∀ j, j < k → iFld m f j = true
instance (m : Mg) (f : ByteArray) (k : Nat) : Decidable (iTo m f k) := inferInstanceAs (Decidable (∀ j, j < k → _))
theorem iTo.next {m : Mg} {f : ByteArray} {k : Nat} (h : iTo m f k) (hs : iFld m f k = true) : iTo m f (k + 1) := fun j hj => by
  by_cases he : j = k
  · subst he; exact hs
  · exact h j (by omega)
def iCmd (m : Mg) (f : ByteArray) : Bool := sHas f 120 && cmdOk m.ck m.cx m.cv || !sHas f 120 && (m.ck == 0 && m.cx == 0 && m.cv == 0)
def iLog (m : Mg) (f : ByteArray) : Bool := if sHas f 76 = true then hasNum m.log m.commit && decide (m.normal ≤ m.view) else isZ m.log
def iFits (m : Mg) : Bool := !(iForm m.kind).toList.isEmpty && decide (iTo m (iForm m.kind) 9) && iCmd m (iForm m.kind) && iLog m (iForm m.kind)
theorem iNo_fld {m : Mg} {k : Nat} (hk : k < 9) (h : iFld m (iForm m.kind) k = false) : iFits m = false := by
  have : decide (iTo m (iForm m.kind) 9) = false := decide_eq_false (fun hp => by have := hp k hk; rw [h] at this; cases this)
  simp [iFits, this]

set_option maxRecDepth 100000 in
set_option maxHeartbeats 8000000 in
theorem c_iMsgFits (a : LAd) (m : Mg) (w : World) (hs : m.log.small) (hr : LgR w a m.log) : Calls Try.prog 35 #[Mg.val a m] w fun e w' => e = .returned (.bool (iFits m)) ∧ Ext w w' := by
  have X0 := ext_alloc w (Mg.obj a m)
  obtain ⟨F, hF⟩ : ∃ F, iForm m.kind = F := ⟨_, rfl⟩
  have HFm := Lib.hid hF
  have hFs : F.size ≤ 100 := by rw [← hF]; exact iForm_small _
  have hFl := fun W => c_fields m.kind W
  rw [hF] at hFl
  have HF := Lib.hid hFl
  clear hFl hF
  cases he : F.toList.isEmpty
  · go_enter Try.func35, Try.ntmps35
    go_wp2_with fail
    refine (HF.out _).mono ?_
    rintro e w1 ⟨rfl, x1⟩
    go_wp2
    have HE := Lib.hid he
    clear he
    go_loopw [11] (fun i wr => ∃ k : Nat, k ≤ 9 ∧ i = .int .i64 k ∧ iTo m F k ∧ Ext (w.alloc (Mg.obj a m)) wr) (fun i _ => 9 - (intOf i).toNat)
    case atStart => exact ⟨0, Nat.zero_le _, rfl, fun j hj => absurd hj (by omega), x1⟩
    case round =>
      obtain ⟨k, hk, rfl, ht, hx0⟩ := hrel
      have HT := Lib.hid ht
      have B1 := hx0.box (hNew (w := w) (o := Mg.obj a m) rfl)
      have b1 := bx_cell B1
      have f1 := bx_frozen B1
      have z1 := bx_lt B1
      have X1 := Ext.trans X0 hx0
      clear ht B1 x1
      by_cases hlt : k < 9
      · have hl : (((⟨#[70, 86, 79, 67, 78, 110, 99, 114, 65]⟩ : ByteArray)[k]'hlt).toNat : Int) = iLet k := by rw [iLet, dif_pos hlt]
        have hc : wr.cell? ⟨w.heap.size, nOff (iLet k), none⟩ = some (.int .i64 (iVal m k)) := (b1 _).trans (iLet_at a m k hlt)
        clear b1
        cases q : iFld m F k
        · have HN := Lib.hid (iNo_fld (m := m) hlt (by rw [HFm.out]; exact q))
          simp only [iFld, fOne] at q
          generalize iLet k = b at hl hc q
          generalize iVal m k = n at hc q
          cases qh : sHas F b
          · simp only [qh, Bool.false_and, Bool.not_false, Bool.true_and, Bool.false_or] at q
            have q' : (n != 0) = true := by simp only [bne, q]; rfl
            clear q
            go_wp2_with (first | (go_at_call 40; refine (c_numOf _ _ _).mono ?_; rintro e w1 ⟨rfl, hx⟩; obtain ⟨hc1, hf1, hs1⟩ := hx.rules; (try simp at hs1)) | (go_at_call 74; refine (c_has _ _ hFs _).mono ?_; rintro e w1 ⟨rfl, hx⟩; obtain ⟨hc1, hf1, hs1⟩ := hx.rules; (try simp at hs1)) | (go_at_call 75; refine (c_fieldOk _ _ _).mono ?_; rintro e w1 ⟨rfl, hx⟩; obtain ⟨hc1, hf1, hs1⟩ := hx.rules; (try simp at hs1)))
            go_ret
            refine ⟨ret_bool HN.out.symm, ?_⟩
            (repeat (first | with_reducible exact ext_refl _ | with_reducible refine ext_to ?_ _ | with_reducible refine ext_set ?_ (by first | (simp; done) | (simp; omega) | omega) _ | with_reducible refine ext_drew ?_ | with_reducible refine Ext.trans ?_ (by assumption)))
          · simp only [qh, Bool.true_and, Bool.not_true, Bool.false_and, Bool.or_false] at q
            go_wp2_with (first | (go_at_call 40; refine (c_numOf _ _ _).mono ?_; rintro e w1 ⟨rfl, hx⟩; obtain ⟨hc1, hf1, hs1⟩ := hx.rules; (try simp at hs1)) | (go_at_call 74; refine (c_has _ _ hFs _).mono ?_; rintro e w1 ⟨rfl, hx⟩; obtain ⟨hc1, hf1, hs1⟩ := hx.rules; (try simp at hs1)) | (go_at_call 75; refine (c_fieldOk _ _ _).mono ?_; rintro e w1 ⟨rfl, hx⟩; obtain ⟨hc1, hf1, hs1⟩ := hx.rules; (try simp at hs1)))
            go_ret
            refine ⟨ret_bool HN.out.symm, ?_⟩
            (repeat (first | with_reducible exact ext_refl _ | with_reducible refine ext_to ?_ _ | with_reducible refine ext_set ?_ (by first | (simp; done) | (simp; omega) | omega) _ | with_reducible refine ext_drew ?_ | with_reducible refine Ext.trans ?_ (by assumption)))
        · have HN := Lib.hid (HT.out.next q)
          simp only [iFld, fOne] at q
          generalize iLet k = b at hl hc q
          generalize iVal m k = n at hc q
          cases qh : sHas F b
          · simp only [qh, Bool.false_and, Bool.not_false, Bool.true_and, Bool.false_or] at q
            have q' : (n != 0) = false := by simp only [bne, q]; rfl
            clear q
            go_wp2_with (first | (go_at_call 40; refine (c_numOf _ _ _).mono ?_; rintro e w1 ⟨rfl, hx⟩; obtain ⟨hc1, hf1, hs1⟩ := hx.rules; (try simp at hs1)) | (go_at_call 74; refine (c_has _ _ hFs _).mono ?_; rintro e w1 ⟨rfl, hx⟩; obtain ⟨hc1, hf1, hs1⟩ := hx.rules; (try simp at hs1)) | (go_at_call 75; refine (c_fieldOk _ _ _).mono ?_; rintro e w1 ⟨rfl, hx⟩; obtain ⟨hc1, hf1, hs1⟩ := hx.rules; (try simp at hs1)))
            go_roundw
            case rel =>
              clear X1
              refine ⟨k + 1, by omega, by go_num, HN.out, ?_⟩
              (repeat (first | with_reducible exact ext_refl _ | with_reducible refine ext_to ?_ _ | with_reducible refine ext_set ?_ (by first | (simp; done) | (simp; omega) | omega) _ | with_reducible refine ext_drew ?_ | with_reducible refine Ext.trans ?_ (by assumption)))
            case measure => simp [intOf] <;> omega
          · simp only [qh, Bool.true_and, Bool.not_true, Bool.false_and, Bool.or_false] at q
            go_wp2_with (first | (go_at_call 40; refine (c_numOf _ _ _).mono ?_; rintro e w1 ⟨rfl, hx⟩; obtain ⟨hc1, hf1, hs1⟩ := hx.rules; (try simp at hs1)) | (go_at_call 74; refine (c_has _ _ hFs _).mono ?_; rintro e w1 ⟨rfl, hx⟩; obtain ⟨hc1, hf1, hs1⟩ := hx.rules; (try simp at hs1)) | (go_at_call 75; refine (c_fieldOk _ _ _).mono ?_; rintro e w1 ⟨rfl, hx⟩; obtain ⟨hc1, hf1, hs1⟩ := hx.rules; (try simp at hs1)))
            go_roundw
            case rel =>
              clear X1
              refine ⟨k + 1, by omega, by go_num, HN.out, ?_⟩
              (repeat (first | with_reducible exact ext_refl _ | with_reducible refine ext_to ?_ _ | with_reducible refine ext_set ?_ (by first | (simp; done) | (simp; omega) | omega) _ | with_reducible refine ext_drew ?_ | with_reducible refine Ext.trans ?_ (by assumption)))
            case measure => simp [intOf] <;> omega
      · obtain rfl : k = 9 := by omega
        have ht9 := decide_eq_true HT.out
        have hv : (iCmd m F && iLog m F) = iFits m := by unfold iFits; rw [HFm.out, ht9, HE.out]; simp
        have HV := Lib.hid hv
        clear ht9 hv HT HE HFm
        have HR := Lib.hid hr
        clear hr
        cases qx : sHas F 120
        all_goals
          go_wp2_with (first | (go_at_call 74; refine (c_has _ _ hFs _).mono ?_; rintro e w1 ⟨rfl, hx⟩; obtain ⟨hc1, hf1, hs1⟩ := hx.rules; (try simp at hs1); have z0 : w.heap.size < w1.heap.size := (by omega)) | (go_at_call 76; refine (c_iCmdOk _ _ _ _).mono ?_; rintro e w1 ⟨rfl, hx⟩; obtain ⟨hc1, hf1, hs1⟩ := hx.rules; (try simp at hs1); have z0 : w.heap.size < w1.heap.size := (by omega)) | (go_at_call 77; refine (c_isLogZero _ _ _ hs.1 hs.2.1 hs.2.2).mono ?_; rintro e w1 ⟨rfl, hx⟩; obtain ⟨hc1, hf1, hs1⟩ := hx.rules; (try simp at hs1); have z0 : w.heap.size < w1.heap.size := (by omega)))
          any_goals
            go_ret
            refine ⟨ret_bool ?_, ?_⟩
            · rw [← HV.out]
              (first | (simp [iCmd, iLog, *]; done) | (simp_all [iCmd, iLog]; done))
            · (repeat (first | with_reducible exact ext_refl _ | with_reducible refine ext_to ?_ _ | with_reducible refine ext_set ?_ (by first | (simp; done) | (simp; omega) | omega) _ | with_reducible refine ext_drew ?_ | with_reducible refine Ext.trans ?_ (by assumption)))
          have XX : Ext w w1 := by (repeat (first | with_reducible exact ext_refl _ | with_reducible refine ext_to ?_ _ | with_reducible refine ext_set ?_ (by first | (simp; done) | (simp; omega) | omega) _ | with_reducible refine ext_drew ?_ | with_reducible refine Ext.trans ?_ (by assumption)))
          have hK := fun W (h : Ext w1 W) => c_iLogOk a m.log hs.1 hs.2.1 hs.2.2 W (HR.out.keep (Ext.trans XX h))
          cases q5 : logOk m.log
          · rw [q5] at hK
            have HK := Lib.hid hK
            clear hK
            (refine wp_region_mix' (fun _ _ _ _ _ hq => hq) 22 (by kernel_rfl) (by kernel_rfl) (fun hg => ?_); simp only [headOps, List.take_succ_cons, List.take_zero, List.filter_cons, List.filter_nil, isAlloc, Bool.not_false, Bool.false_eq_true, if_true, if_false, List.append_nil, List.drop_succ_cons, List.drop_zero])
            (repeat (first | (refine wpMix_plain rfl rfl ?_; go_big_quiet_step (fail); refine wpQuiet_nil ?_) | (refine wpMix_skip rfl rfl ?_; simp only [Act.put, List.setIfInBounds_toArray, List.set_cons_zero, List.set_cons_succ]) | (refine wpMix_det rfl rfl rfl (enters Try.func78 (by kernel_rfl) rfl) (fun W hW => HK.out W hW) rfl ?_; simp only [Act.put, List.setIfInBounds_toArray, List.set_cons_zero, List.set_cons_succ])))
            (refine wpMix_nil ?_; intro w2 hw2)
            go_wp2
            go_ret
            refine ⟨ret_bool ?_, Ext.trans XX hw2⟩
            rw [← HV.out]
            (first | (simp [iCmd, iLog, hasNum, *]; done) | (simp_all [iCmd, iLog, hasNum]; done))
          · have hb := logOk_b q5
            have hE := fun W => c_end a m.log W (by omega) (by omega) (by omega)
            rw [q5] at hK
            have HK := Lib.hid hK
            have HE := Lib.hid hE
            clear hE hK hb
            have hF := fun W => c_from m.commit m.log.base m.log.fin W
            cases q6 : inB m.commit m.log.base m.log.fin
            all_goals
              rw [q6] at hF
              have HF := Lib.hid hF
              clear hF
              (refine wp_region_mix' (fun _ _ _ _ _ hq => hq) 22 (by kernel_rfl) (by kernel_rfl) (fun hg => ?_); simp only [headOps, List.take_succ_cons, List.take_zero, List.filter_cons, List.filter_nil, isAlloc, Bool.not_false, Bool.false_eq_true, if_true, if_false, List.append_nil, List.drop_succ_cons, List.drop_zero])
              (repeat (first | (refine wpMix_plain rfl rfl ?_; go_big_quiet_step (fail); refine wpQuiet_nil ?_) | (refine wpMix_skip rfl rfl ?_; simp only [Act.put, List.setIfInBounds_toArray, List.set_cons_zero, List.set_cons_succ]) | (refine wpMix_det rfl rfl rfl (enters Try.func78 (by kernel_rfl) rfl) (fun W hW => HK.out W hW) rfl ?_; simp only [Act.put, List.setIfInBounds_toArray, List.set_cons_zero, List.set_cons_succ]) | (refine wpMix_det rfl rfl rfl (enters Try.func80 (by kernel_rfl) rfl) (fun W hW => HE.out W) rfl ?_; simp only [Act.put, List.setIfInBounds_toArray, List.set_cons_zero, List.set_cons_succ]) | (refine wpMix_det rfl rfl rfl (enters Try.func79 (by kernel_rfl) rfl) (fun W hW => HF.out W) rfl ?_; simp only [Act.put, List.setIfInBounds_toArray, List.set_cons_zero, List.set_cons_succ])))
              (refine wpMix_nil ?_; intro w2 hw2)
              go_wp2
              go_ret
              refine ⟨ret_bool ?_, Ext.trans XX hw2⟩
              rw [← HV.out]
              (first | (simp [iCmd, iLog, hasNum, *]; done) | (simp_all [iCmd, iLog, hasNum]; done))
  · have HN := Lib.hid (show iFits m = false by unfold iFits; rw [HFm.out, he]; rfl)
    go_enter Try.func35, Try.ntmps35
    go_wp2_with fail
    refine (HF.out _).mono ?_
    rintro e w1 ⟨rfl, x1⟩
    go_wp2
    go_ret
    exact ⟨ret_bool HN.out.symm, Ext.trans X0 x1⟩
end Go.Proofs.Ytpghedeghoegmaa

