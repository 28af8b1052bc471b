/- The forms of messages: letters in strings. -/
import Derived.Test.YtpghedeghoegmaaPk20
import Derived.Test.YtpghedeghoegmaaPk21
import Derived.Test.YtpghedeghoegmaaPk15
namespace Go.Proofs.Ytpghedeghoegmaa
open Go.ChangeShapes Go.WideShapes Go.ChangeAt Go.RowKit Go.Sort
set_option linter.unusedVariables false
set_option linter.unusedSimpArgs false
def sHas (s : ByteArray) (b : Int) : Bool := (List.range s.size).any (fun i => if h : i < s.size then (s[i].toNat : Int) == b else false)
def sTo (s : ByteArray) (b : Int) (k : Nat) : Prop := ∀ j (h : j < s.size), j < k → ((s[j].toNat : Int) == b) = false
theorem sTo.next {s : ByteArray} {b : Int} {k : Nat} (h : sTo s b k) (hk : k < s.size) (hs : ((s[k].toNat : Int) == b) = false) : sTo s b (k + 1) := fun j hj hjk => by
 by_cases he : j = k
 ·subst he; exact hs
 ·exact h j hj (by omega)
theorem sHas_yes {s : ByteArray} {b : Int} {k : Nat} (hk : k < s.size) (hs : ((s[k].toNat : Int) == b) = true) : sHas s b = true := by
 unfold sHas
 rw [List.any_eq_true]
 exact ⟨k, by simpa using hk, by rw [dif_pos hk]; exact hs⟩
theorem sHas_no {s : ByteArray} {b : Int} (h : sTo s b s.size) : sHas s b = false := by
 unfold sHas
 rw [List.any_eq_false]
 intro j hj
 have hj' : j < s.size := by simpa using hj
 rw [dif_pos hj', h j hj' hj']
 simp
theorem c_l4In (s : ByteArray) (b : Int) (hs : s.size ≤ 100) (w : World) : Calls Try.prog 58 #[.string s, .int .u8 b] w fun e w' => e = .returned (.bool (sHas s b)) ∧ Ext w w' := by
 go_enter Try.func58, Try.ntmps58
 go_wp2
 go_loopw [5] (fun i wr => ∃ k : Nat, k ≤ s.size ∧ i = .int .i64 k ∧ sTo s b k ∧ Ext w wr) (fun i _ => s.size - (intOf i).toNat)
 case atStart => exact ⟨0, Nat.zero_le _, rfl, fun j hj hjk => absurd hjk (by omega), ext_refl _⟩
 case round =>
  obtain ⟨k, hk, rfl, ht, X⟩ := hrel
  have HT := Hd ht
  clear ht
  by_cases hlt : k < s.size
  ·cases q : ((s[k].toNat : Int) == b)
   ·have HN := Hd (HT.out.next hlt q)
    go_wp2
    go_roundw
    case rel => exact ⟨k + 1, by omega, by go_num, HN.out, X⟩
    case measure => simp [intOf] <;> omega
   ·have HN := Hd (sHas_yes hlt q)
    go_wp2
    go_ret
    exact ⟨ret_bool HN.out.symm, X⟩
  ·obtain rfl : k = s.size := by omega
   have HN := Hd (sHas_no HT.out)
   go_wp2
   go_ret
   exact ⟨ret_bool HN.out.symm, X⟩
theorem c_has (s : ByteArray) (b : Int) (hs : s.size ≤ 100) (w : World) : Calls Try.prog 74 #[.string s, .int .u8 b] w fun e w' => e = .returned (.bool (sHas s b)) ∧ Ext w w' := by
 go_enter Try.func74, Try.ntmps74
 go_wp2
 go_loopw [8] (fun i wr => ∃ k : Nat, k ≤ s.size ∧ i = .int .i64 k ∧ sTo s b k ∧ Ext w wr) (fun i _ => s.size - (intOf i).toNat)
 case atStart => exact ⟨0, Nat.zero_le _, rfl, fun j hj hjk => absurd hjk (by omega), ext_refl _⟩
 case round =>
  obtain ⟨k, hk, rfl, ht, X⟩ := hrel
  have HT := Hd ht
  clear ht
  by_cases hlt : k < s.size
  ·cases q : ((s[k].toNat : Int) == b)
   ·have HN := Hd (HT.out.next hlt q)
    go_wp2
    go_roundw
    case rel => exact ⟨k + 1, by omega, by go_num, HN.out, X⟩
    case measure => simp [intOf] <;> omega
   ·have HN := Hd (sHas_yes hlt q)
    go_wp2
    go_ret
    exact ⟨ret_bool HN.out.symm, X⟩
  ·obtain rfl : k = s.size := by omega
   have HN := Hd (sHas_no HT.out)
   go_wp2
   go_ret
   exact ⟨ret_bool HN.out.symm, X⟩
def numOk (h : Bool) (x lo hi : Int) : Bool := h && inB x lo hi || !h && x == 0
theorem c_l4Num (h : Bool) (x lo hi : Int) (w : World) : Calls Try.prog 57 #[.bool h, .int .i64 x, .int .i64 lo, .int .i64 hi] w fun e w' => e = .returned (.bool (numOk h x lo hi)) ∧ Ext w w' := by
 cases h
 ·go_enter Try.func57, Try.ntmps57
  go_wp2
  all_goals
   go_ret
   exact ⟨ret_bool (by first | (simp [numOk, *]; done) | (simp_all [numOk]; done)), ext_refl _⟩
 ·go_enter Try.func57, Try.ntmps57
  go_wp2_with (go_at_call 61; refine (c_l1In _ _ _ _).mono ?_; rintro e w1 ⟨rfl, hx⟩; obtain ⟨hc1, hf1, hs1⟩ := hx.rules; (try simp at hs1))
  all_goals
   go_ret
   refine ⟨ret_bool ?_, ?_⟩
   ·(first | (simp [numOk, *]; done) | (simp_all [numOk]; done))
   ·(repeat (first | with_reducible exact ext_refl _ | with_reducible refine ext_to ?_ _ | with_reducible refine ext_set ?_ (by first | (simp; done) | (simp; omega) | omega) _ | with_reducible refine ext_drew ?_ | with_reducible refine Ext.trans ?_ (by assumption)))
def sForm (k : Int) : ByteArray := if k = 1 then ⟨#[67, 82, 100]⟩ else if k = 2 then ⟨#[102, 118, 111, 99, 67, 82, 100]⟩ else if k = 3 ∨ k = 10 then ⟨#[102, 118, 111]⟩ else if k = 4 then ⟨#[102, 118, 99]⟩ else if k = 5 then ⟨#[102, 118]⟩ else if k = 6 then ⟨#[102, 118, 110, 99, 108]⟩ else if k = 7 ∨ k = 11 then ⟨#[102, 118, 99, 108]⟩ else if k = 8 then ⟨#[102, 107]⟩ else if k = 9 then ⟨#[102, 118, 107, 99, 108]⟩ else if k = 12 then ⟨#[118, 67, 82, 65]⟩ else ⟨#[]⟩
def iForm (k : Int) : ByteArray := if k = 1 then ⟨#[99, 114, 120]⟩ else if k = 2 then ⟨#[70, 86, 79, 67, 99, 114, 120]⟩ else if k = 3 ∨ k = 10 then ⟨#[70, 86, 79]⟩ else if k = 4 then ⟨#[70, 86, 67]⟩ else if k = 5 then ⟨#[70, 86]⟩ else if k = 6 then ⟨#[70, 86, 78, 67, 76]⟩ else if k = 7 ∨ k = 11 then ⟨#[70, 86, 67, 76]⟩ else if k = 8 then ⟨#[70, 110]⟩ else if k = 9 then ⟨#[70, 86, 110, 67, 76]⟩ else if k = 12 then ⟨#[86, 99, 114, 65]⟩ else ⟨#[]⟩
theorem c_l4Has (k : Int) (w : World) : Calls Try.prog 28 #[.int .i64 k] w fun e w' => e = .returned (.string (sForm k)) ∧ Ext w w' := by
 go_enter Try.func28, Try.ntmps28
 go_wp2
 all_goals
  go_ret
  refine ⟨?_, ext_refl _⟩
  (first | (simp [sForm, *]; done) | (simp_all [sForm]; done))
theorem c_fields (k : Int) (w : World) : Calls Try.prog 37 #[.int .i64 k] w fun e w' => e = .returned (.string (iForm k)) ∧ Ext w w' := by
 go_enter Try.func37, Try.ntmps37
 go_wp2
 all_goals
  go_ret
  refine ⟨?_, ext_refl _⟩
  (first | (simp [iForm, *]; done) | (simp_all [iForm]; done))
def fOk (b n : Int) : Bool := if b = 70 then inB n 0 4 else if b = 114 then inB n 1 1000000000 else if b = 65 then inB n (-1) 1000000000 else inB n 0 1000000000
theorem c_fieldOk (b n : Int) (w : World) : Calls Try.prog 75 #[.int .u8 b, .int .i64 n] w fun e w' => e = .returned (.bool (fOk b n)) ∧ Ext w w' := by
 go_enter Try.func75, Try.ntmps75
 go_wp2_with (first | (go_at_call 79; refine (c_from _ _ _ _).mono ?_; rintro e w1 ⟨rfl, hx⟩; obtain ⟨hc1, hf1, hs1⟩ := hx.rules; (try simp at hs1)) | (go_at_call 110; refine (c_isReq _ _).mono ?_; rintro e w1 ⟨rfl, hx⟩; obtain ⟨hc1, hf1, hs1⟩ := hx.rules; (try simp at hs1)) | (go_at_call 111; refine (c_isAnswer _ _).mono ?_; rintro e w1 ⟨rfl, hx⟩; obtain ⟨hc1, hf1, hs1⟩ := hx.rules; (try simp at hs1)) | (go_at_call 112; refine (c_isWhole _ _).mono ?_; rintro e w1 ⟨rfl, hx⟩; obtain ⟨hc1, hf1, hs1⟩ := hx.rules; (try simp at hs1)))
 all_goals
  go_ret
  refine ⟨ret_bool ?_, ?_⟩
  ·(first | (simp [fOk, *]; done) | (simp_all [fOk]; done))
  ·(repeat (first | with_reducible exact ext_refl _ | with_reducible refine ext_to ?_ _ | with_reducible refine ext_set ?_ (by first | (simp; done) | (simp; omega) | omega) _ | with_reducible refine ext_drew ?_ | with_reducible refine Ext.trans ?_ (by assumption)))
def nOff (b : Int) : Nat := if b = 70 then 1 else if b = 86 then 2 else if b = 79 then 3 else if b = 67 then 4 else if b = 78 then 5 else if b = 110 then 6 else if b = 99 then 7 else if b = 114 then 8 else 9
theorem c_numOf (P : Nat) (b : Int) (w : World) : Calls Try.prog 40 #[.pointer (some ⟨P, 0, none⟩), .int .u8 b] w fun e w' => e = .returned (.pointer (some ⟨P, nOff b, none⟩)) ∧ Ext w w' := by
 go_enter Try.func40, Try.ntmps40
 go_wp2
 all_goals
  go_ret
  refine ⟨?_, ext_refl _⟩
  (first | (simp [nOff, *]; done) | (simp_all [nOff]; done))
theorem iForm_small (k : Int) : (iForm k).size ≤ 100 := by unfold iForm; (repeat' split) <;> decide
theorem sForm_small (k : Int) : (sForm k).size ≤ 100 := by unfold sForm; (repeat' split) <;> decide
def fOne (h : Bool) (b n : Int) : Bool := h && fOk b n || !h && n == 0
def iLet (k : Nat) : Int := if h : k < 9 then (((⟨#[70, 86, 79, 67, 78, 110, 99, 114, 65]⟩ : ByteArray)[k]'h).toNat : Int) else 0
def iVal (m : Mg) : Nat → Int
 | 0 => m.frm
 | 1 => m.view
 | 2 => m.op
 | 3 => m.commit
 | 4 => m.normal
 | 5 => m.nonce
 | 6 => m.client
 | 7 => m.req
 | _ => m.answer
def Mg.cells (a : LAd) (m : Mg) : Array Value := match Mg.val a m with | .agg x => x | _ => #[]
theorem iLet_at (a : LAd) (m : Mg) (k : Nat) (h : k < 9) : (Mg.cells a m)[nOff (iLet k)]? = some (.int .i64 (iVal m k)) := by
 have h9 : k = 0 ∨ k = 1 ∨ k = 2 ∨ k = 3 ∨ k = 4 ∨ k = 5 ∨ k = 6 ∨ k = 7 ∨ k = 8 := by omega
 rcases h9 with rfl | rfl | rfl | rfl | rfl | rfl | rfl | rfl | rfl <;> rfl
def iFld (m : Mg) (f : ByteArray) (k : Nat) : Bool := fOne (sHas f (iLet k)) (iLet k) (iVal m k)
def iTo (m : Mg) (f : ByteArray) (k : Nat) : Prop := ∀ j, j < k → iFld m f j = true
instance (m : Mg) (f : ByteArray) (k : Nat) : Decidable (iTo m f k) := inferInstanceAs (Decidable (∀ j, j < k → _))
theorem iTo.next {m : Mg} {f : ByteArray} {k : Nat} (h : iTo m f k) (hs : iFld m f k = true) : iTo m f (k + 1) := fun j hj => by
 by_cases he : j = k
 ·subst he; exact hs
 ·exact h j (by omega)
def iCmd (m : Mg) (f : ByteArray) : Bool := sHas f 120 && cmdOk m.ck m.cx m.cv || !sHas f 120 && (m.ck == 0 && m.cx == 0 && m.cv == 0)
def iLog (m : Mg) (f : ByteArray) : Bool := if sHas f 76 = true then hasNum m.log m.commit && decide (m.normal ≤ m.view) else isZ m.log
def iFits (m : Mg) : Bool := !(iForm m.kind).toList.isEmpty && decide (iTo m (iForm m.kind) 9) && iCmd m (iForm m.kind) && iLog m (iForm m.kind)
theorem iNo_fld {m : Mg} {k : Nat} (hk : k < 9) (h : iFld m (iForm m.kind) k = false) : iFits m = false := by
 have : decide (iTo m (iForm m.kind) 9) = false := decide_eq_false (fun hp => by have := hp k hk; rw [h] at this; cases this)
 simp [iFits, this]
set_option maxRecDepth 100000 in
set_option maxHeartbeats 8000000 in
theorem c_iMsgFits (a : LAd) (m : Mg) (w : World) (hs : m.log.small) (hr : LgR w a m.log) : Calls Try.prog 35 #[Mg.val a m] w fun e w' => e = .returned (.bool (iFits m)) ∧ Ext w w' := by
 have X0 := ext_alloc w (Mg.obj a m)
 obtain ⟨F, hF⟩ : ∃ F, iForm m.kind = F := ⟨_, rfl⟩
 have HFm := Hd hF
 have hFs : F.size ≤ 100 := by rw [← hF]; exact iForm_small _
 have hFl := fun W => c_fields m.kind W
 rw [hF] at hFl
 have HF := Hd hFl
 clear hFl hF
 cases he : F.toList.isEmpty
 ·go_enter Try.func35, Try.ntmps35
  go_wp2_with fail
  refine (HF.out _).mono ?_
  rintro e w1 ⟨rfl, x1⟩
  go_wp2
  have HE := Hd he
  clear he
  go_loopw [11] (fun i wr => ∃ k : Nat, k ≤ 9 ∧ i = .int .i64 k ∧ iTo m F k ∧ Ext (w.alloc (Mg.obj a m)) wr) (fun i _ => 9 - (intOf i).toNat)
  case atStart => exact ⟨0, Nat.zero_le _, rfl, fun j hj => absurd hj (by omega), x1⟩
  case round =>
   obtain ⟨k, hk, rfl, ht, hx0⟩ := hrel
   have HT := Hd ht
   have B1 := hx0.box (hNew (w := w) (o := Mg.obj a m) rfl)
   have b1 := bx_cell B1
   have f1 := bx_frozen B1
   have z1 := bx_lt B1
   have X1 := Ext.trans X0 hx0
   clear ht B1 x1
   by_cases hlt : k < 9
   ·have hl : (((⟨#[70, 86, 79, 67, 78, 110, 99, 114, 65]⟩ : ByteArray)[k]'hlt).toNat : Int) = iLet k := by rw [iLet, dif_pos hlt]
    have hc : wr.cell? ⟨w.heap.size, nOff (iLet k), none⟩ = some (.int .i64 (iVal m k)) := (b1 _).trans (iLet_at a m k hlt)
    clear b1
    cases q : iFld m F k
    ·have HN := Hd (iNo_fld (m := m) hlt (by rw [HFm.out]; exact q))
     simp only [iFld, fOne] at q
     generalize iLet k = b at hl hc q
     generalize iVal m k = n at hc q
     cases qh : sHas F b
     ·simp only [qh, Bool.false_and, Bool.not_false, Bool.true_and, Bool.false_or] at q
      have q' : (n != 0) = true := by simp only [bne, q]; rfl
      clear q
      go_wp2_with (first | (go_at_call 40; refine (c_numOf _ _ _).mono ?_; rintro e w1 ⟨rfl, hx⟩; obtain ⟨hc1, hf1, hs1⟩ := hx.rules; (try simp at hs1)) | (go_at_call 74; refine (c_has _ _ hFs _).mono ?_; rintro e w1 ⟨rfl, hx⟩; obtain ⟨hc1, hf1, hs1⟩ := hx.rules; (try simp at hs1)) | (go_at_call 75; refine (c_fieldOk _ _ _).mono ?_; rintro e w1 ⟨rfl, hx⟩; obtain ⟨hc1, hf1, hs1⟩ := hx.rules; (try simp at hs1)))
      go_ret
      refine ⟨ret_bool HN.out.symm, ?_⟩
      (repeat (first | with_reducible exact ext_refl _ | with_reducible refine ext_to ?_ _ | with_reducible refine ext_set ?_ (by first | (simp; done) | (simp; omega) | omega) _ | with_reducible refine ext_drew ?_ | with_reducible refine Ext.trans ?_ (by assumption)))
     ·simp only [qh, Bool.true_and, Bool.not_true, Bool.false_and, Bool.or_false] at q
      go_wp2_with (first | (go_at_call 40; refine (c_numOf _ _ _).mono ?_; rintro e w1 ⟨rfl, hx⟩; obtain ⟨hc1, hf1, hs1⟩ := hx.rules; (try simp at hs1)) | (go_at_call 74; refine (c_has _ _ hFs _).mono ?_; rintro e w1 ⟨rfl, hx⟩; obtain ⟨hc1, hf1, hs1⟩ := hx.rules; (try simp at hs1)) | (go_at_call 75; refine (c_fieldOk _ _ _).mono ?_; rintro e w1 ⟨rfl, hx⟩; obtain ⟨hc1, hf1, hs1⟩ := hx.rules; (try simp at hs1)))
      go_ret
      refine ⟨ret_bool HN.out.symm, ?_⟩
      (repeat (first | with_reducible exact ext_refl _ | with_reducible refine ext_to ?_ _ | with_reducible refine ext_set ?_ (by first | (simp; done) | (simp; omega) | omega) _ | with_reducible refine ext_drew ?_ | with_reducible refine Ext.trans ?_ (by assumption)))
    ·have HN := Hd (HT.out.next q)
     simp only [iFld, fOne] at q
     generalize iLet k = b at hl hc q
     generalize iVal m k = n at hc q
     cases qh : sHas F b
     ·simp only [qh, Bool.false_and, Bool.not_false, Bool.true_and, Bool.false_or] at q
      have q' : (n != 0) = false := by simp only [bne, q]; rfl
      clear q
      go_wp2_with (first | (go_at_call 40; refine (c_numOf _ _ _).mono ?_; rintro e w1 ⟨rfl, hx⟩; obtain ⟨hc1, hf1, hs1⟩ := hx.rules; (try simp at hs1)) | (go_at_call 74; refine (c_has _ _ hFs _).mono ?_; rintro e w1 ⟨rfl, hx⟩; obtain ⟨hc1, hf1, hs1⟩ := hx.rules; (try simp at hs1)) | (go_at_call 75; refine (c_fieldOk _ _ _).mono ?_; rintro e w1 ⟨rfl, hx⟩; obtain ⟨hc1, hf1, hs1⟩ := hx.rules; (try simp at hs1)))
      go_roundw
      case rel =>
       clear X1
       refine ⟨k + 1, by omega, by go_num, HN.out, ?_⟩
       (repeat (first | with_reducible exact ext_refl _ | with_reducible refine ext_to ?_ _ | with_reducible refine ext_set ?_ (by first | (simp; done) | (simp; omega) | omega) _ | with_reducible refine ext_drew ?_ | with_reducible refine Ext.trans ?_ (by assumption)))
      case measure => simp [intOf] <;> omega
     ·simp only [qh, Bool.true_and, Bool.not_true, Bool.false_and, Bool.or_false] at q
      go_wp2_with (first | (go_at_call 40; refine (c_numOf _ _ _).mono ?_; rintro e w1 ⟨rfl, hx⟩; obtain ⟨hc1, hf1, hs1⟩ := hx.rules; (try simp at hs1)) | (go_at_call 74; refine (c_has _ _ hFs _).mono ?_; rintro e w1 ⟨rfl, hx⟩; obtain ⟨hc1, hf1, hs1⟩ := hx.rules; (try simp at hs1)) | (go_at_call 75; refine (c_fieldOk _ _ _).mono ?_; rintro e w1 ⟨rfl, hx⟩; obtain ⟨hc1, hf1, hs1⟩ := hx.rules; (try simp at hs1)))
      go_roundw
      case rel =>
       clear X1
       refine ⟨k + 1, by omega, by go_num, HN.out, ?_⟩
       (repeat (first | with_reducible exact ext_refl _ | with_reducible refine ext_to ?_ _ | with_reducible refine ext_set ?_ (by first | (simp; done) | (simp; omega) | omega) _ | with_reducible refine ext_drew ?_ | with_reducible refine Ext.trans ?_ (by assumption)))
      case measure => simp [intOf] <;> omega
   ·obtain rfl : k = 9 := by omega
    have ht9 := decide_eq_true HT.out
    have hv : (iCmd m F && iLog m F) = iFits m := by unfold iFits; rw [HFm.out, ht9, HE.out]; simp
    have HV := Hd hv
    clear ht9 hv HT HE HFm
    have HR := Hd hr
    clear hr
    cases qx : sHas F 120
    all_goals
     go_wp2_with (first | (go_at_call 74; refine (c_has _ _ hFs _).mono ?_; rintro e w1 ⟨rfl, hx⟩; obtain ⟨hc1, hf1, hs1⟩ := hx.rules; (try simp at hs1); have z0 : w.heap.size < w1.heap.size := (by omega)) | (go_at_call 76; refine (c_iCmdOk _ _ _ _).mono ?_; rintro e w1 ⟨rfl, hx⟩; obtain ⟨hc1, hf1, hs1⟩ := hx.rules; (try simp at hs1); have z0 : w.heap.size < w1.heap.size := (by omega)) | (go_at_call 77; refine (c_isLogZero _ _ _ hs.1 hs.2.1 hs.2.2).mono ?_; rintro e w1 ⟨rfl, hx⟩; obtain ⟨hc1, hf1, hs1⟩ := hx.rules; (try simp at hs1); have z0 : w.heap.size < w1.heap.size := (by omega)))
     any_goals
      go_ret
      refine ⟨ret_bool ?_, ?_⟩
      ·rw [← HV.out]
       (first | (simp [iCmd, iLog, *]; done) | (simp_all [iCmd, iLog]; done))
      ·(repeat (first | with_reducible exact ext_refl _ | with_reducible refine ext_to ?_ _ | with_reducible refine ext_set ?_ (by first | (simp; done) | (simp; omega) | omega) _ | with_reducible refine ext_drew ?_ | with_reducible refine Ext.trans ?_ (by assumption)))
     have XX : Ext w w1 := by (repeat (first | with_reducible exact ext_refl _ | with_reducible refine ext_to ?_ _ | with_reducible refine ext_set ?_ (by first | (simp; done) | (simp; omega) | omega) _ | with_reducible refine ext_drew ?_ | with_reducible refine Ext.trans ?_ (by assumption)))
     have hK := fun W (h : Ext w1 W) => c_iLogOk a m.log hs.1 hs.2.1 hs.2.2 W (HR.out.keep (Ext.trans XX h))
     cases q5 : logOk m.log
     ·rw [q5] at hK
      have HK := Hd hK
      clear hK
      (refine wp_region_mix' (fun _ _ _ _ _ hq => hq) 22 (by kernel_rfl) (by kernel_rfl) (fun hg => ?_); simp only [headOps, Tc, Tz, List.filter_cons, List.filter_nil, isAlloc, Bool.not_false, Bf, if_true, if_false, List.append_nil, Dc, Dz])
      (repeat (first | (refine wpMix_plain rfl rfl ?_; go_big_quiet_step (fail); refine wpQuiet_nil ?_) | (refine wpMix_skip rfl rfl ?_; simp only [Act.put, Sa, Sz, Ss]) | (refine wpMix_det rfl rfl rfl (enters Try.func78 (by kernel_rfl) rfl) (fun W hW => HK.out W hW) rfl ?_; simp only [Act.put, Sa, Sz, Ss])))
      (refine wpMix_nil ?_; intro w2 hw2)
      go_wp2
      go_ret
      refine ⟨ret_bool ?_, Ext.trans XX hw2⟩
      rw [← HV.out]
      (first | (simp [iCmd, iLog, hasNum, *]; done) | (simp_all [iCmd, iLog, hasNum]; done))
     ·have hb := logOk_b q5
      have hE := fun W => c_end a m.log W (by omega) (by omega) (by omega)
      rw [q5] at hK
      have HK := Hd hK
      have HE := Hd hE
      clear hE hK hb
      have hF := fun W => c_from m.commit m.log.base m.log.fin W
      cases q6 : inB m.commit m.log.base m.log.fin
      all_goals
       rw [q6] at hF
       have HF := Hd hF
       clear hF
       (refine wp_region_mix' (fun _ _ _ _ _ hq => hq) 22 (by kernel_rfl) (by kernel_rfl) (fun hg => ?_); simp only [headOps, Tc, Tz, List.filter_cons, List.filter_nil, isAlloc, Bool.not_false, Bf, if_true, if_false, List.append_nil, Dc, Dz])
       (repeat (first | (refine wpMix_plain rfl rfl ?_; go_big_quiet_step (fail); refine wpQuiet_nil ?_) | (refine wpMix_skip rfl rfl ?_; simp only [Act.put, Sa, Sz, Ss]) | (refine wpMix_det rfl rfl rfl (enters Try.func78 (by kernel_rfl) rfl) (fun W hW => HK.out W hW) rfl ?_; simp only [Act.put, Sa, Sz, Ss]) | (refine wpMix_det rfl rfl rfl (enters Try.func80 (by kernel_rfl) rfl) (fun W hW => HE.out W) rfl ?_; simp only [Act.put, Sa, Sz, Ss]) | (refine wpMix_det rfl rfl rfl (enters Try.func79 (by kernel_rfl) rfl) (fun W hW => HF.out W) rfl ?_; simp only [Act.put, Sa, Sz, Ss])))
       (refine wpMix_nil ?_; intro w2 hw2)
       go_wp2
       go_ret
       refine ⟨ret_bool ?_, Ext.trans XX hw2⟩
       rw [← HV.out]
       (first | (simp [iCmd, iLog, hasNum, *]; done) | (simp_all [iCmd, iLog, hasNum]; done))
 ·have HN := Hd (show iFits m = false by unfold iFits; rw [HFm.out, he]; rfl)
  go_enter Try.func35, Try.ntmps35
  go_wp2_with fail
  refine (HF.out _).mono ?_
  rintro e w1 ⟨rfl, x1⟩
  go_wp2
  go_ret
  exact ⟨ret_bool HN.out.symm, Ext.trans X0 x1⟩
end Go.Proofs.Ytpghedeghoegmaa
