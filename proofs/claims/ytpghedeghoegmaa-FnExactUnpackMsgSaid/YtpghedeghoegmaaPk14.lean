/- The forms of messages: letters in strings. -/
import Derived.Test.YtpghedeghoegmaaPk12
import Derived.Test.YtpghedeghoegmaaPk13
namespace Go.Proofs.Ytpghedeghoegmaa
open Go.ChangeShapes Go.WideShapes Go.ChangeAt Go.RowKit Go.Sort
set_option linter.unusedVariables false
set_option linter.unusedSimpArgs false

/-- the letter is in the string -/
def sHas (s : ByteArray) (b : Int) : Bool := (List.range s.size).any (fun i => if h : i < s.size then (s[i].toNat : Int) == b else false)
def sTo (s : ByteArray) (b : Int) (k : Nat) : Prop := ∀ j (h : j < s.size), j < k → ((s[j].toNat : Int) == b) = false
theorem sTo.next {s : ByteArray} {b : Int} {k : Nat} (h : sTo s b k) (hk : k < s.size) (hs : ((s[k].toNat : Int) == b) = false) : sTo s b (k + 1) := fun j hj hjk => by
  by_cases he : j = k
  · subst he; exact hs
  · exact h j hj (by omega)
theorem sHas_yes {s : ByteArray} {b : Int} {k : Nat} (hk : k < s.size) (hs : ((s[k].toNat : Int) == b) = true) : sHas s b = true := by
  unfold sHas
  rw [List.any_eq_true]
  exact ⟨k, by simpa using hk, by rw [dif_pos hk]; exact hs⟩
theorem sHas_no {s : ByteArray} {b : Int} (h : sTo s b s.size) : sHas s b = false := by
  unfold sHas
  rw [List.any_eq_false]
  intro j hj
  have hj' : j < s.size := by simpa using hj
  rw [dif_pos hj', h j hj' hj']
  simp

theorem c_l4In (s : ByteArray) (b : Int) (hs : s.size ≤ 100) (w : World) : Calls Try.prog 58 #[.string s, .int .u8 b] w fun e w' => e = .returned (.bool (sHas s b)) ∧ Ext w w' := by
  go_enter Try.func58, Try.ntmps58
  go_wp2
  go_loopw [5] (fun i wr => ∃ k : Nat, k ≤ s.size ∧ i = .int .i64 k ∧ sTo s b k ∧ Ext w wr) (fun i _ => s.size - (intOf i).toNat)
  case atStart => exact ⟨0, Nat.zero_le _, rfl, fun j hj hjk => absurd hjk (by omega), ext_refl _⟩
  case round =>
    obtain ⟨k, hk, rfl, ht, X⟩ := hrel
    have HT := Lib.hid ht
    clear ht
    by_cases hlt : k < s.size
    · cases q : ((s[k].toNat : Int) == b)
      · have HN := Lib.hid (HT.out.next hlt q)
        go_wp2
        go_roundw
        case rel => exact ⟨k + 1, by omega, by go_num, HN.out, X⟩
        case measure => simp [intOf] <;> omega
      · have HN := Lib.hid (sHas_yes hlt q)
        go_wp2
        go_ret
        exact ⟨ret_bool HN.out.symm, X⟩
    · obtain rfl : k = s.size := by omega
      have HN := Lib.hid (sHas_no HT.out)
      go_wp2
      go_ret
      exact ⟨ret_bool HN.out.symm, X⟩
theorem c_has (s : ByteArray) (b : Int) (hs : s.size ≤ 100) (w : World) : Calls Try.prog 74 #[.string s, .int .u8 b] w fun e w' => e = .returned (.bool (sHas s b)) ∧ Ext w w' := by
  go_enter Try.func74, Try.ntmps74
  go_wp2
  go_loopw [8] (fun i wr => ∃ k : Nat, k ≤ s.size ∧ i = .int .i64 k ∧ sTo s b k ∧ Ext w wr) (fun i _ => s.size - (intOf i).toNat)
  case atStart => exact ⟨0, Nat.zero_le _, rfl, fun j hj hjk => absurd hjk (by omega), ext_refl _⟩
  case round =>
    obtain ⟨k, hk, rfl, ht, X⟩ := hrel
    have HT := Lib.hid ht
    clear ht
    by_cases hlt : k < s.size
    · cases q : ((s[k].toNat : Int) == b)
      · have HN := Lib.hid (HT.out.next hlt q)
        go_wp2
        go_roundw
        case rel => exact ⟨k + 1, by omega, by go_num, HN.out, X⟩
        case measure => simp [intOf] <;> omega
      · have HN := Lib.hid (sHas_yes hlt q)
        go_wp2
        go_ret
        exact ⟨ret_bool HN.out.symm, X⟩
    · obtain rfl : k = s.size := by omega
      have HN := Lib.hid (sHas_no HT.out)
      go_wp2
      go_ret
      exact ⟨ret_bool HN.out.symm, X⟩
def numOk (h : Bool) (x lo hi : Int) : Bool := h && inB x lo hi || !h && x == 0
theorem c_l4Num (h : Bool) (x lo hi : Int) (w : World) : Calls Try.prog 57 #[.bool h, .int .i64 x, .int .i64 lo, .int .i64 hi] w fun e w' => e = .returned (.bool (numOk h x lo hi)) ∧ Ext w w' := by
  cases h
  · go_enter Try.func57, Try.ntmps57
    go_wp2
    all_goals
      go_ret
      exact ⟨ret_bool (by first | (simp [numOk, *]; done) | (simp_all [numOk]; done)), ext_refl _⟩
  · go_enter Try.func57, Try.ntmps57
    go_wp2_with (go_at_call 61; refine (c_l1In _ _ _ _).mono ?_; rintro e w1 ⟨rfl, hx⟩; obtain ⟨hc1, hf1, hs1⟩ := hx.rules; (try simp at hs1))
    all_goals
      go_ret
      refine ⟨ret_bool ?_, ?_⟩
      · (first | (simp [numOk, *]; done) | (simp_all [numOk]; done))
      · (repeat (first | with_reducible exact ext_refl _ | with_reducible refine ext_to ?_ _ | with_reducible refine ext_set ?_ (by first | (simp; done) | (simp; omega) | omega) _ | with_reducible refine ext_drew ?_ | with_reducible refine Ext.trans ?_ (by assumption)))
def sForm (k : Int) : ByteArray := if k = 1 then ⟨#[67, 82, 100]⟩ else if k = 2 then ⟨#[102, 118, 111, 99, 67, 82, 100]⟩ else if k = 3 ∨ k = 10 then ⟨#[102, 118, 111]⟩ else if k = 4 then ⟨#[102, 118, 99]⟩ else if k = 5 then ⟨#[102, 118]⟩ else if k = 6 then ⟨#[102, 118, 110, 99, 108]⟩ else if k = 7 ∨ k = 11 then ⟨#[102, 118, 99, 108]⟩ else if k = 8 then ⟨#[102, 107]⟩ else if k = 9 then ⟨#[102, 118, 107, 99, 108]⟩ else if k = 12 then ⟨#[118, 67, 82, 65]⟩ else ⟨#[]⟩
def iForm (k : Int) : ByteArray := if k = 1 then ⟨#[99, 114, 120]⟩ else if k = 2 then ⟨#[70, 86, 79, 67, 99, 114, 120]⟩ else if k = 3 ∨ k = 10 then ⟨#[70, 86, 79]⟩ else if k = 4 then ⟨#[70, 86, 67]⟩ else if k = 5 then ⟨#[70, 86]⟩ else if k = 6 then ⟨#[70, 86, 78, 67, 76]⟩ else if k = 7 ∨ k = 11 then ⟨#[70, 86, 67, 76]⟩ else if k = 8 then ⟨#[70, 110]⟩ else if k = 9 then ⟨#[70, 86, 110, 67, 76]⟩ else if k = 12 then ⟨#[86, 99, 114, 65]⟩ else ⟨#[]⟩
theorem c_l4Has (k : Int) (w : World) : Calls Try.prog 28 #[.int .i64 k] w fun e w' => e = .returned (.string (sForm k)) ∧ Ext w w' := by
  go_enter Try.func28, Try.ntmps28
  go_wp2
  all_goals
    go_ret
    refine ⟨?_, ext_refl _⟩
    (first | (simp [sForm, *]; done) | (simp_all [sForm]; done))
theorem c_fields (k : Int) (w : World) : Calls Try.prog 37 #[.int .i64 k] w fun e w' => e = .returned (.string (iForm k)) ∧ Ext w w' := by
  go_enter Try.func37, Try.ntmps37
  go_wp2
  all_goals
    go_ret
    refine ⟨?_, ext_refl _⟩
    (first | (simp [iForm, *]; done) | (simp_all [iForm]; done))
def fOk (b n : Int) : Bool := if b = 70 then inB n 0 4 else if b = 114 then inB n 1 1000000000 else if b = 65 then inB n (-1) 1000000000 else inB n 0 1000000000
theorem c_fieldOk (b n : Int) (w : World) : Calls Try.prog 75 #[.int .u8 b, .int .i64 n] w fun e w' => e = .returned (.bool (fOk b n)) ∧ Ext w w' := by
  go_enter Try.func75, Try.ntmps75
  go_wp2_with (first | (go_at_call 79; refine (c_from _ _ _ _).mono ?_; rintro e w1 ⟨rfl, hx⟩; obtain ⟨hc1, hf1, hs1⟩ := hx.rules; (try simp at hs1)) | (go_at_call 110; refine (c_isReq _ _).mono ?_; rintro e w1 ⟨rfl, hx⟩; obtain ⟨hc1, hf1, hs1⟩ := hx.rules; (try simp at hs1)) | (go_at_call 111; refine (c_isAnswer _ _).mono ?_; rintro e w1 ⟨rfl, hx⟩; obtain ⟨hc1, hf1, hs1⟩ := hx.rules; (try simp at hs1)) | (go_at_call 112; refine (c_isWhole _ _).mono ?_; rintro e w1 ⟨rfl, hx⟩; obtain ⟨hc1, hf1, hs1⟩ := hx.rules; (try simp at hs1)))
  all_goals
    go_ret
    refine ⟨ret_bool ?_, ?_⟩
    · (first | (simp [fOk, *]; done) | (simp_all [fOk]; done))
    · (repeat (first | with_reducible exact ext_refl _ | with_reducible refine ext_to ?_ _ | with_reducible refine ext_set ?_ (by first | (simp; done) | (simp; omega) | omega) _ | with_reducible refine ext_drew ?_ | with_reducible refine Ext.trans ?_ (by assumption)))
/-- the place of a letter's field in a message -/
def nOff (b : Int) : Nat := if b = 70 then 1 else if b = 86 then 2 else if b = 79 then 3 else if b = 67 then 4 else if b = 78 then 5 else if b = 110 then 6 else if b = 99 then 7 else if b = 114 then 8 else 9
end Go.Proofs.Ytpghedeghoegmaa

