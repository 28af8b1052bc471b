/- slices.Clone at parts and at ranges. -/
import Derived.Test.YtgebfcmkcggdmaaGa
import Derived.Test.YtgebfcmkcggdmaaFlP
namespace Go.Proofs.Ytgebfcmkcggdmaa
open Go.ChangeShapes Go.WideShapes Go.ChangeAt Go.RowKit Go.Sort
set_option linter.unusedVariables false
theorem c_clonePartS (A : Option Addr) (c : Nat) (l : List Prt) (w : World) (ha : Rd Prt.enc 3 w A c l) (hn : l.length ≤ 1048576) :
    Calls Try.prog 20 #[.slice A l.length c] w fun e w' => ∃ v, e = .returned v ∧ Ow Prt.enc 37 3 w' w.heap.size v l ∧ Ext w w' := by
  have q22 : ∀ (w : World) (a : Option Addr) (n c n' c' : Nat), (binOp .eql 24 (.slice a n c) (.slice none n' c')).run Try.prog w = .ok (.bool a.isNone) w := fun w a n c n' c' => Lib.run_eql_slice_nil w _ _ a n c n' c' Try.underlying24
  cases A with
  | none =>
    have h0 := ha.none_len
    go_enter Try.func20, Try.ntmps20
    go_wp2
    go_ret
    refine ⟨_, rfl, ?_, ext_refl _⟩
    obtain rfl : l = [] := List.eq_nil_of_length_eq_zero h0
    exact World.ownsRow_nil _ _ _ _
  | some a =>
    obtain ⟨i0, hi, hz0, hz1, hz2⟩ := info_parts Try.infoPrt
    have HF := Lib.hid (ha.flat (by decide) Prt.enc_len)
    have hl := flat_length Prt.enc_len l
    have HL := Lib.hid hl
    clear hl
    go_enter Try.func20, Try.ntmps20
    go_wp2_with (at_builtin; refine wpList_append_own _ rfl _ _ 24 rfl w.heap.size 37 i0 (.agg #[.int .i64 0, .int .i64 0, .int .i64 0]) 3 24 Try.underlying24 hi hz0 hz1 hz2 rfl (by decide) _ _ _ rfl (World.ownsRow_made w #[] 0 (Nat.le_refl _) (Nat.zero_le _) (by simp)) a l.length c (l.flatMap Prt.enc) rfl ?c1 ?c2 ?c3 ?c4 ?c5 ?c6 ?_)
    case c1 => exact HL.out
    case c2 => intro j u hj; exact Lib.cell?_alloc_some _ (HF.out j u hj)
    case c3 => exact flat_one (fun x u hu => by simp [Prt.enc] at hu; rcases hu with rfl | rfl | rfl <;> rfl) l
    case c4 => unfold maxLen; omega
    case c5 => omega
    case c6 => simp
    intro v' w1 hown hgrow hnil
    have HN := Lib.hid hnil
    clear hnil hz0 hz1 hz2 hi
    go_wp2
    go_ret
    refine ⟨v', rfl, ?_, ?_⟩
    · unfold Ow; simpa using hown
    · exact ((Below.refl _ w).alloc (Nat.le_refl _) _).grown hgrow (by simp) (by intro k hk; simp [Value.ownBlock] at hk; omega)
end Go.Proofs.Ytgebfcmkcggdmaa
