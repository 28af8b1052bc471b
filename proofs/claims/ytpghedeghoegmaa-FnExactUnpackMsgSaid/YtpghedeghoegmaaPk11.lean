/- Copies of images and logs, of the program. -/
import Derived.Test.YtpghedeghoegmaaPk7
import Derived.Test.YtpghedeghoegmaaPk10
import Derived.Test.YtpghedeghoegmaaPk5
import Derived.Test.YtpghedeghoegmaaPk8
import Derived.Test.YtpghedeghoegmaaPk1
namespace Go.Proofs.Ytpghedeghoegmaa
open Go.ChangeShapes Go.WideShapes Go.ChangeAt Go.RowKit Go.Sort
set_option linter.unusedVariables false
set_option linter.unusedSimpArgs false

/-- rows of different element types lie in different blocks -/
theorem Ow.apart {α β : Type} {eα : α → List Value} {eβ : β → List Value} {t u : TypeId} {sα sβ : Nat} {w : World} {B B' : Nat} {A A' : Option Addr} {n n' c c' : Nat} {l : List α} {m : List β} (h : Ow eα t sα w B (.slice A n c) l) (k : Ow eβ u sβ w B' (.slice A' n' c') m) (hne : t ≠ u) : ∀ x ∈ blk A, x ∉ blk A' := fun x hx hy => by
  have e1 := (ownBlock_blk A n c x).2 hx
  have e2 := (ownBlock_blk A' n' c' x).2 hy
  rcases h.2 with ⟨h2, _⟩ | ⟨g, cap, cur, hv, hb, hh, r⟩
  · rw [h2] at e1; cases e1
  · rcases k.2 with ⟨k2, _⟩ | ⟨g', cap', cur', kv, kb, kh, r'⟩
    · rw [k2] at e2; cases e2
    · rw [hv] at e1
      rw [kv] at e2
      simp only [Value.ownBlock, Option.some.injEq] at e1 e2
      subst e1
      subst e2
      rw [hh] at kh
      simp at kh
      exact hne kh.2
theorem Ow.nodup {α : Type} {eα : α → List Value} {t : TypeId} {sα : Nat} {w : World} {B : Nat} {A : Option Addr} {n c : Nat} {l : List α} (h : Ow eα t sα w B (.slice A n c) l) : (blk A).Nodup := by cases A <;> simp [blk]

def LgV (w : World) (B : Nat) (cs : List Cel) (ss : List Sea) (v : Value) : Prop := ∃ A c A' c', v = .agg #[.slice A cs.length c, .slice A' ss.length c'] ∧ Ow Cel.enc 101 2 w B (.slice A cs.length c) cs ∧ Ow Sea.enc 103 3 w B (.slice A' ss.length c') ss
theorem LgV.mono (B : Nat) (cs : List Cel) (ss : List Sea) : Mono (fun v w => LgV w B cs ss v) := fun v w w' ⟨A, c, A', c', hv, h1, h2⟩ hx => ⟨A, c, A', c', hv, h1.kept hx, h2.kept hx⟩
theorem lgO_of {w : World} {B : Nat} {cA sA eA : Option Addr} {cc sc ec : Nat} {l : Lg} (h1 : Ow Cel.enc 101 2 w B (.slice cA l.cells.length cc) l.cells) (h2 : Ow Sea.enc 103 3 w B (.slice sA l.seats.length sc) l.seats) (h3 : Ow Ent.enc 105 5 w B (.slice eA l.ents.length ec) l.ents) :
    LgO w B w.heap.size ⟨cA, cc, sA, sc, eA, ec⟩ l := by
  refine ⟨h1, h2, h3, ?_, fun k hk => ?_⟩
  · unfold LAd.fp
    rw [List.nodup_append, List.nodup_append]
    refine ⟨⟨h1.nodup, h2.nodup, fun x hx y hy e => ?_⟩, h3.nodup, fun x hx y hy e => ?_⟩
    · subst e; exact h1.apart h2 (by decide) x hx hy
    · subst e
      rcases List.mem_append.1 hx with hx | hx
      · exact h1.apart h3 (by decide) x hx hy
      · exact h2.apart h3 (by decide) x hx hy
  · unfold LAd.fp at hk
    rw [List.mem_append, List.mem_append] at hk
    rcases hk with (hk | hk) | hk
    · exact (h1.inB k hk).2
    · exact (h2.inB k hk).2
    · exact (h3.inB k hk).2

end Go.Proofs.Ytpghedeghoegmaa

/- Votes: their box, the bounds of a good log. -/
namespace Go.Proofs.Ytpghedeghoegmaa
open Go.ChangeShapes Go.WideShapes Go.ChangeAt Go.RowKit Go.Sort
set_option linter.unusedVariables false
set_option linter.unusedSimpArgs false

theorem logOk_b {l : Lg} (h : logOk l = true) : 0 ≤ l.base ∧ l.base ≤ 1000000000 ∧ l.ents.length ≤ 60 := by
  have h1 := of_decide_eq_true h
  have := (inB_yes _ _ _).1 h1.1
  exact ⟨this.1, this.2, h1.2.2.1⟩
end Go.Proofs.Ytpghedeghoegmaa

/- Copies of votes and replicas, of the program. -/
namespace Go.Proofs.Ytpghedeghoegmaa
open Go.ChangeShapes Go.WideShapes Go.ChangeAt Go.RowKit Go.Sort
set_option linter.unusedVariables false
set_option linter.unusedSimpArgs false

/-- the logs of votes are the call's own -/
structure VsQ (w : World) (B : Nat) (qs : List VtE) : Prop where
  l : ∀ p ∈ qs, LgO w B w.heap.size p.1 p.2.log
  nd : (qs.flatMap (fun p => p.1.fp)).Nodup
theorem VsQ.nil (w : World) (B : Nat) : VsQ w B [] := ⟨by simp, by simp⟩
theorem VsQ.chg {w w' : World} {B : Nat} {qs : List VtE} {S : List Nat} (h : VsQ w B qs) (hg : Chg w w' S) (hne : ∀ p ∈ qs, ∀ k ∈ p.1.fp, k ∉ S) : VsQ w' B qs :=
  ⟨fun p hp => ((h.l p hp).chg hg (hne p hp)).wide (Nat.le_refl _) hg.size, h.nd⟩
theorem VsQ.kept {w w' : World} {B : Nat} {qs : List VtE} (h : VsQ w B qs) (hx : Ext w w') : VsQ w' B qs := ⟨fun p hp => ((h.l p hp).kept hx).wide (Nat.le_refl _) hx.size, h.nd⟩
theorem chg_set {w w' : World} {S : List Nat} (h : Chg w w' S) {p : Addr} (hp : p.block ∈ S) (u : Value) : Chg w (w'.setCell p u) S :=
  ⟨h.os, h.tape, h.output, by simpa using h.size, fun k hk hn => (Below.heap_setCell _ _ _ _ (fun he => hn (by rw [he]; exact hp))).trans (h.block k hk hn)⟩
theorem VtE.one (p : VtE) : ∀ u ∈ p.enc, u.oneCell' = true := by
  intro u hu
  simp [VtE.enc] at hu
  rcases hu with rfl | rfl | rfl | rfl | rfl | rfl | rfl | rfl | rfl | rfl <;> rfl
theorem Rd.one {α : Type} {enc : α → List Value} {sz : Nat} {w : World} {p : Nat} {cs : Array Value} {T : TypeId} {x : α} (h : w.heap[p]? = some (.cells cs T (0, 0))) (hx : cs.toList = enc x) : Rd enc sz w (some ⟨p, 0, none⟩) 1 [x] := by
  refine ⟨Nat.le_refl _, by unfold maxLen; omega, fun _ => ⟨p, 0, rfl, bx_lt h, fun k hk j u hu => ?_⟩⟩
  simp only [List.length_singleton] at hk
  obtain rfl : k = 0 := by omega
  rw [bx_cell h]
  simp only [List.getElem_cons_zero] at hu
  rw [← hx] at hu
  simpa using hu

end Go.Proofs.Ytpghedeghoegmaa

/- Numbers as bytes, the check of bytes, frames: plain lists, no program in sight. -/
namespace Go.Proofs.Ytpghedeghoegmaa
open Go.ChangeShapes Go.WideShapes Go.ChangeAt Go.RowKit Go.Sort
set_option linter.unusedVariables false
set_option linter.unusedSimpArgs false

/-- a number's bytes, seven bits each -/
def putF : Nat → Nat → List Nat
  | 0, x => [x]
  | f + 1, x => if x < 128 then [x] else (x % 128 + 128) :: putF f (x / 128)
def putN (x : Nat) : List Nat := putF x x
theorem putF_any : ∀ (f g x : Nat), x ≤ f → x ≤ g → putF f x = putF g x
  | 0, 0, _, _, _ => rfl
  | 0, g + 1, x, h, _ => by
    obtain rfl : x = 0 := by omega
    rfl
  | f + 1, 0, x, _, h => by
    obtain rfl : x = 0 := by omega
    rfl
  | f + 1, g + 1, x, h, k => by
    unfold putF
    split
    · rfl
    · rw [putF_any f g (x / 128) (by omega) (by omega)]
theorem putN_small {x : Nat} (h : x < 128) : putN x = [x] := by
  unfold putN
  cases x with
  | zero => rfl
  | succ x => rw [putF, if_pos h]
theorem putN_big {x : Nat} (h : ¬ x < 128) : putN x = (x % 128 + 128) :: putN (x / 128) := by
  unfold putN
  cases x with
  | zero => omega
  | succ x =>
    rw [putF, if_neg h, putF_any x ((x + 1) / 128) ((x + 1) / 128) (by omega) (Nat.le_refl _)]
theorem putN_pos (x : Nat) : 0 < (putN x).length := by
  by_cases h : x < 128
  · rw [putN_small h]; simp
  · rw [putN_big h]; simp
/-- read a number: at most f bytes, the k-th one first; the number and how many bytes -/
def getA : Nat → Nat → List Nat → Option (Nat × Nat)
  | 0, _, _ => none
  | _ + 1, _, [] => none
  | f + 1, k, d :: r => if d < 128 then (if d = 0 ∧ 0 < k then none else some (d, 1)) else (getA f (k + 1) r).map fun p => (d % 128 + 128 * p.1, p.2 + 1)
theorem get_of : ∀ (f k : Nat) (l : List Nat) (v n : Nat), (∀ x ∈ l, x < 256) → getA f k l = some (v, n) → n ≤ l.length ∧ l.take n = putN v ∧ v < 128 ^ f ∧ (k = 0 ∨ 0 < v) ∧ 0 < n
  | 0, _, _, _, _, _, h => by cases h
  | f + 1, _, [], _, _, _, h => by cases h
  | f + 1, k, d :: r, v, n, hb, h => by
    rw [getA] at h
    split at h
    · rename_i hd
      split at h
      · cases h
      · simp only [Option.some.injEq, Prod.mk.injEq] at h
        obtain ⟨rfl, rfl⟩ := h
        refine ⟨by simp, ?_, ?_, by omega, by omega⟩
        · rw [putN_small hd]; rfl
        · rw [Nat.pow_succ]
          have := Nat.one_le_two_pow (n := 0)
          have h1 : 1 ≤ 128 ^ f := Nat.one_le_pow _ _ (by omega)
          omega
    · rename_i hd
      cases hg : getA f (k + 1) r with
      | none => rw [hg] at h; cases h
      | some p =>
        rw [hg] at h
        simp only [Option.map_some, Option.some.injEq, Prod.mk.injEq] at h
        obtain ⟨rfl, rfl⟩ := h
        obtain ⟨h1, h2, h3, h4, h5⟩ := get_of f (k + 1) r p.1 p.2 (fun x hx => hb x (List.mem_cons_of_mem _ hx)) hg
        have hd2 := hb d List.mem_cons_self
        have hp : 0 < p.1 := by omega
        refine ⟨by simp; omega, ?_, ?_, .inr (by omega), by omega⟩
        · rw [List.take_succ_cons, h2, putN_big (x := d % 128 + 128 * p.1) (by omega)]
          congr 1
          · omega
          · congr 1; omega
        · rw [Nat.pow_succ]
          have : 128 * p.1 + 128 ≤ 128 ^ f * 128 := by omega
          omega
/-! ### the check -/
def crcS (r : Nat) : Nat := if r % 2 = 1 then (r / 2) ^^^ 3988292384 else r / 2
def crcI : Nat → Nat → Nat
  | 0, r => r
  | n + 1, r => crcI n (crcS r)
def crcB (r x : Nat) : Nat := crcI 8 (r ^^^ x)
def crcL (l : List Nat) (r : Nat) : Nat := l.foldl crcB r
def crc (l : List Nat) : Nat := crcL l 4294967295 ^^^ 4294967295
theorem crcS_lt {r : Nat} (h : r < 4294967296) : crcS r < 4294967296 := by
  unfold crcS
  split
  · exact Nat.xor_lt_two_pow (n := 32) (by omega) (by omega)
  · omega
theorem crcI_lt : ∀ (n : Nat) {r : Nat}, r < 4294967296 → crcI n r < 4294967296
  | 0, _, h => h
  | n + 1, _, h => crcI_lt n (crcS_lt h)
theorem crcB_lt {r x : Nat} (h : r < 4294967296) (hx : x < 256) : crcB r x < 4294967296 := crcI_lt 8 (Nat.xor_lt_two_pow (n := 32) h (by omega))
theorem crcL_lt : ∀ (l : List Nat) {r : Nat}, r < 4294967296 → (∀ x ∈ l, x < 256) → crcL l r < 4294967296
  | [], _, h, _ => h
  | x :: l, r, h, hb => crcL_lt l (crcB_lt h (hb x List.mem_cons_self)) (fun y hy => hb y (List.mem_cons_of_mem _ hy))
theorem crc_lt {l : List Nat} (hb : ∀ x ∈ l, x < 256) : crc l < 4294967296 := Nat.xor_lt_two_pow (n := 32) (crcL_lt l (by omega) hb) (by omega)
/-! ### frames -/
def le4 (n : Nat) : List Nat := [n % 256, n / 256 % 256, n / 65536 % 256, n / 16777216 % 256]
def frame (b : List Nat) : List Nat := putN b.length ++ (b ++ le4 (crc b))
end Go.Proofs.Ytpghedeghoegmaa

/- Numbers written as bytes: PutNum of the reference and of the program. -/
namespace Go.Proofs.Ytpghedeghoegmaa
open Go.ChangeShapes Go.WideShapes Go.ChangeAt Go.RowKit Go.Sort
set_option linter.unusedVariables false
set_option linter.unusedSimpArgs false

/-- a row of bytes -/
def bEnc (x : Nat) : List Value := [.int .u8 x]
theorem bEnc_len (x : Nat) : (bEnc x).length = 1 := rfl
theorem bEnc_one (x : Nat) : ∀ u ∈ bEnc x, u.oneCell' = true := by
  intro u hu
  simp only [bEnc, List.mem_singleton] at hu
  subst hu
  rfl
theorem Try.infoU8 : (Try.prog.info? 5).map (fun i => (i.zero, i.size, i.bytes)) = some (some (.int .u8 0), 1, 1) := by kernel_rfl
theorem putN_len9 {x : Nat} (h : x < 9223372036854775808) : (putN x).length ≤ 9 := by
  have : ∀ (n y : Nat), 0 < n → y < 128 ^ n → (putN y).length ≤ n := by
    intro n
    induction n with
    | zero => intro y h; omega
    | succ n ih =>
      intro y _ hy
      by_cases hs : y < 128
      · rw [putN_small hs]; simp
      · rw [putN_big hs, List.length_cons]
        have hlt : y / 128 < 128 ^ n := by
          rw [Nat.pow_succ] at hy
          exact Nat.div_lt_of_lt_mul (by rw [Nat.mul_comm]; exact hy)
        cases n with
        | zero => rw [Nat.pow_zero] at hlt; omega
        | succ n => have := ih (y / 128) (by omega) hlt; omega
  exact this 9 x (by omega) (by omega)
theorem ext_app2 {w w' w0 : World} {B : Nat} {v : Value} {l : List Nat} (hx : Ext w0 w) (hg : w.grownBy w' v.ownBlock) (ho : Ow bEnc 5 1 w B v l) (hB : w0.heap.size ≤ B) : Ext w0 w' := ext_grown hx hg (fun g he => by have := ho.lt g he; omega)
set_option maxRecDepth 100000 in
set_option maxHeartbeats 4000000 in
theorem c_iPutNum (x : Nat) (hx : x < 9223372036854775808) (w : World) : Calls Try.prog 36 #[.int .i64 x] w fun e w' => (∃ A c, e = .returned (.slice A (putN x).length c) ∧ Ow bEnc 5 1 w' w.heap.size (.slice A (putN x).length c) (putN x)) ∧ Ext w w' := by
  obtain ⟨i0, hi, hz0, hz1, hz2⟩ := info_parts Try.infoU8
  go_enter Try.func36, Try.ntmps36
  go_wp2
  go_loopw [0, 3] (fun xv o wr => ∃ (y : Nat) (l : List Nat), xv = .int .i64 y ∧ y ≤ x ∧ l.length + (putN y).length ≤ 64 ∧ Hid (l ++ putN y = putN x) ∧ Ow bEnc 5 1 wr w.heap.size o l ∧ Ext w wr) (fun xv _ _ => (intOf xv).toNat)
  case atStart => exact ⟨x, [], rfl, Nat.le_refl _, by have := putN_len9 hx; simp; omega, Lib.hid rfl, own_empty (hNew rfl) (Nat.le_refl _), ext_alloc _ _⟩
  case round =>
    obtain ⟨y, l, rfl, hyx, hlen, HL, ho, X⟩ := hrel
    obtain ⟨Ao, co, rfl⟩ := ho.form
    have HO := Lib.hid ho
    have hs := X.size
    clear ho
    by_cases hlt : 127 < y
    · have g0 : decide ((127 : Int) < (y : Int)) = true := by simp; omega
      have HN := Lib.hid (show (l ++ [y % 128 + 128]) ++ putN (y / 128) = putN x by rw [← HL.out, show putN y = (y % 128 + 128) :: putN (y / 128) from putN_big (by omega), List.append_assoc]; rfl)
      have hln : (putN y).length = (putN (y / 128)).length + 1 := by rw [putN_big (by omega), List.length_cons]
      have HB := Lib.hid (show ((y : Int) % 128 + 128) = ((y % 128 + 128 : Nat) : Int) by omega)
      have hw8 : IntKind.u8.wrap ((y : Int) % 128 + 128) = (y : Int) % 128 + 128 := by rw [IntKind.wrap_u8]; omega
      have hw64 : IntKind.i64.wrap ((y : Int) % 128 + 128) = (y : Int) % 128 + 128 := by rw [IntKind.wrap_i64]; omega
      go_wp2_with (at_builtin; rw [HB.out]; refine wl_app (enc := bEnc) rfl _ _ 34 rfl w.heap.size 5 i0 (.int .u8 0) 1 1 Try.underlying34 hi hz0 hz1 hz2 rfl (by decide) bEnc_len bEnc_one (.slice Ao l.length co) l rfl (HO.out.kept (ext_alloc _ _)) (some ⟨wr.heap.size, 0, none⟩) 1 [y % 128 + 128] 1 rfl rfl (Rd.one (hNew rfl) rfl) ?c1 ?c2 ?c3 ?_)
      case c1 => unfold maxLen; (try simp) <;> omega
      case c2 => (try simp) <;> omega
      case c3 => (try simp) <;> omega
      intro v' w4 ho4 hg4
      have X4 := ext_app2 (ext_to X _) hg4 (HO.out.kept (ext_alloc _ _)) (Nat.le_refl _)
      clear hg4
      go_wp2
      go_roundw
      case rel => exact ⟨y / 128, l ++ [y % 128 + 128], by go_num, by omega, by rw [List.length_append, List.length_singleton]; omega, HN, ho4, X4⟩
      case measure => simp [intOf] <;> omega
    · have g0 : decide ((127 : Int) < (y : Int)) = false := by simp; omega
      have HN := Lib.hid (show l ++ [y] = putN x by rw [← HL.out, putN_small (by omega)])
      have hb : IntKind.u8.wrap (y : Int) = (y : Int) := by rw [IntKind.wrap_u8]; omega
      go_wp2_with (at_builtin; refine wl_app (enc := bEnc) rfl _ _ 34 rfl w.heap.size 5 i0 (.int .u8 0) 1 1 Try.underlying34 hi hz0 hz1 hz2 rfl (by decide) bEnc_len bEnc_one (.slice Ao l.length co) l rfl (HO.out.kept (ext_alloc _ _)) (some ⟨wr.heap.size, 0, none⟩) 1 [y] 1 rfl rfl (Rd.one (hNew rfl) rfl) ?c1 ?c2 ?c3 ?_)
      case c1 => unfold maxLen; (try simp) <;> omega
      case c2 => (try simp) <;> omega
      case c3 => (try simp) <;> omega
      intro v' w4 ho4 hg4
      have X4 := ext_app2 (ext_to X _) hg4 (HO.out.kept (ext_alloc _ _)) (Nat.le_refl _)
      obtain ⟨A4, c4, rfl⟩ := ho4.form
      rw [HN.out] at ho4 ⊢
      have HO4 := Lib.hid ho4
      clear hg4 ho4
      go_wp2
      go_ret
      exact ⟨⟨A4, c4, rfl, HO4.out⟩, X4⟩
end Go.Proofs.Ytpghedeghoegmaa

