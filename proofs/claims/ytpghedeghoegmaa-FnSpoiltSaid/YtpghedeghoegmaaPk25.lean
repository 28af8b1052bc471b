/- Numbers read from bytes: GetNum of the reference and of the program. -/
import Derived.Test.YtpghedeghoegmaaPk24
import Derived.Test.YtpghedeghoegmaaPk1
namespace Go.Proofs.Ytpghedeghoegmaa
open Go.ChangeShapes Go.WideShapes Go.ChangeAt Go.RowKit Go.Sort
set_option linter.unusedVariables false
set_option linter.unusedSimpArgs false
def gT (o : Option (Int × Nat)) : Value := match o with
 | none => .tuple #[.int .i64 0, .int .i64 0, .bool false]
 | some p => .tuple #[.int .i64 p.1, .int .i64 p.2, .bool true]
def GI (b : List Nat) (at_ k x : Nat) : Prop := x < 128 ^ k ∧ getZ b at_ = (getA (9 - k) k (b.drop (at_ + k))).map fun p => (((x + 128 ^ k * p.1 : Nat) : Int), at_ + k + p.2)
theorem GI.zero (b : List Nat) (at_ : Nat) : GI b at_ 0 0 := ⟨by omega, by simp [getZ]⟩
theorem GI.none {b : List Nat} {at_ k x : Nat} (h : GI b at_ k x) (hk : 0 < k) (hk9 : k < 9) {j : Nat} (hj : j = at_ + k) (hlt : j < b.length) (hd : b[j] = 0) : getZ b at_ = none := by
 subst hj
 rw [h.2, List.drop_eq_getElem_cons hlt, hd]
 obtain ⟨f, hf⟩ : ∃ f, 9 - k = f + 1 := ⟨8 - k, by omega⟩
 rw [hf, getA, if_pos (by omega), if_pos ⟨rfl, hk⟩]
 rfl
theorem GI.last {b : List Nat} {at_ k x : Nat} (h : GI b at_ k x) (hk9 : k < 9) {j : Nat} (hj : j = at_ + k) (hlt : j < b.length) (hd : b[j] < 128) (hz : b[j] = 0 → k = 0) : getZ b at_ = some (((x + 128 ^ k * b[j] : Nat) : Int), j + 1) := by
 subst hj
 rw [h.2, List.drop_eq_getElem_cons hlt]
 obtain ⟨f, hf⟩ : ∃ f, 9 - k = f + 1 := ⟨8 - k, by omega⟩
 rw [hf, getA, if_pos hd, if_neg (fun hp => by have := hz hp.1; omega)]
 rfl
theorem GI.next {b : List Nat} {at_ k x : Nat} (h : GI b at_ k x) (hk9 : k < 9) {j : Nat} (hj : j = at_ + k) (hlt : j < b.length) (hd : ¬ b[j] < 128) : GI b at_ (k + 1) (x + 128 ^ k * (b[j] % 128)) := by
 subst hj
 have h1 := h.1
 refine ⟨?_, ?_⟩
 ·rw [Nat.pow_succ]
  have h2 : 128 ^ k * (b[at_ + k] % 128) ≤ 128 ^ k * 127 := Nat.mul_le_mul_left _ (by omega)
  omega
 ·rw [h.2, List.drop_eq_getElem_cons hlt]
  obtain ⟨f, hf⟩ : ∃ f, 9 - k = f + 1 := ⟨8 - k, by omega⟩
  rw [hf, getA, if_neg hd, show 9 - (k + 1) = f by omega, Option.map_map, show at_ + k + 1 = at_ + (k + 1) by omega]
  congr 1
  funext p
  simp only [Function.comp_apply, Prod.mk.injEq]
  refine ⟨?_, by omega⟩
  rw [Nat.pow_succ, Nat.mul_add, Nat.mul_assoc, Nat.add_assoc]
theorem GI.short {b : List Nat} {at_ k x : Nat} (h : GI b at_ k x) (hlt : ¬ at_ + k < b.length) : getZ b at_ = Option.none := by
 rw [h.2, List.drop_of_length_le (by omega)]
 cases 9 - k <;> rfl
theorem GI.long {b : List Nat} {at_ x : Nat} (h : GI b at_ 9 x) : getZ b at_ = Option.none := by
 rw [h.2]
 rfl
set_option maxRecDepth 100000 in
set_option maxHeartbeats 16000000 in
theorem c_sGetNum (A : Option Addr) (c : Nat) (b : List Nat) (at_ : Nat) (w : World) (hr : Rd bEnc 1 w A c b) (hb : Byt b) (hn : b.length ≤ 1048576) (ha : at_ ≤ 1048576) : Calls Try.prog 23 #[.slice A b.length c, .int .i64 at_] w fun e w' => e = .returned (gT (getZ b at_)) ∧ Ext w w' := by
 have HR := Hd hr
 have HB := Hd hb
 clear hr hb
 by_cases h0 : at_ < b.length
 ·have h0i : decide ((b.length : Int) ≤ (at_ : Int)) = false := by simp; omega
  have h0j : decide ((at_ : Int) < 0) = false := by simp
  go_enter Try.func23, Try.ntmps23
  go_wp2
  go_loop [7, 8, 9, 10] (fun xv uv i _ => ∃ (k x : Nat) (u : Int), k ≤ 9 ∧ i = .int .i64 k ∧ xv = .int .i64 x ∧ uv = .int .i64 u ∧ (k ≤ 8 → u = 128 ^ k) ∧ Hid (GI b at_ k x)) (fun _ _ i _ => 9 - (intOf i).toNat)
  case atStart => exact ⟨0, 0, 1, by omega, rfl, rfl, rfl, fun _ => rfl, Hd (GI.zero b at_)⟩
  case round =>
   obtain ⟨k, x, u, hk, rfl, rfl, rfl, hu, HG⟩ := hrel
   by_cases hk9 : k < 9
   ·obtain rfl | rfl | rfl | rfl | rfl | rfl | rfl | rfl | rfl : k = 0 ∨ k = 1 ∨ k = 2 ∨ k = 3 ∨ k = 4 ∨ k = 5 ∨ k = 6 ∨ k = 7 ∨ k = 8 := by omega
    ·have HGk := Hd (show GI b at_ 0 x from HG.out)
     clear HG
     obtain rfl : u = 1 := hu (by omega)
     clear hu
     have hx : x < 1 := HGk.out.1
     have HJ := Hd (show at_ = at_ + 0 from rfl)
     have hlt : at_ < b.length := h0
     obtain ⟨zb, zo, hA, hzb, z0⟩ := HR.out.atB hlt
     subst hA
     have hd := HB.out b[at_] (List.getElem_mem hlt)
     obtain ⟨d, hde⟩ : ∃ d, b[at_] = d := ⟨_, rfl⟩
     rw [hde] at z0 hd
     have HD := Hd hde
     clear hde
     by_cases hd2 : d < 128
     ·by_cases hd0 : d = 0
      ·subst hd0
       have HL := Hd (HGk.out.last (by omega) HJ.out hlt (by rw [HD.out]; omega) (by rw [HD.out]; omega))
       rw [HD.out] at HL
       have hxe : (((x + 128 ^ 0 * 0 : Nat)) : Int) = (x : Int) + (0 : Int) * 1 := by omega
       rw [hxe] at HL
       clear hxe
       have hdm : (0 : Int) % 128 = (0 : Int) := by omega
       go_wp2
       exact bodyPost_ret (v := gT (getZ b at_)) (by rw [HL.out]; simp [results, Try.results23, go_sem, gT]) rfl ⟨rfl, ext_refl _⟩
      ·have hd0i : ((d : Int) == 0) = false := by simp; omega
       have HL := Hd (HGk.out.last (by omega) HJ.out hlt (by rw [HD.out]; omega) (by rw [HD.out]; omega))
       rw [HD.out] at HL
       have hxe : (((x + 128 ^ 0 * d : Nat)) : Int) = (x : Int) + (d : Int) * 1 := by omega
       rw [hxe] at HL
       clear hxe
       have hdm : (d : Int) % 128 = (d : Int) := by omega
       go_wp2
       exact bodyPost_ret (v := gT (getZ b at_)) (by rw [HL.out]; simp [results, Try.results23, go_sem, gT]) rfl ⟨rfl, ext_refl _⟩
     ·have HN := Hd (HGk.out.next (by omega) HJ.out hlt (by rw [HD.out]; exact hd2))
      rw [HD.out] at HN
      clear HD HGk
      go_wp2
      go_round
      case rel => exact ⟨1, x + 128 ^ 0 * (d % 128), _, by omega, rfl, by go_num, rfl, fun h => by first | omega | rfl, HN⟩
      case measure => simp [intOf] <;> omega
    ·have HGk := Hd (show GI b at_ 1 x from HG.out)
     clear HG
     obtain rfl : u = 128 := hu (by omega)
     clear hu
     have hx : x < 128 := HGk.out.1
     obtain ⟨j, hj⟩ : ∃ j : Nat, j = at_ + 1 := ⟨_, rfl⟩
     have hji : ((at_ : Int) + 1) = (j : Int) := by omega
     have HJ := Hd hj
     clear hj
     by_cases hlt : j < b.length
     ·have hli : decide ((j : Int) < (b.length : Int)) = true := by simp; omega
      obtain ⟨zb, zo, hA, hzb, z0⟩ := HR.out.atB hlt
      subst hA
      have hd := HB.out b[j] (List.getElem_mem hlt)
      obtain ⟨d, hde⟩ : ∃ d, b[j] = d := ⟨_, rfl⟩
      rw [hde] at z0 hd
      have HD := Hd hde
      clear hde
      by_cases hd2 : d < 128
      ·by_cases hd0 : d = 0
       ·subst hd0
        have hG := Hd (HGk.out.none (by omega) (by omega) HJ.out hlt HD.out)
        go_wp2
        exact bodyPost_ret (v := gT (getZ b at_)) (by rw [hG.out]; simp [results, Try.results23, go_sem, gT]) rfl ⟨rfl, ext_refl _⟩
       ·have hd0i : ((d : Int) == 0) = false := by simp; omega
        have HL := Hd (HGk.out.last (by omega) HJ.out hlt (by rw [HD.out]; omega) (by rw [HD.out]; omega))
        rw [HD.out] at HL
        have hxe : (((x + 128 ^ 1 * d : Nat)) : Int) = (x : Int) + (d : Int) * 128 := by omega
        rw [hxe] at HL
        clear hxe
        have hdm : (d : Int) % 128 = (d : Int) := by omega
        go_wp2
        exact bodyPost_ret (v := gT (getZ b at_)) (by rw [HL.out]; simp [results, Try.results23, go_sem, gT]) rfl ⟨rfl, ext_refl _⟩
      ·have HN := Hd (HGk.out.next (by omega) HJ.out hlt (by rw [HD.out]; exact hd2))
       rw [HD.out] at HN
       clear HD HGk
       go_wp2
       go_round
       case rel => exact ⟨2, x + 128 ^ 1 * (d % 128), _, by omega, rfl, by go_num, rfl, fun h => by first | omega | rfl, HN⟩
       case measure => simp [intOf] <;> omega
     ·have hli : decide ((j : Int) < (b.length : Int)) = false := by simp; omega
      have hG := Hd (HGk.out.short (by have := HJ.out; omega))
      go_wp2
      exact bodyPost_ret (v := gT (getZ b at_)) (by rw [hG.out]; simp [results, Try.results23, go_sem, gT]) rfl ⟨rfl, ext_refl _⟩
    ·have HGk := Hd (show GI b at_ 2 x from HG.out)
     clear HG
     obtain rfl : u = 16384 := hu (by omega)
     clear hu
     have hx : x < 16384 := HGk.out.1
     obtain ⟨j, hj⟩ : ∃ j : Nat, j = at_ + 2 := ⟨_, rfl⟩
     have hji : ((at_ : Int) + 2) = (j : Int) := by omega
     have HJ := Hd hj
     clear hj
     by_cases hlt : j < b.length
     ·have hli : decide ((j : Int) < (b.length : Int)) = true := by simp; omega
      obtain ⟨zb, zo, hA, hzb, z0⟩ := HR.out.atB hlt
      subst hA
      have hd := HB.out b[j] (List.getElem_mem hlt)
      obtain ⟨d, hde⟩ : ∃ d, b[j] = d := ⟨_, rfl⟩
      rw [hde] at z0 hd
      have HD := Hd hde
      clear hde
      by_cases hd2 : d < 128
      ·by_cases hd0 : d = 0
       ·subst hd0
        have hG := Hd (HGk.out.none (by omega) (by omega) HJ.out hlt HD.out)
        go_wp2
        exact bodyPost_ret (v := gT (getZ b at_)) (by rw [hG.out]; simp [results, Try.results23, go_sem, gT]) rfl ⟨rfl, ext_refl _⟩
       ·have hd0i : ((d : Int) == 0) = false := by simp; omega
        have HL := Hd (HGk.out.last (by omega) HJ.out hlt (by rw [HD.out]; omega) (by rw [HD.out]; omega))
        rw [HD.out] at HL
        have hxe : (((x + 128 ^ 2 * d : Nat)) : Int) = (x : Int) + (d : Int) * 16384 := by omega
        rw [hxe] at HL
        clear hxe
        have hdm : (d : Int) % 128 = (d : Int) := by omega
        go_wp2
        exact bodyPost_ret (v := gT (getZ b at_)) (by rw [HL.out]; simp [results, Try.results23, go_sem, gT]) rfl ⟨rfl, ext_refl _⟩
      ·have HN := Hd (HGk.out.next (by omega) HJ.out hlt (by rw [HD.out]; exact hd2))
       rw [HD.out] at HN
       clear HD HGk
       go_wp2
       go_round
       case rel => exact ⟨3, x + 128 ^ 2 * (d % 128), _, by omega, rfl, by go_num, rfl, fun h => by first | omega | rfl, HN⟩
       case measure => simp [intOf] <;> omega
     ·have hli : decide ((j : Int) < (b.length : Int)) = false := by simp; omega
      have hG := Hd (HGk.out.short (by have := HJ.out; omega))
      go_wp2
      exact bodyPost_ret (v := gT (getZ b at_)) (by rw [hG.out]; simp [results, Try.results23, go_sem, gT]) rfl ⟨rfl, ext_refl _⟩
    ·have HGk := Hd (show GI b at_ 3 x from HG.out)
     clear HG
     obtain rfl : u = 2097152 := hu (by omega)
     clear hu
     have hx : x < 2097152 := HGk.out.1
     obtain ⟨j, hj⟩ : ∃ j : Nat, j = at_ + 3 := ⟨_, rfl⟩
     have hji : ((at_ : Int) + 3) = (j : Int) := by omega
     have HJ := Hd hj
     clear hj
     by_cases hlt : j < b.length
     ·have hli : decide ((j : Int) < (b.length : Int)) = true := by simp; omega
      obtain ⟨zb, zo, hA, hzb, z0⟩ := HR.out.atB hlt
      subst hA
      have hd := HB.out b[j] (List.getElem_mem hlt)
      obtain ⟨d, hde⟩ : ∃ d, b[j] = d := ⟨_, rfl⟩
      rw [hde] at z0 hd
      have HD := Hd hde
      clear hde
      by_cases hd2 : d < 128
      ·by_cases hd0 : d = 0
       ·subst hd0
        have hG := Hd (HGk.out.none (by omega) (by omega) HJ.out hlt HD.out)
        go_wp2
        exact bodyPost_ret (v := gT (getZ b at_)) (by rw [hG.out]; simp [results, Try.results23, go_sem, gT]) rfl ⟨rfl, ext_refl _⟩
       ·have hd0i : ((d : Int) == 0) = false := by simp; omega
        have HL := Hd (HGk.out.last (by omega) HJ.out hlt (by rw [HD.out]; omega) (by rw [HD.out]; omega))
        rw [HD.out] at HL
        have hxe : (((x + 128 ^ 3 * d : Nat)) : Int) = (x : Int) + (d : Int) * 2097152 := by omega
        rw [hxe] at HL
        clear hxe
        have hdm : (d : Int) % 128 = (d : Int) := by omega
        go_wp2
        exact bodyPost_ret (v := gT (getZ b at_)) (by rw [HL.out]; simp [results, Try.results23, go_sem, gT]) rfl ⟨rfl, ext_refl _⟩
      ·have HN := Hd (HGk.out.next (by omega) HJ.out hlt (by rw [HD.out]; exact hd2))
       rw [HD.out] at HN
       clear HD HGk
       go_wp2
       go_round
       case rel => exact ⟨4, x + 128 ^ 3 * (d % 128), _, by omega, rfl, by go_num, rfl, fun h => by first | omega | rfl, HN⟩
       case measure => simp [intOf] <;> omega
     ·have hli : decide ((j : Int) < (b.length : Int)) = false := by simp; omega
      have hG := Hd (HGk.out.short (by have := HJ.out; omega))
      go_wp2
      exact bodyPost_ret (v := gT (getZ b at_)) (by rw [hG.out]; simp [results, Try.results23, go_sem, gT]) rfl ⟨rfl, ext_refl _⟩
    ·have HGk := Hd (show GI b at_ 4 x from HG.out)
     clear HG
     obtain rfl : u = 268435456 := hu (by omega)
     clear hu
     have hx : x < 268435456 := HGk.out.1
     obtain ⟨j, hj⟩ : ∃ j : Nat, j = at_ + 4 := ⟨_, rfl⟩
     have hji : ((at_ : Int) + 4) = (j : Int) := by omega
     have HJ := Hd hj
     clear hj
     by_cases hlt : j < b.length
     ·have hli : decide ((j : Int) < (b.length : Int)) = true := by simp; omega
      obtain ⟨zb, zo, hA, hzb, z0⟩ := HR.out.atB hlt
      subst hA
      have hd := HB.out b[j] (List.getElem_mem hlt)
      obtain ⟨d, hde⟩ : ∃ d, b[j] = d := ⟨_, rfl⟩
      rw [hde] at z0 hd
      have HD := Hd hde
      clear hde
      by_cases hd2 : d < 128
      ·by_cases hd0 : d = 0
       ·subst hd0
        have hG := Hd (HGk.out.none (by omega) (by omega) HJ.out hlt HD.out)
        go_wp2
        exact bodyPost_ret (v := gT (getZ b at_)) (by rw [hG.out]; simp [results, Try.results23, go_sem, gT]) rfl ⟨rfl, ext_refl _⟩
       ·have hd0i : ((d : Int) == 0) = false := by simp; omega
        have HL := Hd (HGk.out.last (by omega) HJ.out hlt (by rw [HD.out]; omega) (by rw [HD.out]; omega))
        rw [HD.out] at HL
        have hxe : (((x + 128 ^ 4 * d : Nat)) : Int) = (x : Int) + (d : Int) * 268435456 := by omega
        rw [hxe] at HL
        clear hxe
        have hdm : (d : Int) % 128 = (d : Int) := by omega
        go_wp2
        exact bodyPost_ret (v := gT (getZ b at_)) (by rw [HL.out]; simp [results, Try.results23, go_sem, gT]) rfl ⟨rfl, ext_refl _⟩
      ·have HN := Hd (HGk.out.next (by omega) HJ.out hlt (by rw [HD.out]; exact hd2))
       rw [HD.out] at HN
       clear HD HGk
       go_wp2
       go_round
       case rel => exact ⟨5, x + 128 ^ 4 * (d % 128), _, by omega, rfl, by go_num, rfl, fun h => by first | omega | rfl, HN⟩
       case measure => simp [intOf] <;> omega
     ·have hli : decide ((j : Int) < (b.length : Int)) = false := by simp; omega
      have hG := Hd (HGk.out.short (by have := HJ.out; omega))
      go_wp2
      exact bodyPost_ret (v := gT (getZ b at_)) (by rw [hG.out]; simp [results, Try.results23, go_sem, gT]) rfl ⟨rfl, ext_refl _⟩
    ·have HGk := Hd (show GI b at_ 5 x from HG.out)
     clear HG
     obtain rfl : u = 34359738368 := hu (by omega)
     clear hu
     have hx : x < 34359738368 := HGk.out.1
     obtain ⟨j, hj⟩ : ∃ j : Nat, j = at_ + 5 := ⟨_, rfl⟩
     have hji : ((at_ : Int) + 5) = (j : Int) := by omega
     have HJ := Hd hj
     clear hj
     by_cases hlt : j < b.length
     ·have hli : decide ((j : Int) < (b.length : Int)) = true := by simp; omega
      obtain ⟨zb, zo, hA, hzb, z0⟩ := HR.out.atB hlt
      subst hA
      have hd := HB.out b[j] (List.getElem_mem hlt)
      obtain ⟨d, hde⟩ : ∃ d, b[j] = d := ⟨_, rfl⟩
      rw [hde] at z0 hd
      have HD := Hd hde
      clear hde
      by_cases hd2 : d < 128
      ·by_cases hd0 : d = 0
       ·subst hd0
        have hG := Hd (HGk.out.none (by omega) (by omega) HJ.out hlt HD.out)
        go_wp2
        exact bodyPost_ret (v := gT (getZ b at_)) (by rw [hG.out]; simp [results, Try.results23, go_sem, gT]) rfl ⟨rfl, ext_refl _⟩
       ·have hd0i : ((d : Int) == 0) = false := by simp; omega
        have HL := Hd (HGk.out.last (by omega) HJ.out hlt (by rw [HD.out]; omega) (by rw [HD.out]; omega))
        rw [HD.out] at HL
        have hxe : (((x + 128 ^ 5 * d : Nat)) : Int) = (x : Int) + (d : Int) * 34359738368 := by omega
        rw [hxe] at HL
        clear hxe
        have hdm : (d : Int) % 128 = (d : Int) := by omega
        go_wp2
        exact bodyPost_ret (v := gT (getZ b at_)) (by rw [HL.out]; simp [results, Try.results23, go_sem, gT]) rfl ⟨rfl, ext_refl _⟩
      ·have HN := Hd (HGk.out.next (by omega) HJ.out hlt (by rw [HD.out]; exact hd2))
       rw [HD.out] at HN
       clear HD HGk
       go_wp2
       go_round
       case rel => exact ⟨6, x + 128 ^ 5 * (d % 128), _, by omega, rfl, by go_num, rfl, fun h => by first | omega | rfl, HN⟩
       case measure => simp [intOf] <;> omega
     ·have hli : decide ((j : Int) < (b.length : Int)) = false := by simp; omega
      have hG := Hd (HGk.out.short (by have := HJ.out; omega))
      go_wp2
      exact bodyPost_ret (v := gT (getZ b at_)) (by rw [hG.out]; simp [results, Try.results23, go_sem, gT]) rfl ⟨rfl, ext_refl _⟩
    ·have HGk := Hd (show GI b at_ 6 x from HG.out)
     clear HG
     obtain rfl : u = 4398046511104 := hu (by omega)
     clear hu
     have hx : x < 4398046511104 := HGk.out.1
     obtain ⟨j, hj⟩ : ∃ j : Nat, j = at_ + 6 := ⟨_, rfl⟩
     have hji : ((at_ : Int) + 6) = (j : Int) := by omega
     have HJ := Hd hj
     clear hj
     by_cases hlt : j < b.length
     ·have hli : decide ((j : Int) < (b.length : Int)) = true := by simp; omega
      obtain ⟨zb, zo, hA, hzb, z0⟩ := HR.out.atB hlt
      subst hA
      have hd := HB.out b[j] (List.getElem_mem hlt)
      obtain ⟨d, hde⟩ : ∃ d, b[j] = d := ⟨_, rfl⟩
      rw [hde] at z0 hd
      have HD := Hd hde
      clear hde
      by_cases hd2 : d < 128
      ·by_cases hd0 : d = 0
       ·subst hd0
        have hG := Hd (HGk.out.none (by omega) (by omega) HJ.out hlt HD.out)
        go_wp2
        exact bodyPost_ret (v := gT (getZ b at_)) (by rw [hG.out]; simp [results, Try.results23, go_sem, gT]) rfl ⟨rfl, ext_refl _⟩
       ·have hd0i : ((d : Int) == 0) = false := by simp; omega
        have HL := Hd (HGk.out.last (by omega) HJ.out hlt (by rw [HD.out]; omega) (by rw [HD.out]; omega))
        rw [HD.out] at HL
        have hxe : (((x + 128 ^ 6 * d : Nat)) : Int) = (x : Int) + (d : Int) * 4398046511104 := by omega
        rw [hxe] at HL
        clear hxe
        have hdm : (d : Int) % 128 = (d : Int) := by omega
        go_wp2
        exact bodyPost_ret (v := gT (getZ b at_)) (by rw [HL.out]; simp [results, Try.results23, go_sem, gT]) rfl ⟨rfl, ext_refl _⟩
      ·have HN := Hd (HGk.out.next (by omega) HJ.out hlt (by rw [HD.out]; exact hd2))
       rw [HD.out] at HN
       clear HD HGk
       go_wp2
       go_round
       case rel => exact ⟨7, x + 128 ^ 6 * (d % 128), _, by omega, rfl, by go_num, rfl, fun h => by first | omega | rfl, HN⟩
       case measure => simp [intOf] <;> omega
     ·have hli : decide ((j : Int) < (b.length : Int)) = false := by simp; omega
      have hG := Hd (HGk.out.short (by have := HJ.out; omega))
      go_wp2
      exact bodyPost_ret (v := gT (getZ b at_)) (by rw [hG.out]; simp [results, Try.results23, go_sem, gT]) rfl ⟨rfl, ext_refl _⟩
    ·have HGk := Hd (show GI b at_ 7 x from HG.out)
     clear HG
     obtain rfl : u = 562949953421312 := hu (by omega)
     clear hu
     have hx : x < 562949953421312 := HGk.out.1
     obtain ⟨j, hj⟩ : ∃ j : Nat, j = at_ + 7 := ⟨_, rfl⟩
     have hji : ((at_ : Int) + 7) = (j : Int) := by omega
     have HJ := Hd hj
     clear hj
     by_cases hlt : j < b.length
     ·have hli : decide ((j : Int) < (b.length : Int)) = true := by simp; omega
      obtain ⟨zb, zo, hA, hzb, z0⟩ := HR.out.atB hlt
      subst hA
      have hd := HB.out b[j] (List.getElem_mem hlt)
      obtain ⟨d, hde⟩ : ∃ d, b[j] = d := ⟨_, rfl⟩
      rw [hde] at z0 hd
      have HD := Hd hde
      clear hde
      by_cases hd2 : d < 128
      ·by_cases hd0 : d = 0
       ·subst hd0
        have hG := Hd (HGk.out.none (by omega) (by omega) HJ.out hlt HD.out)
        go_wp2
        exact bodyPost_ret (v := gT (getZ b at_)) (by rw [hG.out]; simp [results, Try.results23, go_sem, gT]) rfl ⟨rfl, ext_refl _⟩
       ·have hd0i : ((d : Int) == 0) = false := by simp; omega
        have HL := Hd (HGk.out.last (by omega) HJ.out hlt (by rw [HD.out]; omega) (by rw [HD.out]; omega))
        rw [HD.out] at HL
        have hxe : (((x + 128 ^ 7 * d : Nat)) : Int) = (x : Int) + (d : Int) * 562949953421312 := by omega
        rw [hxe] at HL
        clear hxe
        have hdm : (d : Int) % 128 = (d : Int) := by omega
        go_wp2
        exact bodyPost_ret (v := gT (getZ b at_)) (by rw [HL.out]; simp [results, Try.results23, go_sem, gT]) rfl ⟨rfl, ext_refl _⟩
      ·have HN := Hd (HGk.out.next (by omega) HJ.out hlt (by rw [HD.out]; exact hd2))
       rw [HD.out] at HN
       clear HD HGk
       go_wp2
       go_round
       case rel => exact ⟨8, x + 128 ^ 7 * (d % 128), _, by omega, rfl, by go_num, rfl, fun h => by first | omega | rfl, HN⟩
       case measure => simp [intOf] <;> omega
     ·have hli : decide ((j : Int) < (b.length : Int)) = false := by simp; omega
      have hG := Hd (HGk.out.short (by have := HJ.out; omega))
      go_wp2
      exact bodyPost_ret (v := gT (getZ b at_)) (by rw [hG.out]; simp [results, Try.results23, go_sem, gT]) rfl ⟨rfl, ext_refl _⟩
    ·have HGk := Hd (show GI b at_ 8 x from HG.out)
     clear HG
     obtain rfl : u = 72057594037927936 := hu (by omega)
     clear hu
     have hx : x < 72057594037927936 := HGk.out.1
     obtain ⟨j, hj⟩ : ∃ j : Nat, j = at_ + 8 := ⟨_, rfl⟩
     have hji : ((at_ : Int) + 8) = (j : Int) := by omega
     have HJ := Hd hj
     clear hj
     by_cases hlt : j < b.length
     ·have hli : decide ((j : Int) < (b.length : Int)) = true := by simp; omega
      obtain ⟨zb, zo, hA, hzb, z0⟩ := HR.out.atB hlt
      subst hA
      have hd := HB.out b[j] (List.getElem_mem hlt)
      obtain ⟨d, hde⟩ : ∃ d, b[j] = d := ⟨_, rfl⟩
      rw [hde] at z0 hd
      have HD := Hd hde
      clear hde
      by_cases hd2 : d < 128
      ·by_cases hd0 : d = 0
       ·subst hd0
        have hG := Hd (HGk.out.none (by omega) (by omega) HJ.out hlt HD.out)
        go_wp2
        exact bodyPost_ret (v := gT (getZ b at_)) (by rw [hG.out]; simp [results, Try.results23, go_sem, gT]) rfl ⟨rfl, ext_refl _⟩
       ·have hd0i : ((d : Int) == 0) = false := by simp; omega
        have HL := Hd (HGk.out.last (by omega) HJ.out hlt (by rw [HD.out]; omega) (by rw [HD.out]; omega))
        rw [HD.out] at HL
        have hxe : (((x + 128 ^ 8 * d : Nat)) : Int) = (x : Int) + (d : Int) * 72057594037927936 := by omega
        rw [hxe] at HL
        clear hxe
        have hdm : (d : Int) % 128 = (d : Int) := by omega
        go_wp2
        exact bodyPost_ret (v := gT (getZ b at_)) (by rw [HL.out]; simp [results, Try.results23, go_sem, gT]) rfl ⟨rfl, ext_refl _⟩
      ·have HN := Hd (HGk.out.next (by omega) HJ.out hlt (by rw [HD.out]; exact hd2))
       rw [HD.out] at HN
       clear HD HGk
       go_wp2
       go_round
       case rel => exact ⟨9, x + 128 ^ 8 * (d % 128), _, by omega, rfl, by go_num, rfl, fun h => by first | omega | rfl, HN⟩
       case measure => simp [intOf] <;> omega
     ·have hli : decide ((j : Int) < (b.length : Int)) = false := by simp; omega
      have hG := Hd (HGk.out.short (by have := HJ.out; omega))
      go_wp2
      exact bodyPost_ret (v := gT (getZ b at_)) (by rw [hG.out]; simp [results, Try.results23, go_sem, gT]) rfl ⟨rfl, ext_refl _⟩
   ·obtain rfl : k = 9 := by omega
    have hG := Hd HG.out.long
    clear hu
    go_wp2
    exact bodyPost_ret (v := gT (getZ b at_)) (by rw [hG.out]; simp [results, Try.results23, go_sem, gT]) rfl ⟨rfl, ext_refl _⟩
 ·have hG := Hd ((GI.zero b at_).short (by omega))
  have h0i : decide ((b.length : Int) ≤ (at_ : Int)) = true := by simp; omega
  go_enter Try.func23, Try.ntmps23
  go_wp2
  exact bodyPost_ret (v := gT (getZ b at_)) (by rw [hG.out]; simp [results, Try.results23, go_sem, gT]) rfl ⟨rfl, ext_refl _⟩
set_option maxRecDepth 100000 in
set_option maxHeartbeats 16000000 in
theorem c_iGetNum (A : Option Addr) (c : Nat) (b : List Nat) (at_ : Nat) (w : World) (hr : Rd bEnc 1 w A c b) (hb : Byt b) (hn : b.length ≤ 1048576) (ha : at_ ≤ 1048576) : Calls Try.prog 88 #[.slice A b.length c, .int .i64 at_] w fun e w' => e = .returned (gT (getZ b at_)) ∧ Ext w w' := by
 have HR := Hd hr
 have HB := Hd hb
 clear hr hb
 by_cases h0 : at_ < b.length
 ·have hcon := c_from at_ 0 ((b.length : Int) - 1) w
  rw [show inB (at_ : Int) 0 ((b.length : Int) - 1) = true from (inB_yes _ _ _).2 ⟨by omega, by omega⟩] at hcon
  go_enter Try.func88, Try.ntmps88
  go_wp2_with fail
  refine hcon.mono ?_
  rintro e w1 ⟨rfl, x1⟩
  clear hcon
  go_wp2
  go_loop [7, 8, 9] (fun xv i _ => ∃ (k x : Nat), k ≤ 9 ∧ i = .int .i64 k ∧ xv = .int .i64 x ∧ Hid (GI b at_ k x)) (fun _ i _ => 9 - (intOf i).toNat)
  case atStart => exact ⟨0, 0, by omega, rfl, rfl, Hd (GI.zero b at_)⟩
  case round =>
   obtain ⟨k, x, hk, rfl, rfl, HG⟩ := hrel
   by_cases hk9 : k < 9
   ·obtain rfl | rfl | rfl | rfl | rfl | rfl | rfl | rfl | rfl : k = 0 ∨ k = 1 ∨ k = 2 ∨ k = 3 ∨ k = 4 ∨ k = 5 ∨ k = 6 ∨ k = 7 ∨ k = 8 := by omega
    ·have HGk := Hd (show GI b at_ 0 x from HG.out)
     clear HG
     have hx : x < 1 := HGk.out.1
     have HJ := Hd (show at_ = at_ + 0 from rfl)
     have hlt : at_ < b.length := h0
     obtain ⟨zb, zo, hA, hzb, z0⟩ := (HR.out.keep x1).atB hlt
     subst hA
     have hd := HB.out b[at_] (List.getElem_mem hlt)
     obtain ⟨d, hde⟩ : ∃ d, b[at_] = d := ⟨_, rfl⟩
     rw [hde] at z0 hd
     have HD := Hd hde
     clear hde
     by_cases hd2 : d < 128
     ·by_cases hd0 : d = 0
      ·subst hd0
       have HL := Hd (HGk.out.last (by omega) HJ.out hlt (by rw [HD.out]; omega) (by rw [HD.out]; omega))
       rw [HD.out] at HL
       have hxe : (((x + 128 ^ 0 * 0 : Nat)) : Int) = (x : Int) + (0 : Int) * 1 := by omega
       rw [hxe] at HL
       clear hxe
       have hdm : (0 : Int) % 128 = (0 : Int) := by omega
       go_wp2
       exact bodyPost_ret (v := gT (getZ b at_)) (by rw [HL.out]; simp [results, Try.results88, go_sem, gT]) rfl ⟨rfl, x1⟩
      ·have hd0i : ((d : Int) == 0) = false := by simp; omega
       have HL := Hd (HGk.out.last (by omega) HJ.out hlt (by rw [HD.out]; omega) (by rw [HD.out]; omega))
       rw [HD.out] at HL
       have hxe : (((x + 128 ^ 0 * d : Nat)) : Int) = (x : Int) + (d : Int) * 1 := by omega
       rw [hxe] at HL
       clear hxe
       have hdm : (d : Int) % 128 = (d : Int) := by omega
       go_wp2
       exact bodyPost_ret (v := gT (getZ b at_)) (by rw [HL.out]; simp [results, Try.results88, go_sem, gT]) rfl ⟨rfl, x1⟩
     ·have HN := Hd (HGk.out.next (by omega) HJ.out hlt (by rw [HD.out]; exact hd2))
      rw [HD.out] at HN
      clear HD HGk
      go_wp2
      go_round
      case rel => exact ⟨1, x + 128 ^ 0 * (d % 128), by omega, rfl, by go_num, HN⟩
      case measure => simp [intOf] <;> omega
    ·have HGk := Hd (show GI b at_ 1 x from HG.out)
     clear HG
     have hx : x < 128 := HGk.out.1
     obtain ⟨j, hj⟩ : ∃ j : Nat, j = at_ + 1 := ⟨_, rfl⟩
     have hji : ((at_ : Int) + 1) = (j : Int) := by omega
     have HJ := Hd hj
     clear hj
     by_cases hlt : j < b.length
     ·have hli : decide ((j : Int) < (b.length : Int)) = true := by simp; omega
      obtain ⟨zb, zo, hA, hzb, z0⟩ := (HR.out.keep x1).atB hlt
      subst hA
      have hd := HB.out b[j] (List.getElem_mem hlt)
      obtain ⟨d, hde⟩ : ∃ d, b[j] = d := ⟨_, rfl⟩
      rw [hde] at z0 hd
      have HD := Hd hde
      clear hde
      by_cases hd2 : d < 128
      ·by_cases hd0 : d = 0
       ·subst hd0
        have hG := Hd (HGk.out.none (by omega) (by omega) HJ.out hlt HD.out)
        go_wp2
        exact bodyPost_ret (v := gT (getZ b at_)) (by rw [hG.out]; simp [results, Try.results88, go_sem, gT]) rfl ⟨rfl, x1⟩
       ·have hd0i : ((d : Int) == 0) = false := by simp; omega
        have HL := Hd (HGk.out.last (by omega) HJ.out hlt (by rw [HD.out]; omega) (by rw [HD.out]; omega))
        rw [HD.out] at HL
        have hxe : (((x + 128 ^ 1 * d : Nat)) : Int) = (x : Int) + (d : Int) * 128 := by omega
        rw [hxe] at HL
        clear hxe
        have hdm : (d : Int) % 128 = (d : Int) := by omega
        go_wp2
        exact bodyPost_ret (v := gT (getZ b at_)) (by rw [HL.out]; simp [results, Try.results88, go_sem, gT]) rfl ⟨rfl, x1⟩
      ·have HN := Hd (HGk.out.next (by omega) HJ.out hlt (by rw [HD.out]; exact hd2))
       rw [HD.out] at HN
       clear HD HGk
       go_wp2
       go_round
       case rel => exact ⟨2, x + 128 ^ 1 * (d % 128), by omega, rfl, by go_num, HN⟩
       case measure => simp [intOf] <;> omega
     ·have hli : decide ((j : Int) < (b.length : Int)) = false := by simp; omega
      have hG := Hd (HGk.out.short (by have := HJ.out; omega))
      go_wp2
      exact bodyPost_ret (v := gT (getZ b at_)) (by rw [hG.out]; simp [results, Try.results88, go_sem, gT]) rfl ⟨rfl, x1⟩
    ·have HGk := Hd (show GI b at_ 2 x from HG.out)
     clear HG
     have hx : x < 16384 := HGk.out.1
     obtain ⟨j, hj⟩ : ∃ j : Nat, j = at_ + 2 := ⟨_, rfl⟩
     have hji : ((at_ : Int) + 2) = (j : Int) := by omega
     have HJ := Hd hj
     clear hj
     by_cases hlt : j < b.length
     ·have hli : decide ((j : Int) < (b.length : Int)) = true := by simp; omega
      obtain ⟨zb, zo, hA, hzb, z0⟩ := (HR.out.keep x1).atB hlt
      subst hA
      have hd := HB.out b[j] (List.getElem_mem hlt)
      obtain ⟨d, hde⟩ : ∃ d, b[j] = d := ⟨_, rfl⟩
      rw [hde] at z0 hd
      have HD := Hd hde
      clear hde
      by_cases hd2 : d < 128
      ·by_cases hd0 : d = 0
       ·subst hd0
        have hG := Hd (HGk.out.none (by omega) (by omega) HJ.out hlt HD.out)
        go_wp2
        exact bodyPost_ret (v := gT (getZ b at_)) (by rw [hG.out]; simp [results, Try.results88, go_sem, gT]) rfl ⟨rfl, x1⟩
       ·have hd0i : ((d : Int) == 0) = false := by simp; omega
        have HL := Hd (HGk.out.last (by omega) HJ.out hlt (by rw [HD.out]; omega) (by rw [HD.out]; omega))
        rw [HD.out] at HL
        have hxe : (((x + 128 ^ 2 * d : Nat)) : Int) = (x : Int) + (d : Int) * 16384 := by omega
        rw [hxe] at HL
        clear hxe
        have hdm : (d : Int) % 128 = (d : Int) := by omega
        go_wp2
        exact bodyPost_ret (v := gT (getZ b at_)) (by rw [HL.out]; simp [results, Try.results88, go_sem, gT]) rfl ⟨rfl, x1⟩
      ·have HN := Hd (HGk.out.next (by omega) HJ.out hlt (by rw [HD.out]; exact hd2))
       rw [HD.out] at HN
       clear HD HGk
       go_wp2
       go_round
       case rel => exact ⟨3, x + 128 ^ 2 * (d % 128), by omega, rfl, by go_num, HN⟩
       case measure => simp [intOf] <;> omega
     ·have hli : decide ((j : Int) < (b.length : Int)) = false := by simp; omega
      have hG := Hd (HGk.out.short (by have := HJ.out; omega))
      go_wp2
      exact bodyPost_ret (v := gT (getZ b at_)) (by rw [hG.out]; simp [results, Try.results88, go_sem, gT]) rfl ⟨rfl, x1⟩
    ·have HGk := Hd (show GI b at_ 3 x from HG.out)
     clear HG
     have hx : x < 2097152 := HGk.out.1
     obtain ⟨j, hj⟩ : ∃ j : Nat, j = at_ + 3 := ⟨_, rfl⟩
     have hji : ((at_ : Int) + 3) = (j : Int) := by omega
     have HJ := Hd hj
     clear hj
     by_cases hlt : j < b.length
     ·have hli : decide ((j : Int) < (b.length : Int)) = true := by simp; omega
      obtain ⟨zb, zo, hA, hzb, z0⟩ := (HR.out.keep x1).atB hlt
      subst hA
      have hd := HB.out b[j] (List.getElem_mem hlt)
      obtain ⟨d, hde⟩ : ∃ d, b[j] = d := ⟨_, rfl⟩
      rw [hde] at z0 hd
      have HD := Hd hde
      clear hde
      by_cases hd2 : d < 128
      ·by_cases hd0 : d = 0
       ·subst hd0
        have hG := Hd (HGk.out.none (by omega) (by omega) HJ.out hlt HD.out)
        go_wp2
        exact bodyPost_ret (v := gT (getZ b at_)) (by rw [hG.out]; simp [results, Try.results88, go_sem, gT]) rfl ⟨rfl, x1⟩
       ·have hd0i : ((d : Int) == 0) = false := by simp; omega
        have HL := Hd (HGk.out.last (by omega) HJ.out hlt (by rw [HD.out]; omega) (by rw [HD.out]; omega))
        rw [HD.out] at HL
        have hxe : (((x + 128 ^ 3 * d : Nat)) : Int) = (x : Int) + (d : Int) * 2097152 := by omega
        rw [hxe] at HL
        clear hxe
        have hdm : (d : Int) % 128 = (d : Int) := by omega
        go_wp2
        exact bodyPost_ret (v := gT (getZ b at_)) (by rw [HL.out]; simp [results, Try.results88, go_sem, gT]) rfl ⟨rfl, x1⟩
      ·have HN := Hd (HGk.out.next (by omega) HJ.out hlt (by rw [HD.out]; exact hd2))
       rw [HD.out] at HN
       clear HD HGk
       go_wp2
       go_round
       case rel => exact ⟨4, x + 128 ^ 3 * (d % 128), by omega, rfl, by go_num, HN⟩
       case measure => simp [intOf] <;> omega
     ·have hli : decide ((j : Int) < (b.length : Int)) = false := by simp; omega
      have hG := Hd (HGk.out.short (by have := HJ.out; omega))
      go_wp2
      exact bodyPost_ret (v := gT (getZ b at_)) (by rw [hG.out]; simp [results, Try.results88, go_sem, gT]) rfl ⟨rfl, x1⟩
    ·have HGk := Hd (show GI b at_ 4 x from HG.out)
     clear HG
     have hx : x < 268435456 := HGk.out.1
     obtain ⟨j, hj⟩ : ∃ j : Nat, j = at_ + 4 := ⟨_, rfl⟩
     have hji : ((at_ : Int) + 4) = (j : Int) := by omega
     have HJ := Hd hj
     clear hj
     by_cases hlt : j < b.length
     ·have hli : decide ((j : Int) < (b.length : Int)) = true := by simp; omega
      obtain ⟨zb, zo, hA, hzb, z0⟩ := (HR.out.keep x1).atB hlt
      subst hA
      have hd := HB.out b[j] (List.getElem_mem hlt)
      obtain ⟨d, hde⟩ : ∃ d, b[j] = d := ⟨_, rfl⟩
      rw [hde] at z0 hd
      have HD := Hd hde
      clear hde
      by_cases hd2 : d < 128
      ·by_cases hd0 : d = 0
       ·subst hd0
        have hG := Hd (HGk.out.none (by omega) (by omega) HJ.out hlt HD.out)
        go_wp2
        exact bodyPost_ret (v := gT (getZ b at_)) (by rw [hG.out]; simp [results, Try.results88, go_sem, gT]) rfl ⟨rfl, x1⟩
       ·have hd0i : ((d : Int) == 0) = false := by simp; omega
        have HL := Hd (HGk.out.last (by omega) HJ.out hlt (by rw [HD.out]; omega) (by rw [HD.out]; omega))
        rw [HD.out] at HL
        have hxe : (((x + 128 ^ 4 * d : Nat)) : Int) = (x : Int) + (d : Int) * 268435456 := by omega
        rw [hxe] at HL
        clear hxe
        have hdm : (d : Int) % 128 = (d : Int) := by omega
        go_wp2
        exact bodyPost_ret (v := gT (getZ b at_)) (by rw [HL.out]; simp [results, Try.results88, go_sem, gT]) rfl ⟨rfl, x1⟩
      ·have HN := Hd (HGk.out.next (by omega) HJ.out hlt (by rw [HD.out]; exact hd2))
       rw [HD.out] at HN
       clear HD HGk
       go_wp2
       go_round
       case rel => exact ⟨5, x + 128 ^ 4 * (d % 128), by omega, rfl, by go_num, HN⟩
       case measure => simp [intOf] <;> omega
     ·have hli : decide ((j : Int) < (b.length : Int)) = false := by simp; omega
      have hG := Hd (HGk.out.short (by have := HJ.out; omega))
      go_wp2
      exact bodyPost_ret (v := gT (getZ b at_)) (by rw [hG.out]; simp [results, Try.results88, go_sem, gT]) rfl ⟨rfl, x1⟩
    ·have HGk := Hd (show GI b at_ 5 x from HG.out)
     clear HG
     have hx : x < 34359738368 := HGk.out.1
     obtain ⟨j, hj⟩ : ∃ j : Nat, j = at_ + 5 := ⟨_, rfl⟩
     have hji : ((at_ : Int) + 5) = (j : Int) := by omega
     have HJ := Hd hj
     clear hj
     by_cases hlt : j < b.length
     ·have hli : decide ((j : Int) < (b.length : Int)) = true := by simp; omega
      obtain ⟨zb, zo, hA, hzb, z0⟩ := (HR.out.keep x1).atB hlt
      subst hA
      have hd := HB.out b[j] (List.getElem_mem hlt)
      obtain ⟨d, hde⟩ : ∃ d, b[j] = d := ⟨_, rfl⟩
      rw [hde] at z0 hd
      have HD := Hd hde
      clear hde
      by_cases hd2 : d < 128
      ·by_cases hd0 : d = 0
       ·subst hd0
        have hG := Hd (HGk.out.none (by omega) (by omega) HJ.out hlt HD.out)
        go_wp2
        exact bodyPost_ret (v := gT (getZ b at_)) (by rw [hG.out]; simp [results, Try.results88, go_sem, gT]) rfl ⟨rfl, x1⟩
       ·have hd0i : ((d : Int) == 0) = false := by simp; omega
        have HL := Hd (HGk.out.last (by omega) HJ.out hlt (by rw [HD.out]; omega) (by rw [HD.out]; omega))
        rw [HD.out] at HL
        have hxe : (((x + 128 ^ 5 * d : Nat)) : Int) = (x : Int) + (d : Int) * 34359738368 := by omega
        rw [hxe] at HL
        clear hxe
        have hdm : (d : Int) % 128 = (d : Int) := by omega
        go_wp2
        exact bodyPost_ret (v := gT (getZ b at_)) (by rw [HL.out]; simp [results, Try.results88, go_sem, gT]) rfl ⟨rfl, x1⟩
      ·have HN := Hd (HGk.out.next (by omega) HJ.out hlt (by rw [HD.out]; exact hd2))
       rw [HD.out] at HN
       clear HD HGk
       go_wp2
       go_round
       case rel => exact ⟨6, x + 128 ^ 5 * (d % 128), by omega, rfl, by go_num, HN⟩
       case measure => simp [intOf] <;> omega
     ·have hli : decide ((j : Int) < (b.length : Int)) = false := by simp; omega
      have hG := Hd (HGk.out.short (by have := HJ.out; omega))
      go_wp2
      exact bodyPost_ret (v := gT (getZ b at_)) (by rw [hG.out]; simp [results, Try.results88, go_sem, gT]) rfl ⟨rfl, x1⟩
    ·have HGk := Hd (show GI b at_ 6 x from HG.out)
     clear HG
     have hx : x < 4398046511104 := HGk.out.1
     obtain ⟨j, hj⟩ : ∃ j : Nat, j = at_ + 6 := ⟨_, rfl⟩
     have hji : ((at_ : Int) + 6) = (j : Int) := by omega
     have HJ := Hd hj
     clear hj
     by_cases hlt : j < b.length
     ·have hli : decide ((j : Int) < (b.length : Int)) = true := by simp; omega
      obtain ⟨zb, zo, hA, hzb, z0⟩ := (HR.out.keep x1).atB hlt
      subst hA
      have hd := HB.out b[j] (List.getElem_mem hlt)
      obtain ⟨d, hde⟩ : ∃ d, b[j] = d := ⟨_, rfl⟩
      rw [hde] at z0 hd
      have HD := Hd hde
      clear hde
      by_cases hd2 : d < 128
      ·by_cases hd0 : d = 0
       ·subst hd0
        have hG := Hd (HGk.out.none (by omega) (by omega) HJ.out hlt HD.out)
        go_wp2
        exact bodyPost_ret (v := gT (getZ b at_)) (by rw [hG.out]; simp [results, Try.results88, go_sem, gT]) rfl ⟨rfl, x1⟩
       ·have hd0i : ((d : Int) == 0) = false := by simp; omega
        have HL := Hd (HGk.out.last (by omega) HJ.out hlt (by rw [HD.out]; omega) (by rw [HD.out]; omega))
        rw [HD.out] at HL
        have hxe : (((x + 128 ^ 6 * d : Nat)) : Int) = (x : Int) + (d : Int) * 4398046511104 := by omega
        rw [hxe] at HL
        clear hxe
        have hdm : (d : Int) % 128 = (d : Int) := by omega
        go_wp2
        exact bodyPost_ret (v := gT (getZ b at_)) (by rw [HL.out]; simp [results, Try.results88, go_sem, gT]) rfl ⟨rfl, x1⟩
      ·have HN := Hd (HGk.out.next (by omega) HJ.out hlt (by rw [HD.out]; exact hd2))
       rw [HD.out] at HN
       clear HD HGk
       go_wp2
       go_round
       case rel => exact ⟨7, x + 128 ^ 6 * (d % 128), by omega, rfl, by go_num, HN⟩
       case measure => simp [intOf] <;> omega
     ·have hli : decide ((j : Int) < (b.length : Int)) = false := by simp; omega
      have hG := Hd (HGk.out.short (by have := HJ.out; omega))
      go_wp2
      exact bodyPost_ret (v := gT (getZ b at_)) (by rw [hG.out]; simp [results, Try.results88, go_sem, gT]) rfl ⟨rfl, x1⟩
    ·have HGk := Hd (show GI b at_ 7 x from HG.out)
     clear HG
     have hx : x < 562949953421312 := HGk.out.1
     obtain ⟨j, hj⟩ : ∃ j : Nat, j = at_ + 7 := ⟨_, rfl⟩
     have hji : ((at_ : Int) + 7) = (j : Int) := by omega
     have HJ := Hd hj
     clear hj
     by_cases hlt : j < b.length
     ·have hli : decide ((j : Int) < (b.length : Int)) = true := by simp; omega
      obtain ⟨zb, zo, hA, hzb, z0⟩ := (HR.out.keep x1).atB hlt
      subst hA
      have hd := HB.out b[j] (List.getElem_mem hlt)
      obtain ⟨d, hde⟩ : ∃ d, b[j] = d := ⟨_, rfl⟩
      rw [hde] at z0 hd
      have HD := Hd hde
      clear hde
      by_cases hd2 : d < 128
      ·by_cases hd0 : d = 0
       ·subst hd0
        have hG := Hd (HGk.out.none (by omega) (by omega) HJ.out hlt HD.out)
        go_wp2
        exact bodyPost_ret (v := gT (getZ b at_)) (by rw [hG.out]; simp [results, Try.results88, go_sem, gT]) rfl ⟨rfl, x1⟩
       ·have hd0i : ((d : Int) == 0) = false := by simp; omega
        have HL := Hd (HGk.out.last (by omega) HJ.out hlt (by rw [HD.out]; omega) (by rw [HD.out]; omega))
        rw [HD.out] at HL
        have hxe : (((x + 128 ^ 7 * d : Nat)) : Int) = (x : Int) + (d : Int) * 562949953421312 := by omega
        rw [hxe] at HL
        clear hxe
        have hdm : (d : Int) % 128 = (d : Int) := by omega
        go_wp2
        exact bodyPost_ret (v := gT (getZ b at_)) (by rw [HL.out]; simp [results, Try.results88, go_sem, gT]) rfl ⟨rfl, x1⟩
      ·have HN := Hd (HGk.out.next (by omega) HJ.out hlt (by rw [HD.out]; exact hd2))
       rw [HD.out] at HN
       clear HD HGk
       go_wp2
       go_round
       case rel => exact ⟨8, x + 128 ^ 7 * (d % 128), by omega, rfl, by go_num, HN⟩
       case measure => simp [intOf] <;> omega
     ·have hli : decide ((j : Int) < (b.length : Int)) = false := by simp; omega
      have hG := Hd (HGk.out.short (by have := HJ.out; omega))
      go_wp2
      exact bodyPost_ret (v := gT (getZ b at_)) (by rw [hG.out]; simp [results, Try.results88, go_sem, gT]) rfl ⟨rfl, x1⟩
    ·have HGk := Hd (show GI b at_ 8 x from HG.out)
     clear HG
     have hx : x < 72057594037927936 := HGk.out.1
     obtain ⟨j, hj⟩ : ∃ j : Nat, j = at_ + 8 := ⟨_, rfl⟩
     have hji : ((at_ : Int) + 8) = (j : Int) := by omega
     have HJ := Hd hj
     clear hj
     by_cases hlt : j < b.length
     ·have hli : decide ((j : Int) < (b.length : Int)) = true := by simp; omega
      obtain ⟨zb, zo, hA, hzb, z0⟩ := (HR.out.keep x1).atB hlt
      subst hA
      have hd := HB.out b[j] (List.getElem_mem hlt)
      obtain ⟨d, hde⟩ : ∃ d, b[j] = d := ⟨_, rfl⟩
      rw [hde] at z0 hd
      have HD := Hd hde
      clear hde
      by_cases hd2 : d < 128
      ·by_cases hd0 : d = 0
       ·subst hd0
        have hG := Hd (HGk.out.none (by omega) (by omega) HJ.out hlt HD.out)
        go_wp2
        exact bodyPost_ret (v := gT (getZ b at_)) (by rw [hG.out]; simp [results, Try.results88, go_sem, gT]) rfl ⟨rfl, x1⟩
       ·have hd0i : ((d : Int) == 0) = false := by simp; omega
        have HL := Hd (HGk.out.last (by omega) HJ.out hlt (by rw [HD.out]; omega) (by rw [HD.out]; omega))
        rw [HD.out] at HL
        have hxe : (((x + 128 ^ 8 * d : Nat)) : Int) = (x : Int) + (d : Int) * 72057594037927936 := by omega
        rw [hxe] at HL
        clear hxe
        have hdm : (d : Int) % 128 = (d : Int) := by omega
        go_wp2
        exact bodyPost_ret (v := gT (getZ b at_)) (by rw [HL.out]; simp [results, Try.results88, go_sem, gT]) rfl ⟨rfl, x1⟩
      ·have HN := Hd (HGk.out.next (by omega) HJ.out hlt (by rw [HD.out]; exact hd2))
       rw [HD.out] at HN
       clear HD HGk
       go_wp2
       go_round
       case rel => exact ⟨9, x + 128 ^ 8 * (d % 128), by omega, rfl, by go_num, HN⟩
       case measure => simp [intOf] <;> omega
     ·have hli : decide ((j : Int) < (b.length : Int)) = false := by simp; omega
      have hG := Hd (HGk.out.short (by have := HJ.out; omega))
      go_wp2
      exact bodyPost_ret (v := gT (getZ b at_)) (by rw [hG.out]; simp [results, Try.results88, go_sem, gT]) rfl ⟨rfl, x1⟩
   ·obtain rfl : k = 9 := by omega
    have hG := Hd HG.out.long
    go_wp2
    exact bodyPost_ret (v := gT (getZ b at_)) (by rw [hG.out]; simp [results, Try.results88, go_sem, gT]) rfl ⟨rfl, x1⟩
 ·have hG := Hd ((GI.zero b at_).short (by omega))
  have hcon := c_from at_ 0 ((b.length : Int) - 1) w
  rw [show inB (at_ : Int) 0 ((b.length : Int) - 1) = false from (inB_no _ _ _).2 (fun h => by omega)] at hcon
  go_enter Try.func88, Try.ntmps88
  go_wp2_with fail
  refine hcon.mono ?_
  rintro e w1 ⟨rfl, x1⟩
  clear hcon
  go_wp2
  exact bodyPost_ret (v := gT (getZ b at_)) (by rw [hG.out]; simp [results, Try.results88, go_sem, gT]) rfl ⟨rfl, x1⟩
end Go.Proofs.Ytpghedeghoegmaa
