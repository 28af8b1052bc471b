/- A message that fits is read from its bytes as it was: plain lists, no program in sight. -/
import Derived.Test.YtpghedeghoegmaaPk28
namespace Go.Proofs.Ytpghedeghoegmaa
open Go.ChangeShapes Go.WideShapes Go.ChangeAt Go.RowKit Go.Sort
set_option linter.unusedVariables false
set_option linter.unusedSimpArgs false
theorem putN_len : ∀ (n x : Nat), 0 < n → x < 128 ^ n → (putN x).length ≤ n
 | 0, _, h, _ => absurd h (by omega)
 | n + 1, x, _, h => by
  by_cases hs : x < 128
  ·rw [putN_small hs]; simp
  ·rw [putN_big hs, List.length_cons]
   have hlt : x / 128 < 128 ^ n := by
    rw [Nat.pow_succ] at h
    exact Nat.div_lt_of_lt_mul (by rw [Nat.mul_comm]; exact h)
   cases n with
   | zero => rw [Nat.pow_zero] at hlt; omega
   | succ n =>
    have := putN_len (n + 1) (x / 128) (by omega) hlt
    omega
theorem packZ_len : ∀ (l : List Int), (∀ x ∈ l, 0 ≤ x ∧ x ≤ 1000000001) → (packZ l).length ≤ 5 * l.length
 | [], _ => by simp [packZ]
 | x :: l, h => by
  rw [packZ_cons, List.length_append, List.length_cons]
  have h1 := h x List.mem_cons_self
  have h2 := putN_len 5 x.toNat (by omega) (by omega)
  have h3 := packZ_len l (fun y hy => h y (List.mem_cons_of_mem _ hy))
  omega
theorem logNums_len {l : Lg} (h : logOk l = true) : (logNums l).length ≤ 414 := by
 obtain ⟨hb, hI, h60, hf, hA⟩ := of_decide_eq_true (p := LogOk l) h
 have h2 := imgP_of hI
 have hc40 : l.cells.length ≤ 40 := h2.c.len
 have hs10 : l.seats.length ≤ 10 := h2.s.len
 unfold logNums
 simp only [List.length_cons, List.length_append, celN_len, seaN_len, entN_len]
 omega
structure FitW (m : Mg) : Prop where
 nums : ∀ x ∈ msgNums m, 0 ≤ x ∧ x ≤ 1000000001
 log : 76 ∈ formL m.kind → logOk m.log = true
 all : (formL m.kind).foldl (cpF m) (Mg.ofKind m.kind) = m
 some : formL m.kind ≠ []
 len : (msgNums m).length ≤ 800
theorem cmd_b {k x v : Int} (h : cmdOk k x v = true) : 0 ≤ k ∧ k ≤ 4 ∧ 0 ≤ x ∧ x ≤ 1000000000 ∧ 0 ≤ v ∧ v ≤ 1000000000 := by
 unfold cmdOk at h
 simp only [decide_eq_true_eq] at h
 omega
theorem fOne_no {b n : Int} (h : fOne false b n = true) : n = 0 := by simpa [fOne] using h
theorem fOne_yes {b n : Int} (h : fOne true b n = true) : -1 ≤ n ∧ n ≤ 1000000000 ∧ (b ≠ 65 → 0 ≤ n) := by
 simp only [fOne, Bool.true_and, Bool.not_true, Bool.false_and, Bool.or_false] at h
 unfold fOk at h
 split at h
 ·have := (inB_yes _ _ _).1 h; omega
 ·split at h
  ·have := (inB_yes _ _ _).1 h; omega
  ·split at h
   ·have := (inB_yes _ _ _).1 h
    rename_i hb
    exact ⟨by omega, by omega, fun hne => absurd hb hne⟩
   ·have := (inB_yes _ _ _).1 h; omega
theorem fitW_1 {frm view op commit normal nonce client req answer ck cx cv : Int} {log : Lg} (h : iFits ⟨1, frm, view, op, commit, normal, nonce, client, req, answer, ck, cx, cv, log⟩ = true) : FitW ⟨1, frm, view, op, commit, normal, nonce, client, req, answer, ck, cx, cv, log⟩ := by
 unfold iFits at h
 rw [Bool.and_eq_true, Bool.and_eq_true, Bool.and_eq_true, decide_eq_true_eq] at h
 obtain ⟨⟨⟨_, hF⟩, hC⟩, hL⟩ := h
 have f0 : fOne false 70 frm = true := by
  have h5 := hF 0 (by omega)
  unfold iFld at h5
  rw [show iLet 0 = 70 from by decide +kernel, show sHas (iForm 1) 70 = false from by decide +kernel] at h5
  exact h5
 obtain rfl := fOne_no f0
 have f1 : fOne false 86 view = true := by
  have h5 := hF 1 (by omega)
  unfold iFld at h5
  rw [show iLet 1 = 86 from by decide +kernel, show sHas (iForm 1) 86 = false from by decide +kernel] at h5
  exact h5
 obtain rfl := fOne_no f1
 have f2 : fOne false 79 op = true := by
  have h5 := hF 2 (by omega)
  unfold iFld at h5
  rw [show iLet 2 = 79 from by decide +kernel, show sHas (iForm 1) 79 = false from by decide +kernel] at h5
  exact h5
 obtain rfl := fOne_no f2
 have f3 : fOne false 67 commit = true := by
  have h5 := hF 3 (by omega)
  unfold iFld at h5
  rw [show iLet 3 = 67 from by decide +kernel, show sHas (iForm 1) 67 = false from by decide +kernel] at h5
  exact h5
 obtain rfl := fOne_no f3
 have f4 : fOne false 78 normal = true := by
  have h5 := hF 4 (by omega)
  unfold iFld at h5
  rw [show iLet 4 = 78 from by decide +kernel, show sHas (iForm 1) 78 = false from by decide +kernel] at h5
  exact h5
 obtain rfl := fOne_no f4
 have f5 : fOne false 110 nonce = true := by
  have h5 := hF 5 (by omega)
  unfold iFld at h5
  rw [show iLet 5 = 110 from by decide +kernel, show sHas (iForm 1) 110 = false from by decide +kernel] at h5
  exact h5
 obtain rfl := fOne_no f5
 have f6 : fOne true 99 client = true := by
  have h5 := hF 6 (by omega)
  unfold iFld at h5
  rw [show iLet 6 = 99 from by decide +kernel, show sHas (iForm 1) 99 = true from by decide +kernel] at h5
  exact h5
 have g6 := fOne_yes f6
 have f7 : fOne true 114 req = true := by
  have h5 := hF 7 (by omega)
  unfold iFld at h5
  rw [show iLet 7 = 114 from by decide +kernel, show sHas (iForm 1) 114 = true from by decide +kernel] at h5
  exact h5
 have g7 := fOne_yes f7
 have f8 : fOne false 65 answer = true := by
  have h5 := hF 8 (by omega)
  unfold iFld at h5
  rw [show iLet 8 = 65 from by decide +kernel, show sHas (iForm 1) 65 = false from by decide +kernel] at h5
  exact h5
 obtain rfl := fOne_no f8
 clear hF
 unfold iCmd at hC
 rw [show sHas (iForm 1) 120 = true from by decide +kernel] at hC
 simp only [Bool.true_and, Bool.not_true, Bool.false_and, Bool.or_false] at hC
 have gc := cmd_b hC
 unfold iLog at hL
 rw [show sHas (iForm 1) 76 = false from by decide +kernel] at hL
 simp only [Bf, if_false] at hL
 obtain rfl := isZ_eq hL
 have hN : msgNums (⟨1, 0, 0, 0, 0, 0, 0, client, req, 0, ck, cx, cv, Lg.none⟩ : Mg) = 1 :: (([client] ++ ([req] ++ ([ck, cx, cv] ++ [])))) := rfl
 refine ⟨fun x hx => ?_, fun h76 => ?_, ?_, (by show formL 1 ≠ []; decide), ?_⟩
 ·rw [hN] at hx
  simp only [List.mem_cons, List.mem_append, List.not_mem_nil, or_false] at hx
  omega
 ·exact absurd (show 76 ∈ formL 1 from h76) (by decide)
 ·rfl
 ·rw [hN]
  simp only [List.length_cons, List.length_append, List.length_nil]
  omega
theorem fitW_2 {frm view op commit normal nonce client req answer ck cx cv : Int} {log : Lg} (h : iFits ⟨2, frm, view, op, commit, normal, nonce, client, req, answer, ck, cx, cv, log⟩ = true) : FitW ⟨2, frm, view, op, commit, normal, nonce, client, req, answer, ck, cx, cv, log⟩ := by
 unfold iFits at h
 rw [Bool.and_eq_true, Bool.and_eq_true, Bool.and_eq_true, decide_eq_true_eq] at h
 obtain ⟨⟨⟨_, hF⟩, hC⟩, hL⟩ := h
 have f0 : fOne true 70 frm = true := by
  have h5 := hF 0 (by omega)
  unfold iFld at h5
  rw [show iLet 0 = 70 from by decide +kernel, show sHas (iForm 2) 70 = true from by decide +kernel] at h5
  exact h5
 have g0 := fOne_yes f0
 have f1 : fOne true 86 view = true := by
  have h5 := hF 1 (by omega)
  unfold iFld at h5
  rw [show iLet 1 = 86 from by decide +kernel, show sHas (iForm 2) 86 = true from by decide +kernel] at h5
  exact h5
 have g1 := fOne_yes f1
 have f2 : fOne true 79 op = true := by
  have h5 := hF 2 (by omega)
  unfold iFld at h5
  rw [show iLet 2 = 79 from by decide +kernel, show sHas (iForm 2) 79 = true from by decide +kernel] at h5
  exact h5
 have g2 := fOne_yes f2
 have f3 : fOne true 67 commit = true := by
  have h5 := hF 3 (by omega)
  unfold iFld at h5
  rw [show iLet 3 = 67 from by decide +kernel, show sHas (iForm 2) 67 = true from by decide +kernel] at h5
  exact h5
 have g3 := fOne_yes f3
 have f4 : fOne false 78 normal = true := by
  have h5 := hF 4 (by omega)
  unfold iFld at h5
  rw [show iLet 4 = 78 from by decide +kernel, show sHas (iForm 2) 78 = false from by decide +kernel] at h5
  exact h5
 obtain rfl := fOne_no f4
 have f5 : fOne false 110 nonce = true := by
  have h5 := hF 5 (by omega)
  unfold iFld at h5
  rw [show iLet 5 = 110 from by decide +kernel, show sHas (iForm 2) 110 = false from by decide +kernel] at h5
  exact h5
 obtain rfl := fOne_no f5
 have f6 : fOne true 99 client = true := by
  have h5 := hF 6 (by omega)
  unfold iFld at h5
  rw [show iLet 6 = 99 from by decide +kernel, show sHas (iForm 2) 99 = true from by decide +kernel] at h5
  exact h5
 have g6 := fOne_yes f6
 have f7 : fOne true 114 req = true := by
  have h5 := hF 7 (by omega)
  unfold iFld at h5
  rw [show iLet 7 = 114 from by decide +kernel, show sHas (iForm 2) 114 = true from by decide +kernel] at h5
  exact h5
 have g7 := fOne_yes f7
 have f8 : fOne false 65 answer = true := by
  have h5 := hF 8 (by omega)
  unfold iFld at h5
  rw [show iLet 8 = 65 from by decide +kernel, show sHas (iForm 2) 65 = false from by decide +kernel] at h5
  exact h5
 obtain rfl := fOne_no f8
 clear hF
 unfold iCmd at hC
 rw [show sHas (iForm 2) 120 = true from by decide +kernel] at hC
 simp only [Bool.true_and, Bool.not_true, Bool.false_and, Bool.or_false] at hC
 have gc := cmd_b hC
 unfold iLog at hL
 rw [show sHas (iForm 2) 76 = false from by decide +kernel] at hL
 simp only [Bf, if_false] at hL
 obtain rfl := isZ_eq hL
 have hN : msgNums (⟨2, frm, view, op, commit, 0, 0, client, req, 0, ck, cx, cv, Lg.none⟩ : Mg) = 2 :: (([frm] ++ ([view] ++ ([op] ++ ([commit] ++ ([client] ++ ([req] ++ ([ck, cx, cv] ++ [])))))))) := rfl
 refine ⟨fun x hx => ?_, fun h76 => ?_, ?_, (by show formL 2 ≠ []; decide), ?_⟩
 ·rw [hN] at hx
  simp only [List.mem_cons, List.mem_append, List.not_mem_nil, or_false] at hx
  omega
 ·exact absurd (show 76 ∈ formL 2 from h76) (by decide)
 ·rfl
 ·rw [hN]
  simp only [List.length_cons, List.length_append, List.length_nil]
  omega
theorem fitW_3 {frm view op commit normal nonce client req answer ck cx cv : Int} {log : Lg} (h : iFits ⟨3, frm, view, op, commit, normal, nonce, client, req, answer, ck, cx, cv, log⟩ = true) : FitW ⟨3, frm, view, op, commit, normal, nonce, client, req, answer, ck, cx, cv, log⟩ := by
 unfold iFits at h
 rw [Bool.and_eq_true, Bool.and_eq_true, Bool.and_eq_true, decide_eq_true_eq] at h
 obtain ⟨⟨⟨_, hF⟩, hC⟩, hL⟩ := h
 have f0 : fOne true 70 frm = true := by
  have h5 := hF 0 (by omega)
  unfold iFld at h5
  rw [show iLet 0 = 70 from by decide +kernel, show sHas (iForm 3) 70 = true from by decide +kernel] at h5
  exact h5
 have g0 := fOne_yes f0
 have f1 : fOne true 86 view = true := by
  have h5 := hF 1 (by omega)
  unfold iFld at h5
  rw [show iLet 1 = 86 from by decide +kernel, show sHas (iForm 3) 86 = true from by decide +kernel] at h5
  exact h5
 have g1 := fOne_yes f1
 have f2 : fOne true 79 op = true := by
  have h5 := hF 2 (by omega)
  unfold iFld at h5
  rw [show iLet 2 = 79 from by decide +kernel, show sHas (iForm 3) 79 = true from by decide +kernel] at h5
  exact h5
 have g2 := fOne_yes f2
 have f3 : fOne false 67 commit = true := by
  have h5 := hF 3 (by omega)
  unfold iFld at h5
  rw [show iLet 3 = 67 from by decide +kernel, show sHas (iForm 3) 67 = false from by decide +kernel] at h5
  exact h5
 obtain rfl := fOne_no f3
 have f4 : fOne false 78 normal = true := by
  have h5 := hF 4 (by omega)
  unfold iFld at h5
  rw [show iLet 4 = 78 from by decide +kernel, show sHas (iForm 3) 78 = false from by decide +kernel] at h5
  exact h5
 obtain rfl := fOne_no f4
 have f5 : fOne false 110 nonce = true := by
  have h5 := hF 5 (by omega)
  unfold iFld at h5
  rw [show iLet 5 = 110 from by decide +kernel, show sHas (iForm 3) 110 = false from by decide +kernel] at h5
  exact h5
 obtain rfl := fOne_no f5
 have f6 : fOne false 99 client = true := by
  have h5 := hF 6 (by omega)
  unfold iFld at h5
  rw [show iLet 6 = 99 from by decide +kernel, show sHas (iForm 3) 99 = false from by decide +kernel] at h5
  exact h5
 obtain rfl := fOne_no f6
 have f7 : fOne false 114 req = true := by
  have h5 := hF 7 (by omega)
  unfold iFld at h5
  rw [show iLet 7 = 114 from by decide +kernel, show sHas (iForm 3) 114 = false from by decide +kernel] at h5
  exact h5
 obtain rfl := fOne_no f7
 have f8 : fOne false 65 answer = true := by
  have h5 := hF 8 (by omega)
  unfold iFld at h5
  rw [show iLet 8 = 65 from by decide +kernel, show sHas (iForm 3) 65 = false from by decide +kernel] at h5
  exact h5
 obtain rfl := fOne_no f8
 clear hF
 unfold iCmd at hC
 rw [show sHas (iForm 3) 120 = false from by decide +kernel] at hC
 simp only [Bool.false_and, Bool.not_false, Bool.true_and, Bool.false_or, Bool.and_eq_true, beq_iff_eq] at hC
 obtain ⟨⟨rfl, rfl⟩, rfl⟩ := hC
 unfold iLog at hL
 rw [show sHas (iForm 3) 76 = false from by decide +kernel] at hL
 simp only [Bf, if_false] at hL
 obtain rfl := isZ_eq hL
 have hN : msgNums (⟨3, frm, view, op, 0, 0, 0, 0, 0, 0, 0, 0, 0, Lg.none⟩ : Mg) = 3 :: (([frm] ++ ([view] ++ ([op] ++ [])))) := rfl
 refine ⟨fun x hx => ?_, fun h76 => ?_, ?_, (by show formL 3 ≠ []; decide), ?_⟩
 ·rw [hN] at hx
  simp only [List.mem_cons, List.mem_append, List.not_mem_nil, or_false] at hx
  omega
 ·exact absurd (show 76 ∈ formL 3 from h76) (by decide)
 ·rfl
 ·rw [hN]
  simp only [List.length_cons, List.length_append, List.length_nil]
  omega
theorem fitW_4 {frm view op commit normal nonce client req answer ck cx cv : Int} {log : Lg} (h : iFits ⟨4, frm, view, op, commit, normal, nonce, client, req, answer, ck, cx, cv, log⟩ = true) : FitW ⟨4, frm, view, op, commit, normal, nonce, client, req, answer, ck, cx, cv, log⟩ := by
 unfold iFits at h
 rw [Bool.and_eq_true, Bool.and_eq_true, Bool.and_eq_true, decide_eq_true_eq] at h
 obtain ⟨⟨⟨_, hF⟩, hC⟩, hL⟩ := h
 have f0 : fOne true 70 frm = true := by
  have h5 := hF 0 (by omega)
  unfold iFld at h5
  rw [show iLet 0 = 70 from by decide +kernel, show sHas (iForm 4) 70 = true from by decide +kernel] at h5
  exact h5
 have g0 := fOne_yes f0
 have f1 : fOne true 86 view = true := by
  have h5 := hF 1 (by omega)
  unfold iFld at h5
  rw [show iLet 1 = 86 from by decide +kernel, show sHas (iForm 4) 86 = true from by decide +kernel] at h5
  exact h5
 have g1 := fOne_yes f1
 have f2 : fOne false 79 op = true := by
  have h5 := hF 2 (by omega)
  unfold iFld at h5
  rw [show iLet 2 = 79 from by decide +kernel, show sHas (iForm 4) 79 = false from by decide +kernel] at h5
  exact h5
 obtain rfl := fOne_no f2
 have f3 : fOne true 67 commit = true := by
  have h5 := hF 3 (by omega)
  unfold iFld at h5
  rw [show iLet 3 = 67 from by decide +kernel, show sHas (iForm 4) 67 = true from by decide +kernel] at h5
  exact h5
 have g3 := fOne_yes f3
 have f4 : fOne false 78 normal = true := by
  have h5 := hF 4 (by omega)
  unfold iFld at h5
  rw [show iLet 4 = 78 from by decide +kernel, show sHas (iForm 4) 78 = false from by decide +kernel] at h5
  exact h5
 obtain rfl := fOne_no f4
 have f5 : fOne false 110 nonce = true := by
  have h5 := hF 5 (by omega)
  unfold iFld at h5
  rw [show iLet 5 = 110 from by decide +kernel, show sHas (iForm 4) 110 = false from by decide +kernel] at h5
  exact h5
 obtain rfl := fOne_no f5
 have f6 : fOne false 99 client = true := by
  have h5 := hF 6 (by omega)
  unfold iFld at h5
  rw [show iLet 6 = 99 from by decide +kernel, show sHas (iForm 4) 99 = false from by decide +kernel] at h5
  exact h5
 obtain rfl := fOne_no f6
 have f7 : fOne false 114 req = true := by
  have h5 := hF 7 (by omega)
  unfold iFld at h5
  rw [show iLet 7 = 114 from by decide +kernel, show sHas (iForm 4) 114 = false from by decide +kernel] at h5
  exact h5
 obtain rfl := fOne_no f7
 have f8 : fOne false 65 answer = true := by
  have h5 := hF 8 (by omega)
  unfold iFld at h5
  rw [show iLet 8 = 65 from by decide +kernel, show sHas (iForm 4) 65 = false from by decide +kernel] at h5
  exact h5
 obtain rfl := fOne_no f8
 clear hF
 unfold iCmd at hC
 rw [show sHas (iForm 4) 120 = false from by decide +kernel] at hC
 simp only [Bool.false_and, Bool.not_false, Bool.true_and, Bool.false_or, Bool.and_eq_true, beq_iff_eq] at hC
 obtain ⟨⟨rfl, rfl⟩, rfl⟩ := hC
 unfold iLog at hL
 rw [show sHas (iForm 4) 76 = false from by decide +kernel] at hL
 simp only [Bf, if_false] at hL
 obtain rfl := isZ_eq hL
 have hN : msgNums (⟨4, frm, view, 0, commit, 0, 0, 0, 0, 0, 0, 0, 0, Lg.none⟩ : Mg) = 4 :: (([frm] ++ ([view] ++ ([commit] ++ [])))) := rfl
 refine ⟨fun x hx => ?_, fun h76 => ?_, ?_, (by show formL 4 ≠ []; decide), ?_⟩
 ·rw [hN] at hx
  simp only [List.mem_cons, List.mem_append, List.not_mem_nil, or_false] at hx
  omega
 ·exact absurd (show 76 ∈ formL 4 from h76) (by decide)
 ·rfl
 ·rw [hN]
  simp only [List.length_cons, List.length_append, List.length_nil]
  omega
theorem fitW_5 {frm view op commit normal nonce client req answer ck cx cv : Int} {log : Lg} (h : iFits ⟨5, frm, view, op, commit, normal, nonce, client, req, answer, ck, cx, cv, log⟩ = true) : FitW ⟨5, frm, view, op, commit, normal, nonce, client, req, answer, ck, cx, cv, log⟩ := by
 unfold iFits at h
 rw [Bool.and_eq_true, Bool.and_eq_true, Bool.and_eq_true, decide_eq_true_eq] at h
 obtain ⟨⟨⟨_, hF⟩, hC⟩, hL⟩ := h
 have f0 : fOne true 70 frm = true := by
  have h5 := hF 0 (by omega)
  unfold iFld at h5
  rw [show iLet 0 = 70 from by decide +kernel, show sHas (iForm 5) 70 = true from by decide +kernel] at h5
  exact h5
 have g0 := fOne_yes f0
 have f1 : fOne true 86 view = true := by
  have h5 := hF 1 (by omega)
  unfold iFld at h5
  rw [show iLet 1 = 86 from by decide +kernel, show sHas (iForm 5) 86 = true from by decide +kernel] at h5
  exact h5
 have g1 := fOne_yes f1
 have f2 : fOne false 79 op = true := by
  have h5 := hF 2 (by omega)
  unfold iFld at h5
  rw [show iLet 2 = 79 from by decide +kernel, show sHas (iForm 5) 79 = false from by decide +kernel] at h5
  exact h5
 obtain rfl := fOne_no f2
 have f3 : fOne false 67 commit = true := by
  have h5 := hF 3 (by omega)
  unfold iFld at h5
  rw [show iLet 3 = 67 from by decide +kernel, show sHas (iForm 5) 67 = false from by decide +kernel] at h5
  exact h5
 obtain rfl := fOne_no f3
 have f4 : fOne false 78 normal = true := by
  have h5 := hF 4 (by omega)
  unfold iFld at h5
  rw [show iLet 4 = 78 from by decide +kernel, show sHas (iForm 5) 78 = false from by decide +kernel] at h5
  exact h5
 obtain rfl := fOne_no f4
 have f5 : fOne false 110 nonce = true := by
  have h5 := hF 5 (by omega)
  unfold iFld at h5
  rw [show iLet 5 = 110 from by decide +kernel, show sHas (iForm 5) 110 = false from by decide +kernel] at h5
  exact h5
 obtain rfl := fOne_no f5
 have f6 : fOne false 99 client = true := by
  have h5 := hF 6 (by omega)
  unfold iFld at h5
  rw [show iLet 6 = 99 from by decide +kernel, show sHas (iForm 5) 99 = false from by decide +kernel] at h5
  exact h5
 obtain rfl := fOne_no f6
 have f7 : fOne false 114 req = true := by
  have h5 := hF 7 (by omega)
  unfold iFld at h5
  rw [show iLet 7 = 114 from by decide +kernel, show sHas (iForm 5) 114 = false from by decide +kernel] at h5
  exact h5
 obtain rfl := fOne_no f7
 have f8 : fOne false 65 answer = true := by
  have h5 := hF 8 (by omega)
  unfold iFld at h5
  rw [show iLet 8 = 65 from by decide +kernel, show sHas (iForm 5) 65 = false from by decide +kernel] at h5
  exact h5
 obtain rfl := fOne_no f8
 clear hF
 unfold iCmd at hC
 rw [show sHas (iForm 5) 120 = false from by decide +kernel] at hC
 simp only [Bool.false_and, Bool.not_false, Bool.true_and, Bool.false_or, Bool.and_eq_true, beq_iff_eq] at hC
 obtain ⟨⟨rfl, rfl⟩, rfl⟩ := hC
 unfold iLog at hL
 rw [show sHas (iForm 5) 76 = false from by decide +kernel] at hL
 simp only [Bf, if_false] at hL
 obtain rfl := isZ_eq hL
 have hN : msgNums (⟨5, frm, view, 0, 0, 0, 0, 0, 0, 0, 0, 0, 0, Lg.none⟩ : Mg) = 5 :: (([frm] ++ ([view] ++ []))) := rfl
 refine ⟨fun x hx => ?_, fun h76 => ?_, ?_, (by show formL 5 ≠ []; decide), ?_⟩
 ·rw [hN] at hx
  simp only [List.mem_cons, List.mem_append, List.not_mem_nil, or_false] at hx
  omega
 ·exact absurd (show 76 ∈ formL 5 from h76) (by decide)
 ·rfl
 ·rw [hN]
  simp only [List.length_cons, List.length_append, List.length_nil]
  omega
theorem fitW_6 {frm view op commit normal nonce client req answer ck cx cv : Int} {log : Lg} (h : iFits ⟨6, frm, view, op, commit, normal, nonce, client, req, answer, ck, cx, cv, log⟩ = true) : FitW ⟨6, frm, view, op, commit, normal, nonce, client, req, answer, ck, cx, cv, log⟩ := by
 unfold iFits at h
 rw [Bool.and_eq_true, Bool.and_eq_true, Bool.and_eq_true, decide_eq_true_eq] at h
 obtain ⟨⟨⟨_, hF⟩, hC⟩, hL⟩ := h
 have f0 : fOne true 70 frm = true := by
  have h5 := hF 0 (by omega)
  unfold iFld at h5
  rw [show iLet 0 = 70 from by decide +kernel, show sHas (iForm 6) 70 = true from by decide +kernel] at h5
  exact h5
 have g0 := fOne_yes f0
 have f1 : fOne true 86 view = true := by
  have h5 := hF 1 (by omega)
  unfold iFld at h5
  rw [show iLet 1 = 86 from by decide +kernel, show sHas (iForm 6) 86 = true from by decide +kernel] at h5
  exact h5
 have g1 := fOne_yes f1
 have f2 : fOne false 79 op = true := by
  have h5 := hF 2 (by omega)
  unfold iFld at h5
  rw [show iLet 2 = 79 from by decide +kernel, show sHas (iForm 6) 79 = false from by decide +kernel] at h5
  exact h5
 obtain rfl := fOne_no f2
 have f3 : fOne true 67 commit = true := by
  have h5 := hF 3 (by omega)
  unfold iFld at h5
  rw [show iLet 3 = 67 from by decide +kernel, show sHas (iForm 6) 67 = true from by decide +kernel] at h5
  exact h5
 have g3 := fOne_yes f3
 have f4 : fOne true 78 normal = true := by
  have h5 := hF 4 (by omega)
  unfold iFld at h5
  rw [show iLet 4 = 78 from by decide +kernel, show sHas (iForm 6) 78 = true from by decide +kernel] at h5
  exact h5
 have g4 := fOne_yes f4
 have f5 : fOne false 110 nonce = true := by
  have h5 := hF 5 (by omega)
  unfold iFld at h5
  rw [show iLet 5 = 110 from by decide +kernel, show sHas (iForm 6) 110 = false from by decide +kernel] at h5
  exact h5
 obtain rfl := fOne_no f5
 have f6 : fOne false 99 client = true := by
  have h5 := hF 6 (by omega)
  unfold iFld at h5
  rw [show iLet 6 = 99 from by decide +kernel, show sHas (iForm 6) 99 = false from by decide +kernel] at h5
  exact h5
 obtain rfl := fOne_no f6
 have f7 : fOne false 114 req = true := by
  have h5 := hF 7 (by omega)
  unfold iFld at h5
  rw [show iLet 7 = 114 from by decide +kernel, show sHas (iForm 6) 114 = false from by decide +kernel] at h5
  exact h5
 obtain rfl := fOne_no f7
 have f8 : fOne false 65 answer = true := by
  have h5 := hF 8 (by omega)
  unfold iFld at h5
  rw [show iLet 8 = 65 from by decide +kernel, show sHas (iForm 6) 65 = false from by decide +kernel] at h5
  exact h5
 obtain rfl := fOne_no f8
 clear hF
 unfold iCmd at hC
 rw [show sHas (iForm 6) 120 = false from by decide +kernel] at hC
 simp only [Bool.false_and, Bool.not_false, Bool.true_and, Bool.false_or, Bool.and_eq_true, beq_iff_eq] at hC
 obtain ⟨⟨rfl, rfl⟩, rfl⟩ := hC
 unfold iLog at hL
 rw [show sHas (iForm 6) 76 = true from by decide +kernel] at hL
 simp only [if_true, Bool.and_eq_true] at hL
 have hlog := (hasNum_ok hL.1).1
 have hln := logNums_b hlog
 have hll := logNums_len hlog
 have hN : msgNums (⟨6, frm, view, 0, commit, normal, 0, 0, 0, 0, 0, 0, 0, log⟩ : Mg) = 6 :: (([frm] ++ ([view] ++ ([normal] ++ ([commit] ++ (logNums log ++ [])))))) := rfl
 refine ⟨fun x hx => ?_, fun h76 => ?_, ?_, (by show formL 6 ≠ []; decide), ?_⟩
 ·rw [hN] at hx
  simp only [List.mem_cons, List.mem_append, List.not_mem_nil, or_false] at hx
  by_cases hq : x ∈ logNums log
  ·exact hln x hq
  ·simp only [hq, or_false] at hx
   omega
 ·exact hlog
 ·rfl
 ·rw [hN]
  simp only [List.length_cons, List.length_append, List.length_nil]
  omega
theorem fitW_7 {frm view op commit normal nonce client req answer ck cx cv : Int} {log : Lg} (h : iFits ⟨7, frm, view, op, commit, normal, nonce, client, req, answer, ck, cx, cv, log⟩ = true) : FitW ⟨7, frm, view, op, commit, normal, nonce, client, req, answer, ck, cx, cv, log⟩ := by
 unfold iFits at h
 rw [Bool.and_eq_true, Bool.and_eq_true, Bool.and_eq_true, decide_eq_true_eq] at h
 obtain ⟨⟨⟨_, hF⟩, hC⟩, hL⟩ := h
 have f0 : fOne true 70 frm = true := by
  have h5 := hF 0 (by omega)
  unfold iFld at h5
  rw [show iLet 0 = 70 from by decide +kernel, show sHas (iForm 7) 70 = true from by decide +kernel] at h5
  exact h5
 have g0 := fOne_yes f0
 have f1 : fOne true 86 view = true := by
  have h5 := hF 1 (by omega)
  unfold iFld at h5
  rw [show iLet 1 = 86 from by decide +kernel, show sHas (iForm 7) 86 = true from by decide +kernel] at h5
  exact h5
 have g1 := fOne_yes f1
 have f2 : fOne false 79 op = true := by
  have h5 := hF 2 (by omega)
  unfold iFld at h5
  rw [show iLet 2 = 79 from by decide +kernel, show sHas (iForm 7) 79 = false from by decide +kernel] at h5
  exact h5
 obtain rfl := fOne_no f2
 have f3 : fOne true 67 commit = true := by
  have h5 := hF 3 (by omega)
  unfold iFld at h5
  rw [show iLet 3 = 67 from by decide +kernel, show sHas (iForm 7) 67 = true from by decide +kernel] at h5
  exact h5
 have g3 := fOne_yes f3
 have f4 : fOne false 78 normal = true := by
  have h5 := hF 4 (by omega)
  unfold iFld at h5
  rw [show iLet 4 = 78 from by decide +kernel, show sHas (iForm 7) 78 = false from by decide +kernel] at h5
  exact h5
 obtain rfl := fOne_no f4
 have f5 : fOne false 110 nonce = true := by
  have h5 := hF 5 (by omega)
  unfold iFld at h5
  rw [show iLet 5 = 110 from by decide +kernel, show sHas (iForm 7) 110 = false from by decide +kernel] at h5
  exact h5
 obtain rfl := fOne_no f5
 have f6 : fOne false 99 client = true := by
  have h5 := hF 6 (by omega)
  unfold iFld at h5
  rw [show iLet 6 = 99 from by decide +kernel, show sHas (iForm 7) 99 = false from by decide +kernel] at h5
  exact h5
 obtain rfl := fOne_no f6
 have f7 : fOne false 114 req = true := by
  have h5 := hF 7 (by omega)
  unfold iFld at h5
  rw [show iLet 7 = 114 from by decide +kernel, show sHas (iForm 7) 114 = false from by decide +kernel] at h5
  exact h5
 obtain rfl := fOne_no f7
 have f8 : fOne false 65 answer = true := by
  have h5 := hF 8 (by omega)
  unfold iFld at h5
  rw [show iLet 8 = 65 from by decide +kernel, show sHas (iForm 7) 65 = false from by decide +kernel] at h5
  exact h5
 obtain rfl := fOne_no f8
 clear hF
 unfold iCmd at hC
 rw [show sHas (iForm 7) 120 = false from by decide +kernel] at hC
 simp only [Bool.false_and, Bool.not_false, Bool.true_and, Bool.false_or, Bool.and_eq_true, beq_iff_eq] at hC
 obtain ⟨⟨rfl, rfl⟩, rfl⟩ := hC
 unfold iLog at hL
 rw [show sHas (iForm 7) 76 = true from by decide +kernel] at hL
 simp only [if_true, Bool.and_eq_true] at hL
 have hlog := (hasNum_ok hL.1).1
 have hln := logNums_b hlog
 have hll := logNums_len hlog
 have hN : msgNums (⟨7, frm, view, 0, commit, 0, 0, 0, 0, 0, 0, 0, 0, log⟩ : Mg) = 7 :: (([frm] ++ ([view] ++ ([commit] ++ (logNums log ++ []))))) := rfl
 refine ⟨fun x hx => ?_, fun h76 => ?_, ?_, (by show formL 7 ≠ []; decide), ?_⟩
 ·rw [hN] at hx
  simp only [List.mem_cons, List.mem_append, List.not_mem_nil, or_false] at hx
  by_cases hq : x ∈ logNums log
  ·exact hln x hq
  ·simp only [hq, or_false] at hx
   omega
 ·exact hlog
 ·rfl
 ·rw [hN]
  simp only [List.length_cons, List.length_append, List.length_nil]
  omega
theorem fitW_8 {frm view op commit normal nonce client req answer ck cx cv : Int} {log : Lg} (h : iFits ⟨8, frm, view, op, commit, normal, nonce, client, req, answer, ck, cx, cv, log⟩ = true) : FitW ⟨8, frm, view, op, commit, normal, nonce, client, req, answer, ck, cx, cv, log⟩ := by
 unfold iFits at h
 rw [Bool.and_eq_true, Bool.and_eq_true, Bool.and_eq_true, decide_eq_true_eq] at h
 obtain ⟨⟨⟨_, hF⟩, hC⟩, hL⟩ := h
 have f0 : fOne true 70 frm = true := by
  have h5 := hF 0 (by omega)
  unfold iFld at h5
  rw [show iLet 0 = 70 from by decide +kernel, show sHas (iForm 8) 70 = true from by decide +kernel] at h5
  exact h5
 have g0 := fOne_yes f0
 have f1 : fOne false 86 view = true := by
  have h5 := hF 1 (by omega)
  unfold iFld at h5
  rw [show iLet 1 = 86 from by decide +kernel, show sHas (iForm 8) 86 = false from by decide +kernel] at h5
  exact h5
 obtain rfl := fOne_no f1
 have f2 : fOne false 79 op = true := by
  have h5 := hF 2 (by omega)
  unfold iFld at h5
  rw [show iLet 2 = 79 from by decide +kernel, show sHas (iForm 8) 79 = false from by decide +kernel] at h5
  exact h5
 obtain rfl := fOne_no f2
 have f3 : fOne false 67 commit = true := by
  have h5 := hF 3 (by omega)
  unfold iFld at h5
  rw [show iLet 3 = 67 from by decide +kernel, show sHas (iForm 8) 67 = false from by decide +kernel] at h5
  exact h5
 obtain rfl := fOne_no f3
 have f4 : fOne false 78 normal = true := by
  have h5 := hF 4 (by omega)
  unfold iFld at h5
  rw [show iLet 4 = 78 from by decide +kernel, show sHas (iForm 8) 78 = false from by decide +kernel] at h5
  exact h5
 obtain rfl := fOne_no f4
 have f5 : fOne true 110 nonce = true := by
  have h5 := hF 5 (by omega)
  unfold iFld at h5
  rw [show iLet 5 = 110 from by decide +kernel, show sHas (iForm 8) 110 = true from by decide +kernel] at h5
  exact h5
 have g5 := fOne_yes f5
 have f6 : fOne false 99 client = true := by
  have h5 := hF 6 (by omega)
  unfold iFld at h5
  rw [show iLet 6 = 99 from by decide +kernel, show sHas (iForm 8) 99 = false from by decide +kernel] at h5
  exact h5
 obtain rfl := fOne_no f6
 have f7 : fOne false 114 req = true := by
  have h5 := hF 7 (by omega)
  unfold iFld at h5
  rw [show iLet 7 = 114 from by decide +kernel, show sHas (iForm 8) 114 = false from by decide +kernel] at h5
  exact h5
 obtain rfl := fOne_no f7
 have f8 : fOne false 65 answer = true := by
  have h5 := hF 8 (by omega)
  unfold iFld at h5
  rw [show iLet 8 = 65 from by decide +kernel, show sHas (iForm 8) 65 = false from by decide +kernel] at h5
  exact h5
 obtain rfl := fOne_no f8
 clear hF
 unfold iCmd at hC
 rw [show sHas (iForm 8) 120 = false from by decide +kernel] at hC
 simp only [Bool.false_and, Bool.not_false, Bool.true_and, Bool.false_or, Bool.and_eq_true, beq_iff_eq] at hC
 obtain ⟨⟨rfl, rfl⟩, rfl⟩ := hC
 unfold iLog at hL
 rw [show sHas (iForm 8) 76 = false from by decide +kernel] at hL
 simp only [Bf, if_false] at hL
 obtain rfl := isZ_eq hL
 have hN : msgNums (⟨8, frm, 0, 0, 0, 0, nonce, 0, 0, 0, 0, 0, 0, Lg.none⟩ : Mg) = 8 :: (([frm] ++ ([nonce] ++ []))) := rfl
 refine ⟨fun x hx => ?_, fun h76 => ?_, ?_, (by show formL 8 ≠ []; decide), ?_⟩
 ·rw [hN] at hx
  simp only [List.mem_cons, List.mem_append, List.not_mem_nil, or_false] at hx
  omega
 ·exact absurd (show 76 ∈ formL 8 from h76) (by decide)
 ·rfl
 ·rw [hN]
  simp only [List.length_cons, List.length_append, List.length_nil]
  omega
theorem fitW_9 {frm view op commit normal nonce client req answer ck cx cv : Int} {log : Lg} (h : iFits ⟨9, frm, view, op, commit, normal, nonce, client, req, answer, ck, cx, cv, log⟩ = true) : FitW ⟨9, frm, view, op, commit, normal, nonce, client, req, answer, ck, cx, cv, log⟩ := by
 unfold iFits at h
 rw [Bool.and_eq_true, Bool.and_eq_true, Bool.and_eq_true, decide_eq_true_eq] at h
 obtain ⟨⟨⟨_, hF⟩, hC⟩, hL⟩ := h
 have f0 : fOne true 70 frm = true := by
  have h5 := hF 0 (by omega)
  unfold iFld at h5
  rw [show iLet 0 = 70 from by decide +kernel, show sHas (iForm 9) 70 = true from by decide +kernel] at h5
  exact h5
 have g0 := fOne_yes f0
 have f1 : fOne true 86 view = true := by
  have h5 := hF 1 (by omega)
  unfold iFld at h5
  rw [show iLet 1 = 86 from by decide +kernel, show sHas (iForm 9) 86 = true from by decide +kernel] at h5
  exact h5
 have g1 := fOne_yes f1
 have f2 : fOne false 79 op = true := by
  have h5 := hF 2 (by omega)
  unfold iFld at h5
  rw [show iLet 2 = 79 from by decide +kernel, show sHas (iForm 9) 79 = false from by decide +kernel] at h5
  exact h5
 obtain rfl := fOne_no f2
 have f3 : fOne true 67 commit = true := by
  have h5 := hF 3 (by omega)
  unfold iFld at h5
  rw [show iLet 3 = 67 from by decide +kernel, show sHas (iForm 9) 67 = true from by decide +kernel] at h5
  exact h5
 have g3 := fOne_yes f3
 have f4 : fOne false 78 normal = true := by
  have h5 := hF 4 (by omega)
  unfold iFld at h5
  rw [show iLet 4 = 78 from by decide +kernel, show sHas (iForm 9) 78 = false from by decide +kernel] at h5
  exact h5
 obtain rfl := fOne_no f4
 have f5 : fOne true 110 nonce = true := by
  have h5 := hF 5 (by omega)
  unfold iFld at h5
  rw [show iLet 5 = 110 from by decide +kernel, show sHas (iForm 9) 110 = true from by decide +kernel] at h5
  exact h5
 have g5 := fOne_yes f5
 have f6 : fOne false 99 client = true := by
  have h5 := hF 6 (by omega)
  unfold iFld at h5
  rw [show iLet 6 = 99 from by decide +kernel, show sHas (iForm 9) 99 = false from by decide +kernel] at h5
  exact h5
 obtain rfl := fOne_no f6
 have f7 : fOne false 114 req = true := by
  have h5 := hF 7 (by omega)
  unfold iFld at h5
  rw [show iLet 7 = 114 from by decide +kernel, show sHas (iForm 9) 114 = false from by decide +kernel] at h5
  exact h5
 obtain rfl := fOne_no f7
 have f8 : fOne false 65 answer = true := by
  have h5 := hF 8 (by omega)
  unfold iFld at h5
  rw [show iLet 8 = 65 from by decide +kernel, show sHas (iForm 9) 65 = false from by decide +kernel] at h5
  exact h5
 obtain rfl := fOne_no f8
 clear hF
 unfold iCmd at hC
 rw [show sHas (iForm 9) 120 = false from by decide +kernel] at hC
 simp only [Bool.false_and, Bool.not_false, Bool.true_and, Bool.false_or, Bool.and_eq_true, beq_iff_eq] at hC
 obtain ⟨⟨rfl, rfl⟩, rfl⟩ := hC
 unfold iLog at hL
 rw [show sHas (iForm 9) 76 = true from by decide +kernel] at hL
 simp only [if_true, Bool.and_eq_true] at hL
 have hlog := (hasNum_ok hL.1).1
 have hln := logNums_b hlog
 have hll := logNums_len hlog
 have hN : msgNums (⟨9, frm, view, 0, commit, 0, nonce, 0, 0, 0, 0, 0, 0, log⟩ : Mg) = 9 :: (([frm] ++ ([view] ++ ([nonce] ++ ([commit] ++ (logNums log ++ [])))))) := rfl
 refine ⟨fun x hx => ?_, fun h76 => ?_, ?_, (by show formL 9 ≠ []; decide), ?_⟩
 ·rw [hN] at hx
  simp only [List.mem_cons, List.mem_append, List.not_mem_nil, or_false] at hx
  by_cases hq : x ∈ logNums log
  ·exact hln x hq
  ·simp only [hq, or_false] at hx
   omega
 ·exact hlog
 ·rfl
 ·rw [hN]
  simp only [List.length_cons, List.length_append, List.length_nil]
  omega
theorem fitW_10 {frm view op commit normal nonce client req answer ck cx cv : Int} {log : Lg} (h : iFits ⟨10, frm, view, op, commit, normal, nonce, client, req, answer, ck, cx, cv, log⟩ = true) : FitW ⟨10, frm, view, op, commit, normal, nonce, client, req, answer, ck, cx, cv, log⟩ := by
 unfold iFits at h
 rw [Bool.and_eq_true, Bool.and_eq_true, Bool.and_eq_true, decide_eq_true_eq] at h
 obtain ⟨⟨⟨_, hF⟩, hC⟩, hL⟩ := h
 have f0 : fOne true 70 frm = true := by
  have h5 := hF 0 (by omega)
  unfold iFld at h5
  rw [show iLet 0 = 70 from by decide +kernel, show sHas (iForm 10) 70 = true from by decide +kernel] at h5
  exact h5
 have g0 := fOne_yes f0
 have f1 : fOne true 86 view = true := by
  have h5 := hF 1 (by omega)
  unfold iFld at h5
  rw [show iLet 1 = 86 from by decide +kernel, show sHas (iForm 10) 86 = true from by decide +kernel] at h5
  exact h5
 have g1 := fOne_yes f1
 have f2 : fOne true 79 op = true := by
  have h5 := hF 2 (by omega)
  unfold iFld at h5
  rw [show iLet 2 = 79 from by decide +kernel, show sHas (iForm 10) 79 = true from by decide +kernel] at h5
  exact h5
 have g2 := fOne_yes f2
 have f3 : fOne false 67 commit = true := by
  have h5 := hF 3 (by omega)
  unfold iFld at h5
  rw [show iLet 3 = 67 from by decide +kernel, show sHas (iForm 10) 67 = false from by decide +kernel] at h5
  exact h5
 obtain rfl := fOne_no f3
 have f4 : fOne false 78 normal = true := by
  have h5 := hF 4 (by omega)
  unfold iFld at h5
  rw [show iLet 4 = 78 from by decide +kernel, show sHas (iForm 10) 78 = false from by decide +kernel] at h5
  exact h5
 obtain rfl := fOne_no f4
 have f5 : fOne false 110 nonce = true := by
  have h5 := hF 5 (by omega)
  unfold iFld at h5
  rw [show iLet 5 = 110 from by decide +kernel, show sHas (iForm 10) 110 = false from by decide +kernel] at h5
  exact h5
 obtain rfl := fOne_no f5
 have f6 : fOne false 99 client = true := by
  have h5 := hF 6 (by omega)
  unfold iFld at h5
  rw [show iLet 6 = 99 from by decide +kernel, show sHas (iForm 10) 99 = false from by decide +kernel] at h5
  exact h5
 obtain rfl := fOne_no f6
 have f7 : fOne false 114 req = true := by
  have h5 := hF 7 (by omega)
  unfold iFld at h5
  rw [show iLet 7 = 114 from by decide +kernel, show sHas (iForm 10) 114 = false from by decide +kernel] at h5
  exact h5
 obtain rfl := fOne_no f7
 have f8 : fOne false 65 answer = true := by
  have h5 := hF 8 (by omega)
  unfold iFld at h5
  rw [show iLet 8 = 65 from by decide +kernel, show sHas (iForm 10) 65 = false from by decide +kernel] at h5
  exact h5
 obtain rfl := fOne_no f8
 clear hF
 unfold iCmd at hC
 rw [show sHas (iForm 10) 120 = false from by decide +kernel] at hC
 simp only [Bool.false_and, Bool.not_false, Bool.true_and, Bool.false_or, Bool.and_eq_true, beq_iff_eq] at hC
 obtain ⟨⟨rfl, rfl⟩, rfl⟩ := hC
 unfold iLog at hL
 rw [show sHas (iForm 10) 76 = false from by decide +kernel] at hL
 simp only [Bf, if_false] at hL
 obtain rfl := isZ_eq hL
 have hN : msgNums (⟨10, frm, view, op, 0, 0, 0, 0, 0, 0, 0, 0, 0, Lg.none⟩ : Mg) = 10 :: (([frm] ++ ([view] ++ ([op] ++ [])))) := rfl
 refine ⟨fun x hx => ?_, fun h76 => ?_, ?_, (by show formL 10 ≠ []; decide), ?_⟩
 ·rw [hN] at hx
  simp only [List.mem_cons, List.mem_append, List.not_mem_nil, or_false] at hx
  omega
 ·exact absurd (show 76 ∈ formL 10 from h76) (by decide)
 ·rfl
 ·rw [hN]
  simp only [List.length_cons, List.length_append, List.length_nil]
  omega
theorem fitW_11 {frm view op commit normal nonce client req answer ck cx cv : Int} {log : Lg} (h : iFits ⟨11, frm, view, op, commit, normal, nonce, client, req, answer, ck, cx, cv, log⟩ = true) : FitW ⟨11, frm, view, op, commit, normal, nonce, client, req, answer, ck, cx, cv, log⟩ := by
 unfold iFits at h
 rw [Bool.and_eq_true, Bool.and_eq_true, Bool.and_eq_true, decide_eq_true_eq] at h
 obtain ⟨⟨⟨_, hF⟩, hC⟩, hL⟩ := h
 have f0 : fOne true 70 frm = true := by
  have h5 := hF 0 (by omega)
  unfold iFld at h5
  rw [show iLet 0 = 70 from by decide +kernel, show sHas (iForm 11) 70 = true from by decide +kernel] at h5
  exact h5
 have g0 := fOne_yes f0
 have f1 : fOne true 86 view = true := by
  have h5 := hF 1 (by omega)
  unfold iFld at h5
  rw [show iLet 1 = 86 from by decide +kernel, show sHas (iForm 11) 86 = true from by decide +kernel] at h5
  exact h5
 have g1 := fOne_yes f1
 have f2 : fOne false 79 op = true := by
  have h5 := hF 2 (by omega)
  unfold iFld at h5
  rw [show iLet 2 = 79 from by decide +kernel, show sHas (iForm 11) 79 = false from by decide +kernel] at h5
  exact h5
 obtain rfl := fOne_no f2
 have f3 : fOne true 67 commit = true := by
  have h5 := hF 3 (by omega)
  unfold iFld at h5
  rw [show iLet 3 = 67 from by decide +kernel, show sHas (iForm 11) 67 = true from by decide +kernel] at h5
  exact h5
 have g3 := fOne_yes f3
 have f4 : fOne false 78 normal = true := by
  have h5 := hF 4 (by omega)
  unfold iFld at h5
  rw [show iLet 4 = 78 from by decide +kernel, show sHas (iForm 11) 78 = false from by decide +kernel] at h5
  exact h5
 obtain rfl := fOne_no f4
 have f5 : fOne false 110 nonce = true := by
  have h5 := hF 5 (by omega)
  unfold iFld at h5
  rw [show iLet 5 = 110 from by decide +kernel, show sHas (iForm 11) 110 = false from by decide +kernel] at h5
  exact h5
 obtain rfl := fOne_no f5
 have f6 : fOne false 99 client = true := by
  have h5 := hF 6 (by omega)
  unfold iFld at h5
  rw [show iLet 6 = 99 from by decide +kernel, show sHas (iForm 11) 99 = false from by decide +kernel] at h5
  exact h5
 obtain rfl := fOne_no f6
 have f7 : fOne false 114 req = true := by
  have h5 := hF 7 (by omega)
  unfold iFld at h5
  rw [show iLet 7 = 114 from by decide +kernel, show sHas (iForm 11) 114 = false from by decide +kernel] at h5
  exact h5
 obtain rfl := fOne_no f7
 have f8 : fOne false 65 answer = true := by
  have h5 := hF 8 (by omega)
  unfold iFld at h5
  rw [show iLet 8 = 65 from by decide +kernel, show sHas (iForm 11) 65 = false from by decide +kernel] at h5
  exact h5
 obtain rfl := fOne_no f8
 clear hF
 unfold iCmd at hC
 rw [show sHas (iForm 11) 120 = false from by decide +kernel] at hC
 simp only [Bool.false_and, Bool.not_false, Bool.true_and, Bool.false_or, Bool.and_eq_true, beq_iff_eq] at hC
 obtain ⟨⟨rfl, rfl⟩, rfl⟩ := hC
 unfold iLog at hL
 rw [show sHas (iForm 11) 76 = true from by decide +kernel] at hL
 simp only [if_true, Bool.and_eq_true] at hL
 have hlog := (hasNum_ok hL.1).1
 have hln := logNums_b hlog
 have hll := logNums_len hlog
 have hN : msgNums (⟨11, frm, view, 0, commit, 0, 0, 0, 0, 0, 0, 0, 0, log⟩ : Mg) = 11 :: (([frm] ++ ([view] ++ ([commit] ++ (logNums log ++ []))))) := rfl
 refine ⟨fun x hx => ?_, fun h76 => ?_, ?_, (by show formL 11 ≠ []; decide), ?_⟩
 ·rw [hN] at hx
  simp only [List.mem_cons, List.mem_append, List.not_mem_nil, or_false] at hx
  by_cases hq : x ∈ logNums log
  ·exact hln x hq
  ·simp only [hq, or_false] at hx
   omega
 ·exact hlog
 ·rfl
 ·rw [hN]
  simp only [List.length_cons, List.length_append, List.length_nil]
  omega
theorem fitW_12 {frm view op commit normal nonce client req answer ck cx cv : Int} {log : Lg} (h : iFits ⟨12, frm, view, op, commit, normal, nonce, client, req, answer, ck, cx, cv, log⟩ = true) : FitW ⟨12, frm, view, op, commit, normal, nonce, client, req, answer, ck, cx, cv, log⟩ := by
 unfold iFits at h
 rw [Bool.and_eq_true, Bool.and_eq_true, Bool.and_eq_true, decide_eq_true_eq] at h
 obtain ⟨⟨⟨_, hF⟩, hC⟩, hL⟩ := h
 have f0 : fOne false 70 frm = true := by
  have h5 := hF 0 (by omega)
  unfold iFld at h5
  rw [show iLet 0 = 70 from by decide +kernel, show sHas (iForm 12) 70 = false from by decide +kernel] at h5
  exact h5
 obtain rfl := fOne_no f0
 have f1 : fOne true 86 view = true := by
  have h5 := hF 1 (by omega)
  unfold iFld at h5
  rw [show iLet 1 = 86 from by decide +kernel, show sHas (iForm 12) 86 = true from by decide +kernel] at h5
  exact h5
 have g1 := fOne_yes f1
 have f2 : fOne false 79 op = true := by
  have h5 := hF 2 (by omega)
  unfold iFld at h5
  rw [show iLet 2 = 79 from by decide +kernel, show sHas (iForm 12) 79 = false from by decide +kernel] at h5
  exact h5
 obtain rfl := fOne_no f2
 have f3 : fOne false 67 commit = true := by
  have h5 := hF 3 (by omega)
  unfold iFld at h5
  rw [show iLet 3 = 67 from by decide +kernel, show sHas (iForm 12) 67 = false from by decide +kernel] at h5
  exact h5
 obtain rfl := fOne_no f3
 have f4 : fOne false 78 normal = true := by
  have h5 := hF 4 (by omega)
  unfold iFld at h5
  rw [show iLet 4 = 78 from by decide +kernel, show sHas (iForm 12) 78 = false from by decide +kernel] at h5
  exact h5
 obtain rfl := fOne_no f4
 have f5 : fOne false 110 nonce = true := by
  have h5 := hF 5 (by omega)
  unfold iFld at h5
  rw [show iLet 5 = 110 from by decide +kernel, show sHas (iForm 12) 110 = false from by decide +kernel] at h5
  exact h5
 obtain rfl := fOne_no f5
 have f6 : fOne true 99 client = true := by
  have h5 := hF 6 (by omega)
  unfold iFld at h5
  rw [show iLet 6 = 99 from by decide +kernel, show sHas (iForm 12) 99 = true from by decide +kernel] at h5
  exact h5
 have g6 := fOne_yes f6
 have f7 : fOne true 114 req = true := by
  have h5 := hF 7 (by omega)
  unfold iFld at h5
  rw [show iLet 7 = 114 from by decide +kernel, show sHas (iForm 12) 114 = true from by decide +kernel] at h5
  exact h5
 have g7 := fOne_yes f7
 have f8 : fOne true 65 answer = true := by
  have h5 := hF 8 (by omega)
  unfold iFld at h5
  rw [show iLet 8 = 65 from by decide +kernel, show sHas (iForm 12) 65 = true from by decide +kernel] at h5
  exact h5
 have g8 := fOne_yes f8
 clear hF
 unfold iCmd at hC
 rw [show sHas (iForm 12) 120 = false from by decide +kernel] at hC
 simp only [Bool.false_and, Bool.not_false, Bool.true_and, Bool.false_or, Bool.and_eq_true, beq_iff_eq] at hC
 obtain ⟨⟨rfl, rfl⟩, rfl⟩ := hC
 unfold iLog at hL
 rw [show sHas (iForm 12) 76 = false from by decide +kernel] at hL
 simp only [Bf, if_false] at hL
 obtain rfl := isZ_eq hL
 have hN : msgNums (⟨12, 0, view, 0, 0, 0, 0, client, req, answer, 0, 0, 0, Lg.none⟩ : Mg) = 12 :: (([view] ++ ([client] ++ ([req] ++ ([answer + 1] ++ []))))) := rfl
 refine ⟨fun x hx => ?_, fun h76 => ?_, ?_, (by show formL 12 ≠ []; decide), ?_⟩
 ·rw [hN] at hx
  simp only [List.mem_cons, List.mem_append, List.not_mem_nil, or_false] at hx
  omega
 ·exact absurd (show 76 ∈ formL 12 from h76) (by decide)
 ·show (⟨12, 0, view, 0, 0, 0, 0, client, req, answer + 1 - 1, 0, 0, 0, Lg.none⟩ : Mg) = _
  rw [show answer + 1 - 1 = answer by omega]
 ·rw [hN]
  simp only [List.length_cons, List.length_append, List.length_nil]
  omega
theorem fit_kind {m : Mg} (h : iFits m = true) : m.kind = 1 ∨ m.kind = 2 ∨ m.kind = 3 ∨ m.kind = 4 ∨ m.kind = 5 ∨ m.kind = 6 ∨ m.kind = 7 ∨ m.kind = 8 ∨ m.kind = 9 ∨ m.kind = 10 ∨ m.kind = 11 ∨ m.kind = 12 := by
 unfold iFits at h
 rw [Bool.and_eq_true, Bool.and_eq_true, Bool.and_eq_true] at h
 have h1 := h.1.1.1
 unfold iForm at h1
 (repeat' split at h1) <;> first | omega | (exfalso; revert h1; decide +kernel)
theorem fitW {m : Mg} (h : iFits m = true) : FitW m := by
 have hk := fit_kind h
 obtain ⟨kind, frm, view, op, commit, normal, nonce, client, req, answer, ck, cx, cv, log⟩ := m
 simp only at hk
 rcases hk with rfl | rfl | rfl | rfl | rfl | rfl | rfl | rfl | rfl | rfl | rfl | rfl
 ·exact fitW_1 h
 ·exact fitW_2 h
 ·exact fitW_3 h
 ·exact fitW_4 h
 ·exact fitW_5 h
 ·exact fitW_6 h
 ·exact fitW_7 h
 ·exact fitW_8 h
 ·exact fitW_9 h
 ·exact fitW_10 h
 ·exact fitW_11 h
 ·exact fitW_12 h
theorem body_put {m : Mg} (h : iFits m = true) : rdBody (packZ (msgNums m)) = (m, 0) ∧ (packZ (msgNums m)).length ≤ 4000 := by
 have hf := fitW h
 have hk := fit_kind h
 refine ⟨?_, by have := packZ_len _ hf.nums; have := hf.len; omega⟩
 have e : packZ (msgNums m) = putN m.kind.toNat ++ packZ ((formL m.kind).flatMap (fNums m)) := rfl
 have h1 : getZ (packZ (msgNums m)) 0 = some (m.kind, 0 + (putN m.kind.toNat).length) := getZ_put (by rw [Dz]; exact e) (by omega) (by omega)
 have h2 := drop_add (b := packZ (msgNums m)) (at_ := 0) (x := putN m.kind.toNat) (r := packZ ((formL m.kind).flatMap (fNums m))) (by rw [Dz]; exact e)
 have h3 := rdFlds_put (r := []) (m0 := Mg.ofKind m.kind) (by rw [List.append_nil]; exact h2) (fun x hx => hf.nums x (List.mem_cons_of_mem _ hx)) hf.log
 unfold rdBody
 rw [h1]
 simp only
 rw [if_neg hf.some, h3]
 simp only
 rw [hf.all, if_neg (by rw [e, List.length_append]; omega), if_pos h]
end Go.Proofs.Ytpghedeghoegmaa
