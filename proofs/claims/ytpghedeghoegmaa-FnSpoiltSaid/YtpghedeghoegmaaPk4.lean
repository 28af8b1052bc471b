/- What commands and entries do to an image, in plain words. No program in sight. -/
import Derived.Test.YtpghedeghoegmaaPk3
import Derived.Test.YtpghedeghoegmaaPk1
import Derived.Laws.Tables
import Derived.Test.YtpghedeghoegmaaPk0
import Derived.Laws.Rows
namespace Go.Proofs.Ytpghedeghoegmaa
open Go.ChangeShapes Go.WideShapes Go.ChangeAt Go.RowKit Go.Sort
set_option linter.unusedVariables false
set_option linter.unusedSimpArgs false
def putC (l : List Cel) (t v : Int) : List Cel := l.take (lbC l t) ++ ([⟨t, v⟩] ++ l.drop (lbC l t + if hasC l t = true then 1 else 0))
def delC (l : List Cel) (t : Int) : List Cel := if hasC l t = true then l.take (lbC l t) ++ l.drop (lbC l t + 1) else l
def refC (t v : Int) : List Cel → Bool → List Cel
 | [], p => if p = true then [] else [⟨t, v⟩]
 | x :: r, p => (if (!p && decide (t ≤ x.key)) = true then [⟨t, v⟩] else []) ++ ((if (x.key != t) = true then [x] else []) ++ refC t v r (p || decide (t ≤ x.key)))
theorem lbC_lt {x : Cel} {r : List Cel} {t : Int} (h : x.key < t) : lbC (x :: r) t = lbC r t + 1 := by
 show (if x.key - t < 0 then lbC r t + 1 else 0) = _
 rw [if_pos (by omega)]
theorem lbC_ge {x : Cel} {r : List Cel} {t : Int} (h : ¬ x.key < t) : lbC (x :: r) t = 0 := by
 show (if x.key - t < 0 then lbC r t + 1 else 0) = _
 rw [if_neg (by omega)]
theorem hasC_lt {x : Cel} {r : List Cel} {t : Int} (h : x.key < t) : hasC (x :: r) t = hasC r t := by
 unfold hasC
 rw [lbC_lt h, List.getElem?_cons_succ]
theorem hasC_ge {x : Cel} {r : List Cel} {t : Int} (h : ¬ x.key < t) : hasC (x :: r) t = (x.key - t == 0) := by
 unfold hasC
 rw [lbC_ge h, List.getElem?_cons_zero]
theorem valC_lt {x : Cel} {r : List Cel} {t : Int} (h : x.key < t) : valC (x :: r) t = valC r t := by
 unfold valC
 rw [lbC_lt h, List.getElem?_cons_succ]
theorem valC_ge {x : Cel} {r : List Cel} {t : Int} (h : ¬ x.key < t) : valC (x :: r) t = if (x.key - t == 0) = true then x.value else -1 := by
 unfold valC
 rw [lbC_ge h, List.getElem?_cons_zero]
theorem putC_lt {x : Cel} {r : List Cel} {t v : Int} (h : x.key < t) : putC (x :: r) t v = x :: putC r t v := by
 unfold putC
 rw [lbC_lt h, hasC_lt h, Tc, Nat.add_right_comm, Dc, List.cons_append]
theorem putC_eq {x : Cel} {r : List Cel} {t v : Int} (h : x.key = t) : putC (x :: r) t v = ⟨t, v⟩ :: r := by
 have h0 : ¬ x.key < t := by omega
 unfold putC
 rw [lbC_ge h0, hasC_ge h0, show (x.key - t == 0) = true by simp; omega]
 rfl
theorem putC_gt {x : Cel} {r : List Cel} {t v : Int} (h : t < x.key) : putC (x :: r) t v = ⟨t, v⟩ :: x :: r := by
 have h0 : ¬ x.key < t := by omega
 unfold putC
 rw [lbC_ge h0, hasC_ge h0, show (x.key - t == 0) = false by simp; omega]
 rfl
theorem delC_lt {x : Cel} {r : List Cel} {t : Int} (h : x.key < t) : delC (x :: r) t = x :: delC r t := by
 unfold delC
 rw [lbC_lt h, hasC_lt h]
 split
 ·rw [Tc, Dc, List.cons_append]
 ·rfl
theorem delC_eq {x : Cel} {r : List Cel} {t : Int} (h : x.key = t) : delC (x :: r) t = r := by
 have h0 : ¬ x.key < t := by omega
 unfold delC
 rw [lbC_ge h0, hasC_ge h0, show (x.key - t == 0) = true by simp; omega]
 rfl
theorem delC_gt {x : Cel} {r : List Cel} {t : Int} (h : t < x.key) : delC (x :: r) t = x :: r := by
 have h0 : ¬ x.key < t := by omega
 unfold delC
 rw [hasC_ge h0, show (x.key - t == 0) = false by simp; omega]
 rfl
abbrev AscC (l : List Cel) : Prop := l.Pairwise (fun a b => a.key < b.key)
theorem refC_done {t v : Int} : ∀ {l : List Cel}, (∀ x ∈ l, x.key ≠ t) → refC t v l true = l
 | [], _ => rfl
 | x :: r, h => by
  have h1 := h x (by simp)
  show (if (!true && decide (t ≤ x.key)) = true then _ else []) ++ ((if (x.key != t) = true then [x] else []) ++ refC t v r (true || decide (t ≤ x.key))) = _
  rw [show (true || decide (t ≤ x.key)) = true from rfl, refC_done (fun y hy => h y (by simp [hy]))]
  simp [h1]
theorem refC_put {t v : Int} : ∀ {l : List Cel}, AscC l → refC t v l false = putC l t v
 | [], _ => by simp [refC, putC, lbC, hasC]
 | x :: r, h => by
  obtain ⟨h1, h2⟩ := List.pairwise_cons.1 h
  show (if (!false && decide (t ≤ x.key)) = true then [⟨t, v⟩] else []) ++ ((if (x.key != t) = true then [x] else []) ++ refC t v r (false || decide (t ≤ x.key))) = _
  rcases Int.lt_trichotomy x.key t with h3 | h3 | h3
  ·rw [putC_lt h3, show decide (t ≤ x.key) = false by simp; omega, show (x.key != t) = true by simp; omega, Bool.false_or, refC_put h2]
   simp
  ·rw [putC_eq h3, show decide (t ≤ x.key) = true by simp; omega, show (x.key != t) = false by simp; omega, Bool.or_true, refC_done (fun y hy => by have := h1 y hy; omega)]
   simp
  ·rw [putC_gt h3, show decide (t ≤ x.key) = true by simp; omega, show (x.key != t) = true by simp; omega, Bool.or_true, refC_done (fun y hy => by have := h1 y hy; omega)]
   simp
theorem refC_del {t v : Int} : ∀ {l : List Cel}, AscC l → refC t v l true = delC l t
 | [], _ => by simp [refC, delC, lbC]
 | x :: r, h => by
  obtain ⟨h1, h2⟩ := List.pairwise_cons.1 h
  show (if (!true && decide (t ≤ x.key)) = true then [⟨t, v⟩] else []) ++ ((if (x.key != t) = true then [x] else []) ++ refC t v r (true || decide (t ≤ x.key))) = _
  rcases Int.lt_trichotomy x.key t with h3 | h3 | h3
  ·rw [delC_lt h3, show (x.key != t) = true by simp; omega, Bool.true_or, refC_del h2]
   simp
  ·rw [delC_eq h3, show (x.key != t) = false by simp; omega, Bool.true_or, refC_done (fun y hy => by have := h1 y hy; omega)]
   simp
  ·rw [delC_gt h3, show (x.key != t) = true by simp; omega, Bool.true_or, refC_done (fun y hy => by have := h1 y hy; omega)]
   simp
theorem putC_mem {t v : Int} {y : Cel} : ∀ {l : List Cel}, y ∈ putC l t v → y = ⟨t, v⟩ ∨ y ∈ l
 | [], h => by simpa [putC, lbC, hasC] using h
 | x :: r, h => by
  rcases Int.lt_trichotomy x.key t with h3 | h3 | h3
  ·rw [putC_lt h3] at h
   rcases List.mem_cons.1 h with h | h
   ·exact .inr (by simp [h])
   ·rcases putC_mem h with h | h
    ·exact .inl h
    ·exact .inr (by simp [h])
  ·rw [putC_eq h3] at h
   rcases List.mem_cons.1 h with h | h
   ·exact .inl h
   ·exact .inr (by simp [h])
  ·rw [putC_gt h3] at h
   rcases List.mem_cons.1 h with h | h
   ·exact .inl h
   ·exact .inr h
theorem delC_sub (l : List Cel) (t : Int) : (delC l t).Sublist l := by
 unfold delC
 split
 ·have h := List.take_append_drop (lbC l t) l
  have h2 : (l.drop (lbC l t + 1)).Sublist (l.drop (lbC l t)) := by
   rw [← List.drop_drop]
   exact List.drop_sublist _ _
  have h3 := (List.Sublist.refl (l.take (lbC l t))).append h2
  rw [h] at h3
  exact h3
 ·exact List.Sublist.refl _
theorem putC_asc {t v : Int} : ∀ {l : List Cel}, AscC l → AscC (putC l t v)
 | [], _ => by simp [putC, lbC, hasC, AscC]
 | x :: r, h => by
  obtain ⟨h1, h2⟩ := List.pairwise_cons.1 h
  rcases Int.lt_trichotomy x.key t with h3 | h3 | h3
  ·rw [putC_lt h3]
   refine List.pairwise_cons.2 ⟨fun y hy => ?_, putC_asc h2⟩
   rcases putC_mem hy with rfl | hy
   ·exact h3
   ·exact h1 y hy
  ·rw [putC_eq h3]
   exact List.pairwise_cons.2 ⟨fun y hy => by have := h1 y hy; show t < _; omega, h2⟩
  ·rw [putC_gt h3]
   refine List.pairwise_cons.2 ⟨fun y hy => ?_, h⟩
   rcases List.mem_cons.1 hy with rfl | hy
   ·exact h3
   ·have := h1 y hy; show t < _; omega
theorem putC_len (l : List Cel) (t v : Int) : (putC l t v).length = l.length + if hasC l t = true then 0 else 1 := by
 have h := lbC_le l t
 unfold putC
 by_cases h1 : hasC l t = true
 ·have h2 : lbC l t < l.length := by
   unfold hasC at h1
   rcases Nat.lt_or_ge (lbC l t) l.length with h3 | h3
   ·exact h3
   ·rw [List.getElem?_eq_none h3] at h1; simp at h1
  simp only [h1, if_true, List.length_append, List.length_take, List.length_drop, List.length_cons, List.length_nil]
  omega
 ·simp only [h1, if_false, List.length_append, List.length_take, List.length_drop, List.length_cons, List.length_nil, Bf]
  omega
theorem hasC_val {l : List Cel} {t : Int} (hn : ∀ x ∈ l, 0 ≤ x.value) : hasC l t = !decide (valC l t < 0) := by
 unfold hasC valC
 cases h : l[lbC l t]? with
 | none => rfl
 | some x =>
  have := hn x (List.mem_of_getElem? h)
  cases h2 : (x.key - t == 0)
  ·simp [h2]
  ·simp [h2]; omega
structure CsP (l : List Cel) : Prop where
 len : l.length ≤ 40
 num : ∀ x ∈ l, 0 ≤ x.key ∧ x.key ≤ 1000000000 ∧ 0 ≤ x.value ∧ x.value ≤ 1000000000
 asc : AscC l
theorem CsOk.p {l : List Cel} (h : CsOk l) : CsP l := ⟨h.len, fun x hx => by
 obtain ⟨i, hi, rfl⟩ := List.mem_iff_getElem.1 hx
 exact h.num i hi, List.pairwise_iff_getElem.2 fun i j hi hj hij => h.asc i j hi hj hij⟩
theorem CsP.ok {l : List Cel} (h : CsP l) : CsOk l := ⟨h.len, fun i hi => h.num _ (List.getElem_mem hi), fun i j hi hj hij => List.pairwise_iff_getElem.1 h.asc i j hi hj hij⟩
theorem CsOk.to {l : List Cel} (h : CsOk l) : CTo l l.length := fun j hj => by
 rw [cStep_at hj]
 have h1 := h.num j hj
 have h2 : cLow l j l[j].key = true := by
  cases j with
  | zero => rfl
  | succ j =>
   rw [cLow_at (by omega)]
   have := h.asc j (j + 1) (by omega) hj (by omega)
   simp; omega
 rw [h2]
 simp [wh, inB]
 omega
theorem CsP.put {l : List Cel} (h : CsP l) {t v : Int} (h0 : 0 ≤ t) (h1 : t ≤ 1000000000) (h2 : 0 ≤ v) (h3 : v ≤ 1000000000) (hr : hasC l t = true ∨ l.length ≠ 40) : CsP (putC l t v) := ⟨by
 rw [putC_len]
 have := h.len
 rcases hr with hr | hr
 ·rw [if_pos hr]; omega
 ·split <;> omega, fun x hx => by
 rcases putC_mem hx with rfl | hx
 ·exact ⟨h0, h1, h2, h3⟩
 ·exact h.num x hx, putC_asc h.asc⟩
theorem CsP.del {l : List Cel} (h : CsP l) (t : Int) : CsP (delC l t) := ⟨Nat.le_trans (delC_sub l t).length_le h.len, fun x hx => h.num x ((delC_sub l t).subset hx), h.asc.sublist (delC_sub l t)⟩
theorem valC_hit {t : Int} : ∀ {l : List Cel}, AscC l → ∀ {k : Nat} (hk : k < l.length), l[k].key = t → valC l t = l[k].value
 | [], _, k, hk, _ => absurd hk (by simp)
 | x :: r, h, k, hk, he => by
  obtain ⟨h1, h2⟩ := List.pairwise_cons.1 h
  cases k with
  | zero =>
   simp only [List.getElem_cons_zero] at he ⊢
   rw [valC_ge (by omega), if_pos (by simp; omega)]
  | succ k =>
   simp only [List.getElem_cons_succ] at he ⊢
   have hm : k < r.length := by simpa using hk
   have := h1 _ (List.getElem_mem hm)
   rw [valC_lt (by omega)]
   exact valC_hit h2 hm he
theorem valC_miss {t : Int} : ∀ {l : List Cel}, (∀ k (h : k < l.length), l[k].key ≠ t) → valC l t = -1
 | [], _ => rfl
 | x :: r, h => by
  have h1 := h 0 (by simp)
  simp only [List.getElem_cons_zero] at h1
  by_cases h2 : x.key < t
  ·rw [valC_lt h2]
   exact valC_miss fun k hk => by have := h (k + 1) (by simpa using hk); simpa using this
  ·rw [valC_ge h2, if_neg (by simp; omega)]
theorem valC_b {l : List Cel} (h : CsP l) (t : Int) : -1 ≤ valC l t ∧ valC l t ≤ 1000000000 := by
 unfold valC
 cases h2 : l[lbC l t]? with
 | none => simp
 | some x =>
  have := h.num x (List.mem_of_getElem? h2)
  simp only []
  split <;> omega
def putS (l : List Sea) (s : Sea) : List Sea := l.take (lbS l s.client) ++ ([s] ++ l.drop (lbS l s.client + if hasS l s.client = true then 1 else 0))
def refS (s : Sea) : List Sea → Bool → List Sea
 | [], p => if p = true then [] else [s]
 | x :: r, p => (if (!p && decide (s.client ≤ x.client)) = true then [s] else []) ++ ((if (x.client != s.client) = true then [x] else []) ++ refS s r (p || decide (s.client ≤ x.client)))
theorem lbS_lt {x : Sea} {r : List Sea} {t : Int} (h : x.client < t) : lbS (x :: r) t = lbS r t + 1 := by
 show (if x.client - t < 0 then lbS r t + 1 else 0) = _
 rw [if_pos (by omega)]
theorem lbS_ge {x : Sea} {r : List Sea} {t : Int} (h : ¬ x.client < t) : lbS (x :: r) t = 0 := by
 show (if x.client - t < 0 then lbS r t + 1 else 0) = _
 rw [if_neg (by omega)]
theorem hasS_lt {x : Sea} {r : List Sea} {t : Int} (h : x.client < t) : hasS (x :: r) t = hasS r t := by
 unfold hasS
 rw [lbS_lt h, List.getElem?_cons_succ]
theorem hasS_ge {x : Sea} {r : List Sea} {t : Int} (h : ¬ x.client < t) : hasS (x :: r) t = (x.client - t == 0) := by
 unfold hasS
 rw [lbS_ge h, List.getElem?_cons_zero]
theorem putS_lt {x s : Sea} {r : List Sea} (h : x.client < s.client) : putS (x :: r) s = x :: putS r s := by
 unfold putS
 rw [lbS_lt h, hasS_lt h, Tc, Nat.add_right_comm, Dc, List.cons_append]
theorem putS_eq {x s : Sea} {r : List Sea} (h : x.client = s.client) : putS (x :: r) s = s :: r := by
 have h0 : ¬ x.client < s.client := by omega
 unfold putS
 rw [lbS_ge h0, hasS_ge h0, show (x.client - s.client == 0) = true by simp; omega]
 rfl
theorem putS_gt {x s : Sea} {r : List Sea} (h : s.client < x.client) : putS (x :: r) s = s :: x :: r := by
 have h0 : ¬ x.client < s.client := by omega
 unfold putS
 rw [lbS_ge h0, hasS_ge h0, show (x.client - s.client == 0) = false by simp; omega]
 rfl
abbrev AscS (l : List Sea) : Prop := l.Pairwise (fun a b => a.client < b.client)
theorem refS_done {s : Sea} : ∀ {l : List Sea}, (∀ x ∈ l, x.client ≠ s.client) → refS s l true = l
 | [], _ => rfl
 | x :: r, h => by
  have h1 := h x (by simp)
  show (if (!true && decide (s.client ≤ x.client)) = true then _ else []) ++ ((if (x.client != s.client) = true then [x] else []) ++ refS s r (true || decide (s.client ≤ x.client))) = _
  rw [show (true || decide (s.client ≤ x.client)) = true from rfl, refS_done (fun y hy => h y (by simp [hy]))]
  simp [h1]
theorem refS_put {s : Sea} : ∀ {l : List Sea}, AscS l → refS s l false = putS l s
 | [], _ => by simp [refS, putS, lbS, hasS]
 | x :: r, h => by
  obtain ⟨h1, h2⟩ := List.pairwise_cons.1 h
  show (if (!false && decide (s.client ≤ x.client)) = true then [s] else []) ++ ((if (x.client != s.client) = true then [x] else []) ++ refS s r (false || decide (s.client ≤ x.client))) = _
  rcases Int.lt_trichotomy x.client s.client with h3 | h3 | h3
  ·rw [putS_lt h3, show decide (s.client ≤ x.client) = false by simp; omega, show (x.client != s.client) = true by simp; omega, Bool.false_or, refS_put h2]
   simp
  ·rw [putS_eq h3, show decide (s.client ≤ x.client) = true by simp; omega, show (x.client != s.client) = false by simp; omega, Bool.or_true, refS_done (fun y hy => by have := h1 y hy; omega)]
   simp
  ·rw [putS_gt h3, show decide (s.client ≤ x.client) = true by simp; omega, show (x.client != s.client) = true by simp; omega, Bool.or_true, refS_done (fun y hy => by have := h1 y hy; omega)]
   simp
theorem putS_mem {s y : Sea} : ∀ {l : List Sea}, y ∈ putS l s → y = s ∨ y ∈ l
 | [], h => by simpa [putS, lbS, hasS] using h
 | x :: r, h => by
  rcases Int.lt_trichotomy x.client s.client with h3 | h3 | h3
  ·rw [putS_lt h3] at h
   rcases List.mem_cons.1 h with h | h
   ·exact .inr (by simp [h])
   ·rcases putS_mem h with h | h
    ·exact .inl h
    ·exact .inr (by simp [h])
  ·rw [putS_eq h3] at h
   rcases List.mem_cons.1 h with h | h
   ·exact .inl h
   ·exact .inr (by simp [h])
  ·rw [putS_gt h3] at h
   rcases List.mem_cons.1 h with h | h
   ·exact .inl h
   ·exact .inr h
theorem putS_asc {s : Sea} : ∀ {l : List Sea}, AscS l → AscS (putS l s)
 | [], _ => by simp [putS, lbS, hasS, AscS]
 | x :: r, h => by
  obtain ⟨h1, h2⟩ := List.pairwise_cons.1 h
  rcases Int.lt_trichotomy x.client s.client with h3 | h3 | h3
  ·rw [putS_lt h3]
   refine List.pairwise_cons.2 ⟨fun y hy => ?_, putS_asc h2⟩
   rcases putS_mem hy with rfl | hy
   ·exact h3
   ·exact h1 y hy
  ·rw [putS_eq h3]
   exact List.pairwise_cons.2 ⟨fun y hy => by have := h1 y hy; omega, h2⟩
  ·rw [putS_gt h3]
   refine List.pairwise_cons.2 ⟨fun y hy => ?_, h⟩
   rcases List.mem_cons.1 hy with rfl | hy
   ·exact h3
   ·have := h1 y hy; omega
theorem hasS_in {l : List Sea} {t : Int} (h1 : hasS l t = true) : lbS l t < l.length := by
 unfold hasS at h1
 rcases Nat.lt_or_ge (lbS l t) l.length with h3 | h3
 ·exact h3
 ·rw [List.getElem?_eq_none h3] at h1; simp at h1
theorem putS_len (l : List Sea) (s : Sea) : (putS l s).length = l.length + if hasS l s.client = true then 0 else 1 := by
 have h := lbS_le l s.client
 unfold putS
 by_cases h1 : hasS l s.client = true
 ·have h2 := hasS_in h1
  simp only [h1, if_true, List.length_append, List.length_take, List.length_drop, List.length_cons, List.length_nil]
  omega
 ·simp only [h1, if_false, List.length_append, List.length_take, List.length_drop, List.length_cons, List.length_nil, Bf]
  omega
structure SsP (l : List Sea) : Prop where
 len : l.length ≤ 10
 num : ∀ x ∈ l, 0 ≤ x.client ∧ x.client ≤ 1000000000 ∧ 1 ≤ x.req ∧ x.req ≤ 1000000000 ∧ -1 ≤ x.answer ∧ x.answer ≤ 1000000000
 asc : AscS l
theorem SsOk.p {l : List Sea} (h : SsOk l) : SsP l := ⟨h.len, fun x hx => by
 obtain ⟨i, hi, rfl⟩ := List.mem_iff_getElem.1 hx
 exact h.num i hi, List.pairwise_iff_getElem.2 fun i j hi hj hij => h.asc i j hi hj hij⟩
theorem SsP.ok {l : List Sea} (h : SsP l) : SsOk l := ⟨h.len, fun i hi => h.num _ (List.getElem_mem hi), fun i j hi hj hij => List.pairwise_iff_getElem.1 h.asc i j hi hj hij⟩
theorem SsOk.to {l : List Sea} (h : SsOk l) : STo l l.length := fun j hj => by
 rw [sStep_at hj]
 have h1 := h.num j hj
 have h2 : sLow l j l[j].client = true := by
  cases j with
  | zero => rfl
  | succ j =>
   rw [sLow_at (by omega)]
   have := h.asc j (j + 1) (by omega) hj (by omega)
   simp; omega
 rw [h2]
 simp [wh, inB]
 omega
theorem SsP.put {l : List Sea} (h : SsP l) {s : Sea} (h0 : 0 ≤ s.client ∧ s.client ≤ 1000000000 ∧ 1 ≤ s.req ∧ s.req ≤ 1000000000 ∧ -1 ≤ s.answer ∧ s.answer ≤ 1000000000) (hr : hasS l s.client = true ∨ l.length ≠ 10) : SsP (putS l s) := ⟨by
 rw [putS_len]
 have := h.len
 rcases hr with hr | hr
 ·rw [if_pos hr]; omega
 ·split <;> omega, fun x hx => by
 rcases putS_mem hx with rfl | hx
 ·exact h0
 ·exact h.num x hx, putS_asc h.asc⟩
theorem seat_hit {t : Int} : ∀ {l : List Sea}, AscS l → ∀ {k : Nat} (hk : k < l.length), l[k].client = t → lbS l t = k ∧ hasS l t = true
 | [], _, k, hk, _ => absurd hk (by simp)
 | x :: r, h, k, hk, he => by
  obtain ⟨h1, h2⟩ := List.pairwise_cons.1 h
  cases k with
  | zero =>
   simp only [List.getElem_cons_zero] at he
   exact ⟨lbS_ge (by omega), by rw [hasS_ge (by omega)]; simp; omega⟩
  | succ k =>
   simp only [List.getElem_cons_succ] at he
   have hm : k < r.length := by simpa using hk
   have := h1 _ (List.getElem_mem hm)
   obtain ⟨h3, h4⟩ := seat_hit h2 hm he
   exact ⟨by rw [lbS_lt (by omega), h3], by rw [hasS_lt (by omega), h4]⟩
theorem seat_miss {t : Int} : ∀ {l : List Sea}, (∀ k (h : k < l.length), l[k].client ≠ t) → hasS l t = false
 | [], _ => rfl
 | x :: r, h => by
  have h1 := h 0 (by simp)
  simp only [List.getElem_cons_zero] at h1
  by_cases h2 : x.client < t
  ·rw [hasS_lt h2]
   exact seat_miss fun k hk => by have := h (k + 1) (by simpa using hk); simpa using this
  ·rw [hasS_ge h2]; simp; omega
def newV (cs : List Cel) (kind key value : Int) : Int := if (kind == 3) = true then value + max (valC cs key) 0 else value
def fullB (cs : List Cel) (kind key value : Int) : Bool := (decide (valC cs key < 0) && (cs.length == 40)) || decide (1000000000 < newV cs kind key value)
def runCs (cs : List Cel) (kind key value : Int) : List Cel :=
 if (kind == 1) = true then cs else if (kind == 4) = true then delC cs key else if fullB cs kind key value = true then cs else putC cs key (newV cs kind key value)
def runA (cs : List Cel) (kind key value : Int) : Int :=
 if (kind == 1) = true then valC cs key else if (kind == 4) = true then valC cs key else if fullB cs kind key value = true then -1 else newV cs kind key value
def seatAt (ss : List Sea) (t : Int) : Sea := ss.getD (lbS ss t) Sea.z
def sameE (ss : List Sea) (e : Ent) : Bool := hasS ss e.client && ((seatAt ss e.client).req == e.req)
def oldE (ss : List Sea) (e : Ent) : Bool := hasS ss e.client && decide (e.req < (seatAt ss e.client).req)
def fullE (ss : List Sea) (e : Ent) : Bool := !hasS ss e.client && (ss.length == 10)
abbrev Img := List Cel × List Sea
def entI (m : Img) (e : Ent) : Img := if (sameE m.2 e || (oldE m.2 e || fullE m.2 e)) = true then m else (runCs m.1 e.kind e.key e.value, putS m.2 ⟨e.client, e.req, runA m.1 e.kind e.key e.value⟩)
def entA (m : Img) (e : Ent) : Int := if sameE m.2 e = true then (seatAt m.2 e.client).answer else if (oldE m.2 e || fullE m.2 e) = true then -1 else runA m.1 e.kind e.key e.value
def entCode (m : Img) (e : Ent) : Int := if (sameE m.2 e || oldE m.2 e) = true then 2 else if fullE m.2 e = true then 3 else 0
def allI (m : Img) (l : List Ent) : Img := l.foldl entI m
theorem allI_next (m : Img) {l : List Ent} {k : Nat} (h : k < l.length) : allI m (l.take (k + 1)) = entI (allI m (l.take k)) l[k] := by
 unfold allI
 rw [List.take_add_one, List.foldl_append, List.getElem?_eq_getElem h]
 rfl
structure ImgP (m : Img) : Prop where
 c : CsP m.1
 s : SsP m.2
theorem imgP_of {cs : List Cel} {ss : List Sea} (h : imageOk cs ss = true) : ImgP (cs, ss) := by
 have h := of_decide_eq_true h
 exact ⟨(CTo.ok h.2.2.1 h.1).p, (STo.ok h.2.2.2 h.2.1).p⟩
theorem ImgP.ok {m : Img} (h : ImgP m) : imageOk m.1 m.2 = true := imageOk_yes h.c.len h.s.len h.c.ok.to h.s.ok.to
theorem ent_b {e : Ent} (h : e.ok = true) : 0 ≤ e.client ∧ e.client ≤ 1000000000 ∧ 1 ≤ e.req ∧ e.req ≤ 1000000000 ∧ 0 ≤ e.key ∧ e.key ≤ 1000000000 ∧ (((e.kind = 1 ∨ e.kind = 4) ∧ e.value = 0) ∨ ((e.kind = 2 ∨ e.kind = 3) ∧ 0 ≤ e.value ∧ e.value ≤ 1000000000)) := by
 unfold Ent.ok cmdOk at h
 simp only [wh, inB, Bool.and_eq_true, decide_eq_true_eq] at h
 omega
theorem newV_b {cs : List Cel} (hc : CsP cs) {kind key value : Int} (h0 : 0 ≤ value) (h1 : value ≤ 1000000000) : 0 ≤ newV cs kind key value ∧ newV cs kind key value ≤ 2000000000 := by
 have := valC_b hc key
 unfold newV
 split <;> omega
theorem run_P {cs : List Cel} (hc : CsP cs) {e : Ent} (he : e.ok = true) : CsP (runCs cs e.kind e.key e.value) ∧ -1 ≤ runA cs e.kind e.key e.value ∧ runA cs e.kind e.key e.value ≤ 1000000000 := by
 have hb := ent_b he
 have hv := valC_b hc e.key
 unfold runCs runA
 by_cases h1 : (e.kind == 1) = true
 ·rw [if_pos h1, if_pos h1]; exact ⟨hc, hv⟩
 ·rw [if_neg h1, if_neg h1]
  by_cases h4 : (e.kind == 4) = true
  ·rw [if_pos h4, if_pos h4]; exact ⟨hc.del _, hv⟩
  ·rw [if_neg h4, if_neg h4]
   have hn := newV_b hc (kind := e.kind) (key := e.key) (value := e.value) (by omega) (by omega)
   cases hf : fullB cs e.kind e.key e.value
   ·rw [if_neg (by simp), if_neg (by simp)]
    unfold fullB at hf
    simp only [Bool.or_eq_false_iff, Bool.and_eq_false_imp, decide_eq_true_eq, decide_eq_false_iff_not, beq_eq_false_iff_ne] at hf
    refine ⟨hc.put (by omega) (by omega) (by omega) (by omega) ?_, by omega, by omega⟩
    rw [hasC_val (fun x hx => (hc.num x hx).2.2.1)]
    by_cases hneg : valC cs e.key < 0
    ·exact .inr (hf.1 hneg)
    ·exact .inl (by simp [hneg])
   ·rw [if_pos rfl, if_pos rfl]
    exact ⟨hc, by omega, by omega⟩
theorem ImgP.ent {m : Img} (h : ImgP m) {e : Ent} (he : e.ok = true) : ImgP (entI m e) := by
 have hb := ent_b he
 unfold entI
 split
 ·exact h
 ·rename_i hn
  have hr := run_P h.c he
  refine ⟨hr.1, h.s.put ⟨hb.1, hb.2.1, hb.2.2.1, hb.2.2.2.1, hr.2.1, hr.2.2⟩ ?_⟩
  cases hs : hasS m.2 e.client
  ·refine .inr fun hl => hn ?_
   have : fullE m.2 e = true := by unfold fullE; rw [hs, hl]; rfl
   rw [this]; simp
  ·exact .inl rfl
theorem ImgP.all {l : List Ent} : ∀ {m : Img}, ImgP m → (∀ e ∈ l, e.ok = true) → ImgP (allI m l) := by
 induction l with
 | nil => intro m h _; exact h
 | cons e r ih => intro m h he; exact ih (h.ent (he e (by simp))) fun x hx => he x (by simp [hx])
theorem refC_step (t v : Int) {l : List Cel} {k : Nat} (h : k < l.length) (p : Bool) : refC t v (l.drop k) p = (if (!p && decide (t ≤ l[k].key)) = true then [⟨t, v⟩] else []) ++ ((if (l[k].key != t) = true then [l[k]] else []) ++ refC t v (l.drop (k + 1)) (p || decide (t ≤ l[k].key))) := by
 rw [List.drop_eq_getElem_cons h]
 rfl
theorem refS_step (s : Sea) {l : List Sea} {k : Nat} (h : k < l.length) (p : Bool) : refS s (l.drop k) p = (if (!p && decide (s.client ≤ l[k].client)) = true then [s] else []) ++ ((if (l[k].client != s.client) = true then [l[k]] else []) ++ refS s (l.drop (k + 1)) (p || decide (s.client ≤ l[k].client))) := by
 rw [List.drop_eq_getElem_cons h]
 rfl
def Stop (p : Prop) : Prop := p
theorem wl_stop {P : Program} {ops : Array Oper} {Q : Exit → Act → World → Prop} {l : List Oper} {a : Act} {w : World} (d : Nat) {op : Op} {ty : TypeId} {pos : String} {af : Array Edge} {gu : Option (Nat × Bool)} (h : Stop (wpList P ops Q ({ dst := some d, op := op, type := ty, pos := pos, after := af, guard := gu } :: l) a w)) :
  wpList P ops Q ({ dst := some d, op := op, type := ty, pos := pos, after := af, guard := gu } :: l) a w := h
theorem stop_go {P : Program} {ops : Array Oper} {Q : Exit → Act → World → Prop} {l : List Oper} {a : Act} {w : World} (F : World → Prop) (hF : F w) (h : ∀ W, F W → wpList P ops Q l a W) : Stop (wpList P ops Q l a w) := h w hF
theorem isAgg_struct {P : Program} {t : TypeId} {fs : Array Field} (h : P.underlying t = some (.struct fs)) (w : World) : (isAgg t).run P w = .ok true w := by
 simp_all [isAgg, run_underlying h]
theorem wl_stopS {P : Program} {ops : Array Oper} {Q : Exit → Act → World → Prop} {l : List Oper} {a : Act} {w : World} (T : TypeId) {x y : Operand} {ty : TypeId} {pos : String} {af : Array Edge} {gu : Option (Nat × Bool)} (h : Stop (wpList P ops Q ({ dst := none, op := .store T x y, type := ty, pos := pos, after := af, guard := gu } :: l) a w)) :
  wpList P ops Q ({ dst := none, op := .store T x y, type := ty, pos := pos, after := af, guard := gu } :: l) a w := h
theorem chg_setRow (w : World) (g : Nat) (cs : Array Value) : Chg w (w.setRow g cs) [g] := by
 refine ⟨rfl, rfl, rfl, ?_, fun k hk hn => ?_⟩
 ·simp [World.setRow]
 ·have hn' : ¬ g = k := fun e => hn (by simp [e])
  simp [World.setRow, Array.getElem?_modify, hn']
theorem stop_store {P : Program} {ops : Array Oper} {Q : Exit → Act → World → Prop} {l : List Oper} {a : Act} {w : World} {T t : TypeId} {x y : Operand} {ty : TypeId} {pos : String} {af : Array Edge} {old : Array Value} (g : Nat) (cells : Array Value)
  (hx : a.eval x = .pointer (some ⟨g, 0, none⟩)) (hy : a.eval y = .agg cells) (hg : w.heap[g]? = some (.cells old t (0, 0))) (hi : (P.info? T).map (·.size) = some cells.size) (hold : old.size = cells.size) (h1 : cells.all (·.oneCell') = true)
  (h : ∀ W, W.heap[g]? = some (.cells cells t (0, 0)) → Chg w W [g] → wpList P ops Q l (a.put none undef) W) : Stop (wpList P ops Q ({ dst := none, op := .store T x y, type := ty, pos := pos, after := af, guard := none } :: l) a w) :=
 wpList_store_row rfl T x y rfl g cells hx hy t old hg hi hold h1 (h _ (setRow_heap w g old cells t (0, 0) hg) (chg_setRow w g cells))
theorem chg_new {a b c : World} {g : Nat} (h : Ext a b) (k : Chg b c [g]) (hg : a.heap.size ≤ g) : Ext a c := ext_chg h k (fun x hx => by rw [Mi] at hx; omega)
theorem LgO.chg1 {w w' : World} {B T g : Nat} {a : LAd} {l : Lg} (h : LgO w B T a l) (hg : Chg w w' [g]) (hlt : g < B) : LgO w' B T a l := h.chg hg (fun k hk hm => by rw [Mi] at hm; have := h.low k hk; omega)
theorem box_chg {w w' : World} {g k : Nat} {o : Obj} (h : w.heap[k]? = some o) (hg : Chg w w' [g]) (hne : k ≠ g) : w'.heap[k]? = some o := (hg.block k (bx_lt h) (fun hm => hne (by simpa using hm))).trans h
theorem results_box {P : Program} {fn : Func} {tmps : Array Value} {w : World} {p k : Nat} {cs : Array Value} {t T : TypeId} {fs : Array Field} (hr : fn.results = #[.cell k t]) (ht : tmps[k]? = some (.pointer (some ⟨p, 0, none⟩)))
  (hu : P.underlying t = some (.struct fs)) (hie : (P.info? t).map (·.size) = some cs.size) (hb : w.heap[p]? = some (.cells cs T (0, 0))) : (results fn tmps).run P w = .ok (.agg cs) w := by
 have h1 := run_loadCells_list (P := P) w ⟨p, 0, none⟩ cs.toList (fun j v h => by rw [Addr.add_lit, Nat.zero_add, bx_cell hb j]; simpa using h)
 obtain ⟨ie, hie, hs⟩ := Option.map_eq_some_iff.1 hie
 rw [Array.length_toList] at h1
 have hagg := isAgg_struct hu w
 have hti : (typeInfo t).run P w = .ok ie w := by simp [typeInfo, hie, go_sem]
 have hload : (loadVar t ⟨p, 0, none⟩).run P w = .ok (.agg cs) w := by
  simp [loadVar, hagg, sizeOf, hti, hs, h1, Result.andThen]
 simp [results, hr, ht, asAddr, hload]
end Go.Proofs.Ytpghedeghoegmaa
namespace Go.Proofs.Ytpghedeghoegmaa
open Go.RowKit Go.Sort
set_option linter.unusedVariables false
section
variable {P : Program} {ops : Array Oper} {md : Region.Mode}
theorem waits_up : ∀ (f j i : Nat), waits md ops f j i = true → waits md ops (f + 1) j i = true
 | 0, _, _, h => by unfold waits at h; cases h
 | f + 1, j, i, h => by
  unfold waits at h ⊢
  cases ho : ops[j]? with
  | none => simp only [ho] at h; cases h
  | some o =>
   simp only [ho, Bool.or_eq_true, Array.any_eq_true'] at h ⊢
   rcases h with ⟨e, h1, h2⟩ | ⟨e, h1, h2⟩
   ·exact .inl ⟨e, h1, h2⟩
   ·rw [Bool.and_eq_true] at h2
    exact .inr ⟨e, h1, by rw [Bool.and_eq_true]; exact ⟨h2.1, waits_up f _ _ h2.2⟩⟩
theorem waits_le {f j i : Nat} (h : waits md ops f j i = true) : ∀ g, waits md ops (f + g) j i = true
 | 0 => h
 | g + 1 => waits_up _ _ _ (waits_le h g)
def mOf (md : Region.Mode) (ms : List Nat) : List Edge → Nat
 | [] => 0
 | e :: r => if Region.binds md e = true then (mOf md ms r ||| 2 ^ e.on) ||| ms.getD e.on 0 else mOf md ms r
def masks (md : Region.Mode) : List Oper → List Nat → List Nat
 | [], ms => ms
 | o :: r, ms => masks md r (ms ++ [mOf md ms o.after.toList])
def MsOk (md : Region.Mode) (ops : Array Oper) (ms : List Nat) : Prop := ∀ j m i, ms[j]? = some m → m.testBit i = true → waits md ops (j + 1) j i = true
theorem mOf_ok {ms : List Nat} (h : MsOk md ops ms) (i : Nat) : ∀ (es : List Edge), (mOf md ms es).testBit i = true → ∃ e ∈ es, Region.binds md e = true ∧ (e.on = i ∨ waits md ops ms.length e.on i = true)
 | [], hb => by simp [mOf] at hb
 | e :: r, hb => by
  unfold mOf at hb
  split at hb
  ·rename_i he
   rw [Nat.testBit_or, Nat.testBit_or, Bool.or_eq_true, Bool.or_eq_true] at hb
   rcases hb with (hb | hb) | hb
   ·obtain ⟨x, h1, h2⟩ := mOf_ok h i r hb
    exact ⟨x, List.mem_cons_of_mem _ h1, h2⟩
   ·rw [Nat.testBit_two_pow] at hb
    exact ⟨e, List.mem_cons_self, he, .inl (by simpa using hb)⟩
   ·refine ⟨e, List.mem_cons_self, he, .inr ?_⟩
    cases hm : ms[e.on]? with
    | none => rw [List.getD_eq_getElem?_getD, hm] at hb; simp at hb
    | some m =>
     rw [List.getD_eq_getElem?_getD, hm] at hb
     have h1 := h e.on m i hm hb
     have h2 : e.on < ms.length := (List.getElem?_eq_some_iff.1 hm).1
     have h3 := waits_le h1 (ms.length - (e.on + 1))
     rwa [show e.on + 1 + (ms.length - (e.on + 1)) = ms.length by omega] at h3
  ·obtain ⟨x, h1, h2⟩ := mOf_ok h i r hb
   exact ⟨x, List.mem_cons_of_mem _ h1, h2⟩
theorem masks_ok : ∀ (l : List Oper) (ms : List Nat), MsOk md ops ms → (∀ k o, l[k]? = some o → ops[ms.length + k]? = some o) → MsOk md ops (masks md l ms)
 | [], ms, h, _ => h
 | o :: r, ms, h, hl => by
  unfold masks
  refine masks_ok r _ ?_ ?_
  ·intro j m i hj hb
   by_cases hlt : j < ms.length
   ·rw [List.getElem?_append_left hlt] at hj
    exact h j m i hj hb
   ·rw [List.getElem?_append_right (by omega)] at hj
    by_cases he : j - ms.length = 0
    ·rw [he] at hj
     simp at hj
     subst hj
     obtain ⟨e, h1, h2, h3⟩ := mOf_ok h i _ hb
     have hj : j = ms.length := by omega
     subst hj
     have ho := hl 0 o rfl
     rw [Nat.add_zero] at ho
     unfold waits
     simp only [ho, Bool.or_eq_true, Array.any_eq_true', Bool.and_eq_true, beq_iff_eq]
     rcases h3 with h3 | h3
     ·exact .inl ⟨e, by simpa using h1, h3, h2⟩
     ·exact .inr ⟨e, by simpa using h1, h2, h3⟩
    ·rw [List.getElem?_eq_none (by simp; omega)] at hj
     cases hj
  ·intro k q hk
   have := hl (k + 1) q (by simpa using hk)
   rw [List.length_append]
   rw [show ms.length + [mOf md ms o.after.toList].length + k = ms.length + (k + 1) by simp; omega]
   exact this
def bitOf (mk : List Nat) (j i : Nat) : Bool := (mk.getD j 0).testBit i
theorem bit_waits {l : List Oper} (j i : Nat) (h : bitOf (masks md l []) j i = true) : waits md l.toArray l.toArray.size j i = true := by
 have hok : MsOk md l.toArray (masks md l []) := masks_ok l [] (fun j m i hj => by simp at hj) (fun k o hk => by simpa using hk)
 unfold bitOf at h
 cases hm : (masks md l [])[j]? with
 | none => rw [List.getD_eq_getElem?_getD, hm] at h; simp at h
 | some m =>
  rw [List.getD_eq_getElem?_getD, hm] at h
  have h1 := hok j m i hm h
  by_cases hj : j < l.toArray.size
  ·have := waits_le h1 (l.toArray.size - (j + 1))
   rwa [show j + 1 + (l.toArray.size - (j + 1)) = l.toArray.size by omega] at this
  ·unfold waits at h1
   rw [Array.getElem?_eq_none (by omega)] at h1
   cases h1
def mixFreeB (md : Region.Mode) (mk : List Nat) (ops : Array Oper) (n : Nat) (listed : Array Bool) (i : Nat) : Bool :=
 match ops[i]? with
 | none => false
 | some oi => (List.range ops.size).all fun j => j == i || listed.getD j true || match ops[j]? with
   | some oj => (bitOf mk j i || ((decide (j < n) || isLate oi) && oi.apart ops oj && !(isCall oi && isCall oj) && (!isAlloc oi || isAlloc oj))) && (!isLate oi || (oj.after.any fun e => Region.binds md e && e.on == i) || oi.apart ops oj)
   | none => true
theorem mixFreeB_ok {l : List Oper} {n : Nat} {listed : Array Bool} {i : Nat} (h : mixFreeB md (masks md l []) l.toArray n listed i = true) : mixFree md l.toArray n listed i = true := by
 unfold mixFreeB at h
 unfold mixFree
 cases ho : l.toArray[i]? with
 | none => simp only [ho] at h; cases h
 | some oi =>
  simp only [ho] at h ⊢
  rw [List.all_eq_true] at h ⊢
  intro j hj
  have h1 := h j hj
  rw [Bool.or_eq_true] at h1 ⊢
  rcases h1 with h1 | h1
  ·exact .inl h1
  ·refine .inr ?_
   cases hoj : l.toArray[j]? with
   | none => rfl
   | some oj =>
    simp only [hoj] at h1 ⊢
    rw [Bool.and_eq_true] at h1 ⊢
    refine ⟨?_, h1.2⟩
    have h2 := h1.1
    rw [Bool.or_eq_true] at h2 ⊢
    rcases h2 with h2 | h2
    ·exact .inr (bit_waits j i h2)
    ·exact .inl h2
def lexMixB (md : Region.Mode) (mk : List Nat) (ops : Array Oper) (n g : Nat) : List Nat → Array Bool → Bool
 | [], listed => Region.seqB md ops g n listed
 | i :: r, listed => (Region.ready md ops listed).contains i && decide (i < n) && mixFreeB md mk ops n listed i && lexMixB md mk ops n g r (listed.setIfInBounds i true)
theorem lexMixB_ok {l : List Oper} {n g : Nat} : ∀ (is : List Nat) (listed : Array Bool), lexMixB md (masks md l []) l.toArray n g is listed = true → lexMix md l.toArray n g is listed = true
 | [], listed, h => h
 | i :: r, listed, h => by
  unfold lexMixB at h
  unfold lexMix
  simp only [Bool.and_eq_true] at h ⊢
  exact ⟨⟨h.1.1, mixFreeB_ok h.1.2⟩, lexMixB_ok r _ h.2⟩
def mixBB (l : List Oper) (n : Nat) : Bool :=
 Region.noSelect l.toArray && decide (n ≤ l.toArray.size) && lexMixB .any (masks .any l []) l.toArray n (l.toArray.size - n) (headIdx l.toArray n) (Array.replicate l.toArray.size false)
theorem mixBB_ok {l : List Oper} {n : Nat} (h : mixBB l n = true) : mixB l.toArray n = true := by
 unfold mixBB at h
 unfold mixB
 simp only [Bool.and_eq_true] at h ⊢
 exact ⟨h.1, lexMixB_ok _ _ h.2⟩
end
theorem wp_region_mixb {P : Program} {id : Nat} {Q : Exit → Act → World → Prop} (hQ : ∀ (c : _) (a : Act) (d : Nat) (v : Value) (w : World), Q (.panic c) (a.put (some d) v) w → Q (.panic c) a w) {a : Act} {w : World} {l : List Oper} (n : Nat) (hm : P.follows .mixedOrders = true) (hB : mixBB l n = true)
  (h : (∀ (d : Nat) (os : Array Obj) (b o : Nat), b < w.heap.size → (grow (redrawn w d) os).cell? ⟨b, o, none⟩ = w.cell? ⟨b, o, none⟩) →
   Mx P l.toArray (Ext w) w.heap.size (fun C a' => ∀ w', C w' → wpList P l.toArray Q (l.drop n) a' w') (headOps l n) (Ext w) [] a) : (Code.region id l.toArray true).wp P Q a w :=
 wp_region_mix' hQ n hm (mixBB_ok hB) h
end Go.Proofs.Ytpghedeghoegmaa
namespace Go.Proofs.Ytpghedeghoegmaa
open Go.ChangeShapes Go.WideShapes Go.ChangeAt Go.RowKit Go.Sort
set_option linter.unusedVariables false
theorem stop_load {P : Program} {ops : Array Oper} {Q : Exit → Act → World → Prop} {l : List Oper} {a : Act} {w : World} {ty : TypeId} {x : Operand} {d : Nat} {rt : TypeId} {pos : String} {af : Array Edge} {g : Nat} {cs : Array Value} {t : TypeId} {fs : Array Field}
  (hg : w.heap[g]? = some (.cells cs t (0, 0))) (hx : a.eval x = .pointer (some ⟨g, 0, none⟩)) (hu : P.underlying ty = some (.struct fs)) (hi : (P.info? ty).map (·.size) = some cs.size)
  (h : wpList P ops Q l (a.put (some d) (.agg cs)) w) : Stop (wpList P ops Q ({ dst := some d, op := .load ty x, type := rt, pos := pos, after := af, guard := none } :: l) a w) :=
 wpList_load_row rfl ty x rfl g hx t cs (0, 0) _ hg hu rfl hi h
theorem run_loadAgg {P : Program} {W : World} {ty : TypeId} {g o : Nat} {cs : Array Value} {fs : Array Field} (hu : P.underlying ty = some (.struct fs)) (hi : (P.info? ty).map (·.size) = some cs.size) (hc : ∀ j v, cs.toList[j]? = some v → W.cell? ⟨g, o + j, none⟩ = some v) :
  (loadVar ty ⟨g, o, none⟩).run P W = .ok (.agg cs) W := by
 have h1 := run_loadCells_list (P := P) (w := W) ⟨g, o, none⟩ cs.toList (fun j v h => by
  have hadd : (⟨g, o, none⟩ : Addr).add j = ⟨g, o + j, none⟩ := by unfold Addr.add; split <;> simp_all
  rw [hadd]; exact hc j v h)
 obtain ⟨ie, hie, hs⟩ := Option.map_eq_some_iff.1 hi
 rw [Array.length_toList] at h1
 have hagg : (isAgg ty).run P W = .ok true W := by
  unfold isAgg
  rw [Sem.run_bind, run_underlying hu W]
  simp
 have hti : (typeInfo ty).run P W = .ok ie W := by simp [typeInfo, hie, go_sem]
 simp [loadVar, hagg, sizeOf, hti, hs, h1, Result.andThen]
theorem stop_loadAgg {P : Program} {ops : Array Oper} {Q : Exit → Act → World → Prop} {l : List Oper} {a : Act} {w : World} {ty : TypeId} {x : Operand} {d : Nat} {rt : TypeId} {pos : String} {af : Array Edge} {g k : Nat} {cs : Array Value} {fs : Array Field}
  (hc : ∀ j v, cs.toList[j]? = some v → w.cell? ⟨g, k + j, none⟩ = some v) (hx : a.eval x = .pointer (some ⟨g, k, none⟩)) (hu : P.underlying ty = some (.struct fs)) (hi : (P.info? ty).map (·.size) = some cs.size)
  (h : wpList P ops Q l (a.put (some d) (.agg cs)) w) : Stop (wpList P ops Q ({ dst := some d, op := .load ty x, type := rt, pos := pos, after := af, guard := none } :: l) a w) :=
 wpList_plain rfl fun _ hK => by
  unfold Oper.wp execOp
  simp only [hx, Instr.loadAt, Instr.sureAddr, Sem.run_bind, Sem.run_pure, Result.andThen_ok, run_loadAgg hu hi hc]
  exact hK _ _ h
theorem cells_mid {w : World} {g k : Nat} {CS cs : Array Value} {t : TypeId} (hg : w.heap[g]? = some (.cells CS t (0, 0))) (pre post : List Value) (he : CS.toList = pre ++ cs.toList ++ post) (hk : pre.length = k) : ∀ j v, cs.toList[j]? = some v → w.cell? ⟨g, k + j, none⟩ = some v := fun j v h => by
 rw [bx_cell hg, ← Array.getElem?_toList, he]
 subst hk
 have hj : j < cs.toList.length := (List.getElem?_eq_some_iff.1 h).1
 rw [List.append_assoc, List.getElem?_append_right (by omega), Nat.add_sub_cancel_left, List.getElem?_append_left hj]
 exact h
section
variable {P : Program} {ops : Array Oper} {w : World} {B : Nat} {L : (World → Prop) → Act → Prop} {o : Oper} {rest : List Oper} {C : World → Prop} {ps : List Nat} {a : Act}
theorem wpMix_loadAgg {ty : TypeId} {x : Operand} {g k : Nat} {cs : Array Value} {fs : Array Field} (hlt : g < w.heap.size) (hc : ∀ j v, cs.toList[j]? = some v → w.cell? ⟨g, k + j, none⟩ = some v) (hop : o.op = .load ty x) (hw : Region.wanted o (yielded ops a.tmps) = true)
  (hx : a.eval x = .pointer (some ⟨g, k, none⟩)) (hu : P.underlying ty = some (.struct fs)) (hi : (P.info? ty).map (·.size) = some cs.size)
  (h : Mx P ops (Ext w) B L rest C ps (a.put o.dst (.agg cs))) : Mx P ops (Ext w) B L (o :: rest) C ps a := by
 refine ⟨?_⟩
 unfold wpMix mixStep
 rw [if_neg (by unfold isAlloc; rw [hop]; exact Bool.false_ne_true), if_pos hw, if_neg (by unfold isCall isPlain isAlloc; rw [hop]; simp)]
 refine ⟨.agg cs, fun W hW => ?_, h.out⟩
 have hc' : ∀ j v, cs.toList[j]? = some v → W.cell? ⟨g, k + j, none⟩ = some v := fun j v hj => (Below.cell hW (p := ⟨g, k + j, none⟩) hlt).trans (hc j v hj)
 unfold execOp
 simp only [hop, hx, Instr.loadAt, Instr.sureAddr, Sem.run_bind, Sem.run_pure, Result.andThen_ok, run_loadAgg hu hi hc']
end
end Go.Proofs.Ytpghedeghoegmaa
