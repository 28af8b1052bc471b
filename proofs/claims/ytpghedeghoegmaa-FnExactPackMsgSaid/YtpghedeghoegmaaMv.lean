/- The laws' own functions on rows of votes: marked, held. -/
import Derived.Test.YtpghedeghoegmaaRp
namespace Go.Proofs.Ytpghedeghoegmaa
open Go.ChangeShapes Go.WideShapes Go.ChangeAt Go.RowKit Go.Sort
set_option linter.unusedVariables false
set_option linter.unusedSimpArgs false

instance : Inhabited Lg := ⟨Lg.none⟩
instance : Inhabited LAd := ⟨LAd.none⟩
instance : Inhabited Vt := ⟨⟨0, 0, 0, 0, 0, 0, Lg.none⟩⟩
theorem mixed_at {α : Type} (M : Nat → α) (l : List α) {j : Nat} (hj : j ≤ l.length) {i : Nat} (hi : i < (mixed M l j).length) : (mixed M l j)[i] = if i < j then M i else l[i]'(by rw [mixed_length M l hj] at hi; exact hi) := by
  have hil : i < l.length := by rw [mixed_length M l hj] at hi; exact hi
  have h2 : (mixed M l j)[i]? = some (if i < j then M i else l[i]) := by
    unfold mixed
    by_cases h : i < j
    · rw [List.getElem?_append_left (by simpa using h), if_pos h]
      simp [h]
    · rw [List.getElem?_append_right (by simp; omega), if_neg h, List.getElem?_drop, List.length_map, List.length_range, show j + (i - j) = i by omega, List.getElem?_eq_getElem hil]
  rw [List.getElem?_eq_getElem hi] at h2
  exact Option.some.inj h2
theorem flatMap_congr_at {α β : Type} {f : α → List β} {l m : List α} (hl : l.length = m.length) (h : ∀ (i : Nat) (h1 : i < l.length) (h2 : i < m.length), f l[i] = f m[i]) : l.flatMap f = m.flatMap f := by
  rw [List.flatMap_def, List.flatMap_def]
  congr 1
  exact List.ext_getElem (by simpa using hl) (fun i h1 h2 => by simpa using h i (by simpa using h1) (by simpa using h2))
theorem nodup_apart {α : Type} {f : α → List Nat} : ∀ {l : List α} (_ : (l.flatMap f).Nodup) {i j : Nat} (hi : i < l.length) (hj : j < l.length) (_ : i ≠ j), ∀ x ∈ f l[i], x ∉ f l[j]
  | [], _, i, _, hi, _, _ => absurd hi (by simp)
  | a :: l, h, 0, 0, _, _, hne => absurd rfl hne
  | a :: l, h, 0, j + 1, hi, hj, hne => fun x hx hy => by
    rw [List.flatMap_cons, List.nodup_append] at h
    simp only [List.getElem_cons_zero, List.getElem_cons_succ] at hx hy
    exact h.2.2 x hx x (List.mem_flatMap.2 ⟨_, List.getElem_mem _, hy⟩) rfl
  | a :: l, h, i + 1, 0, hi, hj, hne => fun x hx hy => by
    rw [List.flatMap_cons, List.nodup_append] at h
    simp only [List.getElem_cons_zero, List.getElem_cons_succ] at hx hy
    exact h.2.2 x hy x (List.mem_flatMap.2 ⟨_, List.getElem_mem _, hx⟩) rfl
  | a :: l, h, i + 1, j + 1, hi, hj, hne => fun x hx hy => by
    rw [List.flatMap_cons, List.nodup_append] at h
    simp only [List.getElem_cons_succ] at hx hy
    exact nodup_apart h.2.1 (by simpa using hi) (by simpa using hj) (by omega) x hx hy

theorem Ow.frozen {α : Type} {enc : α → List Value} {e : TypeId} {sz : Nat} {w : World} {B g n c : Nat} {l : List α} (h : Ow enc e sz w B (.slice (some ⟨g, 0, none⟩) n c) l) : ∀ y, w.frozen? ⟨g, y, none⟩ = false := fun y => by
  rcases h.2 with ⟨h2, _⟩ | ⟨g', cap, cur, hv, hb, hh, r⟩
  · cases h2
  · simp only [Value.slice.injEq, Option.some.injEq, Addr.mk.injEq] at hv
    obtain ⟨⟨rfl, _⟩, _⟩ := hv
    exact frozen_of_row w g y cur e hh

def VtE.fps (A : Option Addr) (ps : List VtE) : List Nat := blk A ++ ps.flatMap (fun p => p.1.fp)
def Vt.mk' (k : Int) (v : Vt) : Vt := ⟨k, k + 1, k + 1 + 1, k + 1 + 1 + 1, k + 1 + 1 + 1 + 1, k + 1 + 1 + 1 + 1 + 1, v.log.mk' (k + 1 + 1 + 1 + 1 + 1 + 1 + 1) (k + 1 + 1 + 1 + 1 + 1 + 1)⟩
theorem Vt.mk_log (k : Int) (v : Vt) : (v.mk' k).log = v.log.mk' (k + 1 + 1 + 1 + 1 + 1 + 1 + 1) (k + 1 + 1 + 1 + 1 + 1 + 1) := rfl
def Vt.mN (v : Vt) : Int := 7 + v.log.mN
/-- the number that the j-th element's marks begin with -/
def VtE.Ks (k : Int) (ps : List VtE) : Nat → Int
  | 0 => k
  | j + 1 => VtE.Ks k ps j + match ps[j]? with | some p => p.2.mN | none => 0
theorem VtE.Ks_next (k : Int) {ps : List VtE} {j : Nat} (h : j < ps.length) : VtE.Ks k ps (j + 1) = VtE.Ks k ps j + ps[j].2.mN := by simp [VtE.Ks, h]
theorem VtE.Ks_le (k : Int) (ps : List VtE) (j : Nat) : ∀ d, VtE.Ks k ps j ≤ VtE.Ks k ps (j + d)
  | 0 => by simp
  | d + 1 => by
    have ih := VtE.Ks_le k ps j d
    show _ ≤ VtE.Ks k ps (j + d) + _
    cases h : ps[j + d]? with
    | none => simp; exact ih
    | some p =>
      have := p.2.log.mN_pos
      simp only [Vt.mN]
      omega
theorem VtE.Ks_ge (k : Int) (ps : List VtE) (j : Nat) : k ≤ VtE.Ks k ps j := by
  have := VtE.Ks_le k ps 0 j
  rwa [Nat.zero_add] at this
def VtE.M (k : Int) (ps : List VtE) (i : Nat) : VtE := match ps[i]? with
  | some p => (p.1, p.2.mk' (VtE.Ks k ps i))
  | none => (LAd.none, (⟨LAd.none, default⟩ : VtE).2)
theorem VtE.M_at (k : Int) {ps : List VtE} {i : Nat} (h : i < ps.length) : VtE.M k ps i = (ps[i].1, ps[i].2.mk' (VtE.Ks k ps i)) := by simp [VtE.M, h]
def VtE.mks (k : Int) (ps : List VtE) : List VtE := (List.range ps.length).map (VtE.M k ps)
theorem VtE.mks_length (k : Int) (ps : List VtE) : (VtE.mks k ps).length = ps.length := by simp [VtE.mks]
theorem VtE.mks_at (k : Int) {ps : List VtE} {i : Nat} (h : i < ps.length) : (VtE.mks k ps)[i]'(by rw [VtE.mks_length]; exact h) = (ps[i].1, ps[i].2.mk' (VtE.Ks k ps i)) := by simp [VtE.mks, VtE.M_at k h]
theorem VtE.mixed_fp (k : Int) (ps : List VtE) (j : Nat) (hj : j ≤ ps.length) : (mixed (VtE.M k ps) ps j).flatMap (fun p => p.1.fp) = ps.flatMap (fun p => p.1.fp) := by
  refine flatMap_congr_at (mixed_length _ _ hj) fun i h1 h2 => ?_
  rw [mixed_at _ _ hj h1]
  split
  · rw [VtE.M_at k h2]
  · rfl
set_option maxHeartbeats 1000000 in
theorem VtE.set_next (k : Int) {ps : List VtE} {j : Nat} (hj : j < ps.length) : setAll ((mixed (VtE.M k ps) ps j).flatMap VtE.enc) (j * 10) [.int .i64 (VtE.Ks k ps j), .int .i64 (VtE.Ks k ps j + 1), .int .i64 (VtE.Ks k ps j + 1 + 1), .int .i64 (VtE.Ks k ps j + 1 + 1 + 1), .int .i64 (VtE.Ks k ps j + 1 + 1 + 1 + 1), .int .i64 (VtE.Ks k ps j + 1 + 1 + 1 + 1 + 1), .int .i64 (VtE.Ks k ps j + 1 + 1 + 1 + 1 + 1 + 1)] = (mixed (VtE.M k ps) ps (j + 1)).flatMap VtE.enc := by
  have h1 := setAll_mixed VtE.len (VtE.M k ps) ps j hj
  rw [← h1, VtE.M_at k hj]
  have hm : j < (mixed (VtE.M k ps) ps j).length := by rw [mixed_length _ _ (by omega : j ≤ ps.length)]; exact hj
  have hat : (mixed (VtE.M k ps) ps j)[j] = ps[j] := by rw [mixed_at _ _ (by omega) hm, if_neg (by omega)]
  have hg : ∀ i, i < 10 → ((mixed (VtE.M k ps) ps j).flatMap VtE.enc)[j * 10 + i]? = (VtE.enc ps[j])[i]? := fun i hi => by
    rw [flat_get VtE.len _ j hm i hi, hat]
  have g7 := hg 7 (by omega)
  have g8 := hg 8 (by omega)
  have g9 := hg 9 (by omega)
  generalize (mixed (VtE.M k ps) ps j).flatMap VtE.enc = xs at *
  simp only [VtE.enc, List.getElem?_cons_succ, List.getElem?_cons_zero] at g7 g8 g9
  simp only [setAll, VtE.enc, Vt.mk', Lg.mk_cells, Lg.mk_seats, Lg.mk_ents, Nat.add_assoc, Nat.reduceAdd]
  rw [list_set_self (i := j * 10 + 7) (by (repeat rw [List.getElem?_set_ne (by omega)]); exact g7), list_set_self (i := j * 10 + 8) (by (repeat rw [List.getElem?_set_ne (by omega)]); exact g8), list_set_self (i := j * 10 + 9) (by (repeat rw [List.getElem?_set_ne (by omega)]); exact g9)]
  rfl
end Go.Proofs.Ytpghedeghoegmaa
