/- x from lo to hi: the small tests on whole numbers, of the reference and of the program. -/
import Derived.Test.YtkmkchfjnhnacaaGreatProg
import Derived.Test.YtkmkchfjnhnacaaGreatPk1
import Derived.OwnWalk
namespace Go.Proofs.YtkmkchfjnhnacaaGreat
open Go.ChangeShapes Go.WideShapes Go.ChangeAt Go.RowKit Go.Sort
set_option linter.unusedVariables false
def inB (x lo hi : Int) : Bool := decide (lo ≤ x) && decide (x ≤ hi)
theorem c_l1In (x lo hi : Int) (w : World) : Calls Tryz.prog 15 #[.int .i64 x, .int .i64 lo, .int .i64 hi] w fun e w' => e = .returned (.bool (inB x lo hi)) ∧ Ext w w' := by
 go_enter Tryz.func15, Tryz.ntmps15
 go_wp2
 all_goals
  go_ret
  exact ⟨ret_bool (by simp [inB, *] <;> omega), ext_refl _⟩
theorem c_from (x lo hi : Int) (w : World) : Calls Tryz.prog 21 #[.int .i64 x, .int .i64 lo, .int .i64 hi] w fun e w' => e = .returned (.bool (inB x lo hi)) ∧ Ext w w' := by
 go_enter Tryz.func21, Tryz.ntmps21
 go_wp2
 all_goals
  go_ret
  exact ⟨ret_bool (by simp [inB, *] <;> omega), ext_refl _⟩
theorem c_l1Whole (x : Int) (w : World) : Calls Tryz.prog 16 #[.int .i64 x] w fun e w' => e = .returned (.bool (inB x 0 1000000000)) ∧ Ext w w' := by
 go_enter Tryz.func16, Tryz.ntmps16
 go_wp2_with (go_at_call 15; refine (c_l1In _ _ _ _).mono ?_; rintro e w1 ⟨rfl, hx⟩)
 go_ret
 exact ⟨rfl, hx⟩
theorem c_isWhole (x : Int) (w : World) : Calls Tryz.prog 22 #[.int .i64 x] w fun e w' => e = .returned (.bool (inB x 0 1000000000)) ∧ Ext w w' := by
 go_enter Tryz.func22, Tryz.ntmps22
 go_wp2_with (go_at_call 21; refine (c_from _ _ _ _).mono ?_; rintro e w1 ⟨rfl, hx⟩)
 go_ret
 exact ⟨rfl, hx⟩
theorem c_isReq (x : Int) (w : World) : Calls Tryz.prog 60 #[.int .i64 x] w fun e w' => e = .returned (.bool (inB x 1 1000000000)) ∧ Ext w w' := by
 go_enter Tryz.func60, Tryz.ntmps60
 go_wp2_with (go_at_call 21; refine (c_from _ _ _ _).mono ?_; rintro e w1 ⟨rfl, hx⟩)
 go_ret
 exact ⟨rfl, hx⟩
theorem c_isAnswer (x : Int) (w : World) : Calls Tryz.prog 61 #[.int .i64 x] w fun e w' => e = .returned (.bool (inB x (-1) 1000000000)) ∧ Ext w w' := by
 go_enter Tryz.func61, Tryz.ntmps61
 go_wp2_with (go_at_call 21; refine (c_from _ _ _ _).mono ?_; rintro e w1 ⟨rfl, hx⟩)
 go_ret
 exact ⟨rfl, hx⟩
theorem inB_yes (x a b : Int) : inB x a b = true ↔ a ≤ x ∧ x ≤ b := by simp [inB]
abbrev wh (x : Int) : Bool := inB x 0 1000000000
end Go.Proofs.YtkmkchfjnhnacaaGreat
namespace Go.Proofs.YtkmkchfjnhnacaaGreat
def idxOf {α : Type} (p : α → Bool) (l : List α) : Int := match l.findIdx? p with
 | some i => i
 | none => -1
theorem idx_hit {α : Type} {p : α → Bool} {l : List α} {k : Nat} (hk : k < l.length) (h : p l[k] = true) (hb : ∀ j (hj : j < l.length), j < k → p l[j] = false) : idxOf p l = k := by
 have : l.findIdx? p = some k := List.findIdx?_eq_some_iff_getElem.2 ⟨hk, h, fun j hj => by simp [hb j (by omega) hj]⟩
 unfold idxOf
 rw [this]
theorem idx_miss {α : Type} {p : α → Bool} {l : List α} (hb : ∀ j (hj : j < l.length), p l[j] = false) : idxOf p l = -1 := by
 have : l.findIdx? p = none := List.findIdx?_eq_none_iff.2 fun x hx => by
  obtain ⟨i, hi, rfl⟩ := List.getElem_of_mem hx
  exact hb i hi
 unfold idxOf
 rw [this]
theorem no_next {α : Type} {p : α → Bool} {l : List α} {k : Nat} (hb : ∀ j (hj : j < l.length), j < k → p l[j] = false) (h : ∀ hk : k < l.length, p l[k] = false) : ∀ j (hj : j < l.length), j < k + 1 → p l[j] = false := fun j hj hk => by
 by_cases he : j = k
 ·subst he; exact h hj
 ·exact hb j hj (by omega)
theorem idxOf_any {α : Type} (p : α → Bool) (l : List α) : decide (0 ≤ idxOf p l) = l.any p := by
 unfold idxOf
 cases h : l.findIdx? p with
 | none =>
  have := List.findIdx?_eq_none_iff.1 h
  simp
  simpa using this
 | some i =>
  obtain ⟨h3, h4, h5⟩ := List.findIdx?_eq_some_iff_getElem.1 h
  simp
  exact ⟨_, List.getElem_mem h3, h4⟩
end Go.Proofs.YtkmkchfjnhnacaaGreat
namespace Go.Proofs.YtkmkchfjnhnacaaGreat
open Go.ChangeShapes Go.WideShapes Go.ChangeAt Go.RowKit Go.Sort
set_option linter.unusedVariables false
set_option linter.unusedSimpArgs false
def cmdOk (k x v : Int) : Bool := decide (0 ≤ x ∧ x ≤ 1000000000 ∧ ((k = 1 ∨ k = 4) ∧ v = 0 ∨ (k = 2 ∨ k = 3) ∧ 0 ≤ v ∧ v ≤ 1000000000))
theorem c_sCmdOk (k x v : Int) (w : World) : Calls Tryz.prog 88 #[.agg #[.int .i64 k, .int .i64 x, .int .i64 v]] w fun e w' => e = .returned (.bool (cmdOk k x v)) ∧ Ext w w' := by
 go_enter Tryz.func88, Tryz.ntmps88
 go_wp2_with (go_at_call 16; refine (c_l1Whole _ _).mono ?_; rintro e w1 ⟨rfl, hx⟩; obtain ⟨hc1, hf1, hs1⟩ := hx.rules; (try simp at hs1); have z0 : w.heap.size < w1.heap.size := (by omega))
 all_goals
  go_ret
  refine ⟨?_, ?_⟩
  ·(refine ret_bool ?_; rw [Bool.eq_iff_iff]; simp only [inB, cmdOk, Bool.and_eq_true, Bool.or_eq_true, Bool.not_eq_true, Bool.not_eq_true', Bool.not_eq_false', Bool.not_eq_false, Bool.not_not, beq_iff_eq, bne_iff_ne, ne_eq, beq_eq_false_iff_ne, bne_eq_false_iff_eq, decide_eq_true_eq, decide_eq_false_iff_not, Bool.and_eq_false_imp, Bf, reduceCtorEq, iff_true, iff_false, true_iff, false_iff, not_and, not_or] at *; omega)
  ·(repeat (first | with_reducible exact ext_refl _ | with_reducible refine ext_to ?_ _ | with_reducible refine ext_set ?_ (by first | (simp; done) | (simp; omega) | omega) _ | with_reducible refine ext_drew ?_ | with_reducible refine Ext.trans ?_ (by assumption)))
theorem c_iCmdOk (k x v : Int) (w : World) : Calls Tryz.prog 63 #[.agg #[.int .i64 k, .int .i64 x, .int .i64 v]] w fun e w' => e = .returned (.bool (cmdOk k x v)) ∧ Ext w w' := by
 go_enter Tryz.func63, Tryz.ntmps63
 go_wp2_with (go_at_call 22; refine (c_isWhole _ _).mono ?_; rintro e w1 ⟨rfl, hx⟩; obtain ⟨hc1, hf1, hs1⟩ := hx.rules; (try simp at hs1); have z0 : w.heap.size < w1.heap.size := (by omega))
 all_goals
  go_ret
  refine ⟨?_, ?_⟩
  ·(refine ret_bool ?_; rw [Bool.eq_iff_iff]; simp only [inB, cmdOk, Bool.and_eq_true, Bool.or_eq_true, Bool.not_eq_true, Bool.not_eq_true', Bool.not_eq_false', Bool.not_eq_false, Bool.not_not, beq_iff_eq, bne_iff_ne, ne_eq, beq_eq_false_iff_ne, bne_eq_false_iff_eq, decide_eq_true_eq, decide_eq_false_iff_not, Bool.and_eq_false_imp, Bf, reduceCtorEq, iff_true, iff_false, true_iff, false_iff, not_and, not_or] at *; omega)
  ·(repeat (first | with_reducible exact ext_refl _ | with_reducible refine ext_to ?_ _ | with_reducible refine ext_set ?_ (by first | (simp; done) | (simp; omega) | omega) _ | with_reducible refine ext_drew ?_ | with_reducible refine Ext.trans ?_ (by assumption)))
def Ent.ok (e : Ent) : Bool := wh e.client && inB e.req 1 1000000000 && cmdOk e.kind e.key e.value
theorem entOk_mk (a b k x v : Int) : (⟨a, b, k, x, v⟩ : Ent).ok = (inB a 0 1000000000 && inB b 1 1000000000 && cmdOk k x v) := rfl
theorem c_sEntryOk (r : Ent) (w : World) : Calls Tryz.prog 57 #[.agg #[.int .i64 r.client, .int .i64 r.req, .int .i64 r.kind, .int .i64 r.key, .int .i64 r.value]] w fun e w' => e = .returned (.bool r.ok) ∧ Ext w w' := by
 obtain ⟨a, b, k, x, v⟩ := r
 rw [entOk_mk]
 dsimp only
 go_enter Tryz.func57, Tryz.ntmps57
 go_wp2_with (first | (go_at_call 16; refine (c_l1Whole _ _).mono ?_; rintro e w1 ⟨rfl, hx⟩; obtain ⟨hc1, hf1, hs1⟩ := hx.rules; (try simp at hs1); have z0 : w.heap.size < w1.heap.size := (by omega)) | (go_at_call 15; refine (c_l1In _ _ _ _).mono ?_; rintro e w1 ⟨rfl, hx⟩; obtain ⟨hc1, hf1, hs1⟩ := hx.rules; (try simp at hs1); have z0 : w.heap.size < w1.heap.size := (by omega)) | (go_at_call 88; refine (c_sCmdOk _ _ _ _).mono ?_; rintro e w1 ⟨rfl, hx⟩; obtain ⟨hc1, hf1, hs1⟩ := hx.rules; (try simp at hs1); have z0 : w.heap.size < w1.heap.size := (by omega)))
 all_goals
  go_ret
  refine ⟨ret_bool ?_, ?_⟩
  ·(first | (simp [*]; done) | (simp_all; done))
  ·(repeat (first | with_reducible exact ext_refl _ | with_reducible refine ext_to ?_ _ | with_reducible refine ext_set ?_ (by first | (simp; done) | (simp; omega) | omega) _ | with_reducible refine ext_drew ?_ | with_reducible refine Ext.trans ?_ (by assumption)))
theorem c_iEntryOk (r : Ent) (w : World) : Calls Tryz.prog 44 #[.agg #[.int .i64 r.client, .int .i64 r.req, .int .i64 r.kind, .int .i64 r.key, .int .i64 r.value]] w fun e w' => e = .returned (.bool r.ok) ∧ Ext w w' := by
 obtain ⟨a, b, k, x, v⟩ := r
 rw [entOk_mk]
 dsimp only
 go_enter Tryz.func44, Tryz.ntmps44
 go_wp2_with (first | (go_at_call 22; refine (c_isWhole _ _).mono ?_; rintro e w1 ⟨rfl, hx⟩; obtain ⟨hc1, hf1, hs1⟩ := hx.rules; (try simp at hs1); have z0 : w.heap.size < w1.heap.size := (by omega)) | (go_at_call 60; refine (c_isReq _ _).mono ?_; rintro e w1 ⟨rfl, hx⟩; obtain ⟨hc1, hf1, hs1⟩ := hx.rules; (try simp at hs1); have z0 : w.heap.size < w1.heap.size := (by omega)) | (go_at_call 63; refine (c_iCmdOk _ _ _ _).mono ?_; rintro e w1 ⟨rfl, hx⟩; obtain ⟨hc1, hf1, hs1⟩ := hx.rules; (try simp at hs1); have z0 : w.heap.size < w1.heap.size := (by omega)))
 all_goals
  go_ret
  refine ⟨ret_bool ?_, ?_⟩
  ·(first | (simp [*]; done) | (simp_all; done))
  ·(repeat (first | with_reducible exact ext_refl _ | with_reducible refine ext_to ?_ _ | with_reducible refine ext_set ?_ (by first | (simp; done) | (simp; omega) | omega) _ | with_reducible refine ext_drew ?_ | with_reducible refine Ext.trans ?_ (by assumption)))
theorem c_badEntry (r : Ent) (w : World) : Calls Tryz.prog 43 #[.agg #[.int .i64 r.client, .int .i64 r.req, .int .i64 r.kind, .int .i64 r.key, .int .i64 r.value]] w fun e w' => e = .returned (.bool (!r.ok)) ∧ Ext w w' := by
 obtain ⟨a, b, k, x, v⟩ := r
 have hcon := c_iEntryOk ⟨a, b, k, x, v⟩
 dsimp only at hcon
 dsimp only
 go_enter Tryz.func43, Tryz.ntmps43
 go_wp2_with fail
 refine (hcon _).mono ?_
 rintro e w1 ⟨rfl, hx⟩
 clear hcon
 go_wp2
 go_ret
 exact ⟨rfl, Ext.trans (ext_alloc _ _) hx⟩
theorem Cel.enc_len (r : Cel) : r.enc.length = 2 := rfl
theorem Rd.atCel {w : World} {A : Option Addr} {c : Nat} {l : List Cel} (h : Rd Cel.enc 2 w A c l) {k : Nat} (hk : k < l.length) : ∃ b o, A = some ⟨b, o, none⟩ ∧ b < w.heap.size ∧
  w.cell? ⟨b, o + k * 2, none⟩ = some (.int .i64 l[k].key) ∧ w.cell? ⟨b, o + k * 2 + 1, none⟩ = some (.int .i64 l[k].value) := by
 obtain ⟨b, o, e, hlt, hc⟩ := h.2.2 (by omega)
 exact ⟨b, o, e, hlt, hc k hk 0 _ rfl, hc k hk 1 _ rfl⟩
theorem Tryz.infoCel : (Tryz.prog.info? 101).map (fun i => (i.zero, i.size, i.bytes)) = some (some (.agg #[.int .i64 0, .int .i64 0]), 2, 16) := by kernel_rfl
def Cel.mark (k : Int) (i : Nat) : Cel := ⟨k + 2 * i, k + 2 * i + 1⟩
def marksCel (k : Int) (n : Nat) : List Cel := (List.range n).map (Cel.mark k)
theorem marksCel_length (k : Int) (n : Nat) : (marksCel k n).length = n := by simp [marksCel]
theorem Sea.enc_len (r : Sea) : r.enc.length = 3 := rfl
theorem Rd.atSea {w : World} {A : Option Addr} {c : Nat} {l : List Sea} (h : Rd Sea.enc 3 w A c l) {k : Nat} (hk : k < l.length) : ∃ b o, A = some ⟨b, o, none⟩ ∧ b < w.heap.size ∧
  w.cell? ⟨b, o + k * 3, none⟩ = some (.int .i64 l[k].client) ∧ w.cell? ⟨b, o + k * 3 + 1, none⟩ = some (.int .i64 l[k].req) ∧ w.cell? ⟨b, o + k * 3 + 2, none⟩ = some (.int .i64 l[k].answer) := by
 obtain ⟨b, o, e, hlt, hc⟩ := h.2.2 (by omega)
 exact ⟨b, o, e, hlt, hc k hk 0 _ rfl, hc k hk 1 _ rfl, hc k hk 2 _ rfl⟩
theorem Tryz.infoSea : (Tryz.prog.info? 103).map (fun i => (i.zero, i.size, i.bytes)) = some (some (.agg #[.int .i64 0, .int .i64 0, .int .i64 0]), 3, 24) := by kernel_rfl
def Sea.mark (k : Int) (i : Nat) : Sea := ⟨k + 3 * i, k + 3 * i + 1, k + 3 * i + 1 + 1⟩
def marksSea (k : Int) (n : Nat) : List Sea := (List.range n).map (Sea.mark k)
theorem marksSea_length (k : Int) (n : Nat) : (marksSea k n).length = n := by simp [marksSea]
theorem Ent.enc_len (r : Ent) : r.enc.length = 5 := rfl
theorem Rd.atEnt {w : World} {A : Option Addr} {c : Nat} {l : List Ent} (h : Rd Ent.enc 5 w A c l) {k : Nat} (hk : k < l.length) : ∃ b o, A = some ⟨b, o, none⟩ ∧ b < w.heap.size ∧
  w.cell? ⟨b, o + k * 5, none⟩ = some (.int .i64 l[k].client) ∧ w.cell? ⟨b, o + k * 5 + 1, none⟩ = some (.int .i64 l[k].req) ∧ w.cell? ⟨b, o + k * 5 + 2, none⟩ = some (.int .i64 l[k].kind) ∧ w.cell? ⟨b, o + k * 5 + 3, none⟩ = some (.int .i64 l[k].key) ∧ w.cell? ⟨b, o + k * 5 + 4, none⟩ = some (.int .i64 l[k].value) := by
 obtain ⟨b, o, e, hlt, hc⟩ := h.2.2 (by omega)
 exact ⟨b, o, e, hlt, hc k hk 0 _ rfl, hc k hk 1 _ rfl, hc k hk 2 _ rfl, hc k hk 3 _ rfl, hc k hk 4 _ rfl⟩
theorem Tryz.infoEnt : (Tryz.prog.info? 70).map (fun i => (i.zero, i.size, i.bytes)) = some (some (.agg #[.int .i64 0, .int .i64 0, .int .i64 0, .int .i64 0, .int .i64 0]), 5, 40) := by kernel_rfl
def Ent.mark (k : Int) (i : Nat) : Ent := ⟨k + 5 * i, k + 5 * i + 1, k + 5 * i + 1 + 1, k + 5 * i + 1 + 1 + 1, k + 5 * i + 1 + 1 + 1 + 1⟩
def marksEnt (k : Int) (n : Nat) : List Ent := (List.range n).map (Ent.mark k)
theorem marksEnt_length (k : Int) (n : Nat) : (marksEnt k n).length = n := by simp [marksEnt]
end Go.Proofs.YtkmkchfjnhnacaaGreat
