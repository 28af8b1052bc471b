/- The laws' own functions on rows of votes: marked, held. -/
import Derived.Test.YtpghedeghoegmaaPk7
import Derived.Test.YtpghedeghoegmaaPk3
import Derived.Test.YtpghedeghoegmaaProg
import Derived.Test.YtpghedeghoegmaaPk1
import Derived.Test.YtpghedeghoegmaaPk2
import Derived.Test.YtpghedeghoegmaaPk6
import Derived.Laws.OwnMore
import Derived.Laws.AppendOwn
namespace Go.Proofs.Ytpghedeghoegmaa
open Go.ChangeShapes Go.WideShapes Go.ChangeAt Go.RowKit Go.Sort
set_option linter.unusedVariables false
set_option linter.unusedSimpArgs false

instance : Inhabited Lg := ⟨Lg.none⟩
instance : Inhabited LAd := ⟨LAd.none⟩
instance : Inhabited Vt := ⟨⟨0, 0, 0, 0, 0, 0, Lg.none⟩⟩
theorem Ow.frozen {α : Type} {enc : α → List Value} {e : TypeId} {sz : Nat} {w : World} {B g n c : Nat} {l : List α} (h : Ow enc e sz w B (.slice (some ⟨g, 0, none⟩) n c) l) : ∀ y, w.frozen? ⟨g, y, none⟩ = false := fun y => by
  rcases h.2 with ⟨h2, _⟩ | ⟨g', cap, cur, hv, hb, hh, r⟩
  · cases h2
  · simp only [Value.slice.injEq, Option.some.injEq, Addr.mk.injEq] at hv
    obtain ⟨⟨rfl, _⟩, _⟩ := hv
    exact frozen_of_row w g y cur e hh

def Vt.mk' (k : Int) (v : Vt) : Vt := ⟨k, k + 1, k + 1 + 1, k + 1 + 1 + 1, k + 1 + 1 + 1 + 1, k + 1 + 1 + 1 + 1 + 1, v.log.mk' (k + 1 + 1 + 1 + 1 + 1 + 1 + 1) (k + 1 + 1 + 1 + 1 + 1 + 1)⟩
def Vt.mN (v : Vt) : Int := 7 + v.log.mN
/-- the number that the j-th element's marks begin with -/
def VtE.Ks (k : Int) (ps : List VtE) : Nat → Int
  | 0 => k
  | j + 1 => VtE.Ks k ps j + match ps[j]? with | some p => p.2.mN | none => 0
def VtE.M (k : Int) (ps : List VtE) (i : Nat) : VtE := match ps[i]? with
  | some p => (p.1, p.2.mk' (VtE.Ks k ps i))
  | none => (LAd.none, (⟨LAd.none, default⟩ : VtE).2)
def VtE.mks (k : Int) (ps : List VtE) : List VtE := (List.range ps.length).map (VtE.M k ps)
end Go.Proofs.Ytpghedeghoegmaa

/- Arguments that are logs, messages, replicas, opened. -/
namespace Go.Proofs.Ytpghedeghoegmaa
open Go.ChangeShapes Go.WideShapes Go.ChangeAt Go.RowKit Go.Joins Go.Deep
set_option linter.unusedVariables false

section
variable {H : Type} {enc : TypeId × Value → H} {w : World} {base : Nat} {spare : Nat → Bool} {held : Bool}
end

/-! ### sizes -/
end Go.Proofs.Ytpghedeghoegmaa

/- The laws' own functions on replicas: marked, held. -/
namespace Go.Proofs.Ytpghedeghoegmaa
open Go.ChangeShapes Go.WideShapes Go.ChangeAt Go.RowKit Go.Sort
set_option linter.unusedVariables false
set_option linter.unusedSimpArgs false

/-- how it reads when it is marked -/
structure RpH (w : World) (a : LAd) (A : Option Addr) (c : Nat) (ps : List VtE) (r : Rp) (k : Int) : Prop where
  l : LgR w a (r.log.mk' k r.log.base)
  v : VsR w A c (VtE.mks (k + r.log.mN) ps)
theorem RpH.keep {w w' : World} {a : LAd} {A : Option Addr} {c : Nat} {ps : List VtE} {r : Rp} {k : Int} (h : RpH w a A c ps r k) (hx : Ext w w') : RpH w' a A c ps r k := ⟨h.l.keep hx, h.v.keep hx⟩
end Go.Proofs.Ytpghedeghoegmaa

/- What a law on a replica needs besides: bounds of marks, what a replica made anew promises. -/
namespace Go.Proofs.Ytpghedeghoegmaa
open Go.ChangeShapes Go.WideShapes Go.ChangeAt Go.RowKit Go.Sort
set_option linter.unusedVariables false

theorem LgS.congr {ps qs : List VtE} (h : ps.map Prod.snd = qs.map Prod.snd) (hs : LgS ps) : LgS qs := fun q hq => by
  have h1 : q.2 ∈ qs.map Prod.snd := List.mem_map_of_mem hq
  rw [← h] at h1
  obtain ⟨p, hp, he⟩ := List.mem_map.1 h1
  rw [← he]
  exact hs p hp
/-- a replica's value that reads as r -/
def RpV (n : Nat) (r : Rp) (v : Value) (w : World) : Prop := ∃ a g qs, v = Rp.val a (some ⟨g, 0, none⟩) n n r ∧ List.length qs = n ∧ RpR w a (some ⟨g, 0, none⟩) n qs r
theorem RpV.mono (n : Nat) (r : Rp) : Mono (RpV n r) := fun v w w' ⟨a, g, qs, h, hl, hr⟩ hx => ⟨a, g, qs, h, hl, hr.keep hx⟩
end Go.Proofs.Ytpghedeghoegmaa

/- x from lo to hi: the small tests on whole numbers, of the reference and of the program. -/
namespace Go.Proofs.Ytpghedeghoegmaa
open Go.ChangeShapes Go.WideShapes Go.ChangeAt Go.RowKit Go.Sort
set_option linter.unusedVariables false

def inB (x lo hi : Int) : Bool := decide (lo ≤ x) && decide (x ≤ hi)
theorem c_l1In (x lo hi : Int) (w : World) : Calls Try.prog 61 #[.int .i64 x, .int .i64 lo, .int .i64 hi] w fun e w' => e = .returned (.bool (inB x lo hi)) ∧ Ext w w' := by
  go_enter Try.func61, Try.ntmps61
  go_wp2
  all_goals
    go_ret
    exact ⟨ret_bool (by simp [inB, *] <;> omega), ext_refl _⟩
theorem c_from (x lo hi : Int) (w : World) : Calls Try.prog 79 #[.int .i64 x, .int .i64 lo, .int .i64 hi] w fun e w' => e = .returned (.bool (inB x lo hi)) ∧ Ext w w' := by
  go_enter Try.func79, Try.ntmps79
  go_wp2
  all_goals
    go_ret
    exact ⟨ret_bool (by simp [inB, *] <;> omega), ext_refl _⟩
theorem c_l1Whole (x : Int) (w : World) : Calls Try.prog 96 #[.int .i64 x] w fun e w' => e = .returned (.bool (inB x 0 1000000000)) ∧ Ext w w' := by
  go_enter Try.func96, Try.ntmps96
  go_wp2_with (go_at_call 61; refine (c_l1In _ _ _ _).mono ?_; rintro e w1 ⟨rfl, hx⟩)
  go_ret
  exact ⟨rfl, hx⟩
theorem c_isWhole (x : Int) (w : World) : Calls Try.prog 112 #[.int .i64 x] w fun e w' => e = .returned (.bool (inB x 0 1000000000)) ∧ Ext w w' := by
  go_enter Try.func112, Try.ntmps112
  go_wp2_with (go_at_call 79; refine (c_from _ _ _ _).mono ?_; rintro e w1 ⟨rfl, hx⟩)
  go_ret
  exact ⟨rfl, hx⟩
theorem c_isReq (x : Int) (w : World) : Calls Try.prog 110 #[.int .i64 x] w fun e w' => e = .returned (.bool (inB x 1 1000000000)) ∧ Ext w w' := by
  go_enter Try.func110, Try.ntmps110
  go_wp2_with (go_at_call 79; refine (c_from _ _ _ _).mono ?_; rintro e w1 ⟨rfl, hx⟩)
  go_ret
  exact ⟨rfl, hx⟩
theorem c_isAnswer (x : Int) (w : World) : Calls Try.prog 111 #[.int .i64 x] w fun e w' => e = .returned (.bool (inB x (-1) 1000000000)) ∧ Ext w w' := by
  go_enter Try.func111, Try.ntmps111
  go_wp2_with (go_at_call 79; refine (c_from _ _ _ _).mono ?_; rintro e w1 ⟨rfl, hx⟩)
  go_ret
  exact ⟨rfl, hx⟩
theorem inB_yes (x a b : Int) : inB x a b = true ↔ a ≤ x ∧ x ≤ b := by simp [inB]
theorem inB_no (x a b : Int) : inB x a b = false ↔ ¬ (a ≤ x ∧ x ≤ b) := by rw [← inB_yes]; simp
abbrev wh (x : Int) : Bool := inB x 0 1000000000
end Go.Proofs.Ytpghedeghoegmaa

/- The first place at which something holds. -/
namespace Go.Proofs.Ytpghedeghoegmaa
/-- the first place at which p holds, or -1 -/
def idxOf {α : Type} (p : α → Bool) (l : List α) : Int := match l.findIdx? p with
  | some i => i
  | none => -1
theorem idx_hit {α : Type} {p : α → Bool} {l : List α} {k : Nat} (hk : k < l.length) (h : p l[k] = true) (hb : ∀ j (hj : j < l.length), j < k → p l[j] = false) : idxOf p l = k := by
  have : l.findIdx? p = some k := List.findIdx?_eq_some_iff_getElem.2 ⟨hk, h, fun j hj => by simp [hb j (by omega) hj]⟩
  unfold idxOf
  rw [this]
theorem idx_miss {α : Type} {p : α → Bool} {l : List α} (hb : ∀ j (hj : j < l.length), p l[j] = false) : idxOf p l = -1 := by
  have : l.findIdx? p = none := List.findIdx?_eq_none_iff.2 fun x hx => by
    obtain ⟨i, hi, rfl⟩ := List.getElem_of_mem hx
    exact hb i hi
  unfold idxOf
  rw [this]
theorem no_next {α : Type} {p : α → Bool} {l : List α} {k : Nat} (hb : ∀ j (hj : j < l.length), j < k → p l[j] = false) (h : ∀ hk : k < l.length, p l[k] = false) : ∀ j (hj : j < l.length), j < k + 1 → p l[j] = false := fun j hj hk => by
  by_cases he : j = k
  · subst he; exact h hj
  · exact hb j hj (by omega)


theorem idxOf_any {α : Type} (p : α → Bool) (l : List α) : decide (0 ≤ idxOf p l) = l.any p := by
  unfold idxOf
  cases h : l.findIdx? p with
  | none =>
    have := List.findIdx?_eq_none_iff.1 h
    simp
    simpa using this
  | some i =>
    obtain ⟨h3, h4, h5⟩ := List.findIdx?_eq_some_iff_getElem.1 h
    simp
    exact ⟨_, List.getElem_mem h3, h4⟩
end Go.Proofs.Ytpghedeghoegmaa

/- EntryOk of the reference and of the program. -/
namespace Go.Proofs.Ytpghedeghoegmaa
open Go.ChangeShapes Go.WideShapes Go.ChangeAt Go.RowKit Go.Sort
set_option linter.unusedVariables false
set_option linter.unusedSimpArgs false

def cmdOk (k x v : Int) : Bool := decide (0 ≤ x ∧ x ≤ 1000000000 ∧ ((k = 1 ∨ k = 4) ∧ v = 0 ∨ (k = 2 ∨ k = 3) ∧ 0 ≤ v ∧ v ≤ 1000000000))
theorem c_sCmdOk (k x v : Int) (w : World) : Calls Try.prog 59 #[.agg #[.int .i64 k, .int .i64 x, .int .i64 v]] w fun e w' => e = .returned (.bool (cmdOk k x v)) ∧ Ext w w' := by
  go_enter Try.func59, Try.ntmps59
  go_wp2_with (go_at_call 96; refine (c_l1Whole _ _).mono ?_; rintro e w1 ⟨rfl, hx⟩; obtain ⟨hc1, hf1, hs1⟩ := hx.rules; (try simp at hs1); have z0 : w.heap.size < w1.heap.size := (by omega))
  all_goals
    go_ret
    refine ⟨?_, ?_⟩
    · (refine ret_bool ?_; rw [Bool.eq_iff_iff]; simp only [inB, cmdOk, Bool.and_eq_true, Bool.or_eq_true, Bool.not_eq_true, Bool.not_eq_true', Bool.not_eq_false', Bool.not_eq_false, Bool.not_not, beq_iff_eq, bne_iff_ne, ne_eq, beq_eq_false_iff_ne, bne_eq_false_iff_eq, decide_eq_true_eq, decide_eq_false_iff_not, Bool.and_eq_false_imp, Bool.false_eq_true, reduceCtorEq, iff_true, iff_false, true_iff, false_iff, not_and, not_or] at *; omega)
    · (repeat (first | with_reducible exact ext_refl _ | with_reducible refine ext_to ?_ _ | with_reducible refine ext_set ?_ (by first | (simp; done) | (simp; omega) | omega) _ | with_reducible refine ext_drew ?_ | with_reducible refine Ext.trans ?_ (by assumption)))
theorem c_iCmdOk (k x v : Int) (w : World) : Calls Try.prog 76 #[.agg #[.int .i64 k, .int .i64 x, .int .i64 v]] w fun e w' => e = .returned (.bool (cmdOk k x v)) ∧ Ext w w' := by
  go_enter Try.func76, Try.ntmps76
  go_wp2_with (go_at_call 112; refine (c_isWhole _ _).mono ?_; rintro e w1 ⟨rfl, hx⟩; obtain ⟨hc1, hf1, hs1⟩ := hx.rules; (try simp at hs1); have z0 : w.heap.size < w1.heap.size := (by omega))
  all_goals
    go_ret
    refine ⟨?_, ?_⟩
    · (refine ret_bool ?_; rw [Bool.eq_iff_iff]; simp only [inB, cmdOk, Bool.and_eq_true, Bool.or_eq_true, Bool.not_eq_true, Bool.not_eq_true', Bool.not_eq_false', Bool.not_eq_false, Bool.not_not, beq_iff_eq, bne_iff_ne, ne_eq, beq_eq_false_iff_ne, bne_eq_false_iff_eq, decide_eq_true_eq, decide_eq_false_iff_not, Bool.and_eq_false_imp, Bool.false_eq_true, reduceCtorEq, iff_true, iff_false, true_iff, false_iff, not_and, not_or] at *; omega)
    · (repeat (first | with_reducible exact ext_refl _ | with_reducible refine ext_to ?_ _ | with_reducible refine ext_set ?_ (by first | (simp; done) | (simp; omega) | omega) _ | with_reducible refine ext_drew ?_ | with_reducible refine Ext.trans ?_ (by assumption)))
def Ent.ok (e : Ent) : Bool := wh e.client && inB e.req 1 1000000000 && cmdOk e.kind e.key e.value
theorem entOk_mk (a b k x v : Int) : (⟨a, b, k, x, v⟩ : Ent).ok = (inB a 0 1000000000 && inB b 1 1000000000 && cmdOk k x v) := rfl
theorem c_sEntryOk (r : Ent) (w : World) : Calls Try.prog 98 #[.agg #[.int .i64 r.client, .int .i64 r.req, .int .i64 r.kind, .int .i64 r.key, .int .i64 r.value]] w fun e w' => e = .returned (.bool r.ok) ∧ Ext w w' := by
  obtain ⟨a, b, k, x, v⟩ := r
  rw [entOk_mk]
  dsimp only
  go_enter Try.func98, Try.ntmps98
  go_wp2_with (first | (go_at_call 96; refine (c_l1Whole _ _).mono ?_; rintro e w1 ⟨rfl, hx⟩; obtain ⟨hc1, hf1, hs1⟩ := hx.rules; (try simp at hs1); have z0 : w.heap.size < w1.heap.size := (by omega)) | (go_at_call 61; refine (c_l1In _ _ _ _).mono ?_; rintro e w1 ⟨rfl, hx⟩; obtain ⟨hc1, hf1, hs1⟩ := hx.rules; (try simp at hs1); have z0 : w.heap.size < w1.heap.size := (by omega)) | (go_at_call 59; refine (c_sCmdOk _ _ _ _).mono ?_; rintro e w1 ⟨rfl, hx⟩; obtain ⟨hc1, hf1, hs1⟩ := hx.rules; (try simp at hs1); have z0 : w.heap.size < w1.heap.size := (by omega)))
  all_goals
    go_ret
    refine ⟨ret_bool ?_, ?_⟩
    · (first | (simp [*]; done) | (simp_all; done))
    · (repeat (first | with_reducible exact ext_refl _ | with_reducible refine ext_to ?_ _ | with_reducible refine ext_set ?_ (by first | (simp; done) | (simp; omega) | omega) _ | with_reducible refine ext_drew ?_ | with_reducible refine Ext.trans ?_ (by assumption)))
theorem c_iEntryOk (r : Ent) (w : World) : Calls Try.prog 116 #[.agg #[.int .i64 r.client, .int .i64 r.req, .int .i64 r.kind, .int .i64 r.key, .int .i64 r.value]] w fun e w' => e = .returned (.bool r.ok) ∧ Ext w w' := by
  obtain ⟨a, b, k, x, v⟩ := r
  rw [entOk_mk]
  dsimp only
  go_enter Try.func116, Try.ntmps116
  go_wp2_with (first | (go_at_call 112; refine (c_isWhole _ _).mono ?_; rintro e w1 ⟨rfl, hx⟩; obtain ⟨hc1, hf1, hs1⟩ := hx.rules; (try simp at hs1); have z0 : w.heap.size < w1.heap.size := (by omega)) | (go_at_call 110; refine (c_isReq _ _).mono ?_; rintro e w1 ⟨rfl, hx⟩; obtain ⟨hc1, hf1, hs1⟩ := hx.rules; (try simp at hs1); have z0 : w.heap.size < w1.heap.size := (by omega)) | (go_at_call 76; refine (c_iCmdOk _ _ _ _).mono ?_; rintro e w1 ⟨rfl, hx⟩; obtain ⟨hc1, hf1, hs1⟩ := hx.rules; (try simp at hs1); have z0 : w.heap.size < w1.heap.size := (by omega)))
  all_goals
    go_ret
    refine ⟨ret_bool ?_, ?_⟩
    · (first | (simp [*]; done) | (simp_all; done))
    · (repeat (first | with_reducible exact ext_refl _ | with_reducible refine ext_to ?_ _ | with_reducible refine ext_set ?_ (by first | (simp; done) | (simp; omega) | omega) _ | with_reducible refine ext_drew ?_ | with_reducible refine Ext.trans ?_ (by assumption)))
theorem c_badEntry (r : Ent) (w : World) : Calls Try.prog 115 #[.agg #[.int .i64 r.client, .int .i64 r.req, .int .i64 r.kind, .int .i64 r.key, .int .i64 r.value]] w fun e w' => e = .returned (.bool (!r.ok)) ∧ Ext w w' := by
  obtain ⟨a, b, k, x, v⟩ := r
  have hcon := c_iEntryOk ⟨a, b, k, x, v⟩
  dsimp only at hcon
  dsimp only
  go_enter Try.func115, Try.ntmps115
  go_wp2_with fail
  refine (hcon _).mono ?_
  rintro e w1 ⟨rfl, hx⟩
  clear hcon
  go_wp2
  go_ret
  exact ⟨rfl, Ext.trans (ext_alloc _ _) hx⟩
end Go.Proofs.Ytpghedeghoegmaa

/- append of a row that is read to a row of one's own. No program in sight. -/
namespace Go.Proofs.Ytpghedeghoegmaa
open Go.ChangeShapes Go.WideShapes Go.ChangeAt Go.RowKit Go.Sort
set_option linter.unusedVariables false

theorem run_append_none {P : Program} {w : World} {t ty e : TypeId} {i : TypeInfo} {size base c : Nat} (ht : P.underlying t = some (.slice e)) (hi : P.info? e = some i)
    (v : Value) (n : Nat) (xs : List Value) (hown : w.ownsRow base e size v n xs) :
    (Builtin.append_ #[t, t] ty #[v, .slice none 0 c]).run P w = .ok v w := by
  rcases hown.2 with ⟨rfl, rfl⟩ | ⟨g, cap, cur, rfl, _, _, hnc, _⟩
  · simp [Builtin.append_, run_underlying ht, sizeOf, typeInfo, hi, Builtin.lenOf, Builtin.firstCells]
  · simp [Builtin.append_, run_underlying ht, sizeOf, typeInfo, hi, Builtin.lenOf, Builtin.firstCells, hnc, storeCells]

theorem wp_app {P : Program} {α : Type} {enc : α → List Value} {o : Oper} {a : Act} {w : World} {K : Act → World → Prop} {Q : Exit → Act → World → Prop} (s x : Operand) (t : TypeId)
    (ho : o.op = .call { callee := .builtin .append, args := #[s, x], argTypes := #[t, t] })
    (base : Nat) (e : TypeId) (i : TypeInfo) (z : Value) (size bytes : Nat) (ht : P.underlying t = some (.slice e)) (hi : P.info? e = some i) (hz : i.zero = some z)
    (hsize : i.size = size) (hby : i.bytes = bytes) (hzs : z.cells.size = size) (hsz : 0 < size) (hlen : ∀ x, (enc x).length = size) (hone : ∀ x, ∀ u ∈ enc x, u.oneCell' = true)
    (v : Value) (l0 : List α) (hs : a.eval s = v) (hown : Ow enc e size w base v l0) (A : Option Addr) (c : Nat) (l : List α) (n : Nat) (hn : n = l.length) (hx : a.eval x = .slice A n c) (hr : Rd enc size w A c l)
    (h63 : l0.length + l.length ≤ maxLen) (hbytes : (l0.length + l.length) * bytes ≤ 140737488355328) (hbase : base ≤ w.heap.size)
    (h : ∀ v' w', Ow enc e size w' base v' (l0 ++ l) → w.grownBy w' v.ownBlock → K (a.put o.dst v') w') : o.wp P a w K Q := by
  subst hn
  cases A with
  | none =>
    have h0 := hr.none_len
    obtain rfl : l = [] := List.eq_nil_of_length_eq_zero h0
    have hrun := run_append_none (P := P) (w := w) (ty := o.type) (c := c) ht hi v _ _ hown
    unfold Oper.wp execOp
    simp only [ho, resolve, invoke, builtin, Sem.run_bind, Sem.run_pure, Result.andThen_ok, List.map_toArray, List.map_cons, List.map_nil, hs, hx, List.length_nil, hrun]
    exact h v w (by simpa using hown) (World.grownBy.refl _ _)
  | some ad =>
    refine wp_append_own w s x t ho base e i z size bytes ht hi hz hsize hby hzs hsz v _ _ hs hown ad l.length c (l.flatMap enc) hx (flat_length hlen l) (hr.flat hsz hlen) (flat_one hone l) h63 hbytes hbase (fun v' w' ho' hg _ => h v' w' ?_ hg)
    unfold Ow
    rw [List.length_append, List.flatMap_append]
    exact ho'
theorem wl_app {P : Program} {α : Type} {enc : α → List Value} {ops : Array Oper} {rest : List Oper} {o : Oper} {a : Act} {w : World} {Q : Exit → Act → World → Prop} (hgd : o.guard = none) (s x : Operand) (t : TypeId)
    (ho : o.op = .call { callee := .builtin .append, args := #[s, x], argTypes := #[t, t] })
    (base : Nat) (e : TypeId) (i : TypeInfo) (z : Value) (size bytes : Nat) (ht : P.underlying t = some (.slice e)) (hi : P.info? e = some i) (hz : i.zero = some z)
    (hsize : i.size = size) (hby : i.bytes = bytes) (hzs : z.cells.size = size) (hsz : 0 < size) (hlen : ∀ x, (enc x).length = size) (hone : ∀ x, ∀ u ∈ enc x, u.oneCell' = true)
    (v : Value) (l0 : List α) (hs : a.eval s = v) (hown : Ow enc e size w base v l0) (A : Option Addr) (c : Nat) (l : List α) (n : Nat) (hn : n = l.length) (hx : a.eval x = .slice A n c) (hr : Rd enc size w A c l)
    (h63 : l0.length + l.length ≤ maxLen) (hbytes : (l0.length + l.length) * bytes ≤ 140737488355328) (hbase : base ≤ w.heap.size)
    (h : ∀ v' w', Ow enc e size w' base v' (l0 ++ l) → w.grownBy w' v.ownBlock → wpList P ops Q rest (a.put o.dst v') w') : wpList P ops Q (o :: rest) a w :=
  wpList_plain hgd fun _ hK => wp_app s x t ho base e i z size bytes ht hi hz hsize hby hzs hsz hlen hone v l0 hs hown A c l n hn hx hr h63 hbytes hbase fun v' w' h2 h3 => hK _ _ (h v' w' h2 h3)
/-- an empty row that was just laid is one's own -/
theorem own_empty {α : Type} {enc : α → List Value} {e : TypeId} {sz : Nat} {w : World} {p B : Nat} (h : w.heap[p]? = some (.cells #[] e (0, 0))) (hB : B ≤ p) : Ow enc e sz w B (.slice (some ⟨p, 0, none⟩) 0 0) ([] : List α) :=
  ⟨by simp, .inr ⟨p, 0, #[], rfl, hB, h, Nat.le_refl _, by unfold maxLen; omega, by simp, by simp⟩⟩
theorem Rd.take {α : Type} {enc : α → List Value} {sz : Nat} {w : World} {A : Option Addr} {c : Nat} {l : List α} (h : Rd enc sz w A c l) (n : Nat) : Rd enc sz w A c (l.take n) := by
  refine ⟨Nat.le_trans (by simp; omega) h.1, h.2.1, fun h0 => ?_⟩
  have hl : 0 < l.length := by
    rw [List.length_take] at h0; omega
  obtain ⟨b, o, e, hb, hc⟩ := h.2.2 hl
  refine ⟨b, o, e, hb, fun k hk j u hu => ?_⟩
  have hk2 : k < l.length := by rw [List.length_take] at hk; omega
  refine hc k hk2 j u ?_
  rw [List.getElem_take] at hu
  exact hu
end Go.Proofs.Ytpghedeghoegmaa

