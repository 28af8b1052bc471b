/- Arguments that are logs, messages, replicas, opened. -/
import Derived.Test.YtmphedkbdlckhaaDo
import Derived.Test.YtmphedkbdlckhaaRp
import Derived.Test.YtmphedkbdlckhaaMv
namespace Go.Proofs.Ytmphedkbdlckhaa
open Go.ChangeShapes Go.WideShapes Go.ChangeAt Go.RowKit Go.Joins Go.Deep
set_option linter.unusedVariables false

theorem list4 {α : Type} {l : List α} (h : l.length = 4) : ∃ a b c d, l = [a, b, c, d] := by match l, h with | [a, b, c, d], _ => exact ⟨a, b, c, d, rfl⟩
theorem list13 {α : Type} {l : List α} (h : l.length = 13) : ∃ a b c d e f g i j k m n o, l = [a, b, c, d, e, f, g, i, j, k, m, n, o] := by match l, h with | [a, b, c, d, e, f, g, i, j, k, m, n, o], _ => exact ⟨a, b, c, d, e, f, g, i, j, k, m, n, o, rfl⟩
theorem list17 {α : Type} {l : List α} (h : l.length = 17) : ∃ a b c d e f g i j k m n o p q r s, l = [a, b, c, d, e, f, g, i, j, k, m, n, o, p, q, r, s] := by match l, h with | [a, b, c, d, e, f, g, i, j, k, m, n, o, p, q, r, s], _ => exact ⟨a, b, c, d, e, f, g, i, j, k, m, n, o, p, q, r, s, rfl⟩
section
variable {H : Type} {enc : TypeId × Value → H} {w : World} {base : Nat} {spare : Nat → Bool} {held : Bool}
end

/-! ### sizes -/
theorem lgN_small {l : Lg} {n : Nat} (h : lgN l ≤ n) (hn : n ≤ 1048576) : l.small := by unfold lgN at h; unfold Lg.small; omega
theorem vsN_small (ps : List VtE) (n : Nat) (h : ps.length + vsN ps ps.length ≤ n) (hn : n ≤ 1048576) : LgS ps := fun p hp => by
  obtain ⟨k, hk, rfl⟩ := List.mem_iff_getElem.1 hp
  have h1 := vsN_next hk
  have h2 := vsN_up ps (k + 1) (ps.length - (k + 1))
  rw [show k + 1 + (ps.length - (k + 1)) = ps.length by omega] at h2
  exact lgN_small (n := n) (by omega) hn
theorem vsN_congr {ps qs : List VtE} (h : ps.map Prod.snd = qs.map Prod.snd) : ∀ k, vsN ps k = vsN qs k
  | 0 => rfl
  | k + 1 => by
    have ih := vsN_congr h k
    have hat : ps[k]?.map Prod.snd = qs[k]?.map Prod.snd := by
      have := congrArg (fun l => l[k]?) h
      simpa using this
    unfold vsN
    rw [ih]
    congr 1
    revert hat
    cases ps[k]? <;> cases qs[k]? <;> intro hat
    · rfl
    · simp at hat
    · simp at hat
    · simp at hat
      simp only [hat]
end Go.Proofs.Ytmphedkbdlckhaa

/- The laws' own functions on replicas: marked, held. -/
namespace Go.Proofs.Ytmphedkbdlckhaa
open Go.ChangeShapes Go.WideShapes Go.ChangeAt Go.RowKit Go.Sort
set_option linter.unusedVariables false
set_option linter.unusedSimpArgs false

/-- the number behind the marks of a replica -/
def rpK (k : Int) (ps : List VtE) (r : Rp) : Int := VtE.Ks (k + r.log.mN) ps ps.length
/-- how it reads when it is marked -/
structure RpH (w : World) (a : LAd) (A : Option Addr) (c : Nat) (ps : List VtE) (r : Rp) (k : Int) : Prop where
  l : LgR w a (r.log.mk' k r.log.base)
  v : VsR w A c (VtE.mks (k + r.log.mN) ps)
theorem RpH.keep {w w' : World} {a : LAd} {A : Option Addr} {c : Nat} {ps : List VtE} {r : Rp} {k : Int} (h : RpH w a A c ps r k) (hx : Ext w w') : RpH w' a A c ps r k := ⟨h.l.keep hx, h.v.keep hx⟩
end Go.Proofs.Ytmphedkbdlckhaa

/- What a law on a replica needs besides: bounds of marks, what a replica made anew promises. -/
namespace Go.Proofs.Ytmphedkbdlckhaa
open Go.ChangeShapes Go.WideShapes Go.ChangeAt Go.RowKit Go.Sort
set_option linter.unusedVariables false

theorem LgS.congr {ps qs : List VtE} (h : ps.map Prod.snd = qs.map Prod.snd) (hs : LgS ps) : LgS qs := fun q hq => by
  have h1 : q.2 ∈ qs.map Prod.snd := List.mem_map_of_mem hq
  rw [← h] at h1
  obtain ⟨p, hp, he⟩ := List.mem_map.1 h1
  rw [← he]
  exact hs p hp
theorem mN_lgN (l : Lg) : l.mN ≤ 5 * lgN l := by unfold Lg.mN lgN; omega
theorem Ks_bound (k : Int) (ps : List VtE) : ∀ j, j ≤ ps.length → VtE.Ks k ps j ≤ k + 7 * j + 5 * vsN ps j
  | 0, _ => by simp [VtE.Ks, vsN]
  | j + 1, hj => by
    have ih := Ks_bound k ps j (by omega)
    have h1 := VtE.Ks_next k (ps := ps) (j := j) (by omega)
    have h2 := vsN_next (ps := ps) (k := j) (by omega)
    have h3 := mN_lgN (ps[j]'(by omega)).2.log
    have h4 : (ps[j]'(by omega)).2.mN = 7 + (ps[j]'(by omega)).2.log.mN := rfl
    rw [h1, h2, h4]
    omega
/-- the marks of a replica as great as this one stay small -/
theorem rpK_small {ps qs : List VtE} {r : Rp} (h : ps.map Prod.snd = qs.map Prod.snd) (hn : rpN ps r ≤ 1048576) : rpK 1 qs r ≤ 1000000000 := by
  have hl : qs.length = ps.length := by simpa using (congrArg List.length h).symm
  have h1 := Ks_bound (1 + r.log.mN) qs qs.length (Nat.le_refl _)
  have h2 := mN_lgN r.log
  have h3 := vsN_congr h ps.length
  unfold rpK
  unfold rpN at hn
  rw [hl] at h1 ⊢
  rw [← h3] at h1
  omega
theorem rpK_pos {ps : List VtE} {r : Rp} : 0 ≤ rpK 1 ps r := by
  have h1 := VtE.Ks_ge (1 + r.log.mN) ps ps.length
  have h2 := r.log.mN_pos
  unfold rpK
  omega
/-- a replica's value that reads as r -/
def RpV (n : Nat) (r : Rp) (v : Value) (w : World) : Prop := ∃ a g qs, v = Rp.val a (some ⟨g, 0, none⟩) n n r ∧ List.length qs = n ∧ RpR w a (some ⟨g, 0, none⟩) n qs r
theorem RpV.mono (n : Nat) (r : Rp) : Mono (RpV n r) := fun v w w' ⟨a, g, qs, h, hl, hr⟩ hx => ⟨a, g, qs, h, hl, hr.keep hx⟩
/-- 'is it the same as one made anew?' -/
theorem c_eqAnew (a : LAd) (A : Option Addr) (c : Nat) (qs : List VtE) (r : Rp) (n : Nat) (hl : r.log.small) (w : World) (ha : RpR w a A c qs r) (hqn : qs.length = n) (hn : n ≤ 1048576) (hv : LgS qs) (v : Value) (hvr : RpV n r v w) :
    Calls Try.prog 24 #[Rp.val a A n c r, v] w fun e w' => e = .returned (.bool true) ∧ Ext w w' := by
  obtain ⟨b, g, rs, rfl, hrl, hb⟩ := hvr
  subst hqn
  have := c_eqReplica_same a b A (some ⟨g, 0, none⟩) c qs.length qs rs r hl w ha hb hn hv
  rw [hrl] at this
  exact this
theorem chg_low {a b c : World} {S : List Nat} (h : Ext a b) (k : Chg b c S) (hS : ∀ g ∈ S, a.heap.size ≤ g) : Ext a c := ext_chg h k hS
theorem RpO.fp_in {w : World} {B T : Nat} {a : LAd} {A : Option Addr} {c : Nat} {ps : List VtE} {r : Rp} (h : RpO w B T a A c ps r) : ∀ k ∈ a.fp ++ vsF A ps, B ≤ k ∧ k < T := fun k hk => by
  rcases List.mem_append.1 hk with hk | hk
  · exact ⟨h.l.low k hk, h.l.top k hk⟩
  · exact ⟨(h.v.low k hk).1, h.v.top k hk⟩
end Go.Proofs.Ytmphedkbdlckhaa
