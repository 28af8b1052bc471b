/- What a law on a replica needs besides: bounds of marks, what a replica made anew promises. -/
import Derived.Test.YtmpjokdidomafaaGreatDw
import Derived.Test.YtmpjokdidomafaaGreatMr
namespace Go.Proofs.YtmpjokdidomafaaGreat
open Go.ChangeShapes Go.WideShapes Go.ChangeAt Go.RowKit Go.Sort
set_option linter.unusedVariables false

theorem LgS.congr {ps qs : List VtE} (h : ps.map Prod.snd = qs.map Prod.snd) (hs : LgS ps) : LgS qs := fun q hq => by
  have h1 : q.2 ∈ qs.map Prod.snd := List.mem_map_of_mem hq
  rw [← h] at h1
  obtain ⟨p, hp, he⟩ := List.mem_map.1 h1
  rw [← he]
  exact hs p hp
theorem mN_lgN (l : Lg) : l.mN ≤ 5 * lgN l := by unfold Lg.mN lgN; omega
theorem Ks_bound (k : Int) (ps : List VtE) : ∀ j, j ≤ ps.length → VtE.Ks k ps j ≤ k + 7 * j + 5 * vsN ps j
  | 0, _ => by simp [VtE.Ks, vsN]
  | j + 1, hj => by
    have ih := Ks_bound k ps j (by omega)
    have h1 := VtE.Ks_next k (ps := ps) (j := j) (by omega)
    have h2 := vsN_next (ps := ps) (k := j) (by omega)
    have h3 := mN_lgN (ps[j]'(by omega)).2.log
    have h4 : (ps[j]'(by omega)).2.mN = 7 + (ps[j]'(by omega)).2.log.mN := rfl
    rw [h1, h2, h4]
    omega
/-- the marks of a replica as great as this one stay small -/
theorem rpK_small {ps qs : List VtE} {r : Rp} (h : ps.map Prod.snd = qs.map Prod.snd) (hn : rpN ps r ≤ 1048576) : rpK 1 qs r ≤ 1000000000 := by
  have hl : qs.length = ps.length := by simpa using (congrArg List.length h).symm
  have h1 := Ks_bound (1 + r.log.mN) qs qs.length (Nat.le_refl _)
  have h2 := mN_lgN r.log
  have h3 := vsN_congr h ps.length
  unfold rpK
  unfold rpN at hn
  rw [hl] at h1 ⊢
  rw [← h3] at h1
  omega
theorem rpK_pos {ps : List VtE} {r : Rp} : 0 ≤ rpK 1 ps r := by
  have h1 := VtE.Ks_ge (1 + r.log.mN) ps ps.length
  have h2 := r.log.mN_pos
  unfold rpK
  omega
/-- a replica's value that reads as r -/
def RpV (n : Nat) (r : Rp) (v : Value) (w : World) : Prop := ∃ a g qs, v = Rp.val a (some ⟨g, 0, none⟩) n n r ∧ List.length qs = n ∧ RpR w a (some ⟨g, 0, none⟩) n qs r
theorem RpV.mono (n : Nat) (r : Rp) : Mono (RpV n r) := fun v w w' ⟨a, g, qs, h, hl, hr⟩ hx => ⟨a, g, qs, h, hl, hr.keep hx⟩
/-- 'is it the same as one made anew?' -/
theorem c_eqAnew (a : LAd) (A : Option Addr) (c : Nat) (qs : List VtE) (r : Rp) (n : Nat) (hl : r.log.small) (w : World) (ha : RpR w a A c qs r) (hqn : qs.length = n) (hn : n ≤ 1048576) (hv : LgS qs) (v : Value) (hvr : RpV n r v w) :
    Calls Tryz.prog 11 #[Rp.val a A n c r, v] w fun e w' => e = .returned (.bool true) ∧ Ext w w' := by
  obtain ⟨b, g, rs, rfl, hrl, hb⟩ := hvr
  subst hqn
  have := c_eqReplica_same a b A (some ⟨g, 0, none⟩) c qs.length qs rs r hl w ha hb hn hv
  rw [hrl] at this
  exact this
theorem chg_low {a b c : World} {S : List Nat} (h : Ext a b) (k : Chg b c S) (hS : ∀ g ∈ S, a.heap.size ≤ g) : Ext a c := ext_chg h k hS
theorem RpO.fp_in {w : World} {B T : Nat} {a : LAd} {A : Option Addr} {c : Nat} {ps : List VtE} {r : Rp} (h : RpO w B T a A c ps r) : ∀ k ∈ a.fp ++ vsF A ps, B ≤ k ∧ k < T := fun k hk => by
  rcases List.mem_append.1 hk with hk | hk
  · exact ⟨h.l.low k hk, h.l.top k hk⟩
  · exact ⟨(h.v.low k hk).1, h.v.top k hk⟩
end Go.Proofs.YtmpjokdidomafaaGreat
