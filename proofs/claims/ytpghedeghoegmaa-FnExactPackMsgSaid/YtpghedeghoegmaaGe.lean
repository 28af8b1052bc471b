/- Votes: their box, the bounds of a good log. -/
import Derived.Test.YtpghedeghoegmaaCl
import Derived.Test.YtpghedeghoegmaaGc
import Derived.Test.YtpghedeghoegmaaCp
import Derived.Test.YtpghedeghoegmaaAp
namespace Go.Proofs.Ytpghedeghoegmaa
open Go.ChangeShapes Go.WideShapes Go.ChangeAt Go.RowKit Go.Sort
set_option linter.unusedVariables false
set_option linter.unusedSimpArgs false

theorem logOk_b {l : Lg} (h : logOk l = true) : 0 ≤ l.base ∧ l.base ≤ 1000000000 ∧ l.ents.length ≤ 60 := by
  have h1 := of_decide_eq_true h
  have := (inB_yes _ _ _).1 h1.1
  exact ⟨this.1, this.2, h1.2.2.1⟩
end Go.Proofs.Ytpghedeghoegmaa

/- Copies of votes and replicas, of the program. -/
namespace Go.Proofs.Ytpghedeghoegmaa
open Go.ChangeShapes Go.WideShapes Go.ChangeAt Go.RowKit Go.Sort
set_option linter.unusedVariables false
set_option linter.unusedSimpArgs false

/-- the logs of votes are the call's own -/
structure VsQ (w : World) (B : Nat) (qs : List VtE) : Prop where
  l : ∀ p ∈ qs, LgO w B w.heap.size p.1 p.2.log
  nd : (qs.flatMap (fun p => p.1.fp)).Nodup
theorem VsQ.nil (w : World) (B : Nat) : VsQ w B [] := ⟨by simp, by simp⟩
theorem VsQ.step {w w' : World} {B : Nat} {qs : List VtE} {a : LAd} {v : Vt} (h : VsQ w B qs) (hB : B ≤ w.heap.size) (ho : LgO w' w.heap.size w'.heap.size a v.log) (hx : Ext w w') : VsQ w' B (qs ++ [(a, v)]) := by
  refine ⟨fun p hp => ?_, ?_⟩
  · rcases List.mem_append.1 hp with hp | hp
    · exact ((h.l p hp).kept hx).wide (Nat.le_refl _) hx.size
    · rw [List.mem_singleton] at hp
      subst hp
      exact ho.wide hB (Nat.le_refl _)
  · simp only [List.flatMap_append, List.flatMap_cons, List.flatMap_nil, List.append_nil]
    rw [List.nodup_append]
    refine ⟨h.nd, ho.nd, fun x hx1 y hy he => ?_⟩
    subst he
    obtain ⟨p, hp, hxp⟩ := List.mem_flatMap.1 hx1
    have h1 := (h.l p hp).lt x hxp
    have h2 := ho.low x hy
    omega
theorem VsQ.chg {w w' : World} {B : Nat} {qs : List VtE} {S : List Nat} (h : VsQ w B qs) (hg : Chg w w' S) (hne : ∀ p ∈ qs, ∀ k ∈ p.1.fp, k ∉ S) : VsQ w' B qs :=
  ⟨fun p hp => ((h.l p hp).chg hg (hne p hp)).wide (Nat.le_refl _) hg.size, h.nd⟩
theorem VsQ.kept {w w' : World} {B : Nat} {qs : List VtE} (h : VsQ w B qs) (hx : Ext w w') : VsQ w' B qs := ⟨fun p hp => ((h.l p hp).kept hx).wide (Nat.le_refl _) hx.size, h.nd⟩
theorem chg_set {w w' : World} {S : List Nat} (h : Chg w w' S) {p : Addr} (hp : p.block ∈ S) (u : Value) : Chg w (w'.setCell p u) S :=
  ⟨h.os, h.tape, h.output, by simpa using h.size, fun k hk hn => (Below.heap_setCell _ _ _ _ (fun he => hn (by rw [he]; exact hp))).trans (h.block k hk hn)⟩
theorem VtE.one (p : VtE) : ∀ u ∈ p.enc, u.oneCell' = true := by
  intro u hu
  simp [VtE.enc] at hu
  rcases hu with rfl | rfl | rfl | rfl | rfl | rfl | rfl | rfl | rfl | rfl <;> rfl
theorem Rd.one {α : Type} {enc : α → List Value} {sz : Nat} {w : World} {p : Nat} {cs : Array Value} {T : TypeId} {x : α} (h : w.heap[p]? = some (.cells cs T (0, 0))) (hx : cs.toList = enc x) : Rd enc sz w (some ⟨p, 0, none⟩) 1 [x] := by
  refine ⟨Nat.le_refl _, by unfold maxLen; omega, fun _ => ⟨p, 0, rfl, bx_lt h, fun k hk j u hu => ?_⟩⟩
  simp only [List.length_singleton] at hk
  obtain rfl : k = 0 := by omega
  rw [bx_cell h]
  simp only [List.getElem_cons_zero] at hu
  rw [← hx] at hu
  simpa using hu

end Go.Proofs.Ytpghedeghoegmaa
