/- OnPrepare of the program; the marks of a replica that prepares. -/
import Derived.Test.YtkenlhdiehaemaaGreatPk51
import Derived.Test.YtkenlhdiehaemaaGreatPk44
import Derived.Test.YtkenlhdiehaemaaGreatPk49
import Derived.Test.YtkenlhdiehaemaaGreatPk48
namespace Go.Proofs.YtkenlhdiehaemaaGreat
open Go.ChangeShapes Go.WideShapes Go.ChangeAt Go.RowKit Go.Sort
set_option linter.unusedVariables false
set_option linter.unusedSimpArgs false
theorem lokI {l : Lg} (h : logOk l = true) : l.small := by
 obtain ⟨_, _, h60, hI, _⟩ := log_b h
 have h7 : l.cells.length ≤ 40 := hI.c.len
 have h8 : l.seats.length ≤ 10 := hI.s.len
 exact ⟨by omega, by omega, by omega⟩
theorem RoS.right {ps : List VtE} {r : Rp} {O : List Ot} (he : ps.map Prod.snd = r.votes) (hn : rpN ps r ≤ 1048576) (hvs : LgS ps) {R : Rp} (h1 : logOk R.log = true) (h2 : R.votes = r.votes) (h3 : ∀ o ∈ O, o.msg.log.small) (h4 : O.length ≤ 80) : RoS ps R O := by
 refine ⟨lokI h1, fun qs hq => ?_, h3, h4⟩
 rw [h2] at hq
 have hl : qs.length = ps.length := by simpa using (congrArg List.length (he.trans hq.symm)).symm
 refine ⟨LgS.congr (he.trans hq.symm) hvs, by unfold rpN at hn; omega, ?_⟩
 have h5 := Ks_bound (1 + R.log.mN) qs qs.length (Nat.le_refl _)
 have h6 := vsN_congr (he.trans hq.symm) ps.length
 obtain ⟨_, _, h60, hI, _⟩ := log_b h1
 have h7 : R.log.cells.length ≤ 40 := hI.c.len
 have h8 : R.log.seats.length ≤ 10 := hI.s.len
 unfold rpK
 unfold rpN at hn
 have h9 : R.log.mN ≤ 1000 := by unfold Lg.mN; omega
 rw [hl] at h5 ⊢
 rw [← h6] at h5
 omega
theorem setOp_len (l : List Vt) (k : Nat) (x : Int) : (setOp l k x).length = l.length := by
 unfold setOp
 split <;> simp
theorem setOp_mem {l : List Vt} {k : Nat} {x : Int} {v : Vt} (h : v ∈ setOp l k x) : ∃ v0 ∈ l, v.log = v0.log ∧ v.commit = v0.commit := by
 unfold setOp at h
 split at h
 ·rename_i v1 he
  rcases List.mem_or_eq_of_mem_set h with h | h
  ·exact ⟨v, h, rfl, rfl⟩
  ·exact ⟨v1, List.mem_of_getElem? he, by rw [h]; rfl, by rw [h]; rfl⟩
 ·exact ⟨v, h, rfl, rfl⟩
theorem okL_good {r : Rp} {m : Mg} (hT : RpT r) : (okL r m).length ≤ 20 ∧ ∀ v ∈ okL r m, logOk v.log = true ∧ v.log.base ≤ v.commit ∧ v.commit ≤ v.log.fin := by
 have h20 := hT.votes
 unfold okL
 split
 ·refine ⟨by rw [setOp_len]; exact h20, fun v hv => ?_⟩
  obtain ⟨v0, h0, h1, h2⟩ := setOp_mem hv
  rw [h1, h2]
  exact hT.vok v0 h0
 ·split
  ·refine ⟨by rw [List.length_append, List.length_singleton]; omega, fun v hv => ?_⟩
   rcases List.mem_append.1 hv with hv | hv
   ·exact hT.vok v hv
   ·rw [Mi] at hv
    subst hv
    show logOk Lg.none = true ∧ Lg.none.base ≤ 0 ∧ 0 ≤ Lg.none.fin
    decide +kernel
  ·exact ⟨h20, hT.vok⟩
theorem okO_small {r : Rp} {m : Mg} (h : rpOk r = true) : (∀ o ∈ okO r m, o.msg.log.small) ∧ (okO r m).length ≤ 80 := by
 have g := rpOk_good h
 have hb := okN_b (m := m) g
 unfold okO
 split
 ·refine ⟨fun o ho => ?_, ?_⟩
  ·rcases List.mem_append.1 ho with ho | ho
   ·exact ansO_small _ _ _ _ o ho
   ·rw [allTo_log _ o ho]
    exact ⟨by simp [comM, Lg.none], by simp [comM, Lg.none], by simp [comM, Lg.none]⟩
  ·have h1 := ansO_len r.view r.log (r.commit - r.log.base).toNat (okN r m - r.commit).toNat
   have h2 := allTo_len r.me (comM r (okN r m)) r.of.toNat
   have h3 := g.of
   have h4 := g.ents
   have h5 := g.c0
   have h6 : r.log.fin = r.log.base + r.log.ents.length := rfl
   rw [List.length_append]
   omega
 ·simp
theorem ok_small {ps : List VtE} {r : Rp} {m : Mg} (he : ps.map Prod.snd = r.votes) (hn : rpN ps r ≤ 1048576) (hlog : r.log.small) (hvs : LgS ps) (q1 : rpOk r = true) : RoS ps (okR r m) (okO r m) := by
 obtain ⟨h3, h4⟩ := okO_small (m := m) q1
 cases hB : okB r m
 ·have e : okR r m = r := by unfold okR; rw [hB]; rfl
  rw [e]
  exact RoS.same he hn hlog hvs rfl rfl h3 h4
 ·have hl : liveB r = true := by
   unfold okB at hB
   simp only [Bool.and_eq_true] at hB
   unfold liveB
   rw [hB.1]
   rfl
  have hT := rpOk_T q1 hl
  have g := rpOk_good q1
  have hb := okN_b (m := m) g
  obtain ⟨v1, v2⟩ := okL_good (m := m) hT
  have e : okR r m = r.comTo (okL r m) (okN r m) := by unfold okR; rw [hB]; rfl
  rw [e]
  exact RoS.ofT ⟨hT.of, hT.me0, hT.me1, hT.view0, hT.view1, hT.cell, hT.lok, Int.le_trans hT.c0 hb.1, hb.2, v1, v2⟩ h3 h4
end Go.Proofs.YtkenlhdiehaemaaGreat
