/- FnExactBestVote: for every input the law returns true. No condition. -/
import Derived.Test.YtmpjokdidomafaaDo
import Derived.Test.YtmpjokdidomafaaBv
namespace Go.Proofs.Ytmpjokdidomafaa.l21
open Go.ChangeShapes Go.WideShapes Go.ChangeAt Go.RowKit Go.Joins Go.Deep Go.Sort
set_option linter.unusedVariables false

theorem small_of : ∀ (ps : List VtE) (n : Nat), ps.length + vsN ps ps.length ≤ n → n ≤ 1048576 → LgS ps := fun ps n h hn p hp => by
  obtain ⟨k, hk, rfl⟩ := List.mem_iff_getElem.1 hp
  have h1 := vsN_next hk
  have h2 := vsN_up ps (k + 1) (ps.length - (k + 1))
  rw [show k + 1 + (ps.length - (k + 1)) = ps.length by omega] at h2
  have h3 : lgN ps[k].2.log = ps[k].2.log.cells.length + ps[k].2.log.seats.length + ps[k].2.log.ents.length := rfl
  unfold Lg.small
  omega
def bStepF (f : Nat → Option Vt) (k : Nat) (b : Option Nat) : Bool := match f k with
  | none => false
  | some v => v.kind == 6 && match b with
    | none => true
    | some j => match f j with
      | some u => btr v u
      | none => true
theorem bStep_f (ps : List VtE) (k : Nat) (b : Option Nat) : bStep ps k b = bStepF (fun i => ps[i]?.map Prod.snd) k b := by
  unfold bStep bStepF
  cases h : ps[k]? with
  | none => simp [h]
  | some v =>
    cases b with
    | none => simp [h]
    | some j => cases h2 : ps[j]? <;> simp [h, h2]
theorem bTo_congr {ps qs : List VtE} (h : ps.map Prod.snd = qs.map Prod.snd) : ∀ k, bTo ps k = bTo qs k
  | 0 => rfl
  | k + 1 => by
    have ih := bTo_congr h k
    have hat : (fun i : Nat => ps[i]?.map Prod.snd) = (fun i : Nat => qs[i]?.map Prod.snd) := funext fun i => by
      have := congrArg (fun l => l[i]?) h
      simpa using this
    unfold bTo
    rw [ih, bStep_f, bStep_f, hat]
theorem bestV_congr {ps qs : List VtE} (h : ps.map Prod.snd = qs.map Prod.snd) : bestV ps = bestV qs := by
  have hl : ps.length = qs.length := by simpa using congrArg List.length h
  have hok : VsOk ps ↔ VsOk qs := by
    have e : ∀ rs : List VtE, VsOk rs ↔ ∀ v ∈ rs.map Prod.snd, logOk v.log = true := fun rs => ⟨fun h v hv => by obtain ⟨p, hp, rfl⟩ := List.mem_map.1 hv; exact h p hp, fun h p hp => h _ (List.mem_map_of_mem hp)⟩
    rw [e, e, h]
  unfold bestV
  rw [bTo_congr h, hl]
  by_cases hc : qs.length ≤ 20 ∧ VsOk qs
  · rw [if_pos hc, if_pos ⟨hc.1, hok.2 hc.2⟩]
  · rw [if_neg hc, if_neg (fun hp => hc ⟨hp.1, hok.1 hp.2⟩)]
theorem VsS.lgS {ps qs : List VtE} (h : VsS ps qs ps.length) (hs : LgS ps) : LgS qs := fun q hq => by
  have h1 : q.2 ∈ qs.map Prod.snd := List.mem_map_of_mem hq
  unfold VsS at h
  rw [h, List.take_length] at h1
  obtain ⟨p, hp, he⟩ := List.mem_map.1 h1
  rw [← he]
  exact hs p hp
theorem VsS.same {ps qs : List VtE} (h : VsS ps qs ps.length) : ps.map Prod.snd = qs.map Prod.snd := by
  unfold VsS at h
  rw [h, List.take_length]

theorem walk (A : Option Addr) (c : Nat) (ps : List VtE) (w : World) (ha : VsR w A c ps) : Calls Try.prog 3 #[.slice A ps.length c] w fun e w' => e = .returned (.bool true) ∧ Ext w w' := by
  have hcon := c_szVoteS A c ps 1048576 (by omega) (by omega) w ha
  by_cases hn : ps.length + vsN ps ps.length ≤ 1048576
  · have hls : (1048576 : Int) - ((ps.length + vsN ps ps.length : Nat) : Int) ≥ 0 := by omega
    rw [szV_le (by omega)] at hcon
    have hs := small_of ps _ hn (Nat.le_refl _)
    have HS := Lib.hid hs
    have HA := Lib.hid ha
    have hn1 : ps.length ≤ 1048576 := by omega
    clear hs ha
    go_enter Try.func3, Try.ntmps3
    go_wp2_with fail
    refine hcon.mono ?_
    rintro e w1 ⟨rfl, X1⟩
    clear hcon
    go_wp2_with fail
    refine (c_toVoteS A c ps _ (HA.out.keep X1) hn1 HS.out).mono ?_
    rintro e w2 ⟨g2, qs2, hq2, rfl, o2, x2⟩
    have X2 := Ext.trans X1 x2
    have l2 := hq2.length (Nat.le_refl _)
    have hc2 := c_sBestVote (some ⟨g2, 0, none⟩) ps.length qs2 _ o2.rd (VsS.lgS hq2 HS.out) (by omega)
    rw [l2, ← bestV_congr (VsS.same hq2)] at hc2
    have HQ2 := Lib.hid hq2
    clear hq2 l2 o2
    go_wp2_with fail
    refine hc2.mono ?_
    rintro e w3 ⟨rfl, x3⟩
    clear hc2
    have X3 := Ext.trans X2 x3
    go_wp2_with fail
    refine (c_toVoteS A c ps _ (HA.out.keep X3) hn1 HS.out).mono ?_
    rintro e w4 ⟨g4, qs4, hq4, rfl, o4, x4⟩
    have X4 := Ext.trans X3 x4
    have l4 := hq4.length (Nat.le_refl _)
    have hc4 := c_iBestVote (some ⟨g4, 0, none⟩) ps.length qs4 _ o4.rd (VsS.lgS hq4 HS.out) (by omega)
    rw [l4, ← bestV_congr (VsS.same hq4)] at hc4
    have HQ4 := Lib.hid hq4
    have HO4 := Lib.hid o4
    clear hq4 l4 o4
    go_wp2_with fail
    refine hc4.mono ?_
    rintro e w5 ⟨rfl, x5⟩
    clear hc4
    have X5 := Ext.trans X4 x5
    go_wp2_with fail
    refine (c_toVoteS A c ps _ (HA.out.keep X5) hn1 HS.out).mono ?_
    rintro e w6 ⟨g6, qs6, hq6, rfl, o6, x6⟩
    have X6 := Ext.trans X5 x6
    have hc6 := c_eqVoteS_same (some ⟨g4, 0, none⟩) (some ⟨g6, 0, none⟩) ps.length ps.length qs4 qs6 ((VsS.same HQ4.out).symm.trans (VsS.same hq6)) (VsS.lgS HQ4.out HS.out) _ (HO4.out.kept (Ext.trans x5 x6)).rd o6.rd (by have := HQ4.out.length (Nat.le_refl _); omega)
    rw [HQ4.out.length (Nat.le_refl _), hq6.length (Nat.le_refl _)] at hc6
    clear hq6 o6
    go_wp2_with fail
    refine hc6.mono ?_
    rintro e w7 ⟨rfl, x7⟩
    clear hc6
    go_wp2
    go_ret
    exact ⟨rfl, Ext.trans X6 x7⟩
  · rw [szV_gt (by omega)] at hcon
    go_enter Try.func3, Try.ntmps3
    go_wp2_with fail
    refine hcon.mono ?_
    rintro e w1 ⟨rfl, X1⟩
    clear hcon
    go_wp2
    go_ret
    exact ⟨rfl, X1⟩

set_option maxRecDepth 100000 in
theorem lifted (os : Os) (started : os.Started) (H : Type) (enc : TypeId × Value → H) :
    ReturnsInHanded {} Try.checked os 3 .any (Rows.fnExactBestVoteSpec.pre6 enc Try.prog Try.f3 Rows.fnExactBestVoteRow.domain false) (Rows.fnExactBestVoteSpec.post enc Try.prog Try.f3 false true false false) := by
  refine returnsInHanded_of_change (C := Try.checked) own started (by kernel_rfl) Try.func3
    (ChangeSpec.witness6 (enc := enc) (C := Try.checked) false ⟨#[], #[.slice none 0 0], []⟩ 8 (by kernel_rfl) (by kernel_rfl) (by kernel_rfl) (by kernel_rfl)) ?_
  intro W base args ds gs before hval0 hW hcnd _
  have hval : ∀ (j : Nat) t v, Try.f3.params[j]? = some t → args[j]? = some v → Value.okWide Try.prog W .any base t v := hval0
  have hW' := hW
  obtain ⟨p, q, hA0, hV, rfl, hfz, hnd⟩ := hW
  have hA : DataW.TrodAll enc Try.prog W 0 (fun _ => true) true Try.f3.params.toList args.toList ds p := hA0
  rw [Try.params3] at hA hval
  obtain ⟨rfl, rfl⟩ := trodVars_none hV
  obtain ⟨v0, vs0, d0, ds0, p0, q0, hargs, rfl, rfl, h0, r0⟩ := trodAll_cons hA
  obtain ⟨rfl, rfl, rfl⟩ := trodAll_nil r0
  obtain rfl : args = #[v0] := by cases args; simp_all
  clear hA0 hval0
  refine Calls.mono (R := fun e W' => e = .returned (.bool true) ∧ Ext W W') ?_ (fun e W' ⟨he, hx⟩ => by
    subst he
    exact ⟨_, rfl, law_post laidOut Try.underlying4 hW' hx rfl rfl rfl rfl (by kernel_rfl) rfl⟩)
  clear hW'
  exact (by obtain ⟨A, c, ps, rfl, hr⟩ := open_VoteS (hval 0 _ _ rfl rfl) h0; exact walk A c ps W hr)

theorem over : Rows.fnExactBestVoteRow.holds Try.pinned (OpenSpec.ofChange Rows.fnExactBestVoteSpec) :=
  OpenClaim.holds_of_wide 3 Try.f3 rfl rfl rfl rfl rfl rfl rfl ⟨rfl, rfl, rfl, rfl, rfl⟩ rfl rfl rfl rfl rfl (by kernel_rfl) Try.func3 (by kernel_rfl)
    (of_decide_eq_true (by kernel_rfl)) (by unfold Func.isWrapper; first | (rw [if_pos (by decide +kernel)]; kernel_rfl) | (rw [if_neg (by decide +kernel)]; exact ⟨rfl, rfl⟩))
    (fun os started H enc _ => lifted os started H enc)

theorem proved : Rows.FnExactBestVoteSaid := over
end Go.Proofs.Ytmpjokdidomafaa.l21
