/- The laws' comparison of rows of what is sent: equal ones are equal. -/
import Derived.Test.YtmpjokdidomafaaGreatOt
import Derived.Test.YtmpjokdidomafaaGreatLd
namespace Go.Proofs.YtmpjokdidomafaaGreat
open Go.ChangeShapes Go.WideShapes Go.ChangeAt Go.RowKit Go.Sort
set_option linter.unusedVariables false
set_option linter.unusedSimpArgs false

/-- what is sent, as a value -/
abbrev OtE.cells (a : LAd) (o : Ot) : Array Value := #[.int .i64 o.to, .int .i64 o.msg.kind, .int .i64 o.msg.frm, .int .i64 o.msg.view, .int .i64 o.msg.op, .int .i64 o.msg.commit, .int .i64 o.msg.normal, .int .i64 o.msg.nonce, .int .i64 o.msg.client, .int .i64 o.msg.req, .int .i64 o.msg.answer, .int .i64 o.msg.ck, .int .i64 o.msg.cx, .int .i64 o.msg.cv, .int .i64 o.msg.log.base, .slice a.cA o.msg.log.cells.length a.cc, .slice a.sA o.msg.log.seats.length a.sc, .slice a.eA o.msg.log.ents.length a.ec]
abbrev Mg.cs (a : LAd) (m : Mg) : Array Value := #[.int .i64 m.kind, .int .i64 m.frm, .int .i64 m.view, .int .i64 m.op, .int .i64 m.commit, .int .i64 m.normal, .int .i64 m.nonce, .int .i64 m.client, .int .i64 m.req, .int .i64 m.answer, .int .i64 m.ck, .int .i64 m.cx, .int .i64 m.cv, .int .i64 m.log.base, .slice a.cA m.log.cells.length a.cc, .slice a.sA m.log.seats.length a.sc, .slice a.eA m.log.ents.length a.ec]

set_option maxRecDepth 100000 in
set_option maxHeartbeats 4000000 in
theorem c_eqOut_same (a b : LAd) (o : Ot) (hl : o.msg.log.small) (w : World) (ha : LgR w a o.msg.log) (hb : LgR w b o.msg.log) :
    Calls Tryz.prog 42 #[.agg (OtE.cells a o), .agg (OtE.cells b o)] w fun e w' => e = .returned (.bool true) ∧ Ext w w' := by
  have X0 : Ext w ((w.alloc (.cells (OtE.cells a o) 83)).alloc (.cells (OtE.cells b o) 83)) := ext_to (ext_alloc _ _) _
  have HC := Lib.hid (c_eqMsg_same a b o.msg hl _ (ha.keep X0) (hb.keep X0))
  have B1 := hOld (o := .cells (OtE.cells b o) 83) (hNew (w := w) (o := .cells (OtE.cells a o) 83) rfl)
  have B2 := hNew (w := w.alloc (.cells (OtE.cells a o) 83)) (o := .cells (OtE.cells b o) 83) rfl
  rw [sz_alloc] at B2
  have M1 := Lib.hid (cells_mid (cs := Mg.cs a o.msg) B1 [.int .i64 o.to] [] rfl rfl)
  have M2 := Lib.hid (cells_mid (cs := Mg.cs b o.msg) B2 [.int .i64 o.to] [] rfl rfl)
  have HX := Lib.hid X0
  clear hl ha hb B1 B2 X0
  go_enter Tryz.func42, Tryz.ntmps42
  (go_wp2_with (with_reducible refine wl_stop 11 ?_); refine stop_loadAgg (M1.out) rfl Tryz.underlying63 (by kernel_rfl) ?_; simp only [Act.put, List.setIfInBounds_toArray, List.set_cons_zero, List.set_cons_succ])
  (go_wp2_with (with_reducible refine wl_stop 13 ?_); refine stop_loadAgg (M2.out) rfl Tryz.underlying63 (by kernel_rfl) ?_; simp only [Act.put, List.setIfInBounds_toArray, List.set_cons_zero, List.set_cons_succ])
  go_wp2_with fail
  refine HC.out.mono ?_
  rintro e w1 ⟨rfl, x1⟩
  go_wp2
  go_ret
  exact ⟨rfl, Ext.trans HX.out x1⟩

set_option maxRecDepth 100000 in
set_option maxHeartbeats 4000000 in
theorem c_eqOutS_same (A B : Option Addr) (ca cb : Nat) (ps qs : List OtE) (hpq : ps.map Prod.snd = qs.map Prod.snd) (hs : ∀ p ∈ ps, p.2.msg.log.small) (w : World) (ha : OsR w A ca ps) (hb : OsR w B cb qs) (hn : ps.length ≤ 1048576) :
    Calls Tryz.prog 12 #[.slice A ps.length ca, .slice B qs.length cb] w fun e w' => e = .returned (.bool true) ∧ Ext w w' := by
  have hl : ps.length = qs.length := by simpa using congrArg List.length hpq
  have hat : ∀ (k : Nat) (h : k < ps.length) (h' : k < qs.length), ps[k].2 = qs[k].2 := fun k h h' => by
    have := congrArg (fun l => l[k]?) hpq
    simp [h, h'] at this
    exact this
  rw [← hl]
  have HL := Lib.hid hl
  have HA := Lib.hid hat
  have HS := Lib.hid hs
  have HRa := Lib.hid ha
  have HRb := Lib.hid hb
  clear hl hpq hat hs ha hb
  go_enter Tryz.func12, Tryz.ntmps12
  go_wp2
  go_loopw [5] (fun i wr => ∃ k : Nat, k ≤ ps.length ∧ i = .int .i64 k ∧ Ext w wr) (fun i _ => ps.length - (intOf i).toNat)
  case atStart => exact ⟨0, Nat.zero_le _, rfl, ext_refl _⟩
  case round =>
    obtain ⟨k, hk, rfl, hx⟩ := hrel
    by_cases hlt : k < ps.length
    · have hltb : k < qs.length := by have := HL.out; omega
      obtain ⟨ab, ao, rfl, hab, ca'⟩ := (HRa.out.1.keep hx).2.2 (by omega)
      obtain ⟨bb, bo, hB, hbb, cb'⟩ := (HRb.out.1.keep hx).2.2 (by omega)
      have hr1 := (HRa.out.keep hx).2 ps[k] (List.getElem_mem hlt)
      have hr2 := (HRb.out.keep hx).2 qs[k] (List.getElem_mem hltb)
      have hsm := HS.out ps[k] (List.getElem_mem hlt)
      have he := HA.out k hlt hltb
      have M1 := Lib.hid (show ∀ j v, (OtE.cells ps[k].1 ps[k].2).toList[j]? = some v → wr.cell? ⟨ab, ao + k * 18 + j, none⟩ = some v from fun j v h => ca' k hlt j v h)
      have M2 := Lib.hid (show ∀ j v, (OtE.cells qs[k].1 ps[k].2).toList[j]? = some v → wr.cell? ⟨bb, bo + k * 18 + j, none⟩ = some v from fun j v h => cb' k hltb j v (by rw [he] at h; exact h))
      rw [← he] at hr2
      have HC := Lib.hid (fun W (h : Ext wr W) => c_eqOut_same ps[k].1 qs[k].1 ps[k].2 hsm W (hr1.keep h) (hr2.keep h))
      have Hab := Lib.hid hab
      have Hbb := Lib.hid hbb
      subst hB
      clear he ca' cb' hr1 hr2 hsm
      go_wp2
      (refine wp_region_mixb (fun _ _ _ _ _ hq => hq) 10 (by kernel_rfl) (by kernel_rfl) (fun hg => ?_); simp only [headOps, List.take_succ_cons, List.take_zero, List.filter_cons, List.filter_nil, isAlloc, Bool.not_false, Bool.false_eq_true, if_true, if_false, List.append_nil, List.drop_succ_cons, List.drop_zero])
      (iterate 3 (refine wpMix_plain rfl rfl ?_; go_big_quiet_step (fail); refine wpQuiet_nil ?_))
      (refine wpMix_loadAgg (Hab.out) (M1.out) rfl rfl rfl Tryz.underlying83 (by kernel_rfl) ?_; simp only [Act.put, List.setIfInBounds_toArray, List.set_cons_zero, List.set_cons_succ])
      (iterate 3 (refine wpMix_plain rfl rfl ?_; go_big_quiet_step (fail); refine wpQuiet_nil ?_))
      (refine wpMix_loadAgg (Hbb.out) (M2.out) rfl rfl rfl Tryz.underlying83 (by kernel_rfl) ?_; simp only [Act.put, List.setIfInBounds_toArray, List.set_cons_zero, List.set_cons_succ])
      (refine wpMix_det rfl rfl rfl (enters Tryz.func42 (by kernel_rfl) rfl) (fun W hW => HC.out W hW) rfl ?_; simp only [Act.put, List.setIfInBounds_toArray, List.set_cons_zero, List.set_cons_succ])
      (iterate 1 (refine wpMix_plain rfl rfl ?_; go_big_quiet_step (fail); refine wpQuiet_nil ?_))
      refine wpMix_nil ?_
      intro w2 hx2
      go_wp2
      go_roundw
      case rel => exact ⟨k + 1, by omega, by go_num, Ext.trans hx hx2⟩
      case measure => simp [intOf]; omega
    · go_wp2
      go_ret
      exact ⟨rfl, hx⟩
end Go.Proofs.YtmpjokdidomafaaGreat
