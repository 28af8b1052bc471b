/- Settled of the reference and of the program. -/
import Derived.Test.YtmpjokdidomafaaRo
import Derived.Test.YtmpjokdidomafaaCp
import Derived.Test.YtmpjokdidomafaaAp
import Derived.Test.YtmpjokdidomafaaAq
namespace Go.Proofs.Ytmpjokdidomafaa
open Go.ChangeShapes Go.WideShapes Go.ChangeAt Go.RowKit Go.Sort
set_option linter.unusedVariables false
set_option linter.unusedSimpArgs false

def setB (r : Rp) : Int := if rpOk r = true then r.log.base else 0
def setE (r : Rp) : List Ent := if rpOk r = true then r.log.ents.take (r.commit - r.log.base).toNat else []
theorem rpOk_num {r : Rp} (h : rpOk r = true) : hasNum r.log r.commit = true := by
  unfold rpOk at h
  simp only [Bool.and_eq_true] at h
  exact h.1.1.1.2
theorem set_n {r : Rp} (h : rpOk r = true) : ∃ n : Nat, r.commit - r.log.base = n ∧ n ≤ r.log.ents.length ∧ setE r = r.log.ents.take n ∧ setB r = r.log.base ∧ 0 ≤ r.log.base ∧ r.log.base ≤ 1000000000 ∧ r.commit ≤ 1000001000 ∧ 0 ≤ r.commit := by
  have h1 := hasNum_ok (rpOk_num h)
  have h2 := logOk_b h1.1
  unfold Lg.fin at h1
  refine ⟨(r.commit - r.log.base).toNat, by omega, by omega, by simp [setE, h], by simp [setB, h], h2.1, h2.2.1, by omega, by omega⟩
theorem set_bad {r : Rp} (h : rpOk r = false) : setE r = [] ∧ setB r = 0 := by simp [setE, setB, h]
theorem setE_le (r : Rp) : (setE r).length ≤ r.log.ents.length := by
  unfold setE
  split
  · simp; omega
  · simp

set_option maxRecDepth 100000 in
set_option maxHeartbeats 4000000 in
theorem c_iSettled (a : LAd) (A : Option Addr) (c : Nat) (ps : List VtE) (r : Rp) (w : World) (hr : RpR w a A c ps r) (hs : r.log.small) (hn : ps.length ≤ 1048576) (hv : LgS ps) :
    Calls Try.prog 22 #[Rp.val a A ps.length c r] w fun e w' => ∃ v, e = .returned (.tuple #[.int .i64 (setB r), v]) ∧ Ow Ent.enc 109 5 w' w.heap.size v (setE r) ∧ Ext w w' := by
  have X0 := ext_alloc w (Rp.obj a A ps.length c r)
  have hcon := c_iReplicaOk a A c ps r _ (hr.keep X0) hs hn hv
  cases q : rpOk r
  · rw [q] at hcon
    have HB := Lib.hid (set_bad q)
    have HC := Lib.hid hcon
    clear q hcon hr hs hv
    go_enter Try.func22, Try.ntmps22
    go_wp2_with fail
    refine HC.out.mono ?_
    rintro e w1 ⟨rfl, x1⟩
    go_wp2
    refine bodyPost_ret (v := .tuple #[.int .i64 0, .slice none 0 0]) (by simp [results, Try.results22, go_sem]) rfl ⟨.slice none 0 0, by rw [HB.out.2], ?_, Ext.trans X0 x1⟩
    rw [HB.out.1]
    exact World.ownsRow_nil _ _ _ _
  · rw [q] at hcon
    obtain ⟨n, hN, hle, hE, hB, p0, p1, p2, p3⟩ := set_n q
    have HE := Lib.hid hE
    have HB := Lib.hid hB
    have htl : (r.log.ents.take n).length = n := by simp; omega
    have hcl := fun W (h : Ext w W) => c_cloneEntryS a.eA a.ec (r.log.ents.take n) W ((hr.l.2.2.keep h).take n) (by have := hs.2.2; omega)
    rw [htl] at hcl
    have HCL := Lib.hid hcl
    have HC := Lib.hid hcon
    have hel := hs.2.2
    have hec := hr.l.2.2.1
    have hec2 := hr.l.2.2.2.1
    have hbase := hr.l.2.2.2.2
    clear q hcon hr hs hv hE hB hcl htl hbase
    go_enter Try.func22, Try.ntmps22
    go_wp2_with fail
    refine HC.out.mono ?_
    rintro e w1 ⟨rfl, x1⟩
    have B1 := x1.box (hNew (w := w) (o := Rp.obj a A ps.length c r) rfl)
    have b1 := bx_cell B1
    have f1 := bx_frozen B1
    have z1 := bx_lt B1
    clear B1
    have X1 := Ext.trans X0 x1
    have HX1 := Lib.hid X1
    go_wp2
    (refine wp_region_mix' (fun _ _ _ _ _ hq => hq) 14 (by kernel_rfl) (by kernel_rfl) (fun hg => ?_); simp only [headOps, List.take_succ_cons, List.take_zero, List.filter_cons, List.filter_nil, isAlloc, Bool.not_false, Bool.false_eq_true, if_true, if_false, List.append_nil, List.drop_succ_cons, List.drop_zero])
    (repeat (first | (refine wpMix_plain rfl rfl ?_; go_big_quiet_step (fail); refine wpQuiet_nil ?_) | (refine wpMix_skip rfl rfl ?_; simp only [Act.put, List.setIfInBounds_toArray, List.set_cons_zero, List.set_cons_succ])))
    refine wpMix_call (fun v W => Ow Ent.enc 109 5 W w.heap.size v (r.log.ents.take n)) rfl rfl rfl (enters Try.func69 (by kernel_rfl) rfl) (own_mono _ _ _ _ _) (fun W hW => (HCL.out W (Ext.trans HX1.out hW)).mono fun e w' ⟨v, he, ho, hx⟩ => ⟨v, he, ho.less (Ext.trans HX1.out hW).size, hx⟩) rfl (fun v1 hv1 => ?_)
    simp only [Act.put, List.setIfInBounds_toArray, List.set_cons_zero, List.set_cons_succ]
    refine wpMix_nil ?_
    rintro w2 ⟨hw2, o1⟩
    have O1 := Lib.hid o1
    clear o1 hv1
    go_wp2
    refine bodyPost_ret (v := .tuple #[.int .i64 r.log.base, v1]) (by simp [results, Try.results22, go_sem]) rfl ⟨v1, by rw [HB.out], ?_, Ext.trans HX1.out hw2⟩
    rw [HE.out]
    exact O1.out
theorem Ent.one (x : Ent) : ∀ u ∈ x.enc, u.oneCell' = true := by intro u hu; simp [Ent.enc] at hu; rcases hu with rfl | rfl | rfl | rfl | rfl <;> rfl
set_option maxRecDepth 100000 in
set_option maxHeartbeats 4000000 in
theorem c_sSettled (a : LAd) (A : Option Addr) (c : Nat) (ps : List VtE) (r : Rp) (w : World) (hr : RpR w a A c ps r) (hs : r.log.small) (hn : ps.length ≤ 1048576) (hv : LgS ps) :
    Calls Try.prog 20 #[Rp.val a A ps.length c r] w fun e w' => ∃ A' c', e = .returned (.tuple #[.int .i64 (setB r), .slice A' (setE r).length c']) ∧ Rd Ent.enc 5 w' A' c' (setE r) ∧ Ext w w' := by
  have X0 := ext_alloc w (Rp.obj a A ps.length c r)
  have hcon := c_sReplicaOk a A c ps r _ (hr.keep X0) hs hn hv
  cases q : rpOk r
  · rw [q] at hcon
    have HB := Lib.hid (set_bad q)
    have HC := Lib.hid hcon
    clear q hcon hr hs hv
    go_enter Try.func20, Try.ntmps20
    go_wp2_with fail
    refine HC.out.mono ?_
    rintro e w1 ⟨rfl, x1⟩
    go_wp2
    refine bodyPost_ret (v := .tuple #[.int .i64 0, .slice (some ⟨w1.heap.size, 0, none⟩) 0 0]) (by simp [results, Try.results20, go_sem]) rfl ⟨some ⟨w1.heap.size, 0, none⟩, 0, by rw [HB.out.2, HB.out.1]; rfl, ?_, ext_to (Ext.trans X0 x1) _⟩
    rw [HB.out.1]
    exact ⟨Nat.le_refl _, by unfold maxLen; omega, fun h => absurd h (by simp)⟩
  · rw [q] at hcon
    obtain ⟨i0, hi, hz0, hz1, hz2⟩ := info_parts Try.infoEnt
    obtain ⟨n, hN, hle, hE, hB, p0, p1, p2, p3⟩ := set_n q
    have HE := Lib.hid hE
    have HB := Lib.hid hB
    have htl : (r.log.ents.take n).length = n := by simp; omega
    have HR := Lib.hid (fun W (h : Ext w W) => (hr.l.2.2.keep h).take n)
    have HTL := Lib.hid htl
    have HC := Lib.hid hcon
    have hel := hs.2.2
    have hec := hr.l.2.2.1
    have hec2 := hr.l.2.2.2.1
    clear q hcon hr hs hv hE hB htl
    go_enter Try.func20, Try.ntmps20
    go_wp2_with fail
    refine HC.out.mono ?_
    rintro e w1 ⟨rfl, x1⟩
    have B1 := x1.box (hNew (w := w) (o := Rp.obj a A ps.length c r) rfl)
    have b1 := bx_cell B1
    have f1 := bx_frozen B1
    have z1 := bx_lt B1
    clear B1
    have HX1 := Lib.hid (Ext.trans X0 x1)
    go_wp2
    (refine Ap.wp_region_mix' (fun d => if d = some 22 then SlV Ent.enc 5 (r.log.ents.take n) else fun _ _ => True) (fun _ _ _ _ _ hq => hq) 15 (by kernel_rfl) (by kernel_rfl) (fun hg => ?_); simp only [List.take_succ_cons, List.take_zero, List.drop_succ_cons, List.drop_zero])
    (repeat (first | (refine Ap.wpMix_plain rfl rfl ?_; go_big_quiet_step (fail); refine wpQuiet_nil ?_) | (refine Ap.wpMix_skip rfl rfl ?_; simp only [Act.put, List.setIfInBounds_toArray, List.set_cons_zero, List.set_cons_succ])))
    (refine Ap.wpMix_alloc (.cells #[] 109) rfl (fun W => by kernel_rfl) ?_; intro p1 hp1 hps1 hpi1; simp only [layVal, Act.put, List.setIfInBounds_toArray, List.set_cons_zero, List.set_cons_succ])
    (repeat (first | (refine Ap.wpMix_plain rfl rfl ?_; go_big_quiet_step (fail); refine wpQuiet_nil ?_) | (refine Ap.wpMix_skip rfl rfl ?_; simp only [Act.put, List.setIfInBounds_toArray, List.set_cons_zero, List.set_cons_succ])))
    refine wpMix_app0 (enc := Ent.enc) _ _ 47 rfl rfl 109 i0 (.agg #[.int .i64 0, .int .i64 0, .int .i64 0, .int .i64 0, .int .i64 0]) 5 40 Try.underlying47 hi hz0 hz1 hz2 rfl (by decide) Ent.len p1 rfl a.eA n a.ec (r.log.ents.take n) HTL.out.symm rfl (fun W hW => HR.out W (Ext.trans HX1.out hW)) (by dsimp only; exact if_pos rfl) (by rw [HTL.out]; unfold maxLen; omega) (by rw [HTL.out]; omega) (fun A' c' => ?_)
    simp only [Act.put, List.setIfInBounds_toArray, List.set_cons_zero, List.set_cons_succ]
    refine Ap.wpMix_nil ?_
    rintro w2 ⟨⟨hw2, _⟩, o1⟩
    rw [HTL.out]
    have HO := Lib.hid o1.rd
    have HX2 := Lib.hid (Ext.trans HX1.out hw2)
    clear o1
    go_wp2
    refine bodyPost_ret (v := .tuple #[.int .i64 r.log.base, .slice A' n c']) (by simp [results, Try.results20, go_sem]) rfl ⟨A', c', by rw [HB.out, HE.out, HTL.out], ?_, HX2.out⟩
    rw [HE.out]
    exact HO.out
end Go.Proofs.Ytmpjokdidomafaa
