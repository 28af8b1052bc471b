/- A field of a message set: l4Set of the reference. -/
import Derived.Test.YtpghedeghoegmaaPk28
namespace Go.Proofs.Ytpghedeghoegmaa
open Go.ChangeShapes Go.WideShapes Go.ChangeAt Go.RowKit Go.Sort
set_option linter.unusedVariables false
set_option linter.unusedSimpArgs false

abbrev mz9 : Obj := .cells #[.int .i64 0, .int .i64 0, .int .i64 0, .int .i64 0, .int .i64 0, .int .i64 0, .int .i64 0, .int .i64 0, .int .i64 0, .int .i64 0, .int .i64 0, .int .i64 0, .int .i64 0, .int .i64 0, .slice none 0 0, .slice none 0 0, .slice none 0 0] 46
set_option maxRecDepth 100000 in
set_option maxHeartbeats 4000000 in
theorem c_set102 (a : LAd) (m : Mg) (x : Int) (hx0 : 0 ≤ x) (hx1 : x ≤ 1000000001) (w : World) : Calls Try.prog 48 #[Mg.val a m, .int .u8 102, .int .i64 x] w fun e w' => e = .returned (Mg.val a (setF m 70 x)) ∧ Ext w w' := by
  have D1 := Lib.hid (hOld (o := mz9) (hNew (w := w) (o := .cells #[.int .i64 m.kind, .int .i64 x, .int .i64 m.view, .int .i64 m.op, .int .i64 m.commit, .int .i64 m.normal, .int .i64 m.nonce, .int .i64 m.client, .int .i64 m.req, .int .i64 m.answer, .int .i64 m.ck, .int .i64 m.cx, .int .i64 m.cv, .int .i64 m.log.base, .slice a.cA m.log.cells.length a.cc, .slice a.sA m.log.seats.length a.sc, .slice a.eA m.log.ents.length a.ec] 46) rfl))
  have E1 := Lib.hid (hNew (w := w.alloc (.cells #[.int .i64 m.kind, .int .i64 x, .int .i64 m.view, .int .i64 m.op, .int .i64 m.commit, .int .i64 m.normal, .int .i64 m.nonce, .int .i64 m.client, .int .i64 m.req, .int .i64 m.answer, .int .i64 m.ck, .int .i64 m.cx, .int .i64 m.cv, .int .i64 m.log.base, .slice a.cA m.log.cells.length a.cc, .slice a.sA m.log.seats.length a.sc, .slice a.eA m.log.ents.length a.ec] 46)) (o := mz9) (k := w.heap.size + 1) (by simp))
  have X1 := Lib.hid (show Ext w ((w.alloc (.cells #[.int .i64 m.kind, .int .i64 x, .int .i64 m.view, .int .i64 m.op, .int .i64 m.commit, .int .i64 m.normal, .int .i64 m.nonce, .int .i64 m.client, .int .i64 m.req, .int .i64 m.answer, .int .i64 m.ck, .int .i64 m.cx, .int .i64 m.cv, .int .i64 m.log.base, .slice a.cA m.log.cells.length a.cc, .slice a.sA m.log.seats.length a.sc, .slice a.eA m.log.ents.length a.ec] 46)).alloc mz9) from ext_to (ext_alloc _ _) _)
  have hwx : IntKind.i64.wrap (x - 1) = x - 1 := by rw [IntKind.wrap_i64]; omega
  go_enter Try.func48, Try.ntmps48
  (go_wp2_with (with_reducible refine wl_stop 45 ?_); refine stop_load (D1.out) rfl Try.underlying46 (by kernel_rfl) ?_; simp only [Act.put, List.setIfInBounds_toArray, List.set_cons_zero, List.set_cons_succ])
  (go_wp2_with (with_reducible refine wl_stopS 46 ?_); refine stop_store ((w.heap.size + 1)) (#[.int .i64 m.kind, .int .i64 x, .int .i64 m.view, .int .i64 m.op, .int .i64 m.commit, .int .i64 m.normal, .int .i64 m.nonce, .int .i64 m.client, .int .i64 m.req, .int .i64 m.answer, .int .i64 m.ck, .int .i64 m.cx, .int .i64 m.cv, .int .i64 m.log.base, .slice a.cA m.log.cells.length a.cc, .slice a.sA m.log.seats.length a.sc, .slice a.eA m.log.ents.length a.ec]) rfl rfl (E1.out) (by kernel_rfl) rfl (by simp [Value.oneCell']) ?_)
  intro w9 e9 k9
  have E9 := Lib.hid e9
  have X9 := Lib.hid (chg_new X1.out k9 (by omega))
  clear e9 k9
  go_wp2
  exact bodyPost_ret (results_box Try.results48 rfl Try.underlying46 (by kernel_rfl) E9.out) rfl ⟨rfl, X9.out⟩
set_option maxRecDepth 100000 in
set_option maxHeartbeats 4000000 in
theorem c_set118 (a : LAd) (m : Mg) (x : Int) (hx0 : 0 ≤ x) (hx1 : x ≤ 1000000001) (w : World) : Calls Try.prog 48 #[Mg.val a m, .int .u8 118, .int .i64 x] w fun e w' => e = .returned (Mg.val a (setF m 86 x)) ∧ Ext w w' := by
  have D1 := Lib.hid (hOld (o := mz9) (hNew (w := w) (o := .cells #[.int .i64 m.kind, .int .i64 m.frm, .int .i64 x, .int .i64 m.op, .int .i64 m.commit, .int .i64 m.normal, .int .i64 m.nonce, .int .i64 m.client, .int .i64 m.req, .int .i64 m.answer, .int .i64 m.ck, .int .i64 m.cx, .int .i64 m.cv, .int .i64 m.log.base, .slice a.cA m.log.cells.length a.cc, .slice a.sA m.log.seats.length a.sc, .slice a.eA m.log.ents.length a.ec] 46) rfl))
  have E1 := Lib.hid (hNew (w := w.alloc (.cells #[.int .i64 m.kind, .int .i64 m.frm, .int .i64 x, .int .i64 m.op, .int .i64 m.commit, .int .i64 m.normal, .int .i64 m.nonce, .int .i64 m.client, .int .i64 m.req, .int .i64 m.answer, .int .i64 m.ck, .int .i64 m.cx, .int .i64 m.cv, .int .i64 m.log.base, .slice a.cA m.log.cells.length a.cc, .slice a.sA m.log.seats.length a.sc, .slice a.eA m.log.ents.length a.ec] 46)) (o := mz9) (k := w.heap.size + 1) (by simp))
  have X1 := Lib.hid (show Ext w ((w.alloc (.cells #[.int .i64 m.kind, .int .i64 m.frm, .int .i64 x, .int .i64 m.op, .int .i64 m.commit, .int .i64 m.normal, .int .i64 m.nonce, .int .i64 m.client, .int .i64 m.req, .int .i64 m.answer, .int .i64 m.ck, .int .i64 m.cx, .int .i64 m.cv, .int .i64 m.log.base, .slice a.cA m.log.cells.length a.cc, .slice a.sA m.log.seats.length a.sc, .slice a.eA m.log.ents.length a.ec] 46)).alloc mz9) from ext_to (ext_alloc _ _) _)
  have hwx : IntKind.i64.wrap (x - 1) = x - 1 := by rw [IntKind.wrap_i64]; omega
  go_enter Try.func48, Try.ntmps48
  (go_wp2_with (with_reducible refine wl_stop 45 ?_); refine stop_load (D1.out) rfl Try.underlying46 (by kernel_rfl) ?_; simp only [Act.put, List.setIfInBounds_toArray, List.set_cons_zero, List.set_cons_succ])
  (go_wp2_with (with_reducible refine wl_stopS 46 ?_); refine stop_store ((w.heap.size + 1)) (#[.int .i64 m.kind, .int .i64 m.frm, .int .i64 x, .int .i64 m.op, .int .i64 m.commit, .int .i64 m.normal, .int .i64 m.nonce, .int .i64 m.client, .int .i64 m.req, .int .i64 m.answer, .int .i64 m.ck, .int .i64 m.cx, .int .i64 m.cv, .int .i64 m.log.base, .slice a.cA m.log.cells.length a.cc, .slice a.sA m.log.seats.length a.sc, .slice a.eA m.log.ents.length a.ec]) rfl rfl (E1.out) (by kernel_rfl) rfl (by simp [Value.oneCell']) ?_)
  intro w9 e9 k9
  have E9 := Lib.hid e9
  have X9 := Lib.hid (chg_new X1.out k9 (by omega))
  clear e9 k9
  go_wp2
  exact bodyPost_ret (results_box Try.results48 rfl Try.underlying46 (by kernel_rfl) E9.out) rfl ⟨rfl, X9.out⟩
set_option maxRecDepth 100000 in
set_option maxHeartbeats 4000000 in
theorem c_set111 (a : LAd) (m : Mg) (x : Int) (hx0 : 0 ≤ x) (hx1 : x ≤ 1000000001) (w : World) : Calls Try.prog 48 #[Mg.val a m, .int .u8 111, .int .i64 x] w fun e w' => e = .returned (Mg.val a (setF m 79 x)) ∧ Ext w w' := by
  have D1 := Lib.hid (hOld (o := mz9) (hNew (w := w) (o := .cells #[.int .i64 m.kind, .int .i64 m.frm, .int .i64 m.view, .int .i64 x, .int .i64 m.commit, .int .i64 m.normal, .int .i64 m.nonce, .int .i64 m.client, .int .i64 m.req, .int .i64 m.answer, .int .i64 m.ck, .int .i64 m.cx, .int .i64 m.cv, .int .i64 m.log.base, .slice a.cA m.log.cells.length a.cc, .slice a.sA m.log.seats.length a.sc, .slice a.eA m.log.ents.length a.ec] 46) rfl))
  have E1 := Lib.hid (hNew (w := w.alloc (.cells #[.int .i64 m.kind, .int .i64 m.frm, .int .i64 m.view, .int .i64 x, .int .i64 m.commit, .int .i64 m.normal, .int .i64 m.nonce, .int .i64 m.client, .int .i64 m.req, .int .i64 m.answer, .int .i64 m.ck, .int .i64 m.cx, .int .i64 m.cv, .int .i64 m.log.base, .slice a.cA m.log.cells.length a.cc, .slice a.sA m.log.seats.length a.sc, .slice a.eA m.log.ents.length a.ec] 46)) (o := mz9) (k := w.heap.size + 1) (by simp))
  have X1 := Lib.hid (show Ext w ((w.alloc (.cells #[.int .i64 m.kind, .int .i64 m.frm, .int .i64 m.view, .int .i64 x, .int .i64 m.commit, .int .i64 m.normal, .int .i64 m.nonce, .int .i64 m.client, .int .i64 m.req, .int .i64 m.answer, .int .i64 m.ck, .int .i64 m.cx, .int .i64 m.cv, .int .i64 m.log.base, .slice a.cA m.log.cells.length a.cc, .slice a.sA m.log.seats.length a.sc, .slice a.eA m.log.ents.length a.ec] 46)).alloc mz9) from ext_to (ext_alloc _ _) _)
  have hwx : IntKind.i64.wrap (x - 1) = x - 1 := by rw [IntKind.wrap_i64]; omega
  go_enter Try.func48, Try.ntmps48
  (go_wp2_with (with_reducible refine wl_stop 45 ?_); refine stop_load (D1.out) rfl Try.underlying46 (by kernel_rfl) ?_; simp only [Act.put, List.setIfInBounds_toArray, List.set_cons_zero, List.set_cons_succ])
  (go_wp2_with (with_reducible refine wl_stopS 46 ?_); refine stop_store ((w.heap.size + 1)) (#[.int .i64 m.kind, .int .i64 m.frm, .int .i64 m.view, .int .i64 x, .int .i64 m.commit, .int .i64 m.normal, .int .i64 m.nonce, .int .i64 m.client, .int .i64 m.req, .int .i64 m.answer, .int .i64 m.ck, .int .i64 m.cx, .int .i64 m.cv, .int .i64 m.log.base, .slice a.cA m.log.cells.length a.cc, .slice a.sA m.log.seats.length a.sc, .slice a.eA m.log.ents.length a.ec]) rfl rfl (E1.out) (by kernel_rfl) rfl (by simp [Value.oneCell']) ?_)
  intro w9 e9 k9
  have E9 := Lib.hid e9
  have X9 := Lib.hid (chg_new X1.out k9 (by omega))
  clear e9 k9
  go_wp2
  exact bodyPost_ret (results_box Try.results48 rfl Try.underlying46 (by kernel_rfl) E9.out) rfl ⟨rfl, X9.out⟩
set_option maxRecDepth 100000 in
set_option maxHeartbeats 4000000 in
theorem c_set99 (a : LAd) (m : Mg) (x : Int) (hx0 : 0 ≤ x) (hx1 : x ≤ 1000000001) (w : World) : Calls Try.prog 48 #[Mg.val a m, .int .u8 99, .int .i64 x] w fun e w' => e = .returned (Mg.val a (setF m 67 x)) ∧ Ext w w' := by
  have D1 := Lib.hid (hOld (o := mz9) (hNew (w := w) (o := .cells #[.int .i64 m.kind, .int .i64 m.frm, .int .i64 m.view, .int .i64 m.op, .int .i64 x, .int .i64 m.normal, .int .i64 m.nonce, .int .i64 m.client, .int .i64 m.req, .int .i64 m.answer, .int .i64 m.ck, .int .i64 m.cx, .int .i64 m.cv, .int .i64 m.log.base, .slice a.cA m.log.cells.length a.cc, .slice a.sA m.log.seats.length a.sc, .slice a.eA m.log.ents.length a.ec] 46) rfl))
  have E1 := Lib.hid (hNew (w := w.alloc (.cells #[.int .i64 m.kind, .int .i64 m.frm, .int .i64 m.view, .int .i64 m.op, .int .i64 x, .int .i64 m.normal, .int .i64 m.nonce, .int .i64 m.client, .int .i64 m.req, .int .i64 m.answer, .int .i64 m.ck, .int .i64 m.cx, .int .i64 m.cv, .int .i64 m.log.base, .slice a.cA m.log.cells.length a.cc, .slice a.sA m.log.seats.length a.sc, .slice a.eA m.log.ents.length a.ec] 46)) (o := mz9) (k := w.heap.size + 1) (by simp))
  have X1 := Lib.hid (show Ext w ((w.alloc (.cells #[.int .i64 m.kind, .int .i64 m.frm, .int .i64 m.view, .int .i64 m.op, .int .i64 x, .int .i64 m.normal, .int .i64 m.nonce, .int .i64 m.client, .int .i64 m.req, .int .i64 m.answer, .int .i64 m.ck, .int .i64 m.cx, .int .i64 m.cv, .int .i64 m.log.base, .slice a.cA m.log.cells.length a.cc, .slice a.sA m.log.seats.length a.sc, .slice a.eA m.log.ents.length a.ec] 46)).alloc mz9) from ext_to (ext_alloc _ _) _)
  have hwx : IntKind.i64.wrap (x - 1) = x - 1 := by rw [IntKind.wrap_i64]; omega
  go_enter Try.func48, Try.ntmps48
  (go_wp2_with (with_reducible refine wl_stop 45 ?_); refine stop_load (D1.out) rfl Try.underlying46 (by kernel_rfl) ?_; simp only [Act.put, List.setIfInBounds_toArray, List.set_cons_zero, List.set_cons_succ])
  (go_wp2_with (with_reducible refine wl_stopS 46 ?_); refine stop_store ((w.heap.size + 1)) (#[.int .i64 m.kind, .int .i64 m.frm, .int .i64 m.view, .int .i64 m.op, .int .i64 x, .int .i64 m.normal, .int .i64 m.nonce, .int .i64 m.client, .int .i64 m.req, .int .i64 m.answer, .int .i64 m.ck, .int .i64 m.cx, .int .i64 m.cv, .int .i64 m.log.base, .slice a.cA m.log.cells.length a.cc, .slice a.sA m.log.seats.length a.sc, .slice a.eA m.log.ents.length a.ec]) rfl rfl (E1.out) (by kernel_rfl) rfl (by simp [Value.oneCell']) ?_)
  intro w9 e9 k9
  have E9 := Lib.hid e9
  have X9 := Lib.hid (chg_new X1.out k9 (by omega))
  clear e9 k9
  go_wp2
  exact bodyPost_ret (results_box Try.results48 rfl Try.underlying46 (by kernel_rfl) E9.out) rfl ⟨rfl, X9.out⟩
set_option maxRecDepth 100000 in
set_option maxHeartbeats 4000000 in
theorem c_set110 (a : LAd) (m : Mg) (x : Int) (hx0 : 0 ≤ x) (hx1 : x ≤ 1000000001) (w : World) : Calls Try.prog 48 #[Mg.val a m, .int .u8 110, .int .i64 x] w fun e w' => e = .returned (Mg.val a (setF m 78 x)) ∧ Ext w w' := by
  have D1 := Lib.hid (hOld (o := mz9) (hNew (w := w) (o := .cells #[.int .i64 m.kind, .int .i64 m.frm, .int .i64 m.view, .int .i64 m.op, .int .i64 m.commit, .int .i64 x, .int .i64 m.nonce, .int .i64 m.client, .int .i64 m.req, .int .i64 m.answer, .int .i64 m.ck, .int .i64 m.cx, .int .i64 m.cv, .int .i64 m.log.base, .slice a.cA m.log.cells.length a.cc, .slice a.sA m.log.seats.length a.sc, .slice a.eA m.log.ents.length a.ec] 46) rfl))
  have E1 := Lib.hid (hNew (w := w.alloc (.cells #[.int .i64 m.kind, .int .i64 m.frm, .int .i64 m.view, .int .i64 m.op, .int .i64 m.commit, .int .i64 x, .int .i64 m.nonce, .int .i64 m.client, .int .i64 m.req, .int .i64 m.answer, .int .i64 m.ck, .int .i64 m.cx, .int .i64 m.cv, .int .i64 m.log.base, .slice a.cA m.log.cells.length a.cc, .slice a.sA m.log.seats.length a.sc, .slice a.eA m.log.ents.length a.ec] 46)) (o := mz9) (k := w.heap.size + 1) (by simp))
  have X1 := Lib.hid (show Ext w ((w.alloc (.cells #[.int .i64 m.kind, .int .i64 m.frm, .int .i64 m.view, .int .i64 m.op, .int .i64 m.commit, .int .i64 x, .int .i64 m.nonce, .int .i64 m.client, .int .i64 m.req, .int .i64 m.answer, .int .i64 m.ck, .int .i64 m.cx, .int .i64 m.cv, .int .i64 m.log.base, .slice a.cA m.log.cells.length a.cc, .slice a.sA m.log.seats.length a.sc, .slice a.eA m.log.ents.length a.ec] 46)).alloc mz9) from ext_to (ext_alloc _ _) _)
  have hwx : IntKind.i64.wrap (x - 1) = x - 1 := by rw [IntKind.wrap_i64]; omega
  go_enter Try.func48, Try.ntmps48
  (go_wp2_with (with_reducible refine wl_stop 45 ?_); refine stop_load (D1.out) rfl Try.underlying46 (by kernel_rfl) ?_; simp only [Act.put, List.setIfInBounds_toArray, List.set_cons_zero, List.set_cons_succ])
  (go_wp2_with (with_reducible refine wl_stopS 46 ?_); refine stop_store ((w.heap.size + 1)) (#[.int .i64 m.kind, .int .i64 m.frm, .int .i64 m.view, .int .i64 m.op, .int .i64 m.commit, .int .i64 x, .int .i64 m.nonce, .int .i64 m.client, .int .i64 m.req, .int .i64 m.answer, .int .i64 m.ck, .int .i64 m.cx, .int .i64 m.cv, .int .i64 m.log.base, .slice a.cA m.log.cells.length a.cc, .slice a.sA m.log.seats.length a.sc, .slice a.eA m.log.ents.length a.ec]) rfl rfl (E1.out) (by kernel_rfl) rfl (by simp [Value.oneCell']) ?_)
  intro w9 e9 k9
  have E9 := Lib.hid e9
  have X9 := Lib.hid (chg_new X1.out k9 (by omega))
  clear e9 k9
  go_wp2
  exact bodyPost_ret (results_box Try.results48 rfl Try.underlying46 (by kernel_rfl) E9.out) rfl ⟨rfl, X9.out⟩
set_option maxRecDepth 100000 in
set_option maxHeartbeats 4000000 in
theorem c_set107 (a : LAd) (m : Mg) (x : Int) (hx0 : 0 ≤ x) (hx1 : x ≤ 1000000001) (w : World) : Calls Try.prog 48 #[Mg.val a m, .int .u8 107, .int .i64 x] w fun e w' => e = .returned (Mg.val a (setF m 110 x)) ∧ Ext w w' := by
  have D1 := Lib.hid (hOld (o := mz9) (hNew (w := w) (o := .cells #[.int .i64 m.kind, .int .i64 m.frm, .int .i64 m.view, .int .i64 m.op, .int .i64 m.commit, .int .i64 m.normal, .int .i64 x, .int .i64 m.client, .int .i64 m.req, .int .i64 m.answer, .int .i64 m.ck, .int .i64 m.cx, .int .i64 m.cv, .int .i64 m.log.base, .slice a.cA m.log.cells.length a.cc, .slice a.sA m.log.seats.length a.sc, .slice a.eA m.log.ents.length a.ec] 46) rfl))
  have E1 := Lib.hid (hNew (w := w.alloc (.cells #[.int .i64 m.kind, .int .i64 m.frm, .int .i64 m.view, .int .i64 m.op, .int .i64 m.commit, .int .i64 m.normal, .int .i64 x, .int .i64 m.client, .int .i64 m.req, .int .i64 m.answer, .int .i64 m.ck, .int .i64 m.cx, .int .i64 m.cv, .int .i64 m.log.base, .slice a.cA m.log.cells.length a.cc, .slice a.sA m.log.seats.length a.sc, .slice a.eA m.log.ents.length a.ec] 46)) (o := mz9) (k := w.heap.size + 1) (by simp))
  have X1 := Lib.hid (show Ext w ((w.alloc (.cells #[.int .i64 m.kind, .int .i64 m.frm, .int .i64 m.view, .int .i64 m.op, .int .i64 m.commit, .int .i64 m.normal, .int .i64 x, .int .i64 m.client, .int .i64 m.req, .int .i64 m.answer, .int .i64 m.ck, .int .i64 m.cx, .int .i64 m.cv, .int .i64 m.log.base, .slice a.cA m.log.cells.length a.cc, .slice a.sA m.log.seats.length a.sc, .slice a.eA m.log.ents.length a.ec] 46)).alloc mz9) from ext_to (ext_alloc _ _) _)
  have hwx : IntKind.i64.wrap (x - 1) = x - 1 := by rw [IntKind.wrap_i64]; omega
  go_enter Try.func48, Try.ntmps48
  (go_wp2_with (with_reducible refine wl_stop 45 ?_); refine stop_load (D1.out) rfl Try.underlying46 (by kernel_rfl) ?_; simp only [Act.put, List.setIfInBounds_toArray, List.set_cons_zero, List.set_cons_succ])
  (go_wp2_with (with_reducible refine wl_stopS 46 ?_); refine stop_store ((w.heap.size + 1)) (#[.int .i64 m.kind, .int .i64 m.frm, .int .i64 m.view, .int .i64 m.op, .int .i64 m.commit, .int .i64 m.normal, .int .i64 x, .int .i64 m.client, .int .i64 m.req, .int .i64 m.answer, .int .i64 m.ck, .int .i64 m.cx, .int .i64 m.cv, .int .i64 m.log.base, .slice a.cA m.log.cells.length a.cc, .slice a.sA m.log.seats.length a.sc, .slice a.eA m.log.ents.length a.ec]) rfl rfl (E1.out) (by kernel_rfl) rfl (by simp [Value.oneCell']) ?_)
  intro w9 e9 k9
  have E9 := Lib.hid e9
  have X9 := Lib.hid (chg_new X1.out k9 (by omega))
  clear e9 k9
  go_wp2
  exact bodyPost_ret (results_box Try.results48 rfl Try.underlying46 (by kernel_rfl) E9.out) rfl ⟨rfl, X9.out⟩
set_option maxRecDepth 100000 in
set_option maxHeartbeats 4000000 in
theorem c_set67 (a : LAd) (m : Mg) (x : Int) (hx0 : 0 ≤ x) (hx1 : x ≤ 1000000001) (w : World) : Calls Try.prog 48 #[Mg.val a m, .int .u8 67, .int .i64 x] w fun e w' => e = .returned (Mg.val a (setF m 99 x)) ∧ Ext w w' := by
  have D1 := Lib.hid (hOld (o := mz9) (hNew (w := w) (o := .cells #[.int .i64 m.kind, .int .i64 m.frm, .int .i64 m.view, .int .i64 m.op, .int .i64 m.commit, .int .i64 m.normal, .int .i64 m.nonce, .int .i64 x, .int .i64 m.req, .int .i64 m.answer, .int .i64 m.ck, .int .i64 m.cx, .int .i64 m.cv, .int .i64 m.log.base, .slice a.cA m.log.cells.length a.cc, .slice a.sA m.log.seats.length a.sc, .slice a.eA m.log.ents.length a.ec] 46) rfl))
  have E1 := Lib.hid (hNew (w := w.alloc (.cells #[.int .i64 m.kind, .int .i64 m.frm, .int .i64 m.view, .int .i64 m.op, .int .i64 m.commit, .int .i64 m.normal, .int .i64 m.nonce, .int .i64 x, .int .i64 m.req, .int .i64 m.answer, .int .i64 m.ck, .int .i64 m.cx, .int .i64 m.cv, .int .i64 m.log.base, .slice a.cA m.log.cells.length a.cc, .slice a.sA m.log.seats.length a.sc, .slice a.eA m.log.ents.length a.ec] 46)) (o := mz9) (k := w.heap.size + 1) (by simp))
  have X1 := Lib.hid (show Ext w ((w.alloc (.cells #[.int .i64 m.kind, .int .i64 m.frm, .int .i64 m.view, .int .i64 m.op, .int .i64 m.commit, .int .i64 m.normal, .int .i64 m.nonce, .int .i64 x, .int .i64 m.req, .int .i64 m.answer, .int .i64 m.ck, .int .i64 m.cx, .int .i64 m.cv, .int .i64 m.log.base, .slice a.cA m.log.cells.length a.cc, .slice a.sA m.log.seats.length a.sc, .slice a.eA m.log.ents.length a.ec] 46)).alloc mz9) from ext_to (ext_alloc _ _) _)
  have hwx : IntKind.i64.wrap (x - 1) = x - 1 := by rw [IntKind.wrap_i64]; omega
  go_enter Try.func48, Try.ntmps48
  (go_wp2_with (with_reducible refine wl_stop 45 ?_); refine stop_load (D1.out) rfl Try.underlying46 (by kernel_rfl) ?_; simp only [Act.put, List.setIfInBounds_toArray, List.set_cons_zero, List.set_cons_succ])
  (go_wp2_with (with_reducible refine wl_stopS 46 ?_); refine stop_store ((w.heap.size + 1)) (#[.int .i64 m.kind, .int .i64 m.frm, .int .i64 m.view, .int .i64 m.op, .int .i64 m.commit, .int .i64 m.normal, .int .i64 m.nonce, .int .i64 x, .int .i64 m.req, .int .i64 m.answer, .int .i64 m.ck, .int .i64 m.cx, .int .i64 m.cv, .int .i64 m.log.base, .slice a.cA m.log.cells.length a.cc, .slice a.sA m.log.seats.length a.sc, .slice a.eA m.log.ents.length a.ec]) rfl rfl (E1.out) (by kernel_rfl) rfl (by simp [Value.oneCell']) ?_)
  intro w9 e9 k9
  have E9 := Lib.hid e9
  have X9 := Lib.hid (chg_new X1.out k9 (by omega))
  clear e9 k9
  go_wp2
  exact bodyPost_ret (results_box Try.results48 rfl Try.underlying46 (by kernel_rfl) E9.out) rfl ⟨rfl, X9.out⟩
set_option maxRecDepth 100000 in
set_option maxHeartbeats 4000000 in
theorem c_set82 (a : LAd) (m : Mg) (x : Int) (hx0 : 0 ≤ x) (hx1 : x ≤ 1000000001) (w : World) : Calls Try.prog 48 #[Mg.val a m, .int .u8 82, .int .i64 x] w fun e w' => e = .returned (Mg.val a (setF m 114 x)) ∧ Ext w w' := by
  have D1 := Lib.hid (hOld (o := mz9) (hNew (w := w) (o := .cells #[.int .i64 m.kind, .int .i64 m.frm, .int .i64 m.view, .int .i64 m.op, .int .i64 m.commit, .int .i64 m.normal, .int .i64 m.nonce, .int .i64 m.client, .int .i64 x, .int .i64 m.answer, .int .i64 m.ck, .int .i64 m.cx, .int .i64 m.cv, .int .i64 m.log.base, .slice a.cA m.log.cells.length a.cc, .slice a.sA m.log.seats.length a.sc, .slice a.eA m.log.ents.length a.ec] 46) rfl))
  have E1 := Lib.hid (hNew (w := w.alloc (.cells #[.int .i64 m.kind, .int .i64 m.frm, .int .i64 m.view, .int .i64 m.op, .int .i64 m.commit, .int .i64 m.normal, .int .i64 m.nonce, .int .i64 m.client, .int .i64 x, .int .i64 m.answer, .int .i64 m.ck, .int .i64 m.cx, .int .i64 m.cv, .int .i64 m.log.base, .slice a.cA m.log.cells.length a.cc, .slice a.sA m.log.seats.length a.sc, .slice a.eA m.log.ents.length a.ec] 46)) (o := mz9) (k := w.heap.size + 1) (by simp))
  have X1 := Lib.hid (show Ext w ((w.alloc (.cells #[.int .i64 m.kind, .int .i64 m.frm, .int .i64 m.view, .int .i64 m.op, .int .i64 m.commit, .int .i64 m.normal, .int .i64 m.nonce, .int .i64 m.client, .int .i64 x, .int .i64 m.answer, .int .i64 m.ck, .int .i64 m.cx, .int .i64 m.cv, .int .i64 m.log.base, .slice a.cA m.log.cells.length a.cc, .slice a.sA m.log.seats.length a.sc, .slice a.eA m.log.ents.length a.ec] 46)).alloc mz9) from ext_to (ext_alloc _ _) _)
  have hwx : IntKind.i64.wrap (x - 1) = x - 1 := by rw [IntKind.wrap_i64]; omega
  go_enter Try.func48, Try.ntmps48
  (go_wp2_with (with_reducible refine wl_stop 45 ?_); refine stop_load (D1.out) rfl Try.underlying46 (by kernel_rfl) ?_; simp only [Act.put, List.setIfInBounds_toArray, List.set_cons_zero, List.set_cons_succ])
  (go_wp2_with (with_reducible refine wl_stopS 46 ?_); refine stop_store ((w.heap.size + 1)) (#[.int .i64 m.kind, .int .i64 m.frm, .int .i64 m.view, .int .i64 m.op, .int .i64 m.commit, .int .i64 m.normal, .int .i64 m.nonce, .int .i64 m.client, .int .i64 x, .int .i64 m.answer, .int .i64 m.ck, .int .i64 m.cx, .int .i64 m.cv, .int .i64 m.log.base, .slice a.cA m.log.cells.length a.cc, .slice a.sA m.log.seats.length a.sc, .slice a.eA m.log.ents.length a.ec]) rfl rfl (E1.out) (by kernel_rfl) rfl (by simp [Value.oneCell']) ?_)
  intro w9 e9 k9
  have E9 := Lib.hid e9
  have X9 := Lib.hid (chg_new X1.out k9 (by omega))
  clear e9 k9
  go_wp2
  exact bodyPost_ret (results_box Try.results48 rfl Try.underlying46 (by kernel_rfl) E9.out) rfl ⟨rfl, X9.out⟩
set_option maxRecDepth 100000 in
set_option maxHeartbeats 4000000 in
theorem c_set65 (a : LAd) (m : Mg) (x : Int) (hx0 : 0 ≤ x) (hx1 : x ≤ 1000000001) (w : World) : Calls Try.prog 48 #[Mg.val a m, .int .u8 65, .int .i64 x] w fun e w' => e = .returned (Mg.val a (setF m 65 x)) ∧ Ext w w' := by
  have D1 := Lib.hid (hOld (o := mz9) (hNew (w := w) (o := .cells #[.int .i64 m.kind, .int .i64 m.frm, .int .i64 m.view, .int .i64 m.op, .int .i64 m.commit, .int .i64 m.normal, .int .i64 m.nonce, .int .i64 m.client, .int .i64 m.req, .int .i64 (x - 1), .int .i64 m.ck, .int .i64 m.cx, .int .i64 m.cv, .int .i64 m.log.base, .slice a.cA m.log.cells.length a.cc, .slice a.sA m.log.seats.length a.sc, .slice a.eA m.log.ents.length a.ec] 46) rfl))
  have E1 := Lib.hid (hNew (w := w.alloc (.cells #[.int .i64 m.kind, .int .i64 m.frm, .int .i64 m.view, .int .i64 m.op, .int .i64 m.commit, .int .i64 m.normal, .int .i64 m.nonce, .int .i64 m.client, .int .i64 m.req, .int .i64 (x - 1), .int .i64 m.ck, .int .i64 m.cx, .int .i64 m.cv, .int .i64 m.log.base, .slice a.cA m.log.cells.length a.cc, .slice a.sA m.log.seats.length a.sc, .slice a.eA m.log.ents.length a.ec] 46)) (o := mz9) (k := w.heap.size + 1) (by simp))
  have X1 := Lib.hid (show Ext w ((w.alloc (.cells #[.int .i64 m.kind, .int .i64 m.frm, .int .i64 m.view, .int .i64 m.op, .int .i64 m.commit, .int .i64 m.normal, .int .i64 m.nonce, .int .i64 m.client, .int .i64 m.req, .int .i64 (x - 1), .int .i64 m.ck, .int .i64 m.cx, .int .i64 m.cv, .int .i64 m.log.base, .slice a.cA m.log.cells.length a.cc, .slice a.sA m.log.seats.length a.sc, .slice a.eA m.log.ents.length a.ec] 46)).alloc mz9) from ext_to (ext_alloc _ _) _)
  have hwx : IntKind.i64.wrap (x - 1) = x - 1 := by rw [IntKind.wrap_i64]; omega
  go_enter Try.func48, Try.ntmps48
  (go_wp2_with (with_reducible refine wl_stop 45 ?_); refine stop_load (D1.out) rfl Try.underlying46 (by kernel_rfl) ?_; simp only [Act.put, List.setIfInBounds_toArray, List.set_cons_zero, List.set_cons_succ])
  (go_wp2_with (with_reducible refine wl_stopS 46 ?_); refine stop_store ((w.heap.size + 1)) (#[.int .i64 m.kind, .int .i64 m.frm, .int .i64 m.view, .int .i64 m.op, .int .i64 m.commit, .int .i64 m.normal, .int .i64 m.nonce, .int .i64 m.client, .int .i64 m.req, .int .i64 (x - 1), .int .i64 m.ck, .int .i64 m.cx, .int .i64 m.cv, .int .i64 m.log.base, .slice a.cA m.log.cells.length a.cc, .slice a.sA m.log.seats.length a.sc, .slice a.eA m.log.ents.length a.ec]) rfl rfl (E1.out) (by kernel_rfl) rfl (by simp [Value.oneCell']) ?_)
  intro w9 e9 k9
  have E9 := Lib.hid e9
  have X9 := Lib.hid (chg_new X1.out k9 (by omega))
  clear e9 k9
  go_wp2
  exact bodyPost_ret (results_box Try.results48 rfl Try.underlying46 (by kernel_rfl) E9.out) rfl ⟨rfl, X9.out⟩
end Go.Proofs.Ytpghedeghoegmaa

