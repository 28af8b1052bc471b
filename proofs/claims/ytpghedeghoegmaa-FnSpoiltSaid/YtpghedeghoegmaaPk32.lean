/- A field of a message set: l4Set of the reference. -/
import Derived.Test.YtpghedeghoegmaaPk31
import Derived.Test.YtpghedeghoegmaaPk25
import Derived.Test.YtpghedeghoegmaaPk30
namespace Go.Proofs.Ytpghedeghoegmaa
open Go.ChangeShapes Go.WideShapes Go.ChangeAt Go.RowKit Go.Sort
set_option linter.unusedVariables false
set_option linter.unusedSimpArgs false
abbrev mz9 : Obj := .cells #[.int .i64 0, .int .i64 0, .int .i64 0, .int .i64 0, .int .i64 0, .int .i64 0, .int .i64 0, .int .i64 0, .int .i64 0, .int .i64 0, .int .i64 0, .int .i64 0, .int .i64 0, .int .i64 0, .slice none 0 0, .slice none 0 0, .slice none 0 0] 46
set_option maxRecDepth 100000 in
set_option maxHeartbeats 4000000 in
theorem c_set102 (a : LAd) (m : Mg) (x : Int) (hx0 : 0 ≤ x) (hx1 : x ≤ 1000000001) (w : World) : Calls Try.prog 48 #[Mg.val a m, .int .u8 102, .int .i64 x] w fun e w' => e = .returned (Mg.val a (setF m 70 x)) ∧ Ext w w' := by
 have D1 := Hd (hOld (o := mz9) (hNew (w := w) (o := .cells #[.int .i64 m.kind, .int .i64 x, .int .i64 m.view, .int .i64 m.op, .int .i64 m.commit, .int .i64 m.normal, .int .i64 m.nonce, .int .i64 m.client, .int .i64 m.req, .int .i64 m.answer, .int .i64 m.ck, .int .i64 m.cx, .int .i64 m.cv, .int .i64 m.log.base, .slice a.cA m.log.cells.length a.cc, .slice a.sA m.log.seats.length a.sc, .slice a.eA m.log.ents.length a.ec] 46) rfl))
 have E1 := Hd (hNew (w := w.alloc (.cells #[.int .i64 m.kind, .int .i64 x, .int .i64 m.view, .int .i64 m.op, .int .i64 m.commit, .int .i64 m.normal, .int .i64 m.nonce, .int .i64 m.client, .int .i64 m.req, .int .i64 m.answer, .int .i64 m.ck, .int .i64 m.cx, .int .i64 m.cv, .int .i64 m.log.base, .slice a.cA m.log.cells.length a.cc, .slice a.sA m.log.seats.length a.sc, .slice a.eA m.log.ents.length a.ec] 46)) (o := mz9) (k := w.heap.size + 1) (by simp))
 have X1 := Hd (show Ext w ((w.alloc (.cells #[.int .i64 m.kind, .int .i64 x, .int .i64 m.view, .int .i64 m.op, .int .i64 m.commit, .int .i64 m.normal, .int .i64 m.nonce, .int .i64 m.client, .int .i64 m.req, .int .i64 m.answer, .int .i64 m.ck, .int .i64 m.cx, .int .i64 m.cv, .int .i64 m.log.base, .slice a.cA m.log.cells.length a.cc, .slice a.sA m.log.seats.length a.sc, .slice a.eA m.log.ents.length a.ec] 46)).alloc mz9) from ext_to (ext_alloc _ _) _)
 have hwx : IntKind.i64.wrap (x - 1) = x - 1 := by rw [IntKind.wrap_i64]; omega
 go_enter Try.func48, Try.ntmps48
 (go_wp2_with (with_reducible refine wl_stop 45 ?_); refine stop_load (D1.out) rfl Try.underlying46 (by kernel_rfl) ?_; simp only [Act.put, Sa, Sz, Ss])
 (go_wp2_with (with_reducible refine wl_stopS 46 ?_); refine stop_store ((w.heap.size + 1)) (#[.int .i64 m.kind, .int .i64 x, .int .i64 m.view, .int .i64 m.op, .int .i64 m.commit, .int .i64 m.normal, .int .i64 m.nonce, .int .i64 m.client, .int .i64 m.req, .int .i64 m.answer, .int .i64 m.ck, .int .i64 m.cx, .int .i64 m.cv, .int .i64 m.log.base, .slice a.cA m.log.cells.length a.cc, .slice a.sA m.log.seats.length a.sc, .slice a.eA m.log.ents.length a.ec]) rfl rfl (E1.out) (by kernel_rfl) rfl (by simp [Value.oneCell']) ?_)
 intro w9 e9 k9
 have E9 := Hd e9
 have X9 := Hd (chg_new X1.out k9 (by omega))
 clear e9 k9
 go_wp2
 exact bodyPost_ret (results_box Try.results48 rfl Try.underlying46 (by kernel_rfl) E9.out) rfl ⟨rfl, X9.out⟩
set_option maxRecDepth 100000 in
set_option maxHeartbeats 4000000 in
theorem c_set118 (a : LAd) (m : Mg) (x : Int) (hx0 : 0 ≤ x) (hx1 : x ≤ 1000000001) (w : World) : Calls Try.prog 48 #[Mg.val a m, .int .u8 118, .int .i64 x] w fun e w' => e = .returned (Mg.val a (setF m 86 x)) ∧ Ext w w' := by
 have D1 := Hd (hOld (o := mz9) (hNew (w := w) (o := .cells #[.int .i64 m.kind, .int .i64 m.frm, .int .i64 x, .int .i64 m.op, .int .i64 m.commit, .int .i64 m.normal, .int .i64 m.nonce, .int .i64 m.client, .int .i64 m.req, .int .i64 m.answer, .int .i64 m.ck, .int .i64 m.cx, .int .i64 m.cv, .int .i64 m.log.base, .slice a.cA m.log.cells.length a.cc, .slice a.sA m.log.seats.length a.sc, .slice a.eA m.log.ents.length a.ec] 46) rfl))
 have E1 := Hd (hNew (w := w.alloc (.cells #[.int .i64 m.kind, .int .i64 m.frm, .int .i64 x, .int .i64 m.op, .int .i64 m.commit, .int .i64 m.normal, .int .i64 m.nonce, .int .i64 m.client, .int .i64 m.req, .int .i64 m.answer, .int .i64 m.ck, .int .i64 m.cx, .int .i64 m.cv, .int .i64 m.log.base, .slice a.cA m.log.cells.length a.cc, .slice a.sA m.log.seats.length a.sc, .slice a.eA m.log.ents.length a.ec] 46)) (o := mz9) (k := w.heap.size + 1) (by simp))
 have X1 := Hd (show Ext w ((w.alloc (.cells #[.int .i64 m.kind, .int .i64 m.frm, .int .i64 x, .int .i64 m.op, .int .i64 m.commit, .int .i64 m.normal, .int .i64 m.nonce, .int .i64 m.client, .int .i64 m.req, .int .i64 m.answer, .int .i64 m.ck, .int .i64 m.cx, .int .i64 m.cv, .int .i64 m.log.base, .slice a.cA m.log.cells.length a.cc, .slice a.sA m.log.seats.length a.sc, .slice a.eA m.log.ents.length a.ec] 46)).alloc mz9) from ext_to (ext_alloc _ _) _)
 have hwx : IntKind.i64.wrap (x - 1) = x - 1 := by rw [IntKind.wrap_i64]; omega
 go_enter Try.func48, Try.ntmps48
 (go_wp2_with (with_reducible refine wl_stop 45 ?_); refine stop_load (D1.out) rfl Try.underlying46 (by kernel_rfl) ?_; simp only [Act.put, Sa, Sz, Ss])
 (go_wp2_with (with_reducible refine wl_stopS 46 ?_); refine stop_store ((w.heap.size + 1)) (#[.int .i64 m.kind, .int .i64 m.frm, .int .i64 x, .int .i64 m.op, .int .i64 m.commit, .int .i64 m.normal, .int .i64 m.nonce, .int .i64 m.client, .int .i64 m.req, .int .i64 m.answer, .int .i64 m.ck, .int .i64 m.cx, .int .i64 m.cv, .int .i64 m.log.base, .slice a.cA m.log.cells.length a.cc, .slice a.sA m.log.seats.length a.sc, .slice a.eA m.log.ents.length a.ec]) rfl rfl (E1.out) (by kernel_rfl) rfl (by simp [Value.oneCell']) ?_)
 intro w9 e9 k9
 have E9 := Hd e9
 have X9 := Hd (chg_new X1.out k9 (by omega))
 clear e9 k9
 go_wp2
 exact bodyPost_ret (results_box Try.results48 rfl Try.underlying46 (by kernel_rfl) E9.out) rfl ⟨rfl, X9.out⟩
set_option maxRecDepth 100000 in
set_option maxHeartbeats 4000000 in
theorem c_set111 (a : LAd) (m : Mg) (x : Int) (hx0 : 0 ≤ x) (hx1 : x ≤ 1000000001) (w : World) : Calls Try.prog 48 #[Mg.val a m, .int .u8 111, .int .i64 x] w fun e w' => e = .returned (Mg.val a (setF m 79 x)) ∧ Ext w w' := by
 have D1 := Hd (hOld (o := mz9) (hNew (w := w) (o := .cells #[.int .i64 m.kind, .int .i64 m.frm, .int .i64 m.view, .int .i64 x, .int .i64 m.commit, .int .i64 m.normal, .int .i64 m.nonce, .int .i64 m.client, .int .i64 m.req, .int .i64 m.answer, .int .i64 m.ck, .int .i64 m.cx, .int .i64 m.cv, .int .i64 m.log.base, .slice a.cA m.log.cells.length a.cc, .slice a.sA m.log.seats.length a.sc, .slice a.eA m.log.ents.length a.ec] 46) rfl))
 have E1 := Hd (hNew (w := w.alloc (.cells #[.int .i64 m.kind, .int .i64 m.frm, .int .i64 m.view, .int .i64 x, .int .i64 m.commit, .int .i64 m.normal, .int .i64 m.nonce, .int .i64 m.client, .int .i64 m.req, .int .i64 m.answer, .int .i64 m.ck, .int .i64 m.cx, .int .i64 m.cv, .int .i64 m.log.base, .slice a.cA m.log.cells.length a.cc, .slice a.sA m.log.seats.length a.sc, .slice a.eA m.log.ents.length a.ec] 46)) (o := mz9) (k := w.heap.size + 1) (by simp))
 have X1 := Hd (show Ext w ((w.alloc (.cells #[.int .i64 m.kind, .int .i64 m.frm, .int .i64 m.view, .int .i64 x, .int .i64 m.commit, .int .i64 m.normal, .int .i64 m.nonce, .int .i64 m.client, .int .i64 m.req, .int .i64 m.answer, .int .i64 m.ck, .int .i64 m.cx, .int .i64 m.cv, .int .i64 m.log.base, .slice a.cA m.log.cells.length a.cc, .slice a.sA m.log.seats.length a.sc, .slice a.eA m.log.ents.length a.ec] 46)).alloc mz9) from ext_to (ext_alloc _ _) _)
 have hwx : IntKind.i64.wrap (x - 1) = x - 1 := by rw [IntKind.wrap_i64]; omega
 go_enter Try.func48, Try.ntmps48
 (go_wp2_with (with_reducible refine wl_stop 45 ?_); refine stop_load (D1.out) rfl Try.underlying46 (by kernel_rfl) ?_; simp only [Act.put, Sa, Sz, Ss])
 (go_wp2_with (with_reducible refine wl_stopS 46 ?_); refine stop_store ((w.heap.size + 1)) (#[.int .i64 m.kind, .int .i64 m.frm, .int .i64 m.view, .int .i64 x, .int .i64 m.commit, .int .i64 m.normal, .int .i64 m.nonce, .int .i64 m.client, .int .i64 m.req, .int .i64 m.answer, .int .i64 m.ck, .int .i64 m.cx, .int .i64 m.cv, .int .i64 m.log.base, .slice a.cA m.log.cells.length a.cc, .slice a.sA m.log.seats.length a.sc, .slice a.eA m.log.ents.length a.ec]) rfl rfl (E1.out) (by kernel_rfl) rfl (by simp [Value.oneCell']) ?_)
 intro w9 e9 k9
 have E9 := Hd e9
 have X9 := Hd (chg_new X1.out k9 (by omega))
 clear e9 k9
 go_wp2
 exact bodyPost_ret (results_box Try.results48 rfl Try.underlying46 (by kernel_rfl) E9.out) rfl ⟨rfl, X9.out⟩
set_option maxRecDepth 100000 in
set_option maxHeartbeats 4000000 in
theorem c_set99 (a : LAd) (m : Mg) (x : Int) (hx0 : 0 ≤ x) (hx1 : x ≤ 1000000001) (w : World) : Calls Try.prog 48 #[Mg.val a m, .int .u8 99, .int .i64 x] w fun e w' => e = .returned (Mg.val a (setF m 67 x)) ∧ Ext w w' := by
 have D1 := Hd (hOld (o := mz9) (hNew (w := w) (o := .cells #[.int .i64 m.kind, .int .i64 m.frm, .int .i64 m.view, .int .i64 m.op, .int .i64 x, .int .i64 m.normal, .int .i64 m.nonce, .int .i64 m.client, .int .i64 m.req, .int .i64 m.answer, .int .i64 m.ck, .int .i64 m.cx, .int .i64 m.cv, .int .i64 m.log.base, .slice a.cA m.log.cells.length a.cc, .slice a.sA m.log.seats.length a.sc, .slice a.eA m.log.ents.length a.ec] 46) rfl))
 have E1 := Hd (hNew (w := w.alloc (.cells #[.int .i64 m.kind, .int .i64 m.frm, .int .i64 m.view, .int .i64 m.op, .int .i64 x, .int .i64 m.normal, .int .i64 m.nonce, .int .i64 m.client, .int .i64 m.req, .int .i64 m.answer, .int .i64 m.ck, .int .i64 m.cx, .int .i64 m.cv, .int .i64 m.log.base, .slice a.cA m.log.cells.length a.cc, .slice a.sA m.log.seats.length a.sc, .slice a.eA m.log.ents.length a.ec] 46)) (o := mz9) (k := w.heap.size + 1) (by simp))
 have X1 := Hd (show Ext w ((w.alloc (.cells #[.int .i64 m.kind, .int .i64 m.frm, .int .i64 m.view, .int .i64 m.op, .int .i64 x, .int .i64 m.normal, .int .i64 m.nonce, .int .i64 m.client, .int .i64 m.req, .int .i64 m.answer, .int .i64 m.ck, .int .i64 m.cx, .int .i64 m.cv, .int .i64 m.log.base, .slice a.cA m.log.cells.length a.cc, .slice a.sA m.log.seats.length a.sc, .slice a.eA m.log.ents.length a.ec] 46)).alloc mz9) from ext_to (ext_alloc _ _) _)
 have hwx : IntKind.i64.wrap (x - 1) = x - 1 := by rw [IntKind.wrap_i64]; omega
 go_enter Try.func48, Try.ntmps48
 (go_wp2_with (with_reducible refine wl_stop 45 ?_); refine stop_load (D1.out) rfl Try.underlying46 (by kernel_rfl) ?_; simp only [Act.put, Sa, Sz, Ss])
 (go_wp2_with (with_reducible refine wl_stopS 46 ?_); refine stop_store ((w.heap.size + 1)) (#[.int .i64 m.kind, .int .i64 m.frm, .int .i64 m.view, .int .i64 m.op, .int .i64 x, .int .i64 m.normal, .int .i64 m.nonce, .int .i64 m.client, .int .i64 m.req, .int .i64 m.answer, .int .i64 m.ck, .int .i64 m.cx, .int .i64 m.cv, .int .i64 m.log.base, .slice a.cA m.log.cells.length a.cc, .slice a.sA m.log.seats.length a.sc, .slice a.eA m.log.ents.length a.ec]) rfl rfl (E1.out) (by kernel_rfl) rfl (by simp [Value.oneCell']) ?_)
 intro w9 e9 k9
 have E9 := Hd e9
 have X9 := Hd (chg_new X1.out k9 (by omega))
 clear e9 k9
 go_wp2
 exact bodyPost_ret (results_box Try.results48 rfl Try.underlying46 (by kernel_rfl) E9.out) rfl ⟨rfl, X9.out⟩
set_option maxRecDepth 100000 in
set_option maxHeartbeats 4000000 in
theorem c_set110 (a : LAd) (m : Mg) (x : Int) (hx0 : 0 ≤ x) (hx1 : x ≤ 1000000001) (w : World) : Calls Try.prog 48 #[Mg.val a m, .int .u8 110, .int .i64 x] w fun e w' => e = .returned (Mg.val a (setF m 78 x)) ∧ Ext w w' := by
 have D1 := Hd (hOld (o := mz9) (hNew (w := w) (o := .cells #[.int .i64 m.kind, .int .i64 m.frm, .int .i64 m.view, .int .i64 m.op, .int .i64 m.commit, .int .i64 x, .int .i64 m.nonce, .int .i64 m.client, .int .i64 m.req, .int .i64 m.answer, .int .i64 m.ck, .int .i64 m.cx, .int .i64 m.cv, .int .i64 m.log.base, .slice a.cA m.log.cells.length a.cc, .slice a.sA m.log.seats.length a.sc, .slice a.eA m.log.ents.length a.ec] 46) rfl))
 have E1 := Hd (hNew (w := w.alloc (.cells #[.int .i64 m.kind, .int .i64 m.frm, .int .i64 m.view, .int .i64 m.op, .int .i64 m.commit, .int .i64 x, .int .i64 m.nonce, .int .i64 m.client, .int .i64 m.req, .int .i64 m.answer, .int .i64 m.ck, .int .i64 m.cx, .int .i64 m.cv, .int .i64 m.log.base, .slice a.cA m.log.cells.length a.cc, .slice a.sA m.log.seats.length a.sc, .slice a.eA m.log.ents.length a.ec] 46)) (o := mz9) (k := w.heap.size + 1) (by simp))
 have X1 := Hd (show Ext w ((w.alloc (.cells #[.int .i64 m.kind, .int .i64 m.frm, .int .i64 m.view, .int .i64 m.op, .int .i64 m.commit, .int .i64 x, .int .i64 m.nonce, .int .i64 m.client, .int .i64 m.req, .int .i64 m.answer, .int .i64 m.ck, .int .i64 m.cx, .int .i64 m.cv, .int .i64 m.log.base, .slice a.cA m.log.cells.length a.cc, .slice a.sA m.log.seats.length a.sc, .slice a.eA m.log.ents.length a.ec] 46)).alloc mz9) from ext_to (ext_alloc _ _) _)
 have hwx : IntKind.i64.wrap (x - 1) = x - 1 := by rw [IntKind.wrap_i64]; omega
 go_enter Try.func48, Try.ntmps48
 (go_wp2_with (with_reducible refine wl_stop 45 ?_); refine stop_load (D1.out) rfl Try.underlying46 (by kernel_rfl) ?_; simp only [Act.put, Sa, Sz, Ss])
 (go_wp2_with (with_reducible refine wl_stopS 46 ?_); refine stop_store ((w.heap.size + 1)) (#[.int .i64 m.kind, .int .i64 m.frm, .int .i64 m.view, .int .i64 m.op, .int .i64 m.commit, .int .i64 x, .int .i64 m.nonce, .int .i64 m.client, .int .i64 m.req, .int .i64 m.answer, .int .i64 m.ck, .int .i64 m.cx, .int .i64 m.cv, .int .i64 m.log.base, .slice a.cA m.log.cells.length a.cc, .slice a.sA m.log.seats.length a.sc, .slice a.eA m.log.ents.length a.ec]) rfl rfl (E1.out) (by kernel_rfl) rfl (by simp [Value.oneCell']) ?_)
 intro w9 e9 k9
 have E9 := Hd e9
 have X9 := Hd (chg_new X1.out k9 (by omega))
 clear e9 k9
 go_wp2
 exact bodyPost_ret (results_box Try.results48 rfl Try.underlying46 (by kernel_rfl) E9.out) rfl ⟨rfl, X9.out⟩
set_option maxRecDepth 100000 in
set_option maxHeartbeats 4000000 in
theorem c_set107 (a : LAd) (m : Mg) (x : Int) (hx0 : 0 ≤ x) (hx1 : x ≤ 1000000001) (w : World) : Calls Try.prog 48 #[Mg.val a m, .int .u8 107, .int .i64 x] w fun e w' => e = .returned (Mg.val a (setF m 110 x)) ∧ Ext w w' := by
 have D1 := Hd (hOld (o := mz9) (hNew (w := w) (o := .cells #[.int .i64 m.kind, .int .i64 m.frm, .int .i64 m.view, .int .i64 m.op, .int .i64 m.commit, .int .i64 m.normal, .int .i64 x, .int .i64 m.client, .int .i64 m.req, .int .i64 m.answer, .int .i64 m.ck, .int .i64 m.cx, .int .i64 m.cv, .int .i64 m.log.base, .slice a.cA m.log.cells.length a.cc, .slice a.sA m.log.seats.length a.sc, .slice a.eA m.log.ents.length a.ec] 46) rfl))
 have E1 := Hd (hNew (w := w.alloc (.cells #[.int .i64 m.kind, .int .i64 m.frm, .int .i64 m.view, .int .i64 m.op, .int .i64 m.commit, .int .i64 m.normal, .int .i64 x, .int .i64 m.client, .int .i64 m.req, .int .i64 m.answer, .int .i64 m.ck, .int .i64 m.cx, .int .i64 m.cv, .int .i64 m.log.base, .slice a.cA m.log.cells.length a.cc, .slice a.sA m.log.seats.length a.sc, .slice a.eA m.log.ents.length a.ec] 46)) (o := mz9) (k := w.heap.size + 1) (by simp))
 have X1 := Hd (show Ext w ((w.alloc (.cells #[.int .i64 m.kind, .int .i64 m.frm, .int .i64 m.view, .int .i64 m.op, .int .i64 m.commit, .int .i64 m.normal, .int .i64 x, .int .i64 m.client, .int .i64 m.req, .int .i64 m.answer, .int .i64 m.ck, .int .i64 m.cx, .int .i64 m.cv, .int .i64 m.log.base, .slice a.cA m.log.cells.length a.cc, .slice a.sA m.log.seats.length a.sc, .slice a.eA m.log.ents.length a.ec] 46)).alloc mz9) from ext_to (ext_alloc _ _) _)
 have hwx : IntKind.i64.wrap (x - 1) = x - 1 := by rw [IntKind.wrap_i64]; omega
 go_enter Try.func48, Try.ntmps48
 (go_wp2_with (with_reducible refine wl_stop 45 ?_); refine stop_load (D1.out) rfl Try.underlying46 (by kernel_rfl) ?_; simp only [Act.put, Sa, Sz, Ss])
 (go_wp2_with (with_reducible refine wl_stopS 46 ?_); refine stop_store ((w.heap.size + 1)) (#[.int .i64 m.kind, .int .i64 m.frm, .int .i64 m.view, .int .i64 m.op, .int .i64 m.commit, .int .i64 m.normal, .int .i64 x, .int .i64 m.client, .int .i64 m.req, .int .i64 m.answer, .int .i64 m.ck, .int .i64 m.cx, .int .i64 m.cv, .int .i64 m.log.base, .slice a.cA m.log.cells.length a.cc, .slice a.sA m.log.seats.length a.sc, .slice a.eA m.log.ents.length a.ec]) rfl rfl (E1.out) (by kernel_rfl) rfl (by simp [Value.oneCell']) ?_)
 intro w9 e9 k9
 have E9 := Hd e9
 have X9 := Hd (chg_new X1.out k9 (by omega))
 clear e9 k9
 go_wp2
 exact bodyPost_ret (results_box Try.results48 rfl Try.underlying46 (by kernel_rfl) E9.out) rfl ⟨rfl, X9.out⟩
set_option maxRecDepth 100000 in
set_option maxHeartbeats 4000000 in
theorem c_set67 (a : LAd) (m : Mg) (x : Int) (hx0 : 0 ≤ x) (hx1 : x ≤ 1000000001) (w : World) : Calls Try.prog 48 #[Mg.val a m, .int .u8 67, .int .i64 x] w fun e w' => e = .returned (Mg.val a (setF m 99 x)) ∧ Ext w w' := by
 have D1 := Hd (hOld (o := mz9) (hNew (w := w) (o := .cells #[.int .i64 m.kind, .int .i64 m.frm, .int .i64 m.view, .int .i64 m.op, .int .i64 m.commit, .int .i64 m.normal, .int .i64 m.nonce, .int .i64 x, .int .i64 m.req, .int .i64 m.answer, .int .i64 m.ck, .int .i64 m.cx, .int .i64 m.cv, .int .i64 m.log.base, .slice a.cA m.log.cells.length a.cc, .slice a.sA m.log.seats.length a.sc, .slice a.eA m.log.ents.length a.ec] 46) rfl))
 have E1 := Hd (hNew (w := w.alloc (.cells #[.int .i64 m.kind, .int .i64 m.frm, .int .i64 m.view, .int .i64 m.op, .int .i64 m.commit, .int .i64 m.normal, .int .i64 m.nonce, .int .i64 x, .int .i64 m.req, .int .i64 m.answer, .int .i64 m.ck, .int .i64 m.cx, .int .i64 m.cv, .int .i64 m.log.base, .slice a.cA m.log.cells.length a.cc, .slice a.sA m.log.seats.length a.sc, .slice a.eA m.log.ents.length a.ec] 46)) (o := mz9) (k := w.heap.size + 1) (by simp))
 have X1 := Hd (show Ext w ((w.alloc (.cells #[.int .i64 m.kind, .int .i64 m.frm, .int .i64 m.view, .int .i64 m.op, .int .i64 m.commit, .int .i64 m.normal, .int .i64 m.nonce, .int .i64 x, .int .i64 m.req, .int .i64 m.answer, .int .i64 m.ck, .int .i64 m.cx, .int .i64 m.cv, .int .i64 m.log.base, .slice a.cA m.log.cells.length a.cc, .slice a.sA m.log.seats.length a.sc, .slice a.eA m.log.ents.length a.ec] 46)).alloc mz9) from ext_to (ext_alloc _ _) _)
 have hwx : IntKind.i64.wrap (x - 1) = x - 1 := by rw [IntKind.wrap_i64]; omega
 go_enter Try.func48, Try.ntmps48
 (go_wp2_with (with_reducible refine wl_stop 45 ?_); refine stop_load (D1.out) rfl Try.underlying46 (by kernel_rfl) ?_; simp only [Act.put, Sa, Sz, Ss])
 (go_wp2_with (with_reducible refine wl_stopS 46 ?_); refine stop_store ((w.heap.size + 1)) (#[.int .i64 m.kind, .int .i64 m.frm, .int .i64 m.view, .int .i64 m.op, .int .i64 m.commit, .int .i64 m.normal, .int .i64 m.nonce, .int .i64 x, .int .i64 m.req, .int .i64 m.answer, .int .i64 m.ck, .int .i64 m.cx, .int .i64 m.cv, .int .i64 m.log.base, .slice a.cA m.log.cells.length a.cc, .slice a.sA m.log.seats.length a.sc, .slice a.eA m.log.ents.length a.ec]) rfl rfl (E1.out) (by kernel_rfl) rfl (by simp [Value.oneCell']) ?_)
 intro w9 e9 k9
 have E9 := Hd e9
 have X9 := Hd (chg_new X1.out k9 (by omega))
 clear e9 k9
 go_wp2
 exact bodyPost_ret (results_box Try.results48 rfl Try.underlying46 (by kernel_rfl) E9.out) rfl ⟨rfl, X9.out⟩
set_option maxRecDepth 100000 in
set_option maxHeartbeats 4000000 in
theorem c_set82 (a : LAd) (m : Mg) (x : Int) (hx0 : 0 ≤ x) (hx1 : x ≤ 1000000001) (w : World) : Calls Try.prog 48 #[Mg.val a m, .int .u8 82, .int .i64 x] w fun e w' => e = .returned (Mg.val a (setF m 114 x)) ∧ Ext w w' := by
 have D1 := Hd (hOld (o := mz9) (hNew (w := w) (o := .cells #[.int .i64 m.kind, .int .i64 m.frm, .int .i64 m.view, .int .i64 m.op, .int .i64 m.commit, .int .i64 m.normal, .int .i64 m.nonce, .int .i64 m.client, .int .i64 x, .int .i64 m.answer, .int .i64 m.ck, .int .i64 m.cx, .int .i64 m.cv, .int .i64 m.log.base, .slice a.cA m.log.cells.length a.cc, .slice a.sA m.log.seats.length a.sc, .slice a.eA m.log.ents.length a.ec] 46) rfl))
 have E1 := Hd (hNew (w := w.alloc (.cells #[.int .i64 m.kind, .int .i64 m.frm, .int .i64 m.view, .int .i64 m.op, .int .i64 m.commit, .int .i64 m.normal, .int .i64 m.nonce, .int .i64 m.client, .int .i64 x, .int .i64 m.answer, .int .i64 m.ck, .int .i64 m.cx, .int .i64 m.cv, .int .i64 m.log.base, .slice a.cA m.log.cells.length a.cc, .slice a.sA m.log.seats.length a.sc, .slice a.eA m.log.ents.length a.ec] 46)) (o := mz9) (k := w.heap.size + 1) (by simp))
 have X1 := Hd (show Ext w ((w.alloc (.cells #[.int .i64 m.kind, .int .i64 m.frm, .int .i64 m.view, .int .i64 m.op, .int .i64 m.commit, .int .i64 m.normal, .int .i64 m.nonce, .int .i64 m.client, .int .i64 x, .int .i64 m.answer, .int .i64 m.ck, .int .i64 m.cx, .int .i64 m.cv, .int .i64 m.log.base, .slice a.cA m.log.cells.length a.cc, .slice a.sA m.log.seats.length a.sc, .slice a.eA m.log.ents.length a.ec] 46)).alloc mz9) from ext_to (ext_alloc _ _) _)
 have hwx : IntKind.i64.wrap (x - 1) = x - 1 := by rw [IntKind.wrap_i64]; omega
 go_enter Try.func48, Try.ntmps48
 (go_wp2_with (with_reducible refine wl_stop 45 ?_); refine stop_load (D1.out) rfl Try.underlying46 (by kernel_rfl) ?_; simp only [Act.put, Sa, Sz, Ss])
 (go_wp2_with (with_reducible refine wl_stopS 46 ?_); refine stop_store ((w.heap.size + 1)) (#[.int .i64 m.kind, .int .i64 m.frm, .int .i64 m.view, .int .i64 m.op, .int .i64 m.commit, .int .i64 m.normal, .int .i64 m.nonce, .int .i64 m.client, .int .i64 x, .int .i64 m.answer, .int .i64 m.ck, .int .i64 m.cx, .int .i64 m.cv, .int .i64 m.log.base, .slice a.cA m.log.cells.length a.cc, .slice a.sA m.log.seats.length a.sc, .slice a.eA m.log.ents.length a.ec]) rfl rfl (E1.out) (by kernel_rfl) rfl (by simp [Value.oneCell']) ?_)
 intro w9 e9 k9
 have E9 := Hd e9
 have X9 := Hd (chg_new X1.out k9 (by omega))
 clear e9 k9
 go_wp2
 exact bodyPost_ret (results_box Try.results48 rfl Try.underlying46 (by kernel_rfl) E9.out) rfl ⟨rfl, X9.out⟩
set_option maxRecDepth 100000 in
set_option maxHeartbeats 4000000 in
theorem c_set65 (a : LAd) (m : Mg) (x : Int) (hx0 : 0 ≤ x) (hx1 : x ≤ 1000000001) (w : World) : Calls Try.prog 48 #[Mg.val a m, .int .u8 65, .int .i64 x] w fun e w' => e = .returned (Mg.val a (setF m 65 x)) ∧ Ext w w' := by
 have D1 := Hd (hOld (o := mz9) (hNew (w := w) (o := .cells #[.int .i64 m.kind, .int .i64 m.frm, .int .i64 m.view, .int .i64 m.op, .int .i64 m.commit, .int .i64 m.normal, .int .i64 m.nonce, .int .i64 m.client, .int .i64 m.req, .int .i64 (x - 1), .int .i64 m.ck, .int .i64 m.cx, .int .i64 m.cv, .int .i64 m.log.base, .slice a.cA m.log.cells.length a.cc, .slice a.sA m.log.seats.length a.sc, .slice a.eA m.log.ents.length a.ec] 46) rfl))
 have E1 := Hd (hNew (w := w.alloc (.cells #[.int .i64 m.kind, .int .i64 m.frm, .int .i64 m.view, .int .i64 m.op, .int .i64 m.commit, .int .i64 m.normal, .int .i64 m.nonce, .int .i64 m.client, .int .i64 m.req, .int .i64 (x - 1), .int .i64 m.ck, .int .i64 m.cx, .int .i64 m.cv, .int .i64 m.log.base, .slice a.cA m.log.cells.length a.cc, .slice a.sA m.log.seats.length a.sc, .slice a.eA m.log.ents.length a.ec] 46)) (o := mz9) (k := w.heap.size + 1) (by simp))
 have X1 := Hd (show Ext w ((w.alloc (.cells #[.int .i64 m.kind, .int .i64 m.frm, .int .i64 m.view, .int .i64 m.op, .int .i64 m.commit, .int .i64 m.normal, .int .i64 m.nonce, .int .i64 m.client, .int .i64 m.req, .int .i64 (x - 1), .int .i64 m.ck, .int .i64 m.cx, .int .i64 m.cv, .int .i64 m.log.base, .slice a.cA m.log.cells.length a.cc, .slice a.sA m.log.seats.length a.sc, .slice a.eA m.log.ents.length a.ec] 46)).alloc mz9) from ext_to (ext_alloc _ _) _)
 have hwx : IntKind.i64.wrap (x - 1) = x - 1 := by rw [IntKind.wrap_i64]; omega
 go_enter Try.func48, Try.ntmps48
 (go_wp2_with (with_reducible refine wl_stop 45 ?_); refine stop_load (D1.out) rfl Try.underlying46 (by kernel_rfl) ?_; simp only [Act.put, Sa, Sz, Ss])
 (go_wp2_with (with_reducible refine wl_stopS 46 ?_); refine stop_store ((w.heap.size + 1)) (#[.int .i64 m.kind, .int .i64 m.frm, .int .i64 m.view, .int .i64 m.op, .int .i64 m.commit, .int .i64 m.normal, .int .i64 m.nonce, .int .i64 m.client, .int .i64 m.req, .int .i64 (x - 1), .int .i64 m.ck, .int .i64 m.cx, .int .i64 m.cv, .int .i64 m.log.base, .slice a.cA m.log.cells.length a.cc, .slice a.sA m.log.seats.length a.sc, .slice a.eA m.log.ents.length a.ec]) rfl rfl (E1.out) (by kernel_rfl) rfl (by simp [Value.oneCell']) ?_)
 intro w9 e9 k9
 have E9 := Hd e9
 have X9 := Hd (chg_new X1.out k9 (by omega))
 clear e9 k9
 go_wp2
 exact bodyPost_ret (results_box Try.results48 rfl Try.underlying46 (by kernel_rfl) E9.out) rfl ⟨rfl, X9.out⟩
theorem rd_from1 {w : World} {b o c : Nat} {l : List Nat} (h : Rd bEnc 1 w (some ⟨b, o, none⟩) c l) {j : Nat} (hj : j ≤ l.length) : Rd bEnc 1 w (some ⟨b, o + j, none⟩) (c - j) (l.drop j) := by
 refine ⟨by have := h.1; rw [List.length_drop]; omega, by have := h.2.1; omega, fun h0 => ?_⟩
 rw [List.length_drop] at h0
 obtain ⟨b', o', e, hb, hc⟩ := h.2.2 (by omega)
 simp only [Option.some.injEq, Addr.mk.injEq] at e
 obtain ⟨rfl, rfl, _⟩ := e
 refine ⟨b, o + j, rfl, hb, fun k hk q u hu => ?_⟩
 rw [List.length_drop] at hk
 rw [List.getElem_drop] at hu
 have := hc (j + k) (by omega) q u hu
 rw [show o + j + k * 1 + q = o + (j + k) * 1 + q by omega]
 exact this
theorem rd_take1 {w : World} {A : Option Addr} {c : Nat} {l : List Nat} (h : Rd bEnc 1 w A c l) (n : Nat) : Rd bEnc 1 w A c (l.take n) := by
 refine ⟨Nat.le_trans (by simp; omega) h.1, h.2.1, fun h0 => ?_⟩
 have hl : 0 < l.length := by
  rw [List.length_take] at h0; omega
 obtain ⟨b, o, e, hb, hc⟩ := h.2.2 hl
 refine ⟨b, o, e, hb, fun k hk j u hu => ?_⟩
 have hk2 : k < l.length := by rw [List.length_take] at hk; omega
 refine hc k hk2 j u ?_
 rw [List.getElem_take] at hu
 exact hu
theorem Rd.cellB {w : World} {b o c : Nat} {l : List Nat} (h : Rd bEnc 1 w (some ⟨b, o, none⟩) c l) {j x : Nat} (hj : l[j]? = some x) : w.cell? ⟨b, o + j, none⟩ = some (.int .u8 x) := by
 obtain ⟨hlt, rfl⟩ := List.getElem?_eq_some_iff.1 hj
 obtain ⟨b', o', e, _, hc⟩ := h.atB hlt
 simp only [Option.some.injEq, Addr.mk.injEq] at e
 obtain ⟨rfl, rfl, _⟩ := e
 exact hc
theorem unfr_split {b : List Nat} (hb : Byt b) {n f : Nat} (hz : getZ b 0 = some ((n : Int), f)) (hl : f + n + 4 ≤ b.length) : ∃ body c4 : List Nat, (b.drop f).take n = body ∧ (b.drop (f + n)).take 4 = c4 ∧ body.length = n ∧ c4.length = 4 ∧ Byt body ∧ Byt c4 ∧ f = (putN n).length ∧ b.take (f + n + 4) = putN n ++ (body ++ c4) := by
 obtain ⟨h1, _, _, _, h5⟩ := getZ_of hb hz
 rw [Dz, show ((n : Int)).toNat = n by omega] at h1
 have hf : f = (putN n).length := by
  have := congrArg List.length h1
  rw [List.length_append, List.length_drop] at this
  omega
 refine ⟨_, _, rfl, rfl, ?_, ?_, fun x hx => hb x (List.mem_of_mem_drop (List.mem_of_mem_take hx)), fun x hx => hb x (List.mem_of_mem_drop (List.mem_of_mem_take hx)), hf, ?_⟩
 ·rw [List.length_take, List.length_drop]; omega
 ·rw [List.length_take, List.length_drop]; omega
 ·have e1 : b.take (f + n + 4) = b.take f ++ ((b.drop f).take (n + 4)) := by
   rw [show f + n + 4 = f + (n + 4) by omega, List.take_add]
  have e2 : (b.drop f).take (n + 4) = (b.drop f).take n ++ (b.drop (f + n)).take 4 := by
   rw [List.take_add, List.drop_drop]
  have e3 : b.take f = putN n := by
   conv => lhs; rw [h1, hf]
   exact List.take_left
  rw [e1, e2, e3]
theorem sum_le4 {x0 x1 x2 x3 n : Nat} (h0 : x0 < 256) (h1 : x1 < 256) (h2 : x2 < 256) (h3 : x3 < 256) (hn : n < 4294967296) : (n = x0 + x1 * 256 + x2 * 65536 + x3 * 16777216) ↔ [x0, x1, x2, x3] = le4 n := by
 simp only [le4, List.cons.injEq, and_true]
 omega
theorem four_of {l : List Nat} (h : l.length = 4) : ∃ x0 x1 x2 x3, l = [x0, x1, x2, x3] := by
 match l, h with
 | [a, b, c, d], _ => exact ⟨a, b, c, d, rfl⟩
theorem getZ_le' {b : List Nat} (hb : Byt b) {e : Nat} {x : Int} {f : Nat} (h : getZ b e = some (x, f)) : f ≤ b.length ∧ 0 ≤ x ∧ x < 9223372036854775808 := by
 obtain ⟨_, h1, h2, _, h3⟩ := getZ_of hb h
 exact ⟨h3, h1, h2⟩
def unfE (b : List Nat) : List Nat × Nat × Int := ((unfr b).1, (unfr b).2.1, (unfr b).2.2)
set_option maxHeartbeats 2000000 in
theorem c_equalB (A B : Option Addr) (ca cb : Nat) (a b : List Nat) (w : World) (ha : Rd bEnc 1 w A ca a) (hb : Rd bEnc 1 w B cb b) (hn : a.length ≤ 1099511627776) (hn2 : b.length ≤ 1099511627776) :
  Calls Try.prog 90 #[.slice A a.length ca, .slice B b.length cb] w fun e w' => e = .returned (.bool (a == b)) ∧ Ext w w' := by
 have HA := Hd ha
 have HB := Hd hb
 clear ha hb
 by_cases hl : a.length = b.length
 ·have hl' : ((a.length : Int) != (b.length : Int)) = false := by simp [hl]
  have HL := Hd hl
  clear hl
  go_enter Try.func90, Try.ntmps90
  go_wp2
  go_loopw [5, 13] (fun _ i wr => ∃ k : Nat, k ≤ a.length ∧ i = .int .i64 k ∧ Hid (a.take k = b.take k) ∧ Ext w wr) (fun _ i _ => a.length - (intOf i).toNat)
  case atStart => exact ⟨0, Nat.zero_le _, rfl, Hd (by simp), ext_refl _⟩
  case round =>
   obtain ⟨k, hk, rfl, HT, hx⟩ := hrel
   by_cases hlt : k < a.length
   ·have hltb : k < b.length := by have := HL.out; omega
    obtain ⟨ab, ao, rfl, hab, a0⟩ := (HA.out.keep hx).atB hlt
    obtain ⟨bb, bo, rfl, hbb, b0⟩ := (HB.out.keep hx).atB hltb
    obtain ⟨x, hxe⟩ : ∃ x, a[k] = x := ⟨_, rfl⟩
    obtain ⟨y, hye⟩ : ∃ y, b[k] = y := ⟨_, rfl⟩
    rw [hxe] at a0
    rw [hye] at b0
    by_cases he : x = y
    ·subst he
     have t0 : ((x : Int) != (x : Int)) = false := by simp
     have HN := Hd (show a.take (k + 1) = b.take (k + 1) by rw [List.take_succ_eq_append_getElem hlt, List.take_succ_eq_append_getElem hltb, HT.out, hxe, hye])
     clear hxe hye
     go_wp2
     (refine wp_region_mix' (fun _ _ _ _ _ hq => hq) 9 (by kernel_rfl) (by kernel_rfl) (fun hg => ?_); simp only [headOps, Tc, Tz, List.filter_cons, List.filter_nil, isAlloc, Bool.not_false, Bf, if_true, if_false, List.append_nil, Dc, Dz])
     (repeat (first | (refine wpMix_plain rfl rfl ?_; go_big_quiet_step (fail); refine wpQuiet_nil ?_) | (refine wpMix_skip rfl rfl ?_; simp only [Act.put, Sa, Sz, Ss])))
     (refine wpMix_nil ?_; intro w2 hw2)
     go_wp2
     go_roundw
     case rel => exact ⟨k + 1, by omega, by go_num, HN, Ext.trans hx hw2⟩
     case measure => simp [intOf]; omega
    ·have t0 : ((x : Int) != (y : Int)) = true := by simp; omega
     have HN := Hd (show (a == b) = false by
      rw [beq_eq_false_iff_ne]
      rintro rfl
      exact he (hxe.symm.trans hye))
     clear hxe hye
     go_wp2
     (refine wp_region_mix' (fun _ _ _ _ _ hq => hq) 9 (by kernel_rfl) (by kernel_rfl) (fun hg => ?_); simp only [headOps, Tc, Tz, List.filter_cons, List.filter_nil, isAlloc, Bool.not_false, Bf, if_true, if_false, List.append_nil, Dc, Dz])
     (repeat (first | (refine wpMix_plain rfl rfl ?_; go_big_quiet_step (fail); refine wpQuiet_nil ?_) | (refine wpMix_skip rfl rfl ?_; simp only [Act.put, Sa, Sz, Ss])))
     (refine wpMix_nil ?_; intro w2 hw2)
     go_wp2
     go_ret
     exact ⟨ret_bool (by rw [HN.out]), Ext.trans hx hw2⟩
   ·obtain rfl : k = a.length := by omega
    have HN := Hd (show (a == b) = true by
     have h1 := HT.out
     rw [List.take_length, HL.out, List.take_length] at h1
     rw [h1]
     simp)
    go_wp2
    go_ret
    exact ⟨ret_bool (by rw [HN.out]), hx⟩
 ·have hl' : ((a.length : Int) != (b.length : Int)) = true := by simp; omega
  have HN := Hd (show (a == b) = false by rw [beq_eq_false_iff_ne]; rintro rfl; exact hl rfl)
  clear hl
  go_enter Try.func90, Try.ntmps90
  go_wp2
  go_ret
  exact ⟨ret_bool (by rw [HN.out]), ext_refl _⟩
set_option maxRecDepth 100000 in
set_option maxHeartbeats 2000000 in
theorem c_cloneB (b o c : Nat) (l : List Nat) (n : Nat) (hnl : n = l.length) (w : World) (hr : Rd bEnc 1 w (some ⟨b, o, none⟩) c l) (hn : l.length ≤ 1048576) : Calls Try.prog 89 #[.slice (some ⟨b, o, none⟩) n c] w fun e w' => (∃ A' c', e = .returned (.slice A' l.length c') ∧ Ow bEnc 5 1 w' w.heap.size (.slice A' l.length c') l) ∧ Ext w w' := by
 subst hnl
 obtain ⟨i0, hi, hz0, hz1, hz2⟩ := info_parts Try.infoU8
 have HR := Hd hr
 clear hr
 have HO := Hd (show Ow bEnc 5 1 (w.alloc (.cells #[] 5)) w.heap.size (.slice (some ⟨w.heap.size, 0, none⟩) 0 0) ([] : List Nat) from own_empty (hNew rfl) (Nat.le_refl _))
 have q22 : ∀ (w : World) (a : Option Addr) (n c n' c' : Nat), (binOp .eql 34 (.slice a n c) (.slice none n' c')).run Try.prog w = .ok (.bool a.isNone) w := fun w a n c n' c' => Lib.run_eql_slice_nil w _ _ a n c n' c' Try.underlying34
 go_enter Try.func89, Try.ntmps89
 go_wp2_with (at_builtin; refine wl_app (enc := bEnc) rfl _ _ 34 rfl w.heap.size 5 i0 (.int .u8 0) 1 1 Try.underlying34 hi hz0 hz1 hz2 rfl (by decide) bEnc_len bEnc_one (.slice (some ⟨w.heap.size, 0, none⟩) 0 0) [] rfl HO.out (some ⟨b, o, none⟩) c l l.length rfl rfl (HR.out.keep (ext_alloc _ _)) (by unfold maxLen; simp; omega) (by simp; omega) (by simp) ?_)
 intro v4 w4 o4 hg4
 have X4 := ext_app2 (ext_alloc w _) hg4 HO.out (Nat.le_refl _)
 obtain ⟨A4, c4, rfl⟩ := o4.form
 have HO4 := Hd o4
 clear hg4 o4 HO
 go_wp2
 go_ret
 exact ⟨⟨A4, c4, rfl, HO4.out⟩, X4⟩
set_option maxRecDepth 100000 in
set_option maxHeartbeats 8000000 in
theorem c_sUnframe (A : Option Addr) (c : Nat) (b : List Nat) (w : World) (hr : Rd bEnc 1 w A c b) (hb : Byt b) (hn : b.length ≤ 1048576) : Calls Try.prog 45 #[.slice A b.length c, .int .i64 0] w fun e w' => (∃ A' c', e = .returned (.tuple #[.slice A' (unfE b).1.length c', .int .i64 (unfE b).2.1, .int .i64 (unfE b).2.2]) ∧ Ow bEnc 5 1 w' w.heap.size (.slice A' (unfE b).1.length c') (unfE b).1) ∧ Ext w w' := by
 obtain ⟨i0, hi, hz0, hz1, hz2⟩ := info_parts Try.infoU8
 have HC := Hd (c_sGetNum A c b 0 w hr hb hn (by omega))
 have HR := Hd hr
 have HB := Hd hb
 have hcc := hr.1
 clear hr hb
 cases hz : getZ b 0 with
 | none =>
  rw [hz] at HC
  have HN := Hd (show unfE b = ([], 0, 1) by unfold unfE unfr; rw [hz])
  clear hz
  go_enter Try.func45, Try.ntmps45
  go_wp2_with fail
  refine HC.out.mono ?_
  rintro e2 w2 ⟨rfl, x2⟩
  have hs2 := x2.size
  simp only [gT]
  go_wp2
  exact bodyPost_ret (v := .tuple #[.slice (some ⟨w2.heap.size, 0, none⟩) 0 0, .int .i64 0, .int .i64 1]) (by simp [results, Try.results45, go_sem]) rfl ⟨⟨_, _, by rw [HN.out]; rfl, by rw [HN.out]; exact own_empty (hNew rfl) hs2⟩, ext_to x2 _⟩
 | some p =>
  obtain ⟨x, f⟩ := p
  rw [hz] at HC
  obtain ⟨hf, hx0, hx1⟩ := getZ_le' HB.out hz
  obtain ⟨n, rfl⟩ : ∃ n : Nat, x = (n : Int) := ⟨x.toNat, by omega⟩
  by_cases hg : 4000 < n
  ·have HN := Hd (show unfE b = ([], 0, 1) by unfold unfE unfr; rw [hz]; simp only; rw [if_pos (by omega)])
   have hgi : decide ((4000 : Int) < (n : Int)) = true := by simp; omega
   clear hz
   go_enter Try.func45, Try.ntmps45
   go_wp2_with fail
   refine HC.out.mono ?_
   rintro e2 w2 ⟨rfl, x2⟩
   have hs2 := x2.size
   simp only [gT]
   go_wp2
   exact bodyPost_ret (v := .tuple #[.slice (some ⟨w2.heap.size, 0, none⟩) 0 0, .int .i64 0, .int .i64 1]) (by simp [results, Try.results45, go_sem]) rfl ⟨⟨_, _, by rw [HN.out]; rfl, by rw [HN.out]; exact own_empty (hNew rfl) hs2⟩, ext_to x2 _⟩
  ·have hgi : decide ((4000 : Int) < (n : Int)) = false := by simp; omega
   by_cases hsh : b.length < f + n + 4
   ·have HN := Hd (show unfE b = ([], 0, 2) by unfold unfE unfr; rw [hz]; simp only; rw [if_neg (by omega), if_pos (by omega)])
    have hgs : decide ((b.length : Int) - (f : Int) < (n : Int) + 4) = true := by simp; omega
    clear hz
    go_enter Try.func45, Try.ntmps45
    go_wp2_with fail
    refine HC.out.mono ?_
    rintro e2 w2 ⟨rfl, x2⟩
    have hs2 := x2.size
    simp only [gT]
    go_wp2
    exact bodyPost_ret (v := .tuple #[.slice (some ⟨w2.heap.size, 0, none⟩) 0 0, .int .i64 0, .int .i64 2]) (by simp [results, Try.results45, go_sem]) rfl ⟨⟨_, _, by rw [HN.out]; rfl, by rw [HN.out]; exact own_empty (hNew rfl) hs2⟩, ext_to x2 _⟩
   ·have hgs : decide ((b.length : Int) - (f : Int) < (n : Int) + 4) = false := by simp; omega
    obtain ⟨body, c4, hbd, hc4, hbl, hl4, hbb, hb4, hfp, htk⟩ := unfr_split HB.out hz (by omega)
    have hun : unfE b = if (c4 == le4 (crc body)) = true then (body, f + n + 4, 0) else ([], 0, 3) := by
     unfold unfE unfr
     rw [hz]
     simp only
     rw [if_neg (by omega), if_neg (by omega), show ((n : Int)).toNat = n by omega, hbd, hc4]
    subst hbl
    obtain ⟨x0, x1', x2', x3', rfl⟩ := four_of hl4
    have hq0 := hb4 x0 (by simp)
    have hq1 := hb4 x1' (by simp)
    have hq2 := hb4 x2' (by simp)
    have hq3 := hb4 x3' (by simp)
    have hcl := crc_lt hbb
    have hiff := sum_le4 hq0 hq1 hq2 hq3 hcl
    obtain ⟨zb, zo, hA, hzb, hjunk⟩ := HR.out.atB (show 0 < b.length by omega)
    clear hjunk
    subst hA
    have hnf : ¬ c = f := by omega
    have hnf2 : ¬ c = f + body.length := by omega
    have HRb := Hd (show Rd bEnc 1 w (some ⟨zb, zo + f, none⟩) (c - f) body by rw [← hbd]; exact rd_take1 (rd_from1 HR.out (by omega)) _)
    have HRc := Hd (show Rd bEnc 1 w (some ⟨zb, zo + (f + body.length), none⟩) (c - (f + body.length)) [x0, x1', x2', x3'] by rw [← hc4]; exact rd_take1 (rd_from1 HR.out (by omega)) 4)
    have HBd := Hd hbb
    have HU := Hd hun
    have HIf := Hd hiff
    clear hz hbd hc4 hbb hb4 hun hiff htk hfp
    go_enter Try.func45, Try.ntmps45
    go_wp2_with fail
    refine HC.out.mono ?_
    rintro e2 w2 ⟨rfl, x2⟩
    have hs2 := x2.size
    simp only [gT]
    have HO := Hd (show Ow bEnc 5 1 (w2.alloc (.cells #[] 5)) w.heap.size (.slice (some ⟨w2.heap.size, 0, none⟩) 0 0) ([] : List Nat) from own_empty (hNew rfl) hs2)
    have HX2 := Hd x2
    clear x2 HC
    go_wp2_with (at_builtin; refine wl_app (enc := bEnc) rfl _ _ 34 rfl w.heap.size 5 i0 (.int .u8 0) 1 1 Try.underlying34 hi hz0 hz1 hz2 rfl (by decide) bEnc_len bEnc_one (.slice (some ⟨w2.heap.size, 0, none⟩) 0 0) [] rfl HO.out (some ⟨zb, zo + f, none⟩) (c - f) body (f + body.length - f) (by omega) rfl (HRb.out.keep (Ext.trans HX2.out (ext_alloc _ _))) (by unfold maxLen; simp; omega) (by simp; omega) (by simp; omega) ?_)
    intro v3 w3 o3 hg3
    obtain ⟨A3, c3, rfl⟩ := o3.form
    have X3 := Hd (ext_app2 (ext_to HX2.out _) hg3 HO.out (Nat.le_refl _))
    have HO3 := Hd o3
    have hr4 := HRc.out.keep X3.out
    have e0 : w3.cell? ⟨zb, zo + (f + body.length), none⟩ = some (.int .u8 x0) := hr4.cellB (j := 0) rfl
    have e1 : w3.cell? ⟨zb, zo + (f + body.length) + 1, none⟩ = some (.int .u8 x1') := hr4.cellB (j := 1) rfl
    have e2 : w3.cell? ⟨zb, zo + (f + body.length) + 2, none⟩ = some (.int .u8 x2') := hr4.cellB (j := 2) rfl
    have e3 : w3.cell? ⟨zb, zo + (f + body.length) + 3, none⟩ = some (.int .u8 x3') := hr4.cellB (j := 3) rfl
    have hzb3 : zb < w3.heap.size := by have := X3.out.size; omega
    have HCr := Hd (fun W (h : Ext w3 W) => c_sCrc A3 c3 body W ((HO3.out.kept h).rd bEnc_len).2 HBd.out (by omega))
    clear hr4 o3 hg3 HO
    by_cases hq : [x0, x1', x2', x3'] = le4 (crc body)
    ·have HN := Hd (show unfE b = (body, f + body.length + 4, 0) by rw [HU.out, if_pos (by rw [hq]; simp)])
     have hsum := HIf.out.2 hq
     have t0 : ((crc body : Int) != ((x0 : Int) + (x1' : Int) * 256 + (x2' : Int) * 65536 + (x3' : Int) * 16777216)) = false := by simp; omega
     clear hq hsum
     go_wp2
     rw [show f + body.length + 4 - (f + body.length) = 4 from by omega]
     (refine wp_region_mix' (fun _ _ _ _ _ hq => hq) 25 (by kernel_rfl) (by kernel_rfl) (fun hg => ?_); simp only [headOps, Tc, Tz, List.filter_cons, List.filter_nil, isAlloc, Bool.not_false, Bf, if_true, if_false, List.append_nil, Dc, Dz])
     (repeat (first | (refine wpMix_plain rfl rfl ?_; go_big_quiet_step (fail); refine wpQuiet_nil ?_) | (refine wpMix_skip rfl rfl ?_; simp only [Act.put, Sa, Sz, Ss]) | (refine wpMix_det rfl rfl rfl (enters Try.func71 (by kernel_rfl) rfl) (fun W hW => HCr.out W hW) rfl ?_; simp only [Act.put, Sa, Sz, Ss])))
     (refine wpMix_nil ?_; intro w4 hw4)
     have HO4 := Hd (HO3.out.kept hw4)
     have X4 := Hd (Ext.trans X3.out hw4)
     clear hw4 HO3 X3
     go_wp2
     exact bodyPost_ret (v := .tuple #[.slice A3 body.length c3, .int .i64 ((f : Int) + (body.length : Int) + 4), .int .i64 0]) (by simp [results, Try.results45, go_sem]) rfl ⟨⟨_, _, by rw [HN.out]; rfl, by rw [HN.out]; exact HO4.out⟩, X4.out⟩
    ·have HN := Hd (show unfE b = ([], 0, 3) by rw [HU.out, if_neg (by simpa using hq)])
     have hsum : ¬ (crc body = x0 + x1' * 256 + x2' * 65536 + x3' * 16777216) := fun h => hq (HIf.out.1 h)
     have t0 : ((crc body : Int) != ((x0 : Int) + (x1' : Int) * 256 + (x2' : Int) * 65536 + (x3' : Int) * 16777216)) = true := by simp; omega
     clear hq hsum
     go_wp2
     rw [show f + body.length + 4 - (f + body.length) = 4 from by omega]
     (refine wp_region_mix' (fun _ _ _ _ _ hq => hq) 25 (by kernel_rfl) (by kernel_rfl) (fun hg => ?_); simp only [headOps, Tc, Tz, List.filter_cons, List.filter_nil, isAlloc, Bool.not_false, Bf, if_true, if_false, List.append_nil, Dc, Dz])
     (repeat (first | (refine wpMix_plain rfl rfl ?_; go_big_quiet_step (fail); refine wpQuiet_nil ?_) | (refine wpMix_skip rfl rfl ?_; simp only [Act.put, Sa, Sz, Ss]) | (refine wpMix_det rfl rfl rfl (enters Try.func71 (by kernel_rfl) rfl) (fun W hW => HCr.out W hW) rfl ?_; simp only [Act.put, Sa, Sz, Ss])))
     (refine wpMix_nil ?_; intro w4 hw4)
     have X4 := Hd (Ext.trans X3.out hw4)
     have hs4 := X4.out.size
     clear hw4 HO3 X3
     go_wp2
     exact bodyPost_ret (v := .tuple #[.slice (some ⟨w4.heap.size, 0, none⟩) 0 0, .int .i64 0, .int .i64 3]) (by simp [results, Try.results45, go_sem]) rfl ⟨⟨_, _, by rw [HN.out]; rfl, by rw [HN.out]; exact own_empty (hNew rfl) hs4⟩, ext_to X4.out _⟩
theorem frame_beq (body c4 : List Nat) : (frame body == putN body.length ++ (body ++ c4)) = (c4 == le4 (crc body)) := by
 rw [Bool.eq_iff_iff, beq_iff_eq, beq_iff_eq]
 unfold frame
 rw [List.append_cancel_left_eq, List.append_cancel_left_eq]
 exact eq_comm
set_option maxRecDepth 100000 in
set_option maxHeartbeats 8000000 in
theorem c_iUnframe (A : Option Addr) (c : Nat) (b : List Nat) (w : World) (hr : Rd bEnc 1 w A c b) (hb : Byt b) (hn : b.length ≤ 1048576) : Calls Try.prog 49 #[.slice A b.length c, .int .i64 0] w fun e w' => (∃ A' c', e = .returned (.tuple #[.slice A' (unfE b).1.length c', .int .i64 (unfE b).2.1, .int .i64 (unfE b).2.2]) ∧ Ow bEnc 5 1 w' w.heap.size (.slice A' (unfE b).1.length c') (unfE b).1) ∧ Ext w w' := by
 have HC := Hd (c_iGetNum A c b 0 w hr hb hn (by omega))
 have HR := Hd hr
 have HB := Hd hb
 have hcc := hr.1
 have hnil := fun (W : World) => show Ow bEnc 5 1 W w.heap.size (.slice none 0 0) ([] : List Nat) from ⟨by simp, .inl ⟨rfl, rfl⟩⟩
 have HNil := Hd hnil
 clear hr hb hnil
 cases hz : getZ b 0 with
 | none =>
  rw [hz] at HC
  have HN := Hd (show unfE b = ([], 0, 1) by unfold unfE unfr; rw [hz])
  clear hz
  go_enter Try.func49, Try.ntmps49
  go_wp2_with fail
  refine HC.out.mono ?_
  rintro e2 w2 ⟨rfl, x2⟩
  simp only [gT]
  go_wp2
  exact bodyPost_ret (v := .tuple #[.slice none 0 0, .int .i64 0, .int .i64 1]) (by simp [results, Try.results49, go_sem]) rfl ⟨⟨_, _, by rw [HN.out]; rfl, by rw [HN.out]; exact HNil.out _⟩, x2⟩
 | some p =>
  obtain ⟨x, f⟩ := p
  rw [hz] at HC
  obtain ⟨hf, hx0, hx1⟩ := getZ_le' HB.out hz
  obtain ⟨n, rfl⟩ : ∃ n : Nat, x = (n : Int) := ⟨x.toNat, by omega⟩
  by_cases hg : 4000 < n
  ·have HN := Hd (show unfE b = ([], 0, 1) by unfold unfE unfr; rw [hz]; simp only; rw [if_pos (by omega)])
   have hgi : decide ((4000 : Int) < (n : Int)) = true := by simp; omega
   clear hz
   go_enter Try.func49, Try.ntmps49
   go_wp2_with fail
   refine HC.out.mono ?_
   rintro e2 w2 ⟨rfl, x2⟩
   simp only [gT]
   go_wp2
   exact bodyPost_ret (v := .tuple #[.slice none 0 0, .int .i64 0, .int .i64 1]) (by simp [results, Try.results49, go_sem]) rfl ⟨⟨_, _, by rw [HN.out]; rfl, by rw [HN.out]; exact HNil.out _⟩, x2⟩
  ·have hgi : decide ((4000 : Int) < (n : Int)) = false := by simp; omega
   by_cases hsh : b.length < f + n + 4
   ·have HN := Hd (show unfE b = ([], 0, 2) by unfold unfE unfr; rw [hz]; simp only; rw [if_neg (by omega), if_pos (by omega)])
    have hgs : decide ((b.length : Int) - (f : Int) < (n : Int) + 4) = true := by simp; omega
    clear hz
    go_enter Try.func49, Try.ntmps49
    go_wp2_with fail
    refine HC.out.mono ?_
    rintro e2 w2 ⟨rfl, x2⟩
    simp only [gT]
    go_wp2
    exact bodyPost_ret (v := .tuple #[.slice none 0 0, .int .i64 0, .int .i64 2]) (by simp [results, Try.results49, go_sem]) rfl ⟨⟨_, _, by rw [HN.out]; rfl, by rw [HN.out]; exact HNil.out _⟩, x2⟩
   ·have hgs : decide ((b.length : Int) - (f : Int) < (n : Int) + 4) = false := by simp; omega
    obtain ⟨body, c4, hbd, hc4, hbl, hl4, hbb, hb4, hfp, htk⟩ := unfr_split HB.out hz (by omega)
    have hun : unfE b = if (c4 == le4 (crc body)) = true then (body, f + n + 4, 0) else ([], 0, 3) := by
     unfold unfE unfr
     rw [hz]
     simp only
     rw [if_neg (by omega), if_neg (by omega), show ((n : Int)).toNat = n by omega, hbd, hc4]
    subst hbl
    obtain ⟨zb, zo, hA, hzb, hjunk⟩ := HR.out.atB (show 0 < b.length by omega)
    clear hjunk
    subst hA
    have hnf : ¬ c = f := by omega
    have hnf0 : ¬ c = 0 := by omega
    have HRb := Hd (show Rd bEnc 1 w (some ⟨zb, zo + f, none⟩) (c - f) body by rw [← hbd]; exact rd_take1 (rd_from1 HR.out (by omega)) _)
    have htl : (b.take (f + body.length + 4)).length = f + body.length + 4 := by rw [List.length_take]; omega
    have HEq := Hd (show (frame body == b.take (f + body.length + 4)) = (c4 == le4 (crc body)) by rw [htk]; exact frame_beq body c4)
    have HTl := Hd htl
    have HBd := Hd hbb
    have HU := Hd hun
    obtain ⟨q, hq⟩ : ∃ q, (c4 == le4 (crc body)) = q := ⟨_, rfl⟩
    rw [hq] at HEq HU
    have hfl : (frame body).length ≤ 5000 := by
     unfold frame
     rw [List.length_append, List.length_append, le4_len]
     have := putN_len9 (x := body.length) (by omega)
     omega
    clear hz hbd hc4 hbb hb4 hun htk htl hq hfp
    go_enter Try.func49, Try.ntmps49
    go_wp2_with fail
    refine HC.out.mono ?_
    rintro e2 w2 ⟨rfl, x2⟩
    have hs2 := x2.size
    have HX2 := Hd x2
    simp only [gT]
    clear x2 HC
    go_wp2_with fail
    refine (c_cloneB zb (zo + f) (c - f) body body.length rfl w2 (HRb.out.keep HX2.out) (by omega)).mono ?_
    rintro e3 w3 ⟨⟨A3, c3, rfl, o3⟩, x3⟩
    have HO3 := Hd (o3.less hs2)
    have HX3 := Hd (Ext.trans HX2.out x3)
    clear o3 x3
    go_wp2_with fail
    refine (c_iFrame A3 c3 body w3 (HO3.out.rd bEnc_len).2 HBd.out (by omega)).mono ?_
    rintro e4 w4 ⟨⟨A4, c4', rfl, o4⟩, x4⟩
    have HO4 := Hd (HO3.out.kept x4)
    have HF4 := Hd (o4.rd bEnc_len).2
    have HX4 := Hd (Ext.trans HX3.out x4)
    have HE := Hd (c_equalB A4 (some ⟨zb, zo, none⟩) c4' c (frame body) (b.take (f + body.length + 4)) w4 HF4.out (rd_take1 (HR.out.keep HX4.out) _) (by omega) (by rw [HTl.out]; omega))
    rw [HTl.out, HEq.out] at HE
    clear o4 x4 HO3 HX3
    go_wp2_with fail
    refine HE.out.mono ?_
    rintro e5 w5 ⟨rfl, x5⟩
    have HX5 := Hd (Ext.trans HX4.out x5)
    have HO5 := Hd (HO4.out.kept x5)
    clear x5 HO4
    cases q
    ·have HN := Hd (show unfE b = ([], 0, 3) by rw [HU.out, if_neg (by simp)])
     go_wp2
     exact bodyPost_ret (v := .tuple #[.slice none 0 0, .int .i64 0, .int .i64 3]) (by simp [results, Try.results49, go_sem]) rfl ⟨⟨_, _, by rw [HN.out]; rfl, by rw [HN.out]; exact HNil.out _⟩, HX5.out⟩
    ·have HN := Hd (show unfE b = (body, f + body.length + 4, 0) by rw [HU.out, if_pos rfl])
     go_wp2
     exact bodyPost_ret (v := .tuple #[.slice A3 body.length c3, .int .i64 ((f : Int) + (body.length : Int) + 4), .int .i64 0]) (by simp [results, Try.results49, go_sem]) rfl ⟨⟨_, _, by rw [HN.out]; rfl, by rw [HN.out]; exact HO5.out⟩, HX5.out⟩
end Go.Proofs.Ytpghedeghoegmaa
