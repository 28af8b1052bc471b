/- OnTurn, OnDo of the program. -/
import Derived.Test.YtkenlhdiehaemaaGreatK5
import Derived.Test.YtkenlhdiehaemaaGreatGq
namespace Go.Proofs.YtkenlhdiehaemaaGreat
open Go.ChangeShapes Go.WideShapes Go.ChangeAt Go.RowKit Go.Sort
set_option linter.unusedVariables false
set_option linter.unusedSimpArgs false

set_option maxRecDepth 100000 in
set_option maxHeartbeats 4000000 in
theorem c_iOnTurn (a : LAd) (A : Option Addr) (c : Nat) (ps : List VtE) (r : Rp) (am : LAd) (m : Mg) (w : World) (hr : RpR w a A c ps r) (hs : r.log.small) (hn : ps.length ≤ 1048576) (hv : LgS ps) (hm : LgR w am m.log) (hms : m.log.small) :
    Calls Tryz.prog 38 #[Rp.val a A ps.length c r, Mg.val am m] w fun e w' => ∃ v, e = .returned v ∧ RoY w' w.heap.size (hearR2 r m 5 (onTurnR r m)) (hearO r m 5 (onTurnO r m)) v ∧ Ext w w' := by
  have X0 : Ext w (((w.alloc (Rp.obj a A ps.length c r)).alloc (Mg.obj am m)).alloc Rp.zobj) := ext_to (ext_to (ext_alloc _ _) _) _
  have D1 := Lib.hid (hOld (o := Rp.zobj) (hOld (o := Mg.obj am m) (hNew (w := w) (o := Rp.obj a A ps.length c r) rfl)))
  have D2 := Lib.hid (hOld (o := Rp.zobj) (hNew (w := w.alloc (Rp.obj a A ps.length c r)) (o := Mg.obj am m) (k := w.heap.size + 1) (by simp)))
  have D3 := Lib.hid (hNew (w := (w.alloc (Rp.obj a A ps.length c r)).alloc (Mg.obj am m)) (o := Rp.zobj) (k := w.heap.size + 1 + 1) (by simp))
  have HM := Lib.hid (hm.keep X0)
  have HH := Lib.hid (c_hears3 a A c ps r am m 5 98 #[.pointer (some ⟨w.heap.size + 1, 0, none⟩)] (onTurnR r m) (onTurnO r m) (((w.alloc (Rp.obj a A ps.length c r)).alloc (Mg.obj am m)).alloc Rp.zobj) (hr.keep X0) hs hn hv (hm.keep X0) hms (enters Tryz.func98 (by kernel_rfl) rfl)
    (fun h1 W0 W p hx hk => c_turn1 hk (Ext.box hx D2.out) (HM.out.keep hx) hs hms h1))
  have HX0 := Lib.hid X0
  clear X0 hr hm hv HM
  go_enter Tryz.func38, Tryz.ntmps38
  (go_wp2_with (with_reducible refine wl_stop 6 ?_); refine stop_load (D1.out) rfl Tryz.underlying43 (by kernel_rfl) ?_; simp only [Act.put, List.setIfInBounds_toArray, List.set_cons_zero, List.set_cons_succ])
  (go_wp2_with (with_reducible refine wl_stop 7 ?_); refine stop_load (D2.out) rfl Tryz.underlying60 (by kernel_rfl) ?_; simp only [Act.put, List.setIfInBounds_toArray, List.set_cons_zero, List.set_cons_succ])
  go_wp2_with fail
  refine HH.out.mono ?_
  rintro e w1 ⟨v, rfl, ⟨a1, A1, c1, qs, Ao, co, os, rfl, h1, h2, h3, h4⟩, x1⟩
  have E3 := Lib.hid (x1.box D3.out)
  have X1 := Lib.hid (Ext.trans HX0.out x1)
  have H1 := Lib.hid h1
  have H2 := Lib.hid h2
  have H3 := Lib.hid h3
  have H4 := Lib.hid h4
  clear h1 h2 h3 h4 x1 HH D1 D2 D3
  (go_wp2_with (with_reducible refine wl_stopS 43 ?_); refine stop_store ((w.heap.size + 1 + 1)) (Rp.cs a1 A1 qs.length c1 (hearR2 r m 5 (onTurnR r m))) rfl rfl (E3.out) (by kernel_rfl) rfl (by simp [Value.oneCell']) ?_)
  intro W9 e9 k9
  have HE9 := Lib.hid e9
  have HF := Lib.hid (RoY.kept0 H1.out H2.out H3.out H4.out k9 (B' := w.heap.size) (by simp) (by simp; omega))
  have HX9 := Lib.hid (chg_new X1.out k9 (by omega))
  clear e9 k9
  go_wp2
  exact bodyPost_ret (results_box2 Tryz.results38 rfl rfl Tryz.underlying43 (by kernel_rfl) HE9.out) rfl ⟨_, rfl, HF.out, HX9.out⟩

set_option maxRecDepth 100000 in
set_option maxHeartbeats 4000000 in
theorem c_iOnDo (a : LAd) (A : Option Addr) (c : Nat) (ps : List VtE) (r : Rp) (am : LAd) (m : Mg) (w : World) (hr : RpR w a A c ps r) (hs : r.log.small) (hn : ps.length ≤ 1048576) (hv : LgS ps) (hm : LgR w am m.log) (hms : m.log.small) :
    Calls Tryz.prog 40 #[Rp.val a A ps.length c r, Mg.val am m] w fun e w' => ∃ v, e = .returned v ∧ RoY w' w.heap.size (hearR2 r m 6 (onDoR r m)) (hearO r m 6 (onDoO r m)) v ∧ Ext w w' := by
  have X0 : Ext w (((w.alloc (Rp.obj a A ps.length c r)).alloc (Mg.obj am m)).alloc Rp.zobj) := ext_to (ext_to (ext_alloc _ _) _) _
  have D1 := Lib.hid (hOld (o := Rp.zobj) (hOld (o := Mg.obj am m) (hNew (w := w) (o := Rp.obj a A ps.length c r) rfl)))
  have D2 := Lib.hid (hOld (o := Rp.zobj) (hNew (w := w.alloc (Rp.obj a A ps.length c r)) (o := Mg.obj am m) (k := w.heap.size + 1) (by simp)))
  have D3 := Lib.hid (hNew (w := (w.alloc (Rp.obj a A ps.length c r)).alloc (Mg.obj am m)) (o := Rp.zobj) (k := w.heap.size + 1 + 1) (by simp))
  have HM := Lib.hid (hm.keep X0)
  have HH := Lib.hid (c_hears3 a A c ps r am m 6 104 #[.pointer (some ⟨w.heap.size + 1, 0, none⟩), .pointer (some ⟨w.heap.size, 0, none⟩)] (onDoR r m) (onDoO r m) (((w.alloc (Rp.obj a A ps.length c r)).alloc (Mg.obj am m)).alloc Rp.zobj) (hr.keep X0) hs hn hv (hm.keep X0) hms (enters Tryz.func104 (by kernel_rfl) rfl)
    (fun h1 W0 W p hx hk => c_do1 hk (Ext.box hx D2.out) (Ext.box hx D1.out) (HM.out.keep hx) hs hms h1))
  have HX0 := Lib.hid X0
  clear X0 hr hm hv HM
  go_enter Tryz.func40, Tryz.ntmps40
  (go_wp2_with (with_reducible refine wl_stop 6 ?_); refine stop_load (D1.out) rfl Tryz.underlying43 (by kernel_rfl) ?_; simp only [Act.put, List.setIfInBounds_toArray, List.set_cons_zero, List.set_cons_succ])
  (go_wp2_with (with_reducible refine wl_stop 7 ?_); refine stop_load (D2.out) rfl Tryz.underlying60 (by kernel_rfl) ?_; simp only [Act.put, List.setIfInBounds_toArray, List.set_cons_zero, List.set_cons_succ])
  go_wp2_with fail
  refine HH.out.mono ?_
  rintro e w1 ⟨v, rfl, ⟨a1, A1, c1, qs, Ao, co, os, rfl, h1, h2, h3, h4⟩, x1⟩
  have E3 := Lib.hid (x1.box D3.out)
  have X1 := Lib.hid (Ext.trans HX0.out x1)
  have H1 := Lib.hid h1
  have H2 := Lib.hid h2
  have H3 := Lib.hid h3
  have H4 := Lib.hid h4
  clear h1 h2 h3 h4 x1 HH D1 D2 D3
  (go_wp2_with (with_reducible refine wl_stopS 43 ?_); refine stop_store ((w.heap.size + 1 + 1)) (Rp.cs a1 A1 qs.length c1 (hearR2 r m 6 (onDoR r m))) rfl rfl (E3.out) (by kernel_rfl) rfl (by simp [Value.oneCell']) ?_)
  intro W9 e9 k9
  have HE9 := Lib.hid e9
  have HF := Lib.hid (RoY.kept0 H1.out H2.out H3.out H4.out k9 (B' := w.heap.size) (by simp) (by simp; omega))
  have HX9 := Lib.hid (chg_new X1.out k9 (by omega))
  clear e9 k9
  go_wp2
  exact bodyPost_ret (results_box2 Tryz.results40 rfl rfl Tryz.underlying43 (by kernel_rfl) HE9.out) rfl ⟨_, rfl, HF.out, HX9.out⟩
end Go.Proofs.YtkenlhdiehaemaaGreat
