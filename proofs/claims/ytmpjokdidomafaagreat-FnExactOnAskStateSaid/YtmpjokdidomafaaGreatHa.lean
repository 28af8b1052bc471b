/- The program's hears: a replica hears a message of a kind, and something is done. -/
import Derived.Test.YtmpjokdidomafaaGreatRs
import Derived.Test.YtmpjokdidomafaaGreatMf
namespace Go.Proofs.YtmpjokdidomafaaGreat
open Go.ChangeShapes Go.WideShapes Go.ChangeAt Go.RowKit Go.Sort
set_option linter.unusedVariables false
set_option linter.unusedSimpArgs false

/-- the message is for the replica, and fits -/
def hearB (r : Rp) (m : Mg) (kind : Int) : Bool := iFits m && ((m.kind == kind) && (if sHas (iForm kind) 70 = true then inB m.frm 0 (r.of - 1) && (m.frm != r.me) else true))
def hearR (r : Rp) : Rp := sameR r
def hearO (r : Rp) (m : Mg) (kind : Int) (O : List Ot) : List Ot := if (rpOk r && hearB r m kind) = true then O else []

set_option maxRecDepth 100000 in
set_option maxHeartbeats 8000000 in
theorem c_hears (a : LAd) (A : Option Addr) (c : Nat) (ps : List VtE) (r : Rp) (am : LAd) (m : Mg) (kind : Int) (fn : Nat) (caps : Array Value) (O : List Ot) (w : World) (hr : RpR w a A c ps r) (hs : r.log.small) (hn : ps.length ≤ 1048576) (hv : LgS ps) (hm : LgR w am m.log) (hms : m.log.small)
    (eg : ∀ args w, (callFunc fn args).run Tryz.prog w = .ok (.enter fn args) w)
    (hdo : (rpOk r && hearB r m kind) = true → ∀ (W0 W : World) (B p : Nat) (a' : LAd) (A' : Option Addr) (c' : Nat) (qs : List VtE), Ext w W0 → p < W0.heap.size → w.heap.size ≤ p → RpO W0 B p a' A' c' qs r → KS W0 W p a' A' ps.length c' r [] none 0 → Calls Tryz.prog fn (#[.pointer (some ⟨p, 0, none⟩)] ++ caps) W fun e w' => e = .returned (.tuple #[]) ∧ ∃ Ao co os, KS W0 w' p a' A' ps.length c' r os Ao co ∧ List.map Prod.snd os = O) :
    Calls Tryz.prog 60 #[Rp.val a A ps.length c r, Mg.val am m, .int .i64 kind, .func (.func fn) #[] caps] w fun e w' => ∃ v, e = .returned v ∧ RoX w' w.heap.size (hearR r) (hearO r m kind O) v ∧ Ext w w' := by
  have X0 : Ext w (((w.alloc (Rp.obj a A ps.length c r)).alloc (Mg.obj am m)).alloc Rp.zobj) := ext_to (ext_to (ext_alloc _ _) _) _
  have hcon := c_iReplicaOk a A c ps r _ (hr.keep X0) hs hn hv
  have HCp := Lib.hid (fun W (h : Ext w W) => c_copyReplica a A c ps r W (hr.keep h) hs hn hv)
  have HFt := Lib.hid (fun W (h : Ext w W) => c_iMsgFits am m W hms (hm.keep h))
  have D1 := Lib.hid (hOld (o := Rp.zobj) (hOld (o := Mg.obj am m) (hNew (w := w) (o := Rp.obj a A ps.length c r) rfl)))
  have D2 := Lib.hid (hOld (o := Rp.zobj) (hNew (w := w.alloc (Rp.obj a A ps.length c r)) (o := Mg.obj am m) (k := w.heap.size + 1) (by simp)))
  have D3 := Lib.hid (hNew (w := (w.alloc (Rp.obj a A ps.length c r)).alloc (Mg.obj am m)) (o := Rp.zobj) (k := w.heap.size + 1 + 1) (by simp))
  have HX0 := Lib.hid X0
  clear X0 hr hv hs hm
  cases q : rpOk r
  · rw [q] at hcon
    have HC := Lib.hid hcon
    have HR := Lib.hid (show hearR r = Rp.zero ∧ hearO r m kind O = [] by simp [hearR, hearO, sameR, q])
    clear q hcon HCp hdo HFt
    go_enter Tryz.func60, Tryz.ntmps60
    (go_wp2_with (with_reducible refine wl_stop 12 ?_); refine stop_load (D1.out) rfl Tryz.underlying42 (by kernel_rfl) ?_; simp only [Act.put, List.setIfInBounds_toArray, List.set_cons_zero, List.set_cons_succ])
    go_wp2_with fail
    refine HC.out.mono ?_
    rintro e w1 ⟨rfl, x1⟩
    have HB := Lib.hid (x1.box D3.out)
    (go_wp2_with (with_reducible refine wl_stopS 42 ?_); refine stop_store ((w.heap.size + 1 + 1)) #[.int .i64 0, .int .i64 0, .int .i64 0, .int .i64 0, .int .i64 0, .int .i64 0, .int .i64 0, .slice none 0 0, .slice none 0 0, .slice none 0 0, .slice none 0 0, .int .i64 0, .int .i64 0] rfl rfl (HB.out) (by kernel_rfl) rfl (by simp [Value.oneCell']) ?_)
    intro W4 E4 C4
    have hX4 := Lib.hid (chg_new (Ext.trans HX0.out x1) C4 (by omega))
    go_wp2
    refine bodyPost_ret (results_box2 Tryz.results60 rfl rfl Tryz.underlying42 (by kernel_rfl) E4) rfl ⟨_, rfl, ?_, hX4.out⟩
    rw [HR.out.1, HR.out.2]
    exact ⟨LAd.none, none, 0, [], none, 0, [], w.heap.size, rfl, RpO.none _ _ _ _ rfl rfl, OsO.nil _ _ _, rfl, Nat.le_refl _, hX4.out.size⟩
  · rw [q] at hcon
    have HC := Lib.hid hcon
    have hfacts := rpOk_facts q
    have HR := Lib.hid (show hearR r = r ∧ hearO r m kind O = (if hearB r m kind = true then O else []) by simp [hearR, hearO, sameR, q])
    rw [q] at hdo
    have HDo := Lib.hid hdo
    clear q hcon hdo
    go_enter Tryz.func60, Tryz.ntmps60
    (go_wp2_with (with_reducible refine wl_stop 12 ?_); refine stop_load (D1.out) rfl Tryz.underlying42 (by kernel_rfl) ?_; simp only [Act.put, List.setIfInBounds_toArray, List.set_cons_zero, List.set_cons_succ])
    go_wp2_with fail
    refine HC.out.mono ?_
    rintro e w1 ⟨rfl, x1⟩
    have B1 := Lib.hid (x1.box D1.out)
    have B2 := Lib.hid (x1.box D2.out)
    have B3 := Lib.hid (x1.box D3.out)
    have X1 := Lib.hid (Ext.trans HX0.out x1)
    have hs01 := HX0.out.size
    clear D1 D2 D3 HX0 HC x1
    (go_wp2_with (with_reducible refine wl_stop 16 ?_); refine stop_load (B1.out) rfl Tryz.underlying42 (by kernel_rfl) ?_; simp only [Act.put, List.setIfInBounds_toArray, List.set_cons_zero, List.set_cons_succ])
    go_wp2_with fail
    refine (HCp.out _ X1.out).mono ?_
    rintro e w2 ⟨a', A', c', qs, rfl, hql, o2, x2⟩
    have HO2 := Lib.hid o2
    have X2 := Lib.hid (Ext.trans X1.out x2)
    have HL := Lib.hid hql
    have hs2 := X2.out.size
    have hs1 := X1.out.size
    have hs12 := x2.size
    have hlt2 := bx_lt B3.out
    have G1 := Lib.hid (hOld (o := Kp.obj a' A' ps.length c' r (.slice none 0 0)) (x2.box B1.out))
    have G2 := Lib.hid (hOld (o := Kp.obj a' A' ps.length c' r (.slice none 0 0)) (x2.box B2.out))
    have G3 := Lib.hid (hOld (o := Kp.obj a' A' ps.length c' r (.slice none 0 0)) (x2.box B3.out))
    have HK0 := Lib.hid (show KS (w2.alloc (Kp.obj a' A' ps.length c' r (.slice none 0 0))) (w2.alloc (Kp.obj a' A' ps.length c' r (.slice none 0 0))) w2.heap.size a' A' ps.length c' r [] none 0 from ⟨hNew rfl, World.ownsRow_nil _ _ _ _, OsQ.nil _ _, Chg.refl _ _⟩)
    have XW0 := Lib.hid (Ext.trans X2.out (ext_alloc w2 (Kp.obj a' A' ps.length c' r (.slice none 0 0))))
    clear o2 x2 hql B1 B2 B3 HCp
    (go_wp2_with (with_reducible refine wl_stop 20 ?_); refine stop_load (G2.out) rfl Tryz.underlying63 (by kernel_rfl) ?_; simp only [Act.put, List.setIfInBounds_toArray, List.set_cons_zero, List.set_cons_succ])
    go_wp2_with fail
    refine (HFt.out _ XW0.out).mono ?_
    rintro e w3 ⟨rfl, x3⟩
    have E1 := Lib.hid (x3.box G1.out)
    have E2 := Lib.hid (x3.box G2.out)
    have X3 := Lib.hid x3
    have d1 := bx_cell E1.out
    have d2 := bx_cell E2.out
    have z1 := bx_lt E1.out
    have z2 := bx_lt E2.out
    have hw : -1000000 ≤ r.of - 1 ∧ r.of - 1 ≤ 1000000 := by omega
    clear x3 G1 G2 HFt
    have hF := iForm_small kind
    have hFl := fun W => c_fields kind W
    obtain ⟨F, hFe⟩ : ∃ F, iForm kind = F := ⟨_, rfl⟩
    rw [hFe] at hF hFl
    have HFl := Lib.hid hFl
    have HFe := Lib.hid hFe
    clear hFl hFe
    cases qf : iFits m
    · have HR' := Lib.hid (show hearO r m kind O = [] by rw [HR.out.2]; simp [hearB, HFe.out, qf])
      go_wp2_with (first | (go_at_call 99; refine (HFl.out _).mono ?_; rintro e w1 ⟨rfl, hx⟩; obtain ⟨hc1, hf1, hs1⟩ := hx.rules; (try simp at hs1); have z0 : w.heap.size < w1.heap.size := (by omega); have z1 : w.heap.size + 1 < w1.heap.size := (by omega)) | (go_at_call 98; refine (c_has _ _ hF _).mono ?_; rintro e w1 ⟨rfl, hx⟩; obtain ⟨hc1, hf1, hs1⟩ := hx.rules; (try simp at hs1); have z0 : w.heap.size < w1.heap.size := (by omega); have z1 : w.heap.size + 1 < w1.heap.size := (by omega)) | (go_at_call 79; refine (c_from _ _ _ _).mono ?_; rintro e w1 ⟨rfl, hx⟩; obtain ⟨hc1, hf1, hs1⟩ := hx.rules; (try simp at hs1); have z0 : w.heap.size < w1.heap.size := (by omega); have z1 : w.heap.size + 1 < w1.heap.size := (by omega)))
      refine code_go (F := fun W => KS (w2.alloc (Kp.obj a' A' ps.length c' r (.slice none 0 0))) W w2.heap.size a' A' ps.length c' r [] none 0 ∧ W.heap[w.heap.size + 1 + 1]? = some Rp.zobj) ?_ ?_
      · have XX : Ext (w2.alloc (Kp.obj a' A' ps.length c' r (.slice none 0 0))) w3 := by
          exact X3.out
        exact ⟨⟨XX.box HK0.out.box, HK0.out.row.kept XX, HK0.out.logs.kept XX, HK0.out.chg.trans (chg_ext _ XX)⟩, XX.box G3.out⟩
      rintro W ⟨kW, dW⟩
      have KW := Lib.hid kW
      have DW := Lib.hid dW
      clear kW dW d1 d2 z1 z2
      have hq9 : w.heap.size + 1 + 1 < W.heap.size := by have := KW.out.chg.size; simp only [sz_alloc] at this; omega
      have M := Lib.hid (fun W' (h : (relS (w.heap.size + 1 + 1) (.cells (Rp.cs a' A' ps.length c' r) 42) W.heap.size hq9).rel W W') => cells_mid (cs := Rp.cs a' A' ps.length c' r) (relS_box KW.out.box (by omega) W' h) [] [.slice none (List.length []) 0] rfl rfl)
      (refine Rm.wp_region_mix' (R := relS (w.heap.size + 1 + 1) (.cells (Rp.cs a' A' ps.length c' r) 42) W.heap.size hq9) (stored (w.heap.size + 1 + 1) (.cells (Rp.cs a' A' ps.length c' r) 42)) (fun _ _ _ _ _ hq => hq) 9 (by first | exact Nat.le_refl _ | omega | (simp; omega)) (by kernel_rfl) (by kernel_rfl) ?_; simp only [List.take_succ_cons, List.take_zero, List.drop_succ_cons, List.drop_zero])
      (iterate 1 (refine Rm.wpMix_plain rfl rfl ?_; go_big_quiet_step (fail); refine wpQuiet_nil ?_))
      (refine Rm.wpMix_nilp rfl rfl rfl ?_; simp only [Act.put, List.setIfInBounds_toArray, List.set_cons_zero, List.set_cons_succ])
      (iterate 1 (refine Rm.wpMix_plain rfl rfl ?_; go_big_quiet_step (fail); refine wpQuiet_nil ?_))
      (refine Rm.wpMix_loadAgg (M.out) rfl rfl rfl Tryz.underlying42 (by kernel_rfl) ?_; simp only [Act.put, List.setIfInBounds_toArray, List.set_cons_zero, List.set_cons_succ])
      (iterate 1 (refine Rm.wpMix_plain rfl rfl ?_; go_big_quiet_step (fail); refine wpQuiet_nil ?_))
      (refine Rm.wpMix_nilp rfl rfl rfl ?_; simp only [Act.put, List.setIfInBounds_toArray, List.set_cons_zero, List.set_cons_succ])
      (iterate 1 (refine Rm.wpMix_plain rfl rfl ?_; go_big_quiet_step (fail); refine wpQuiet_nil ?_))
      (refine Rm.wpMix_load1 (fun W' h => show W'.cell? _ = some (.slice none (List.length []) 0) from bx_cell (relS_box KW.out.box (by omega) W' h) 13) rfl rfl rfl Tryz.underlying43 rfl ?_; simp only [Act.put, List.setIfInBounds_toArray, List.set_cons_zero, List.set_cons_succ])
      refine wpMix_st DW.out rfl rfl rfl rfl rfl (by kernel_rfl) rfl (by simp [Value.oneCell']) ?_
      simp only [Act.put, List.setIfInBounds_toArray, List.set_cons_zero, List.set_cons_succ]
      refine Rm.wpMix_nil ?_
      rintro W9 ⟨h9, E9⟩
      have c9 := h9.1
      have HE9 := Lib.hid E9
      have X9 := (((chg_ext [w2.heap.size, w.heap.size + 1 + 1] (ext_alloc w2 (Kp.obj a' A' ps.length c' r (.slice none 0 0)))).trans (KW.out.chg.more (fun k hk => by rw [List.mem_singleton] at hk; simp [hk]))).trans (c9.more (fun k hk => by rw [List.mem_singleton] at hk; simp [hk])))
      have hR9 := HO2.out.chgAny X9 (fun k h1 h2 hm => by simp only [List.mem_cons, List.mem_nil_iff, or_false] at hm; omega)
      have hO9 := (KW.out.logs.own KW.out.row).chg c9 (fun k hk hm => by rw [List.mem_singleton] at hm; have := (KW.out.logs.own KW.out.row).low k hk; simp only [sz_alloc] at this; omega)
      have HX9 := Lib.hid (ext_chg X2.out X9 (fun g hg => by simp only [List.mem_cons, List.mem_nil_iff, or_false] at hg; omega))
      have HR9 := Lib.hid hR9
      have HO9 := Lib.hid (hO9.wide (Nat.le_refl _) c9.size)
      have hMW := Nat.le_trans KW.out.chg.size c9.size
      clear E9 h9 c9 X9 hR9 hO9 M
      go_wp2
      refine bodyPost_ret (results_box2 Tryz.results60 rfl rfl Tryz.underlying42 (by kernel_rfl) HE9.out) rfl ⟨_, rfl, ?_, HX9.out⟩
      rw [HR.out.1, HR'.out]
      refine ⟨a', A', c', qs, none, 0, [], (w2.alloc (Kp.obj a' A' ps.length c' r (.slice none 0 0))).heap.size, by rw [HL.out]; rfl, ?_, HO9.out, rfl, by simp; omega, hMW⟩
      exact RpO.wide ⟨HR9.out.l, HR9.out.v, HR9.out.e, HR9.out.d⟩ (by omega) (by simp)
    · cases qk : (m.kind == kind)
      · have HR' := Lib.hid (show hearO r m kind O = [] by rw [HR.out.2]; simp [hearB, HFe.out, qf, qk])
        go_wp2_with (first | (go_at_call 99; refine (HFl.out _).mono ?_; rintro e w1 ⟨rfl, hx⟩; obtain ⟨hc1, hf1, hs1⟩ := hx.rules; (try simp at hs1); have z0 : w.heap.size < w1.heap.size := (by omega); have z1 : w.heap.size + 1 < w1.heap.size := (by omega)) | (go_at_call 98; refine (c_has _ _ hF _).mono ?_; rintro e w1 ⟨rfl, hx⟩; obtain ⟨hc1, hf1, hs1⟩ := hx.rules; (try simp at hs1); have z0 : w.heap.size < w1.heap.size := (by omega); have z1 : w.heap.size + 1 < w1.heap.size := (by omega)) | (go_at_call 79; refine (c_from _ _ _ _).mono ?_; rintro e w1 ⟨rfl, hx⟩; obtain ⟨hc1, hf1, hs1⟩ := hx.rules; (try simp at hs1); have z0 : w.heap.size < w1.heap.size := (by omega); have z1 : w.heap.size + 1 < w1.heap.size := (by omega)))
        refine code_go (F := fun W => KS (w2.alloc (Kp.obj a' A' ps.length c' r (.slice none 0 0))) W w2.heap.size a' A' ps.length c' r [] none 0 ∧ W.heap[w.heap.size + 1 + 1]? = some Rp.zobj) ?_ ?_
        · have XX : Ext (w2.alloc (Kp.obj a' A' ps.length c' r (.slice none 0 0))) w3 := by
            exact X3.out
          exact ⟨⟨XX.box HK0.out.box, HK0.out.row.kept XX, HK0.out.logs.kept XX, HK0.out.chg.trans (chg_ext _ XX)⟩, XX.box G3.out⟩
        rintro W ⟨kW, dW⟩
        have KW := Lib.hid kW
        have DW := Lib.hid dW
        clear kW dW d1 d2 z1 z2
        have hq9 : w.heap.size + 1 + 1 < W.heap.size := by have := KW.out.chg.size; simp only [sz_alloc] at this; omega
        have M := Lib.hid (fun W' (h : (relS (w.heap.size + 1 + 1) (.cells (Rp.cs a' A' ps.length c' r) 42) W.heap.size hq9).rel W W') => cells_mid (cs := Rp.cs a' A' ps.length c' r) (relS_box KW.out.box (by omega) W' h) [] [.slice none (List.length []) 0] rfl rfl)
        (refine Rm.wp_region_mix' (R := relS (w.heap.size + 1 + 1) (.cells (Rp.cs a' A' ps.length c' r) 42) W.heap.size hq9) (stored (w.heap.size + 1 + 1) (.cells (Rp.cs a' A' ps.length c' r) 42)) (fun _ _ _ _ _ hq => hq) 9 (by first | exact Nat.le_refl _ | omega | (simp; omega)) (by kernel_rfl) (by kernel_rfl) ?_; simp only [List.take_succ_cons, List.take_zero, List.drop_succ_cons, List.drop_zero])
        (iterate 1 (refine Rm.wpMix_plain rfl rfl ?_; go_big_quiet_step (fail); refine wpQuiet_nil ?_))
        (refine Rm.wpMix_nilp rfl rfl rfl ?_; simp only [Act.put, List.setIfInBounds_toArray, List.set_cons_zero, List.set_cons_succ])
        (iterate 1 (refine Rm.wpMix_plain rfl rfl ?_; go_big_quiet_step (fail); refine wpQuiet_nil ?_))
        (refine Rm.wpMix_loadAgg (M.out) rfl rfl rfl Tryz.underlying42 (by kernel_rfl) ?_; simp only [Act.put, List.setIfInBounds_toArray, List.set_cons_zero, List.set_cons_succ])
        (iterate 1 (refine Rm.wpMix_plain rfl rfl ?_; go_big_quiet_step (fail); refine wpQuiet_nil ?_))
        (refine Rm.wpMix_nilp rfl rfl rfl ?_; simp only [Act.put, List.setIfInBounds_toArray, List.set_cons_zero, List.set_cons_succ])
        (iterate 1 (refine Rm.wpMix_plain rfl rfl ?_; go_big_quiet_step (fail); refine wpQuiet_nil ?_))
        (refine Rm.wpMix_load1 (fun W' h => show W'.cell? _ = some (.slice none (List.length []) 0) from bx_cell (relS_box KW.out.box (by omega) W' h) 13) rfl rfl rfl Tryz.underlying43 rfl ?_; simp only [Act.put, List.setIfInBounds_toArray, List.set_cons_zero, List.set_cons_succ])
        refine wpMix_st DW.out rfl rfl rfl rfl rfl (by kernel_rfl) rfl (by simp [Value.oneCell']) ?_
        simp only [Act.put, List.setIfInBounds_toArray, List.set_cons_zero, List.set_cons_succ]
        refine Rm.wpMix_nil ?_
        rintro W9 ⟨h9, E9⟩
        have c9 := h9.1
        have HE9 := Lib.hid E9
        have X9 := (((chg_ext [w2.heap.size, w.heap.size + 1 + 1] (ext_alloc w2 (Kp.obj a' A' ps.length c' r (.slice none 0 0)))).trans (KW.out.chg.more (fun k hk => by rw [List.mem_singleton] at hk; simp [hk]))).trans (c9.more (fun k hk => by rw [List.mem_singleton] at hk; simp [hk])))
        have hR9 := HO2.out.chgAny X9 (fun k h1 h2 hm => by simp only [List.mem_cons, List.mem_nil_iff, or_false] at hm; omega)
        have hO9 := (KW.out.logs.own KW.out.row).chg c9 (fun k hk hm => by rw [List.mem_singleton] at hm; have := (KW.out.logs.own KW.out.row).low k hk; simp only [sz_alloc] at this; omega)
        have HX9 := Lib.hid (ext_chg X2.out X9 (fun g hg => by simp only [List.mem_cons, List.mem_nil_iff, or_false] at hg; omega))
        have HR9 := Lib.hid hR9
        have HO9 := Lib.hid (hO9.wide (Nat.le_refl _) c9.size)
        have hMW := Nat.le_trans KW.out.chg.size c9.size
        clear E9 h9 c9 X9 hR9 hO9 M
        go_wp2
        refine bodyPost_ret (results_box2 Tryz.results60 rfl rfl Tryz.underlying42 (by kernel_rfl) HE9.out) rfl ⟨_, rfl, ?_, HX9.out⟩
        rw [HR.out.1, HR'.out]
        refine ⟨a', A', c', qs, none, 0, [], (w2.alloc (Kp.obj a' A' ps.length c' r (.slice none 0 0))).heap.size, by rw [HL.out]; rfl, ?_, HO9.out, rfl, by simp; omega, hMW⟩
        exact RpO.wide ⟨HR9.out.l, HR9.out.v, HR9.out.e, HR9.out.d⟩ (by omega) (by simp)
      · cases qh : sHas F 70
        · have HR' := Lib.hid (show hearO r m kind O = O by rw [HR.out.2]; simp [hearB, HFe.out, qf, qk, qh])
          have hB : hearB r m kind = true := by simp [hearB, HFe.out, qf, qk, qh]
          go_wp2_with (first | (go_at_call 99; refine (HFl.out _).mono ?_; rintro e w1 ⟨rfl, hx⟩; obtain ⟨hc1, hf1, hs1⟩ := hx.rules; (try simp at hs1); have z0 : w.heap.size < w1.heap.size := (by omega); have z1 : w.heap.size + 1 < w1.heap.size := (by omega)) | (go_at_call 98; refine (c_has _ _ hF _).mono ?_; rintro e w1 ⟨rfl, hx⟩; obtain ⟨hc1, hf1, hs1⟩ := hx.rules; (try simp at hs1); have z0 : w.heap.size < w1.heap.size := (by omega); have z1 : w.heap.size + 1 < w1.heap.size := (by omega)) | (go_at_call 79; refine (c_from _ _ _ _).mono ?_; rintro e w1 ⟨rfl, hx⟩; obtain ⟨hc1, hf1, hs1⟩ := hx.rules; (try simp at hs1); have z0 : w.heap.size < w1.heap.size := (by omega); have z1 : w.heap.size + 1 < w1.heap.size := (by omega)))
          have XX : Ext (w2.alloc (Kp.obj a' A' ps.length c' r (.slice none 0 0))) w1 := by
            have X3 := X3.out
            (repeat (first | with_reducible exact ext_refl _ | with_reducible refine ext_to ?_ _ | with_reducible refine ext_set ?_ (by first | (simp; done) | (simp; omega) | omega) _ | with_reducible refine ext_drew ?_ | with_reducible refine Ext.trans ?_ (by assumption)))
          refine (HDo.out (by rw [hB]; rfl) (w2.alloc (Kp.obj a' A' ps.length c' r (.slice none 0 0))) w1 _ w2.heap.size a' A' c' qs XW0.out (by simp) (by omega) (HO2.out.kept (ext_alloc _ _)) ⟨XX.box HK0.out.box, HK0.out.row.kept XX, HK0.out.logs.kept XX, HK0.out.chg.trans (chg_ext _ XX)⟩).mono ?_
          rintro e W ⟨rfl, Ao, co, os, kW, hmO⟩
          have KW := Lib.hid kW
          have DW := Lib.hid (box_chg G3.out kW.chg (by omega))
          have HM := Lib.hid hmO
          clear kW hmO XX d1 d2 z1 z2
          go_wp2
          have hq9 : w.heap.size + 1 + 1 < W.heap.size := by have := KW.out.chg.size; simp only [sz_alloc] at this; omega
          have M := Lib.hid (fun W' (h : (relS (w.heap.size + 1 + 1) (.cells (Rp.cs a' A' ps.length c' r) 42) W.heap.size hq9).rel W W') => cells_mid (cs := Rp.cs a' A' ps.length c' r) (relS_box KW.out.box (by omega) W' h) [] [.slice Ao (List.length os) co] rfl rfl)
          (refine Rm.wp_region_mix' (R := relS (w.heap.size + 1 + 1) (.cells (Rp.cs a' A' ps.length c' r) 42) W.heap.size hq9) (stored (w.heap.size + 1 + 1) (.cells (Rp.cs a' A' ps.length c' r) 42)) (fun _ _ _ _ _ hq => hq) 9 (by first | exact Nat.le_refl _ | omega | (simp; omega)) (by kernel_rfl) (by kernel_rfl) ?_; simp only [List.take_succ_cons, List.take_zero, List.drop_succ_cons, List.drop_zero])
          (iterate 1 (refine Rm.wpMix_plain rfl rfl ?_; go_big_quiet_step (fail); refine wpQuiet_nil ?_))
          (refine Rm.wpMix_nilp rfl rfl rfl ?_; simp only [Act.put, List.setIfInBounds_toArray, List.set_cons_zero, List.set_cons_succ])
          (iterate 1 (refine Rm.wpMix_plain rfl rfl ?_; go_big_quiet_step (fail); refine wpQuiet_nil ?_))
          (refine Rm.wpMix_loadAgg (M.out) rfl rfl rfl Tryz.underlying42 (by kernel_rfl) ?_; simp only [Act.put, List.setIfInBounds_toArray, List.set_cons_zero, List.set_cons_succ])
          (iterate 1 (refine Rm.wpMix_plain rfl rfl ?_; go_big_quiet_step (fail); refine wpQuiet_nil ?_))
          (refine Rm.wpMix_nilp rfl rfl rfl ?_; simp only [Act.put, List.setIfInBounds_toArray, List.set_cons_zero, List.set_cons_succ])
          (iterate 1 (refine Rm.wpMix_plain rfl rfl ?_; go_big_quiet_step (fail); refine wpQuiet_nil ?_))
          (refine Rm.wpMix_load1 (fun W' h => show W'.cell? _ = some (.slice Ao (List.length os) co) from bx_cell (relS_box KW.out.box (by omega) W' h) 13) rfl rfl rfl Tryz.underlying43 rfl ?_; simp only [Act.put, List.setIfInBounds_toArray, List.set_cons_zero, List.set_cons_succ])
          refine wpMix_st DW.out rfl rfl rfl rfl rfl (by kernel_rfl) rfl (by simp [Value.oneCell']) ?_
          simp only [Act.put, List.setIfInBounds_toArray, List.set_cons_zero, List.set_cons_succ]
          refine Rm.wpMix_nil ?_
          rintro W9 ⟨h9, E9⟩
          have c9 := h9.1
          have HE9 := Lib.hid E9
          have X9 := (((chg_ext [w2.heap.size, w.heap.size + 1 + 1] (ext_alloc w2 (Kp.obj a' A' ps.length c' r (.slice none 0 0)))).trans (KW.out.chg.more (fun k hk => by rw [List.mem_singleton] at hk; simp [hk]))).trans (c9.more (fun k hk => by rw [List.mem_singleton] at hk; simp [hk])))
          have hR9 := HO2.out.chgAny X9 (fun k h1 h2 hm => by simp only [List.mem_cons, List.mem_nil_iff, or_false] at hm; omega)
          have hO9 := (KW.out.logs.own KW.out.row).chg c9 (fun k hk hm => by rw [List.mem_singleton] at hm; have := (KW.out.logs.own KW.out.row).low k hk; simp only [sz_alloc] at this; omega)
          have HX9 := Lib.hid (ext_chg X2.out X9 (fun g hg => by simp only [List.mem_cons, List.mem_nil_iff, or_false] at hg; omega))
          have HR9 := Lib.hid hR9
          have HO9 := Lib.hid (hO9.wide (Nat.le_refl _) c9.size)
          have hMW := Nat.le_trans KW.out.chg.size c9.size
          clear E9 h9 c9 X9 hR9 hO9 M
          go_wp2
          refine bodyPost_ret (results_box2 Tryz.results60 rfl rfl Tryz.underlying42 (by kernel_rfl) HE9.out) rfl ⟨_, rfl, ?_, HX9.out⟩
          rw [HR.out.1, HR'.out]
          refine ⟨a', A', c', qs, Ao, co, os, (w2.alloc (Kp.obj a' A' ps.length c' r (.slice none 0 0))).heap.size, by rw [HL.out]; rfl, ?_, HO9.out, HM.out, by simp; omega, hMW⟩
          exact RpO.wide ⟨HR9.out.l, HR9.out.v, HR9.out.e, HR9.out.d⟩ (by omega) (by simp)
        · cases qi : inB m.frm 0 (r.of - 1)
          · have HR' := Lib.hid (show hearO r m kind O = [] by rw [HR.out.2]; simp [hearB, HFe.out, qf, qk, qh, qi])
            go_wp2_with (first | (go_at_call 99; refine (HFl.out _).mono ?_; rintro e w1 ⟨rfl, hx⟩; obtain ⟨hc1, hf1, hs1⟩ := hx.rules; (try simp at hs1); have z0 : w.heap.size < w1.heap.size := (by omega); have z1 : w.heap.size + 1 < w1.heap.size := (by omega)) | (go_at_call 98; refine (c_has _ _ hF _).mono ?_; rintro e w1 ⟨rfl, hx⟩; obtain ⟨hc1, hf1, hs1⟩ := hx.rules; (try simp at hs1); have z0 : w.heap.size < w1.heap.size := (by omega); have z1 : w.heap.size + 1 < w1.heap.size := (by omega)) | (go_at_call 79; refine (c_from _ _ _ _).mono ?_; rintro e w1 ⟨rfl, hx⟩; obtain ⟨hc1, hf1, hs1⟩ := hx.rules; (try simp at hs1); have z0 : w.heap.size < w1.heap.size := (by omega); have z1 : w.heap.size + 1 < w1.heap.size := (by omega)))
            refine code_go (F := fun W => KS (w2.alloc (Kp.obj a' A' ps.length c' r (.slice none 0 0))) W w2.heap.size a' A' ps.length c' r [] none 0 ∧ W.heap[w.heap.size + 1 + 1]? = some Rp.zobj) ?_ ?_
            · have XX : Ext (w2.alloc (Kp.obj a' A' ps.length c' r (.slice none 0 0))) w1 := by
                have X3 := X3.out; (repeat (first | with_reducible exact ext_refl _ | with_reducible refine ext_to ?_ _ | with_reducible refine ext_set ?_ (by first | (simp; done) | (simp; omega) | omega) _ | with_reducible refine ext_drew ?_ | with_reducible refine Ext.trans ?_ (by assumption)))
              exact ⟨⟨XX.box HK0.out.box, HK0.out.row.kept XX, HK0.out.logs.kept XX, HK0.out.chg.trans (chg_ext _ XX)⟩, XX.box G3.out⟩
            rintro W ⟨kW, dW⟩
            have KW := Lib.hid kW
            have DW := Lib.hid dW
            clear kW dW d1 d2 z1 z2
            have hq9 : w.heap.size + 1 + 1 < W.heap.size := by have := KW.out.chg.size; simp only [sz_alloc] at this; omega
            have M := Lib.hid (fun W' (h : (relS (w.heap.size + 1 + 1) (.cells (Rp.cs a' A' ps.length c' r) 42) W.heap.size hq9).rel W W') => cells_mid (cs := Rp.cs a' A' ps.length c' r) (relS_box KW.out.box (by omega) W' h) [] [.slice none (List.length []) 0] rfl rfl)
            (refine Rm.wp_region_mix' (R := relS (w.heap.size + 1 + 1) (.cells (Rp.cs a' A' ps.length c' r) 42) W.heap.size hq9) (stored (w.heap.size + 1 + 1) (.cells (Rp.cs a' A' ps.length c' r) 42)) (fun _ _ _ _ _ hq => hq) 9 (by first | exact Nat.le_refl _ | omega | (simp; omega)) (by kernel_rfl) (by kernel_rfl) ?_; simp only [List.take_succ_cons, List.take_zero, List.drop_succ_cons, List.drop_zero])
            (iterate 1 (refine Rm.wpMix_plain rfl rfl ?_; go_big_quiet_step (fail); refine wpQuiet_nil ?_))
            (refine Rm.wpMix_nilp rfl rfl rfl ?_; simp only [Act.put, List.setIfInBounds_toArray, List.set_cons_zero, List.set_cons_succ])
            (iterate 1 (refine Rm.wpMix_plain rfl rfl ?_; go_big_quiet_step (fail); refine wpQuiet_nil ?_))
            (refine Rm.wpMix_loadAgg (M.out) rfl rfl rfl Tryz.underlying42 (by kernel_rfl) ?_; simp only [Act.put, List.setIfInBounds_toArray, List.set_cons_zero, List.set_cons_succ])
            (iterate 1 (refine Rm.wpMix_plain rfl rfl ?_; go_big_quiet_step (fail); refine wpQuiet_nil ?_))
            (refine Rm.wpMix_nilp rfl rfl rfl ?_; simp only [Act.put, List.setIfInBounds_toArray, List.set_cons_zero, List.set_cons_succ])
            (iterate 1 (refine Rm.wpMix_plain rfl rfl ?_; go_big_quiet_step (fail); refine wpQuiet_nil ?_))
            (refine Rm.wpMix_load1 (fun W' h => show W'.cell? _ = some (.slice none (List.length []) 0) from bx_cell (relS_box KW.out.box (by omega) W' h) 13) rfl rfl rfl Tryz.underlying43 rfl ?_; simp only [Act.put, List.setIfInBounds_toArray, List.set_cons_zero, List.set_cons_succ])
            refine wpMix_st DW.out rfl rfl rfl rfl rfl (by kernel_rfl) rfl (by simp [Value.oneCell']) ?_
            simp only [Act.put, List.setIfInBounds_toArray, List.set_cons_zero, List.set_cons_succ]
            refine Rm.wpMix_nil ?_
            rintro W9 ⟨h9, E9⟩
            have c9 := h9.1
            have HE9 := Lib.hid E9
            have X9 := (((chg_ext [w2.heap.size, w.heap.size + 1 + 1] (ext_alloc w2 (Kp.obj a' A' ps.length c' r (.slice none 0 0)))).trans (KW.out.chg.more (fun k hk => by rw [List.mem_singleton] at hk; simp [hk]))).trans (c9.more (fun k hk => by rw [List.mem_singleton] at hk; simp [hk])))
            have hR9 := HO2.out.chgAny X9 (fun k h1 h2 hm => by simp only [List.mem_cons, List.mem_nil_iff, or_false] at hm; omega)
            have hO9 := (KW.out.logs.own KW.out.row).chg c9 (fun k hk hm => by rw [List.mem_singleton] at hm; have := (KW.out.logs.own KW.out.row).low k hk; simp only [sz_alloc] at this; omega)
            have HX9 := Lib.hid (ext_chg X2.out X9 (fun g hg => by simp only [List.mem_cons, List.mem_nil_iff, or_false] at hg; omega))
            have HR9 := Lib.hid hR9
            have HO9 := Lib.hid (hO9.wide (Nat.le_refl _) c9.size)
            have hMW := Nat.le_trans KW.out.chg.size c9.size
            clear E9 h9 c9 X9 hR9 hO9 M
            go_wp2
            refine bodyPost_ret (results_box2 Tryz.results60 rfl rfl Tryz.underlying42 (by kernel_rfl) HE9.out) rfl ⟨_, rfl, ?_, HX9.out⟩
            rw [HR.out.1, HR'.out]
            refine ⟨a', A', c', qs, none, 0, [], (w2.alloc (Kp.obj a' A' ps.length c' r (.slice none 0 0))).heap.size, by rw [HL.out]; rfl, ?_, HO9.out, rfl, by simp; omega, hMW⟩
            exact RpO.wide ⟨HR9.out.l, HR9.out.v, HR9.out.e, HR9.out.d⟩ (by omega) (by simp)
          · cases qn : (m.frm != r.me)
            · have HR' := Lib.hid (show hearO r m kind O = [] by rw [HR.out.2]; simp [hearB, HFe.out, qf, qk, qh, qi, qn])
              go_wp2_with (first | (go_at_call 99; refine (HFl.out _).mono ?_; rintro e w1 ⟨rfl, hx⟩; obtain ⟨hc1, hf1, hs1⟩ := hx.rules; (try simp at hs1); have z0 : w.heap.size < w1.heap.size := (by omega); have z1 : w.heap.size + 1 < w1.heap.size := (by omega)) | (go_at_call 98; refine (c_has _ _ hF _).mono ?_; rintro e w1 ⟨rfl, hx⟩; obtain ⟨hc1, hf1, hs1⟩ := hx.rules; (try simp at hs1); have z0 : w.heap.size < w1.heap.size := (by omega); have z1 : w.heap.size + 1 < w1.heap.size := (by omega)) | (go_at_call 79; refine (c_from _ _ _ _).mono ?_; rintro e w1 ⟨rfl, hx⟩; obtain ⟨hc1, hf1, hs1⟩ := hx.rules; (try simp at hs1); have z0 : w.heap.size < w1.heap.size := (by omega); have z1 : w.heap.size + 1 < w1.heap.size := (by omega)))
              refine code_go (F := fun W => KS (w2.alloc (Kp.obj a' A' ps.length c' r (.slice none 0 0))) W w2.heap.size a' A' ps.length c' r [] none 0 ∧ W.heap[w.heap.size + 1 + 1]? = some Rp.zobj) ?_ ?_
              · have XX : Ext (w2.alloc (Kp.obj a' A' ps.length c' r (.slice none 0 0))) w1 := by
                  have X3 := X3.out; (repeat (first | with_reducible exact ext_refl _ | with_reducible refine ext_to ?_ _ | with_reducible refine ext_set ?_ (by first | (simp; done) | (simp; omega) | omega) _ | with_reducible refine ext_drew ?_ | with_reducible refine Ext.trans ?_ (by assumption)))
                exact ⟨⟨XX.box HK0.out.box, HK0.out.row.kept XX, HK0.out.logs.kept XX, HK0.out.chg.trans (chg_ext _ XX)⟩, XX.box G3.out⟩
              rintro W ⟨kW, dW⟩
              have KW := Lib.hid kW
              have DW := Lib.hid dW
              clear kW dW d1 d2 z1 z2
              have hq9 : w.heap.size + 1 + 1 < W.heap.size := by have := KW.out.chg.size; simp only [sz_alloc] at this; omega
              have M := Lib.hid (fun W' (h : (relS (w.heap.size + 1 + 1) (.cells (Rp.cs a' A' ps.length c' r) 42) W.heap.size hq9).rel W W') => cells_mid (cs := Rp.cs a' A' ps.length c' r) (relS_box KW.out.box (by omega) W' h) [] [.slice none (List.length []) 0] rfl rfl)
              (refine Rm.wp_region_mix' (R := relS (w.heap.size + 1 + 1) (.cells (Rp.cs a' A' ps.length c' r) 42) W.heap.size hq9) (stored (w.heap.size + 1 + 1) (.cells (Rp.cs a' A' ps.length c' r) 42)) (fun _ _ _ _ _ hq => hq) 9 (by first | exact Nat.le_refl _ | omega | (simp; omega)) (by kernel_rfl) (by kernel_rfl) ?_; simp only [List.take_succ_cons, List.take_zero, List.drop_succ_cons, List.drop_zero])
              (iterate 1 (refine Rm.wpMix_plain rfl rfl ?_; go_big_quiet_step (fail); refine wpQuiet_nil ?_))
              (refine Rm.wpMix_nilp rfl rfl rfl ?_; simp only [Act.put, List.setIfInBounds_toArray, List.set_cons_zero, List.set_cons_succ])
              (iterate 1 (refine Rm.wpMix_plain rfl rfl ?_; go_big_quiet_step (fail); refine wpQuiet_nil ?_))
              (refine Rm.wpMix_loadAgg (M.out) rfl rfl rfl Tryz.underlying42 (by kernel_rfl) ?_; simp only [Act.put, List.setIfInBounds_toArray, List.set_cons_zero, List.set_cons_succ])
              (iterate 1 (refine Rm.wpMix_plain rfl rfl ?_; go_big_quiet_step (fail); refine wpQuiet_nil ?_))
              (refine Rm.wpMix_nilp rfl rfl rfl ?_; simp only [Act.put, List.setIfInBounds_toArray, List.set_cons_zero, List.set_cons_succ])
              (iterate 1 (refine Rm.wpMix_plain rfl rfl ?_; go_big_quiet_step (fail); refine wpQuiet_nil ?_))
              (refine Rm.wpMix_load1 (fun W' h => show W'.cell? _ = some (.slice none (List.length []) 0) from bx_cell (relS_box KW.out.box (by omega) W' h) 13) rfl rfl rfl Tryz.underlying43 rfl ?_; simp only [Act.put, List.setIfInBounds_toArray, List.set_cons_zero, List.set_cons_succ])
              refine wpMix_st DW.out rfl rfl rfl rfl rfl (by kernel_rfl) rfl (by simp [Value.oneCell']) ?_
              simp only [Act.put, List.setIfInBounds_toArray, List.set_cons_zero, List.set_cons_succ]
              refine Rm.wpMix_nil ?_
              rintro W9 ⟨h9, E9⟩
              have c9 := h9.1
              have HE9 := Lib.hid E9
              have X9 := (((chg_ext [w2.heap.size, w.heap.size + 1 + 1] (ext_alloc w2 (Kp.obj a' A' ps.length c' r (.slice none 0 0)))).trans (KW.out.chg.more (fun k hk => by rw [List.mem_singleton] at hk; simp [hk]))).trans (c9.more (fun k hk => by rw [List.mem_singleton] at hk; simp [hk])))
              have hR9 := HO2.out.chgAny X9 (fun k h1 h2 hm => by simp only [List.mem_cons, List.mem_nil_iff, or_false] at hm; omega)
              have hO9 := (KW.out.logs.own KW.out.row).chg c9 (fun k hk hm => by rw [List.mem_singleton] at hm; have := (KW.out.logs.own KW.out.row).low k hk; simp only [sz_alloc] at this; omega)
              have HX9 := Lib.hid (ext_chg X2.out X9 (fun g hg => by simp only [List.mem_cons, List.mem_nil_iff, or_false] at hg; omega))
              have HR9 := Lib.hid hR9
              have HO9 := Lib.hid (hO9.wide (Nat.le_refl _) c9.size)
              have hMW := Nat.le_trans KW.out.chg.size c9.size
              clear E9 h9 c9 X9 hR9 hO9 M
              go_wp2
              refine bodyPost_ret (results_box2 Tryz.results60 rfl rfl Tryz.underlying42 (by kernel_rfl) HE9.out) rfl ⟨_, rfl, ?_, HX9.out⟩
              rw [HR.out.1, HR'.out]
              refine ⟨a', A', c', qs, none, 0, [], (w2.alloc (Kp.obj a' A' ps.length c' r (.slice none 0 0))).heap.size, by rw [HL.out]; rfl, ?_, HO9.out, rfl, by simp; omega, hMW⟩
              exact RpO.wide ⟨HR9.out.l, HR9.out.v, HR9.out.e, HR9.out.d⟩ (by omega) (by simp)
            · have HR' := Lib.hid (show hearO r m kind O = O by rw [HR.out.2]; simp [hearB, HFe.out, qf, qk, qh, qi, qn])
              have hB : hearB r m kind = true := by simp [hearB, HFe.out, qf, qk, qh, qi, qn]
              go_wp2_with (first | (go_at_call 99; refine (HFl.out _).mono ?_; rintro e w1 ⟨rfl, hx⟩; obtain ⟨hc1, hf1, hs1⟩ := hx.rules; (try simp at hs1); have z0 : w.heap.size < w1.heap.size := (by omega); have z1 : w.heap.size + 1 < w1.heap.size := (by omega)) | (go_at_call 98; refine (c_has _ _ hF _).mono ?_; rintro e w1 ⟨rfl, hx⟩; obtain ⟨hc1, hf1, hs1⟩ := hx.rules; (try simp at hs1); have z0 : w.heap.size < w1.heap.size := (by omega); have z1 : w.heap.size + 1 < w1.heap.size := (by omega)) | (go_at_call 79; refine (c_from _ _ _ _).mono ?_; rintro e w1 ⟨rfl, hx⟩; obtain ⟨hc1, hf1, hs1⟩ := hx.rules; (try simp at hs1); have z0 : w.heap.size < w1.heap.size := (by omega); have z1 : w.heap.size + 1 < w1.heap.size := (by omega)))
              have XX : Ext (w2.alloc (Kp.obj a' A' ps.length c' r (.slice none 0 0))) w1 := by
                have X3 := X3.out
                (repeat (first | with_reducible exact ext_refl _ | with_reducible refine ext_to ?_ _ | with_reducible refine ext_set ?_ (by first | (simp; done) | (simp; omega) | omega) _ | with_reducible refine ext_drew ?_ | with_reducible refine Ext.trans ?_ (by assumption)))
              refine (HDo.out (by rw [hB]; rfl) (w2.alloc (Kp.obj a' A' ps.length c' r (.slice none 0 0))) w1 _ w2.heap.size a' A' c' qs XW0.out (by simp) (by omega) (HO2.out.kept (ext_alloc _ _)) ⟨XX.box HK0.out.box, HK0.out.row.kept XX, HK0.out.logs.kept XX, HK0.out.chg.trans (chg_ext _ XX)⟩).mono ?_
              rintro e W ⟨rfl, Ao, co, os, kW, hmO⟩
              have KW := Lib.hid kW
              have DW := Lib.hid (box_chg G3.out kW.chg (by omega))
              have HM := Lib.hid hmO
              clear kW hmO XX d1 d2 z1 z2
              go_wp2
              have hq9 : w.heap.size + 1 + 1 < W.heap.size := by have := KW.out.chg.size; simp only [sz_alloc] at this; omega
              have M := Lib.hid (fun W' (h : (relS (w.heap.size + 1 + 1) (.cells (Rp.cs a' A' ps.length c' r) 42) W.heap.size hq9).rel W W') => cells_mid (cs := Rp.cs a' A' ps.length c' r) (relS_box KW.out.box (by omega) W' h) [] [.slice Ao (List.length os) co] rfl rfl)
              (refine Rm.wp_region_mix' (R := relS (w.heap.size + 1 + 1) (.cells (Rp.cs a' A' ps.length c' r) 42) W.heap.size hq9) (stored (w.heap.size + 1 + 1) (.cells (Rp.cs a' A' ps.length c' r) 42)) (fun _ _ _ _ _ hq => hq) 9 (by first | exact Nat.le_refl _ | omega | (simp; omega)) (by kernel_rfl) (by kernel_rfl) ?_; simp only [List.take_succ_cons, List.take_zero, List.drop_succ_cons, List.drop_zero])
              (iterate 1 (refine Rm.wpMix_plain rfl rfl ?_; go_big_quiet_step (fail); refine wpQuiet_nil ?_))
              (refine Rm.wpMix_nilp rfl rfl rfl ?_; simp only [Act.put, List.setIfInBounds_toArray, List.set_cons_zero, List.set_cons_succ])
              (iterate 1 (refine Rm.wpMix_plain rfl rfl ?_; go_big_quiet_step (fail); refine wpQuiet_nil ?_))
              (refine Rm.wpMix_loadAgg (M.out) rfl rfl rfl Tryz.underlying42 (by kernel_rfl) ?_; simp only [Act.put, List.setIfInBounds_toArray, List.set_cons_zero, List.set_cons_succ])
              (iterate 1 (refine Rm.wpMix_plain rfl rfl ?_; go_big_quiet_step (fail); refine wpQuiet_nil ?_))
              (refine Rm.wpMix_nilp rfl rfl rfl ?_; simp only [Act.put, List.setIfInBounds_toArray, List.set_cons_zero, List.set_cons_succ])
              (iterate 1 (refine Rm.wpMix_plain rfl rfl ?_; go_big_quiet_step (fail); refine wpQuiet_nil ?_))
              (refine Rm.wpMix_load1 (fun W' h => show W'.cell? _ = some (.slice Ao (List.length os) co) from bx_cell (relS_box KW.out.box (by omega) W' h) 13) rfl rfl rfl Tryz.underlying43 rfl ?_; simp only [Act.put, List.setIfInBounds_toArray, List.set_cons_zero, List.set_cons_succ])
              refine wpMix_st DW.out rfl rfl rfl rfl rfl (by kernel_rfl) rfl (by simp [Value.oneCell']) ?_
              simp only [Act.put, List.setIfInBounds_toArray, List.set_cons_zero, List.set_cons_succ]
              refine Rm.wpMix_nil ?_
              rintro W9 ⟨h9, E9⟩
              have c9 := h9.1
              have HE9 := Lib.hid E9
              have X9 := (((chg_ext [w2.heap.size, w.heap.size + 1 + 1] (ext_alloc w2 (Kp.obj a' A' ps.length c' r (.slice none 0 0)))).trans (KW.out.chg.more (fun k hk => by rw [List.mem_singleton] at hk; simp [hk]))).trans (c9.more (fun k hk => by rw [List.mem_singleton] at hk; simp [hk])))
              have hR9 := HO2.out.chgAny X9 (fun k h1 h2 hm => by simp only [List.mem_cons, List.mem_nil_iff, or_false] at hm; omega)
              have hO9 := (KW.out.logs.own KW.out.row).chg c9 (fun k hk hm => by rw [List.mem_singleton] at hm; have := (KW.out.logs.own KW.out.row).low k hk; simp only [sz_alloc] at this; omega)
              have HX9 := Lib.hid (ext_chg X2.out X9 (fun g hg => by simp only [List.mem_cons, List.mem_nil_iff, or_false] at hg; omega))
              have HR9 := Lib.hid hR9
              have HO9 := Lib.hid (hO9.wide (Nat.le_refl _) c9.size)
              have hMW := Nat.le_trans KW.out.chg.size c9.size
              clear E9 h9 c9 X9 hR9 hO9 M
              go_wp2
              refine bodyPost_ret (results_box2 Tryz.results60 rfl rfl Tryz.underlying42 (by kernel_rfl) HE9.out) rfl ⟨_, rfl, ?_, HX9.out⟩
              rw [HR.out.1, HR'.out]
              refine ⟨a', A', c', qs, Ao, co, os, (w2.alloc (Kp.obj a' A' ps.length c' r (.slice none 0 0))).heap.size, by rw [HL.out]; rfl, ?_, HO9.out, HM.out, by simp; omega, hMW⟩
              exact RpO.wide ⟨HR9.out.l, HR9.out.v, HR9.out.e, HR9.out.d⟩ (by omega) (by simp)
end Go.Proofs.YtmpjokdidomafaaGreat

/- What is done when a replica is asked: OnAskBack and OnAskState of the program. -/
namespace Go.Proofs.YtmpjokdidomafaaGreat
open Go.ChangeShapes Go.WideShapes Go.ChangeAt Go.RowKit Go.Sort
set_option linter.unusedVariables false
set_option linter.unusedSimpArgs false

def backM (r : Rp) (m : Mg) : Mg := ⟨9, r.me, r.view, 0, r.commit, 0, m.nonce, 0, 0, 0, 0, 0, 0, r.log⟩
def backO (r : Rp) (m : Mg) : List Ot := if (r.mode == 1) = true then [⟨m.frm, backM r m⟩] else []
def stateM (r : Rp) : Mg := ⟨11, r.me, r.view, 0, r.commit, 0, 0, 0, 0, 0, 0, 0, 0, r.log⟩
def stateO (r : Rp) (m : Mg) : List Ot := if ((r.mode == 1) && (m.view == r.view)) = true then [⟨m.frm, stateM r⟩] else []
abbrev Lg.cs (a : LAd) (l : Lg) : Array Value := #[.int .i64 l.base, .slice a.cA l.cells.length a.cc, .slice a.sA l.seats.length a.sc, .slice a.eA l.ents.length a.ec]

set_option maxRecDepth 100000 in
set_option maxHeartbeats 4000000 in
theorem c_askBack1 (W0 W : World) (p B P : Nat) (a' : LAd) (A' : Option Addr) (n c' : Nat) (r : Rp) (qs : List VtE) (am : LAd) (m : Mg) (hp : p < W0.heap.size) (hO : RpO W0 B p a' A' c' qs r) (hk : KS W0 W p a' A' n c' r [] none 0) (hP : W0.heap[P]? = some (Mg.obj am m)) (hPp : P < p) (hs : r.log.small) :
    Calls Tryz.prog 61 #[.pointer (some ⟨p, 0, none⟩), .pointer (some ⟨P, 0, none⟩)] W fun e w' => e = .returned (.tuple #[]) ∧ ∃ Ao co os, KS W0 w' p a' A' n c' r os Ao co ∧ List.map Prod.snd os = backO r m := by
  have hL : LgO W B p a' r.log := hO.l.chg hk.chg (fun k hk' hm => by rw [List.mem_singleton] at hm; have := hO.l.top k hk'; omega)
  have HL := Lib.hid hL.rd
  have HK := Lib.hid hk
  have DP := Lib.hid (box_chg hP hk.chg (by omega))
  have d := bx_cell hk.box
  have z := bx_lt hk.box
  clear hO hk hP hL
  cases qm : (r.mode == 1)
  · have HR := Lib.hid (show backO r m = [] by simp [backO, qm])
    go_enter Tryz.func61, Tryz.ntmps61
    go_wp2
    exact bodyPost_end (v := .tuple #[]) (by simp [results, Tryz.results61, go_sem]) rfl ⟨rfl, none, 0, [], HK.out, HR.out.symm⟩
  · have HR := Lib.hid (show backO r m = [⟨m.frm, backM r m⟩] by simp [backO, qm])
    go_enter Tryz.func61, Tryz.ntmps61
    go_wp2
    clear d z
    (refine Rm.wp_region_mix' (R := relE W.heap.size) (fun _ _ _ => True) (fun _ _ _ _ _ hq => hq) 26 (by first | exact Nat.le_refl _ | omega | (simp; omega)) (by kernel_rfl) (by kernel_rfl) ?_; simp only [List.take_succ_cons, List.take_zero, List.drop_succ_cons, List.drop_zero])
    (iterate 2 (refine Rm.wpMix_plain rfl rfl ?_; go_big_quiet_step (fail); refine wpQuiet_nil ?_))
    (refine Rm.wpMix_load1 (fun W' h => show W'.cell? _ = some (.int .i64 m.frm) from bx_cell (Ext.box h DP.out) 1) rfl rfl rfl Tryz.underlying3 rfl ?_; simp only [Act.put, List.setIfInBounds_toArray, List.set_cons_zero, List.set_cons_succ])
    (iterate 1 (refine Rm.wpMix_plain rfl rfl ?_; go_big_quiet_step (fail); refine wpQuiet_nil ?_))
    (refine Rm.wpMix_nilp rfl rfl rfl ?_; simp only [Act.put, List.setIfInBounds_toArray, List.set_cons_zero, List.set_cons_succ])
    (iterate 2 (refine Rm.wpMix_plain rfl rfl ?_; go_big_quiet_step (fail); refine wpQuiet_nil ?_))
    (refine Rm.wpMix_load1 (fun W' h => show W'.cell? _ = some (.int .i64 r.me) from bx_cell (Ext.box h HK.out.box) 0) rfl rfl rfl Tryz.underlying3 rfl ?_; simp only [Act.put, List.setIfInBounds_toArray, List.set_cons_zero, List.set_cons_succ])
    (iterate 1 (refine Rm.wpMix_plain rfl rfl ?_; go_big_quiet_step (fail); refine wpQuiet_nil ?_))
    (refine Rm.wpMix_nilp rfl rfl rfl ?_; simp only [Act.put, List.setIfInBounds_toArray, List.set_cons_zero, List.set_cons_succ])
    (iterate 2 (refine Rm.wpMix_plain rfl rfl ?_; go_big_quiet_step (fail); refine wpQuiet_nil ?_))
    (refine Rm.wpMix_load1 (fun W' h => show W'.cell? _ = some (.int .i64 r.view) from bx_cell (Ext.box h HK.out.box) 3) rfl rfl rfl Tryz.underlying3 rfl ?_; simp only [Act.put, List.setIfInBounds_toArray, List.set_cons_zero, List.set_cons_succ])
    (iterate 1 (refine Rm.wpMix_plain rfl rfl ?_; go_big_quiet_step (fail); refine wpQuiet_nil ?_))
    (refine Rm.wpMix_load1 (fun W' h => show W'.cell? _ = some (.int .i64 m.nonce) from bx_cell (Ext.box h DP.out) 6) rfl rfl rfl Tryz.underlying3 rfl ?_; simp only [Act.put, List.setIfInBounds_toArray, List.set_cons_zero, List.set_cons_succ])
    (iterate 1 (refine Rm.wpMix_plain rfl rfl ?_; go_big_quiet_step (fail); refine wpQuiet_nil ?_))
    (refine Rm.wpMix_nilp rfl rfl rfl ?_; simp only [Act.put, List.setIfInBounds_toArray, List.set_cons_zero, List.set_cons_succ])
    (iterate 2 (refine Rm.wpMix_plain rfl rfl ?_; go_big_quiet_step (fail); refine wpQuiet_nil ?_))
    (refine Rm.wpMix_load1 (fun W' h => show W'.cell? _ = some (.int .i64 r.commit) from bx_cell (Ext.box h HK.out.box) 5) rfl rfl rfl Tryz.underlying3 rfl ?_; simp only [Act.put, List.setIfInBounds_toArray, List.set_cons_zero, List.set_cons_succ])
    (iterate 1 (refine Rm.wpMix_plain rfl rfl ?_; go_big_quiet_step (fail); refine wpQuiet_nil ?_))
    (refine Rm.wpMix_nilp rfl rfl rfl ?_; simp only [Act.put, List.setIfInBounds_toArray, List.set_cons_zero, List.set_cons_succ])
    (iterate 2 (refine Rm.wpMix_plain rfl rfl ?_; go_big_quiet_step (fail); refine wpQuiet_nil ?_))
    (refine Rm.wpMix_loadAgg (fun W' h => cells_mid (cs := Lg.cs a' r.log) (Ext.box h HK.out.box) [.int .i64 r.me, .int .i64 r.of, .int .i64 r.mode, .int .i64 r.view, .int .i64 r.normal, .int .i64 r.commit] [.slice A' n c', .int .i64 r.cell, .int .i64 r.nonce, .slice none (List.length ([] : List OtE)) 0] rfl rfl) rfl rfl rfl Tryz.underlying39 (by kernel_rfl) ?_; simp only [Act.put, List.setIfInBounds_toArray, List.set_cons_zero, List.set_cons_succ])
    (iterate 1 (refine Rm.wpMix_plain rfl rfl ?_; go_big_quiet_step (fail); refine wpQuiet_nil ?_))
    refine Rm.wpMix_nil ?_
    rintro W' hW'
    have hx' : Ext W W' := hW'
    have KW' := Lib.hid (show KS W0 W' p a' A' n c' r [] none 0 from ⟨hx'.box HK.out.box, HK.out.row.kept hx', HK.out.logs.kept hx', HK.out.chg.trans (chg_ext _ hx')⟩)
    have HL' := Lib.hid (HL.out.keep hx')
    clear hx' hW'
    go_wp2_with fail
    refine (c_send W0 p a' A' n c' r [] none 0 m.frm a' (backM r m) W' hp KW'.out HL'.out hs (by simp)).mono ?_
    rintro e W9 ⟨rfl, Ao, co, a9, k9, _⟩
    have K9 := Lib.hid k9
    clear k9
    go_wp2
    exact bodyPost_end (v := .tuple #[]) (by simp [results, Tryz.results61, go_sem]) rfl ⟨rfl, Ao, co, [(a9, ⟨m.frm, backM r m⟩)], K9.out, HR.out.symm⟩

set_option maxRecDepth 100000 in
set_option maxHeartbeats 4000000 in
theorem c_askState1 (W0 W : World) (p B P : Nat) (a' : LAd) (A' : Option Addr) (n c' : Nat) (r : Rp) (qs : List VtE) (am : LAd) (m : Mg) (hp : p < W0.heap.size) (hO : RpO W0 B p a' A' c' qs r) (hk : KS W0 W p a' A' n c' r [] none 0) (hP : W0.heap[P]? = some (Mg.obj am m)) (hPp : P < p) (hs : r.log.small) :
    Calls Tryz.prog 64 #[.pointer (some ⟨p, 0, none⟩), .pointer (some ⟨P, 0, none⟩)] W fun e w' => e = .returned (.tuple #[]) ∧ ∃ Ao co os, KS W0 w' p a' A' n c' r os Ao co ∧ List.map Prod.snd os = stateO r m := by
  have hL : LgO W B p a' r.log := hO.l.chg hk.chg (fun k hk' hm => by rw [List.mem_singleton] at hm; have := hO.l.top k hk'; omega)
  have HL := Lib.hid hL.rd
  have HK := Lib.hid hk
  have DP := Lib.hid (box_chg hP hk.chg (by omega))
  clear hO hk hP hL
  cases qm : (r.mode == 1)
  · have HR := Lib.hid (show stateO r m = [] by simp [stateO, qm])
    go_enter Tryz.func64, Tryz.ntmps64
    go_wp2
    (refine Rm.wp_region_mix' (R := relE W.heap.size) (fun _ _ _ => True) (fun _ _ _ _ _ hq => hq) 16 (by first | exact Nat.le_refl _ | omega | (simp; omega)) (by kernel_rfl) (by kernel_rfl) ?_; simp only [List.take_succ_cons, List.take_zero, List.drop_succ_cons, List.drop_zero])
    (iterate 1 (refine Rm.wpMix_plain rfl rfl ?_; go_big_quiet_step (fail); refine wpQuiet_nil ?_))
    (refine Rm.wpMix_nilp rfl rfl rfl ?_; simp only [Act.put, List.setIfInBounds_toArray, List.set_cons_zero, List.set_cons_succ])
    (iterate 2 (refine Rm.wpMix_plain rfl rfl ?_; go_big_quiet_step (fail); refine wpQuiet_nil ?_))
    (refine Rm.wpMix_load1 (fun W' h => show W'.cell? _ = some (.int .i64 r.mode) from bx_cell (Ext.box h HK.out.box) 2) rfl rfl rfl Tryz.underlying3 rfl ?_; simp only [Act.put, List.setIfInBounds_toArray, List.set_cons_zero, List.set_cons_succ])
    (iterate 1 (refine Rm.wpMix_plain rfl rfl ?_; go_big_quiet_step (fail); refine wpQuiet_nil ?_))
    try simp only [qm]
    (iterate 1 (refine Rm.wpMix_plain rfl rfl ?_; go_big_quiet_step (fail); refine wpQuiet_nil ?_))
    iterate 8 (refine Rm.wpMix_skip rfl rfl ?_; simp only [Act.put, List.setIfInBounds_toArray, List.set_cons_zero, List.set_cons_succ])
    (iterate 1 (refine Rm.wpMix_plain rfl rfl ?_; go_big_quiet_step (fail); refine wpQuiet_nil ?_))
    refine Rm.wpMix_nil ?_
    rintro W' hW'
    have hx' : Ext W W' := hW'
    have KW' := Lib.hid (show KS W0 W' p a' A' n c' r [] none 0 from ⟨hx'.box HK.out.box, HK.out.row.kept hx', HK.out.logs.kept hx', HK.out.chg.trans (chg_ext _ hx')⟩)
    clear hx' hW'
    go_wp2
    exact bodyPost_end (v := .tuple #[]) (by simp [results, Tryz.results64, go_sem]) rfl ⟨rfl, none, 0, [], KW'.out, HR.out.symm⟩
  · cases qv : (m.view == r.view)
    all_goals
      go_enter Tryz.func64, Tryz.ntmps64
      go_wp2
      (refine Rm.wp_region_mix' (R := relE W.heap.size) (fun _ _ _ => True) (fun _ _ _ _ _ hq => hq) 16 (by first | exact Nat.le_refl _ | omega | (simp; omega)) (by kernel_rfl) (by kernel_rfl) ?_; simp only [List.take_succ_cons, List.take_zero, List.drop_succ_cons, List.drop_zero])
      (iterate 1 (refine Rm.wpMix_plain rfl rfl ?_; go_big_quiet_step (fail); refine wpQuiet_nil ?_))
      (refine Rm.wpMix_nilp rfl rfl rfl ?_; simp only [Act.put, List.setIfInBounds_toArray, List.set_cons_zero, List.set_cons_succ])
      (iterate 2 (refine Rm.wpMix_plain rfl rfl ?_; go_big_quiet_step (fail); refine wpQuiet_nil ?_))
      (refine Rm.wpMix_load1 (fun W' h => show W'.cell? _ = some (.int .i64 r.mode) from bx_cell (Ext.box h HK.out.box) 2) rfl rfl rfl Tryz.underlying3 rfl ?_; simp only [Act.put, List.setIfInBounds_toArray, List.set_cons_zero, List.set_cons_succ])
      (iterate 1 (refine Rm.wpMix_plain rfl rfl ?_; go_big_quiet_step (fail); refine wpQuiet_nil ?_))
      try simp only [qm]
      (iterate 2 (refine Rm.wpMix_plain rfl rfl ?_; go_big_quiet_step (fail); refine wpQuiet_nil ?_))
      (refine Rm.wpMix_load1 (fun W' h => show W'.cell? _ = some (.int .i64 m.view) from bx_cell (Ext.box h DP.out) 2) rfl rfl rfl Tryz.underlying3 rfl ?_; simp only [Act.put, List.setIfInBounds_toArray, List.set_cons_zero, List.set_cons_succ])
      (iterate 1 (refine Rm.wpMix_plain rfl rfl ?_; go_big_quiet_step (fail); refine wpQuiet_nil ?_))
      (refine Rm.wpMix_nilp rfl rfl rfl ?_; simp only [Act.put, List.setIfInBounds_toArray, List.set_cons_zero, List.set_cons_succ])
      (iterate 2 (refine Rm.wpMix_plain rfl rfl ?_; go_big_quiet_step (fail); refine wpQuiet_nil ?_))
      (refine Rm.wpMix_load1 (fun W' h => show W'.cell? _ = some (.int .i64 r.view) from bx_cell (Ext.box h HK.out.box) 3) rfl rfl rfl Tryz.underlying3 rfl ?_; simp only [Act.put, List.setIfInBounds_toArray, List.set_cons_zero, List.set_cons_succ])
      (iterate 1 (refine Rm.wpMix_plain rfl rfl ?_; go_big_quiet_step (fail); refine wpQuiet_nil ?_))
      try simp only [qv]
      (iterate 1 (refine Rm.wpMix_plain rfl rfl ?_; go_big_quiet_step (fail); refine wpQuiet_nil ?_))
      refine Rm.wpMix_nil ?_
      rintro W' hW'
      have hx' : Ext W W' := hW'
      have KW' := Lib.hid (show KS W0 W' p a' A' n c' r [] none 0 from ⟨hx'.box HK.out.box, HK.out.row.kept hx', HK.out.logs.kept hx', HK.out.chg.trans (chg_ext _ hx')⟩)
      have DP' := Lib.hid (hx'.box DP.out)
      have HL' := Lib.hid (HL.out.keep hx')
      clear hx' hW'
    · have HR := Lib.hid (show stateO r m = [] by simp [stateO, qv])
      go_wp2
      exact bodyPost_end (v := .tuple #[]) (by simp [results, Tryz.results64, go_sem]) rfl ⟨rfl, none, 0, [], KW'.out, HR.out.symm⟩
    · have HR := Lib.hid (show stateO r m = [⟨m.frm, stateM r⟩] by simp [stateO, qm, qv])
      go_wp2
      (refine Rm.wp_region_mix' (R := relE W'.heap.size) (fun _ _ _ => True) (fun _ _ _ _ _ hq => hq) 24 (by first | exact Nat.le_refl _ | omega | (simp; omega)) (by kernel_rfl) (by kernel_rfl) ?_; simp only [List.take_succ_cons, List.take_zero, List.drop_succ_cons, List.drop_zero])
      (iterate 2 (refine Rm.wpMix_plain rfl rfl ?_; go_big_quiet_step (fail); refine wpQuiet_nil ?_))
      (refine Rm.wpMix_load1 (fun W2 h => show W2.cell? _ = some (.int .i64 m.frm) from bx_cell (Ext.box h DP'.out) 1) rfl rfl rfl Tryz.underlying3 rfl ?_; simp only [Act.put, List.setIfInBounds_toArray, List.set_cons_zero, List.set_cons_succ])
      (iterate 1 (refine Rm.wpMix_plain rfl rfl ?_; go_big_quiet_step (fail); refine wpQuiet_nil ?_))
      (refine Rm.wpMix_nilp rfl rfl rfl ?_; simp only [Act.put, List.setIfInBounds_toArray, List.set_cons_zero, List.set_cons_succ])
      (iterate 2 (refine Rm.wpMix_plain rfl rfl ?_; go_big_quiet_step (fail); refine wpQuiet_nil ?_))
      (refine Rm.wpMix_load1 (fun W2 h => show W2.cell? _ = some (.int .i64 r.me) from bx_cell (Ext.box h KW'.out.box) 0) rfl rfl rfl Tryz.underlying3 rfl ?_; simp only [Act.put, List.setIfInBounds_toArray, List.set_cons_zero, List.set_cons_succ])
      (iterate 1 (refine Rm.wpMix_plain rfl rfl ?_; go_big_quiet_step (fail); refine wpQuiet_nil ?_))
      (refine Rm.wpMix_nilp rfl rfl rfl ?_; simp only [Act.put, List.setIfInBounds_toArray, List.set_cons_zero, List.set_cons_succ])
      (iterate 2 (refine Rm.wpMix_plain rfl rfl ?_; go_big_quiet_step (fail); refine wpQuiet_nil ?_))
      (refine Rm.wpMix_load1 (fun W2 h => show W2.cell? _ = some (.int .i64 r.view) from bx_cell (Ext.box h KW'.out.box) 3) rfl rfl rfl Tryz.underlying3 rfl ?_; simp only [Act.put, List.setIfInBounds_toArray, List.set_cons_zero, List.set_cons_succ])
      (iterate 1 (refine Rm.wpMix_plain rfl rfl ?_; go_big_quiet_step (fail); refine wpQuiet_nil ?_))
      (refine Rm.wpMix_nilp rfl rfl rfl ?_; simp only [Act.put, List.setIfInBounds_toArray, List.set_cons_zero, List.set_cons_succ])
      (iterate 2 (refine Rm.wpMix_plain rfl rfl ?_; go_big_quiet_step (fail); refine wpQuiet_nil ?_))
      (refine Rm.wpMix_load1 (fun W2 h => show W2.cell? _ = some (.int .i64 r.commit) from bx_cell (Ext.box h KW'.out.box) 5) rfl rfl rfl Tryz.underlying3 rfl ?_; simp only [Act.put, List.setIfInBounds_toArray, List.set_cons_zero, List.set_cons_succ])
      (iterate 1 (refine Rm.wpMix_plain rfl rfl ?_; go_big_quiet_step (fail); refine wpQuiet_nil ?_))
      (refine Rm.wpMix_nilp rfl rfl rfl ?_; simp only [Act.put, List.setIfInBounds_toArray, List.set_cons_zero, List.set_cons_succ])
      (iterate 2 (refine Rm.wpMix_plain rfl rfl ?_; go_big_quiet_step (fail); refine wpQuiet_nil ?_))
      (refine Rm.wpMix_loadAgg (fun W2 h => cells_mid (cs := Lg.cs a' r.log) (Ext.box h KW'.out.box) [.int .i64 r.me, .int .i64 r.of, .int .i64 r.mode, .int .i64 r.view, .int .i64 r.normal, .int .i64 r.commit] [.slice A' n c', .int .i64 r.cell, .int .i64 r.nonce, .slice none (List.length ([] : List OtE)) 0] rfl rfl) rfl rfl rfl Tryz.underlying39 (by kernel_rfl) ?_; simp only [Act.put, List.setIfInBounds_toArray, List.set_cons_zero, List.set_cons_succ])
      (iterate 1 (refine Rm.wpMix_plain rfl rfl ?_; go_big_quiet_step (fail); refine wpQuiet_nil ?_))
      refine Rm.wpMix_nil ?_
      rintro W8 hW8
      have hx8 : Ext W' W8 := hW8
      have KW8 := Lib.hid (show KS W0 W8 p a' A' n c' r [] none 0 from ⟨hx8.box KW'.out.box, KW'.out.row.kept hx8, KW'.out.logs.kept hx8, KW'.out.chg.trans (chg_ext _ hx8)⟩)
      have HL8 := Lib.hid (HL'.out.keep hx8)
      clear hx8 hW8
      go_wp2_with fail
      refine (c_send W0 p a' A' n c' r [] none 0 m.frm a' (stateM r) W8 hp KW8.out HL8.out hs (by simp)).mono ?_
      rintro e W9 ⟨rfl, Ao, co, a9, k9, _⟩
      have K9 := Lib.hid k9
      clear k9
      go_wp2
      exact bodyPost_end (v := .tuple #[]) (by simp [results, Tryz.results64, go_sem]) rfl ⟨rfl, Ao, co, [(a9, ⟨m.frm, stateM r⟩)], K9.out, HR.out.symm⟩
end Go.Proofs.YtmpjokdidomafaaGreat

/- OnAskBack and OnAskState of the program. -/
namespace Go.Proofs.YtmpjokdidomafaaGreat
open Go.ChangeShapes Go.WideShapes Go.ChangeAt Go.RowKit Go.Sort
set_option linter.unusedVariables false
set_option linter.unusedSimpArgs false

theorem RoX.kept0 {w w' : World} {B p : Nat} {R : Rp} {O : List Ot} {a : LAd} {A : Option Addr} {c : Nat} {qs : List VtE} {Ao : Option Addr} {co : Nat} {os : List OtE} {M : Nat} (h1 : RpO w B M a A c qs R) (h2 : OsO w M w.heap.size Ao co os) (h3 : List.map Prod.snd os = O) (h4 : B ≤ M) (h5 : M ≤ w.heap.size) (hg : Chg w w' [p]) (hp : p < B) {B' : Nat} (hB : B' ≤ B) :
    RoX w' B' R O (.tuple #[Rp.val a A (List.length qs) c R, .slice Ao (List.length os) co]) :=
  ⟨a, A, c, qs, Ao, co, os, M, rfl, (h1.chgAny hg (fun k hk _ hm => by rw [List.mem_singleton] at hm; omega)).wide hB (Nat.le_refl _), (h2.chg hg (fun k hk hm => by rw [List.mem_singleton] at hm; have := h2.low k hk; omega)).wide (Nat.le_refl _) hg.size, h3, by omega, Nat.le_trans h5 hg.size⟩

set_option maxRecDepth 100000 in
set_option maxHeartbeats 4000000 in
theorem c_iOnAskBack (a : LAd) (A : Option Addr) (c : Nat) (ps : List VtE) (r : Rp) (am : LAd) (m : Mg) (w : World) (hr : RpR w a A c ps r) (hs : r.log.small) (hn : ps.length ≤ 1048576) (hv : LgS ps) (hm : LgR w am m.log) (hms : m.log.small) :
    Calls Tryz.prog 25 #[Rp.val a A ps.length c r, Mg.val am m] w fun e w' => ∃ v, e = .returned v ∧ RoX w' w.heap.size (hearR r) (hearO r m 8 (backO r m)) v ∧ Ext w w' := by
  have X0 : Ext w (((w.alloc (Rp.obj a A ps.length c r)).alloc (Mg.obj am m)).alloc Rp.zobj) := ext_to (ext_to (ext_alloc _ _) _) _
  have D1 := Lib.hid (hOld (o := Rp.zobj) (hOld (o := Mg.obj am m) (hNew (w := w) (o := Rp.obj a A ps.length c r) rfl)))
  have D2 := Lib.hid (hOld (o := Rp.zobj) (hNew (w := w.alloc (Rp.obj a A ps.length c r)) (o := Mg.obj am m) (k := w.heap.size + 1) (by simp)))
  have D3 := Lib.hid (hNew (w := (w.alloc (Rp.obj a A ps.length c r)).alloc (Mg.obj am m)) (o := Rp.zobj) (k := w.heap.size + 1 + 1) (by simp))
  have HH := Lib.hid (c_hears a A c ps r am m 8 61 #[.pointer (some ⟨w.heap.size + 1, 0, none⟩)] (backO r m) (((w.alloc (Rp.obj a A ps.length c r)).alloc (Mg.obj am m)).alloc Rp.zobj) (hr.keep X0) hs hn hv (hm.keep X0) hms (enters Tryz.func61 (by kernel_rfl) rfl)
    (fun _ W0 W B p a' A' c' qs hx hp hlow hO hk => by
      simp only [sz_alloc] at hlow
      exact c_askBack1 W0 W p B (w.heap.size + 1) a' A' ps.length c' r qs am m hp hO hk (Ext.box hx D2.out) (by omega) hs))
  have HX0 := Lib.hid X0
  clear X0 hr hm hv
  go_enter Tryz.func25, Tryz.ntmps25
  (go_wp2_with (with_reducible refine wl_stop 6 ?_); refine stop_load (D1.out) rfl Tryz.underlying42 (by kernel_rfl) ?_; simp only [Act.put, List.setIfInBounds_toArray, List.set_cons_zero, List.set_cons_succ])
  (go_wp2_with (with_reducible refine wl_stop 7 ?_); refine stop_load (D2.out) rfl Tryz.underlying63 (by kernel_rfl) ?_; simp only [Act.put, List.setIfInBounds_toArray, List.set_cons_zero, List.set_cons_succ])
  go_wp2_with fail
  refine HH.out.mono ?_
  rintro e w1 ⟨v, rfl, ⟨a1, A1, c1, qs, Ao, co, os, M, rfl, h1, h2, h3, h4, h5⟩, x1⟩
  have E3 := Lib.hid (x1.box D3.out)
  have X1 := Lib.hid (Ext.trans HX0.out x1)
  have H1 := Lib.hid h1
  have H2 := Lib.hid h2
  have H3 := Lib.hid h3
  have h4' : w.heap.size + 1 + 1 + 1 ≤ M := by simpa using h4
  clear h1 h2 h3 x1 HH D1 D2 D3
  (go_wp2_with (with_reducible refine wl_stopS 42 ?_); refine stop_store ((w.heap.size + 1 + 1)) (Rp.cs a1 A1 qs.length c1 (hearR r)) rfl rfl (E3.out) (by kernel_rfl) rfl (by simp [Value.oneCell']) ?_)
  intro W9 e9 k9
  have HE9 := Lib.hid e9
  have HF := Lib.hid (RoX.kept0 H1.out H2.out H3.out h4 h5 k9 (B' := w.heap.size) (by simp) (by simp; omega))
  have HX9 := Lib.hid (chg_new X1.out k9 (by omega))
  clear e9 k9
  go_wp2
  exact bodyPost_ret (results_box2 Tryz.results25 rfl rfl Tryz.underlying42 (by kernel_rfl) HE9.out) rfl ⟨_, rfl, HF.out, HX9.out⟩

set_option maxRecDepth 100000 in
set_option maxHeartbeats 4000000 in
theorem c_iOnAskState (a : LAd) (A : Option Addr) (c : Nat) (ps : List VtE) (r : Rp) (am : LAd) (m : Mg) (w : World) (hr : RpR w a A c ps r) (hs : r.log.small) (hn : ps.length ≤ 1048576) (hv : LgS ps) (hm : LgR w am m.log) (hms : m.log.small) :
    Calls Tryz.prog 29 #[Rp.val a A ps.length c r, Mg.val am m] w fun e w' => ∃ v, e = .returned v ∧ RoX w' w.heap.size (hearR r) (hearO r m 10 (stateO r m)) v ∧ Ext w w' := by
  have X0 : Ext w (((w.alloc (Rp.obj a A ps.length c r)).alloc (Mg.obj am m)).alloc Rp.zobj) := ext_to (ext_to (ext_alloc _ _) _) _
  have D1 := Lib.hid (hOld (o := Rp.zobj) (hOld (o := Mg.obj am m) (hNew (w := w) (o := Rp.obj a A ps.length c r) rfl)))
  have D2 := Lib.hid (hOld (o := Rp.zobj) (hNew (w := w.alloc (Rp.obj a A ps.length c r)) (o := Mg.obj am m) (k := w.heap.size + 1) (by simp)))
  have D3 := Lib.hid (hNew (w := (w.alloc (Rp.obj a A ps.length c r)).alloc (Mg.obj am m)) (o := Rp.zobj) (k := w.heap.size + 1 + 1) (by simp))
  have HH := Lib.hid (c_hears a A c ps r am m 10 64 #[.pointer (some ⟨w.heap.size + 1, 0, none⟩)] (stateO r m) (((w.alloc (Rp.obj a A ps.length c r)).alloc (Mg.obj am m)).alloc Rp.zobj) (hr.keep X0) hs hn hv (hm.keep X0) hms (enters Tryz.func64 (by kernel_rfl) rfl)
    (fun _ W0 W B p a' A' c' qs hx hp hlow hO hk => by
      simp only [sz_alloc] at hlow
      exact c_askState1 W0 W p B (w.heap.size + 1) a' A' ps.length c' r qs am m hp hO hk (Ext.box hx D2.out) (by omega) hs))
  have HX0 := Lib.hid X0
  clear X0 hr hm hv
  go_enter Tryz.func29, Tryz.ntmps29
  (go_wp2_with (with_reducible refine wl_stop 6 ?_); refine stop_load (D1.out) rfl Tryz.underlying42 (by kernel_rfl) ?_; simp only [Act.put, List.setIfInBounds_toArray, List.set_cons_zero, List.set_cons_succ])
  (go_wp2_with (with_reducible refine wl_stop 7 ?_); refine stop_load (D2.out) rfl Tryz.underlying63 (by kernel_rfl) ?_; simp only [Act.put, List.setIfInBounds_toArray, List.set_cons_zero, List.set_cons_succ])
  go_wp2_with fail
  refine HH.out.mono ?_
  rintro e w1 ⟨v, rfl, ⟨a1, A1, c1, qs, Ao, co, os, M, rfl, h1, h2, h3, h4, h5⟩, x1⟩
  have E3 := Lib.hid (x1.box D3.out)
  have X1 := Lib.hid (Ext.trans HX0.out x1)
  have H1 := Lib.hid h1
  have H2 := Lib.hid h2
  have H3 := Lib.hid h3
  have h4' : w.heap.size + 1 + 1 + 1 ≤ M := by simpa using h4
  clear h1 h2 h3 x1 HH D1 D2 D3
  (go_wp2_with (with_reducible refine wl_stopS 42 ?_); refine stop_store ((w.heap.size + 1 + 1)) (Rp.cs a1 A1 qs.length c1 (hearR r)) rfl rfl (E3.out) (by kernel_rfl) rfl (by simp [Value.oneCell']) ?_)
  intro W9 e9 k9
  have HE9 := Lib.hid e9
  have HF := Lib.hid (RoX.kept0 H1.out H2.out H3.out h4 h5 k9 (B' := w.heap.size) (by simp) (by simp; omega))
  have HX9 := Lib.hid (chg_new X1.out k9 (by omega))
  clear e9 k9
  go_wp2
  exact bodyPost_ret (results_box2 Tryz.results29 rfl rfl Tryz.underlying42 (by kernel_rfl) HE9.out) rfl ⟨_, rfl, HF.out, HX9.out⟩
end Go.Proofs.YtmpjokdidomafaaGreat
