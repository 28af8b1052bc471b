/- FnExactCommitted: for every input the law returns true. No condition. -/
import Derived.Test.YtkenlhdiehaemaaGreatIf
import Derived.Test.YtkenlhdiehaemaaGreatGg
import Derived.Test.YtkenlhdiehaemaaGreatGl
namespace Go.Proofs.YtkenlhdiehaemaaGreat.l35
open Go.ChangeShapes Go.WideShapes Go.ChangeAt Go.RowKit Go.Sort
set_option linter.unusedVariables false

abbrev Rp.cs (a : LAd) (A : Option Addr) (n c : Nat) (r : Rp) : Array Value := #[.int .i64 r.me, .int .i64 r.of, .int .i64 r.mode, .int .i64 r.view, .int .i64 r.normal, .int .i64 r.commit, .int .i64 r.log.base, .slice a.cA r.log.cells.length a.cc, .slice a.sA r.log.seats.length a.sc, .slice a.eA r.log.ents.length a.ec, .slice A n c, .int .i64 r.cell, .int .i64 r.nonce]
theorem rpK_less {ps qs : List VtE} {r : Rp} (h : ps.map Prod.snd = qs.map Prod.snd) (hn : rpN ps r ≤ 1048576) : rpK 1 qs r ≤ 20000000 := by
  have hl : qs.length = ps.length := by simpa using (congrArg List.length h).symm
  have h1 := Ks_bound (1 + r.log.mN) qs qs.length (Nat.le_refl _)
  have h2 := mN_lgN r.log
  have h3 := vsN_congr h ps.length
  unfold rpK
  unfold rpN at hn
  rw [hl] at h1 ⊢
  rw [← h3] at h1
  omega
theorem com_small (r : Rp) : (comI r).1.length ≤ 40 ∧ (comI r).2.length ≤ 10 := by
  unfold comI
  split
  · rename_i h
    obtain ⟨j, hj, _, _, hok⟩ := com_num h
    obtain ⟨_, _, _, hI, hA⟩ := log_b hok
    have h5 := hI.all (l := r.log.ents.take (r.commit - r.log.base).toNat) (fun e he => hA e (List.mem_of_mem_take he))
    exact ⟨h5.c.len, h5.s.len⟩
  · exact ⟨Nat.zero_le _, Nat.zero_le _⟩
theorem c_eqIm (A B A' B' : Option Addr) (c d c' d' : Nat) (cs : List Cel) (ss : List Sea) (w : World) (h1 : Rd Cel.enc 2 w A c cs) (h2 : Rd Sea.enc 3 w A' c' ss) (k1 : Rd Cel.enc 2 w B d cs) (k2 : Rd Sea.enc 3 w B' d' ss) (hn : cs.length ≤ 40) (hm : ss.length ≤ 10) :
    Calls Tryz.prog 16 #[Im.val A cs.length c A' ss.length c', Im.val B cs.length d B' ss.length d'] w fun e w' => e = .returned (.bool true) ∧ Ext w w' :=
  c_eqImage_same ⟨A, c, A', c', none, 0⟩ ⟨B, d, B', d', none, 0⟩ ⟨0, cs, ss, []⟩ ⟨by show cs.length ≤ _; omega, by show ss.length ≤ _; omega, by show 0 ≤ _; omega⟩ w ⟨h1, h2, (RdF.nil Ent.enc 119 5 w 0).1⟩ ⟨k1, k2, (RdF.nil Ent.enc 119 5 w 0).1⟩
theorem im_marked {w w1 w' : World} {o : Obj} {B n m c c' : Nat} {A A' : Option Addr} {l : List Cel} (hd : ∀ k, k ∈ blk A' → k ∉ blk A) (o1 : Ow Cel.enc 146 2 w1 B (.slice A n c) l) (g1 : (w.alloc o).grownBy w1 (Value.slice A n c).ownBlock) (g2 : w1.grownBy w' (Value.slice A' m c').ownBlock) :
    Ow Cel.enc 146 2 w' B (.slice A n c) l ∧ Chg w w' (blk A ++ blk A') :=
  ⟨o1.chg (chg_grown g2) (fun k hk hm => hd k hm hk), (chg_ext _ (ext_alloc w o)).trans (((chg_grown g1).more (fun k h => by simp [h])).trans ((chg_grown g2).more (fun k h => by simp [h])))⟩
set_option maxRecDepth 100000 in
set_option maxHeartbeats 8000000 in
theorem walk (a : LAd) (A : Option Addr) (c : Nat) (ps : List VtE) (r : Rp) (w : World) (hr : RpR w a A c ps r) : Calls Tryz.prog 3 #[Rp.val a A ps.length c r] w fun e w' => e = .returned (.bool true) ∧ Ext w w' := by
  have X0 := ext_alloc w (Rp.objL a A ps.length c r)
  have hcon := c_szReplica a A c ps r 1048576 (by omega) (by omega) _ (hr.keep X0)
  have D0 := Lib.hid (hNew (w := w) (o := Rp.objL a A ps.length c r) rfl)
  by_cases hn : rpN ps r ≤ 1048576
  · rw [szV_le (by omega)] at hcon
    have hg0 : decide ((1048576 : Int) - ((rpN ps r : Nat) : Int) < 0) = false := by simp; omega
    have hlog : r.log.small := lgN_small (n := rpN ps r) (by unfold rpN; omega) hn
    have hlen : ps.length ≤ 1048576 := by unfold rpN at hn; omega
    have hvs : LgS ps := vsN_small ps (rpN ps r) (by unfold rpN; omega) hn
    have hmm := com_small r
    obtain ⟨mc, ms, hM⟩ : ∃ mc ms, comI r = (mc, ms) := ⟨_, _, rfl⟩
    rw [hM] at hmm
    obtain ⟨hn5, hm5⟩ : mc.length ≤ 40 ∧ ms.length ≤ 10 := hmm
    have HS := Lib.hid (show ∀ (a : LAd) (g : Nat) (qs : List VtE) (W : World), qs.length = ps.length → RpR W a (some ⟨g, 0, none⟩) ps.length qs r → Calls Tryz.prog 13 #[Rp.val a (some ⟨g, 0, none⟩) ps.length ps.length r] W fun e w' => (∃ A c A' c', e = .returned (Im.val A mc.length c A' ms.length c') ∧ RdF Cel.enc 146 2 w' W.heap.size A c mc ∧ RdF Sea.enc 149 3 w' W.heap.size A' c' ms) ∧ Ext W w' from fun a g qs W hl h => by
      have := c_sCommitted a (some ⟨g, 0, none⟩) ps.length qs r W h hlog (by omega) (LgS.congr (hr.e.trans h.e.symm) hvs)
      rw [hl, hM] at this
      exact this)
    have HI := Lib.hid (show ∀ (a : LAd) (g : Nat) (qs : List VtE) (W : World), qs.length = ps.length → RpR W a (some ⟨g, 0, none⟩) ps.length qs r → Calls Tryz.prog 15 #[Rp.val a (some ⟨g, 0, none⟩) ps.length ps.length r] W fun e w' => (∃ A c A' c', e = .returned (Im.val A mc.length c A' ms.length c') ∧ Ow Cel.enc 146 2 w' W.heap.size (.slice A mc.length c) mc ∧ Ow Sea.enc 149 3 w' W.heap.size (.slice A' ms.length c') ms) ∧ Ext W w' from fun a g qs W hl h => by
      have := c_iCommitted a (some ⟨g, 0, none⟩) ps.length qs r W h hlog (by omega) (LgS.congr (hr.e.trans h.e.symm) hvs)
      rw [hl, hM] at this
      exact this)
    have HT := Lib.hid (show ∀ W, Ext w W → Calls Tryz.prog 14 #[Rp.val a A ps.length c r] W fun e w' => ∃ (a' : LAd) (g : Nat) (qs : List VtE), e = .returned (Rp.val a' (some ⟨g, 0, none⟩) ps.length ps.length r) ∧ qs.length = ps.length ∧ RpO w' W.heap.size w'.heap.size a' (some ⟨g, 0, none⟩) ps.length qs r ∧ Ext W w' from fun W h => c_toReplica a A c ps r W (hr.keep h) hlog hlen hvs)
    have HK := Lib.hid (show ∀ qs : List VtE, qs.map Prod.snd = r.votes → rpK 1 qs r ≤ 20000000 from fun qs h => rpK_less (hr.e.trans h.symm) hn)
    have HVS := Lib.hid (show ∀ qs : List VtE, qs.map Prod.snd = r.votes → LgS qs from fun qs h => LgS.congr (hr.e.trans h.symm) hvs)
    have HLog := Lib.hid hlog
    have HC := Lib.hid hcon
    have HX0 := Lib.hid X0
    clear hM hlog hvs hr hcon X0
    go_enter Tryz.func3, Tryz.ntmps3
    (go_wp2_with (with_reducible refine wl_stop 11 ?_); refine stop_load (D0.out) rfl Tryz.underlying31 (by kernel_rfl) ?_; simp only [Act.put, List.setIfInBounds_toArray, List.set_cons_zero, List.set_cons_succ])
    go_wp2_with fail
    refine HC.out.mono ?_
    rintro e w1 ⟨rfl, y1⟩
    have D1 := Lib.hid (y1.box D0.out)
    have X1 := Lib.hid (Ext.trans HX0.out y1)
    have s1 := y1.size
    simp only [sz_alloc] at s1
    clear HC y1 D0 HX0
    (go_wp2_with (with_reducible refine wl_stop 16 ?_); refine stop_load (D1.out) rfl Tryz.underlying31 (by kernel_rfl) ?_; simp only [Act.put, List.setIfInBounds_toArray, List.set_cons_zero, List.set_cons_succ])
    go_wp2_with fail
    refine (HT.out _ X1.out).mono ?_
    rintro e w2 ⟨a2, g2, qs2, rfl, l2, o2, x2⟩
    have HO2 := Lib.hid o2.rd
    clear o2
    go_wp2_with fail
    refine (HS.out a2 g2 qs2 _ l2 HO2.out).mono ?_
    rintro e w3 ⟨⟨A3, c3, B3, d3, rfl, f3, fo3⟩, x3⟩
    have Z3 := Lib.hid (hNew (w := w3) (o := Im.zobj) rfl)
    have hHF3 := Lib.hid f3.1
    have hHO3 := Lib.hid fo3.1
    have D3 := Lib.hid ((Ext.trans x2 x3).box D1.out)
    have X3 := Lib.hid (Ext.trans X1.out (Ext.trans x2 x3))
    have s3 := (Ext.trans x2 x3).size
    clear f3 fo3 l2 x2 x3 D1 X1 HO2 HS
    (go_wp2_with (with_reducible refine wl_stopS 36 ?_); refine stop_store (w3.heap.size) (Im.cs A3 mc.length c3 B3 ms.length d3) rfl rfl (Z3.out) (by kernel_rfl) rfl (by simp [Value.oneCell']) ?_)
    intro W3 e3 k3
    have x3 := chg_new (ext_alloc w3 Im.zobj) k3 (Nat.le_refl _)
    have E3 := Lib.hid e3
    have F3 := Lib.hid (hHF3.out.keep x3)
    have FO3 := Lib.hid (hHO3.out.keep x3)
    have G1 := Lib.hid (x3.box D3.out)
    have Y3 := Lib.hid (Ext.trans X3.out x3)
    have s3' := bx_lt e3
    clear e3 k3 x3 Z3 D3 X3 hHF3 hHO3
    (go_wp2_with (with_reducible refine wl_stop 19 ?_); refine stop_load (G1.out) rfl Tryz.underlying31 (by kernel_rfl) ?_; simp only [Act.put, List.setIfInBounds_toArray, List.set_cons_zero, List.set_cons_succ])
    go_wp2_with fail
    refine (HT.out _ Y3.out).mono ?_
    rintro e w4 ⟨a4, g4, qs4, rfl, l4, o4, x4⟩
    have Z4 := Lib.hid (hNew (w := w4) (o := Rp.zobj) rfl)
    have hO4 := Lib.hid o4
    have L4 := Lib.hid l4
    have s4 := x4.size
    have hv4 := Lib.hid (HVS.out qs4 o4.e)
    have hk4 := HK.out qs4 o4.e
    have hQ4 := Lib.hid x4
    clear o4 l4 x4 HK HVS
    (go_wp2_with (with_reducible refine wl_stopS 43 ?_); refine stop_store (w4.heap.size) (Rp.cs a4 (some ⟨g4, 0, none⟩) ps.length ps.length r) rfl rfl (Z4.out) (by kernel_rfl) rfl (by simp [Value.oneCell']) ?_)
    intro W4 e4 k4
    have x4 := chg_new (ext_alloc w4 Rp.zobj) k4 (Nat.le_refl _)
    have E4 := Lib.hid e4
    have O4 := Lib.hid (hO4.out.kept x4)
    have Q4 := Lib.hid (Ext.trans hQ4.out x4)
    have s4' := bx_lt e4
    clear e4 k4 x4 Z4 hO4 hQ4
    (go_wp2_with (with_reducible refine wl_stop 21 ?_); refine stop_load (E4.out) rfl Tryz.underlying43 (by kernel_rfl) ?_; simp only [Act.put, List.setIfInBounds_toArray, List.set_cons_zero, List.set_cons_succ])
    go_wp2_with fail
    refine (HI.out a4 g4 qs4 _ L4.out O4.out.rd).mono ?_
    rintro e w5 ⟨⟨A5, c5, B5, d5, rfl, o5, oo5⟩, x5⟩
    have Z5 := Lib.hid (hNew (w := w5) (o := Im.zobj) rfl)
    have hO5 := Lib.hid o5
    have hOO5 := Lib.hid oo5
    have s5 := x5.size
    have hR5 := Lib.hid x5
    clear o5 oo5 x5
    (go_wp2_with (with_reducible refine wl_stopS 36 ?_); refine stop_store (w5.heap.size) (Im.cs A5 mc.length c5 B5 ms.length d5) rfl rfl (Z5.out) (by kernel_rfl) rfl (by simp [Value.oneCell']) ?_)
    intro W5 e5 k5
    have x5 := chg_new (ext_alloc w5 Im.zobj) k5 (Nat.le_refl _)
    have E5 := Lib.hid e5
    have O5 := Lib.hid (hO5.out.kept x5)
    have OO5 := Lib.hid (hOO5.out.kept x5)
    have HIn := Lib.hid (show ∀ k, k ∈ blk A5 ++ blk B5 → W4.heap.size ≤ k ∧ k < w5.heap.size from fun k hk => by
      rcases List.mem_append.1 hk with h | h
      · exact hO5.out.inB k h
      · exact hOO5.out.inB k h)
    have R5 := Lib.hid (Ext.trans hR5.out x5)
    have s5' := bx_lt e5
    clear e5 k5 x5 Z5 hO5 hOO5 hR5
    have hE3 := Lib.hid ((Ext.trans Q4.out R5.out).box E3.out)
    (go_wp2_with (with_reducible refine wl_stop 23 ?_); refine stop_load (E5.out) rfl Tryz.underlying36 (by kernel_rfl) ?_; simp only [Act.put, List.setIfInBounds_toArray, List.set_cons_zero, List.set_cons_succ])
    (go_wp2_with (with_reducible refine wl_stop 24 ?_); refine stop_load (hE3.out) rfl Tryz.underlying36 (by kernel_rfl) ?_; simp only [Act.put, List.setIfInBounds_toArray, List.set_cons_zero, List.set_cons_succ])
    go_wp2_with fail
    refine (c_eqIm A5 A3 B5 B3 c5 c3 d5 d3 mc ms _ (Ow.rdF Cel.enc_len O5.out).1 (Ow.rdF Sea.enc_len OO5.out).1 (F3.out.keep (Ext.trans Q4.out R5.out)) (FO3.out.keep (Ext.trans Q4.out R5.out)) hn5 hm5).mono ?_
    rintro e w7 ⟨rfl, x7⟩
    have S7 := Lib.hid x7
    have hE4 := Lib.hid ((Ext.trans R5.out S7.out).box E4.out)
    have hG1 := Lib.hid ((Ext.trans (Ext.trans Q4.out R5.out) S7.out).box G1.out)
    have hO4 := Lib.hid (O4.out.kept (Ext.trans R5.out S7.out))
    have hY7 := Lib.hid (Ext.trans Y3.out (Ext.trans (Ext.trans Q4.out R5.out) S7.out))
    clear x7 hE3 O4
    go_wp2
    (refine wp_region_mixb (fun _ _ _ _ _ hq => hq) 5 (by kernel_rfl) (by kernel_rfl) (fun hg => ?_); simp only [headOps, List.take_succ_cons, List.take_zero, List.filter_cons, List.filter_nil, isAlloc, Bool.not_false, Bool.false_eq_true, if_true, if_false, List.append_nil, List.drop_succ_cons, List.drop_zero])
    (refine wpMix_load (hE4.out) rfl rfl rfl Tryz.underlying43 (by kernel_rfl) ?_; simp only [Act.put, List.setIfInBounds_toArray, List.set_cons_zero, List.set_cons_succ])
    (refine wpMix_load (hG1.out) rfl rfl rfl Tryz.underlying31 (by kernel_rfl) ?_; simp only [Act.put, List.setIfInBounds_toArray, List.set_cons_zero, List.set_cons_succ])
    refine wpMix_call (RpV ps.length r) rfl rfl rfl (enters Tryz.func14 (by kernel_rfl) rfl) (RpV.mono _ _) (fun W hW => (HT.out W (Ext.trans hY7.out hW)).mono fun e w' ⟨a', g, qs, he, hl, ho, hx⟩ => ⟨_, he, ⟨a', g, qs, rfl, hl, ho.rd⟩, hx⟩) rfl (fun v8 hv8 => ?_)
    simp only [Act.put, List.setIfInBounds_toArray, List.set_cons_zero, List.set_cons_succ]
    (repeat (first | (refine wpMix_plain rfl rfl ?_; go_big_quiet_step (fail); refine wpQuiet_nil ?_) | (refine wpMix_skip rfl rfl ?_; simp only [Act.put, List.setIfInBounds_toArray, List.set_cons_zero, List.set_cons_succ])))
    refine wpMix_det rfl rfl rfl (enters Tryz.func17 (by kernel_rfl) rfl) (fun W hW => c_eqAnew a4 (some ⟨g4, 0, none⟩) ps.length qs4 r ps.length HLog.out W (hO4.out.rd.keep hW.1) L4.out hlen hv4.out v8 hW.2) rfl ?_
    simp only [Act.put, List.setIfInBounds_toArray, List.set_cons_zero, List.set_cons_succ]
    (repeat (first | (refine wpMix_plain rfl rfl ?_; go_big_quiet_step (fail); refine wpQuiet_nil ?_) | (refine wpMix_skip rfl rfl ?_; simp only [Act.put, List.setIfInBounds_toArray, List.set_cons_zero, List.set_cons_succ])))
    refine wpMix_nil ?_
    rintro w8 ⟨x8', _⟩
    have x8 : Ext w7 w8 := x8'
    have S8 := Lib.hid (Ext.trans S7.out x8)
    have E8 := Lib.hid (x8.box hE4.out)
    have O8 := Lib.hid (hO4.out.kept x8)
    have hm40 := hk4
    have hm41 := rpK_pos (ps := qs4) (r := r)
    have hcm := c_markReplica a4 (some ⟨g4, 0, none⟩) ps.length qs4 r _ _ 1 w8 O8.out (by omega) (by omega) HLog.out hv4.out (by have := L4.out; omega)
    rw [L4.out] at hcm
    have HCM := Lib.hid hcm
    have hg14 : decide (rpK 1 qs4 r < 0) = false := by simp; omega
    obtain ⟨K4, hK4⟩ : ∃ K, rpK 1 qs4 r = K := ⟨_, rfl⟩
    rw [hK4] at HCM hg14 hm40 hm41 hk4
    clear hcm hK4 x8 x8' hv8 hE4 hG1 hO4 hY7 S7
    (go_wp2_with (with_reducible refine wl_stop 32 ?_); refine stop_load (E8.out) rfl Tryz.underlying43 (by kernel_rfl) ?_; simp only [Act.put, List.setIfInBounds_toArray, List.set_cons_zero, List.set_cons_succ])
    go_wp2_with fail
    refine HCM.out.mono ?_
    rintro e w9 ⟨rfl, _, c9⟩
    have hfp4 := O8.out.fp_in
    have D3 := Lib.hid (ext_chg (Ext.trans (Ext.trans Q4.out R5.out) S8.out) c9 (fun g hg => (hfp4 g hg).1))
    have DE3 := Lib.hid (D3.out.box E3.out)
    have DE5 := Lib.hid (box_stay (S8.out.box E5.out) c9 (fun hm => by have := (hfp4 _ hm).2; omega))
    have DO5 := Lib.hid ((O5.out.kept S8.out).chg c9 (fun k hk hm => by have := (hfp4 _ hm).2; have := (HIn.out k (List.mem_append_left _ hk)).1; omega))
    have DOO5 := Lib.hid ((OO5.out.kept S8.out).chg c9 (fun k hk hm => by have := (hfp4 _ hm).2; have := (HIn.out k (List.mem_append_right _ hk)).1; omega))
    clear c9 hfp4 HCM E8 O8 E5 O5 OO5 S8
    have e3 := bx_cell DE3.out
    have e5 := bx_cell DE5.out
    have z3 := bx_lt DE3.out
    have z5 := bx_lt DE5.out
    go_wp2_with fail
    refine (c_eqIm A5 A3 B5 B3 c5 c3 d5 d3 mc ms _ (Ow.rdF Cel.enc_len DO5.out).1 (Ow.rdF Sea.enc_len DOO5.out).1 (F3.out.keep D3.out) (FO3.out.keep D3.out) hn5 hm5).mono ?_
    rintro e w11 ⟨rfl, x11⟩
    have S11 := Lib.hid (Ext.trans D3.out x11)
    have E11 := Lib.hid (x11.box DE5.out)
    have O11 := Lib.hid (DO5.out.kept x11)
    have OO11 := Lib.hid (DOO5.out.kept x11)
    clear e3 e5 z3 z5
    clear x11 D3 DE3 DE5 DO5 DOO5
    have HAp := Lib.hid (show ∀ k, k ∈ blk B5 → k ∉ blk A5 from fun k hk => OO11.out.apart O11.out (by decide) k hk)
    have HCM5 := Lib.hid (c_markImage A5 c5 mc B5 d5 ms _ 1 w11 O11.out OO11.out HAp.out (by omega) (by omega) (by omega) (by omega))
    have HCH5 := Lib.hid (fun W (h1 : Rd Cel.enc 2 W A5 c5 (marksCel 1 mc.length)) (h2 : Rd Sea.enc 3 W B5 d5 (marksSea (1 + 2 * mc.length) ms.length)) => c_heldImage A5 c5 mc.length B5 d5 ms.length 1 W h1 h2 (by omega) (by omega) (by omega) (by omega))
    have hK5 : ∃ K, (1 : Int) + 2 * mc.length + 3 * ms.length = K := ⟨_, rfl⟩
    obtain ⟨K5, hK5⟩ := hK5
    have hg21 : decide (K5 < 0) = false := by simp; omega
    simp only [hK5] at HCM5 HCH5
    clear hK5
    (go_wp2_with (with_reducible refine wl_stop 43 ?_); refine stop_load (E11.out) rfl Tryz.underlying36 (by kernel_rfl) ?_; simp only [Act.put, List.setIfInBounds_toArray, List.set_cons_zero, List.set_cons_succ])
    go_wp2_with fail
    refine HCM5.out.mono ?_
    rintro e w12 ⟨rfl, w12', p1, q1, p2, q2⟩
    have hmk := im_marked HAp.out p1 q1 q2
    have E12 := Lib.hid (box_stay E11.out hmk.2 (fun hm => by have := (HIn.out _ hm).2; omega))
    have S12 := Lib.hid (ext_chg S11.out hmk.2 (fun g hg => by have := (HIn.out _ hg).1; omega))
    have H12 := Lib.hid (Ow.rd Cel.enc_len hmk.1).2
    have OH12 := Lib.hid (Ow.rd Sea.enc_len p2).2
    clear hmk p1 q1 p2 q2 E11 O11 OO11 S11 HCM5
    (go_wp2_with (with_reducible refine wl_stop 46 ?_); refine stop_load (E12.out) rfl Tryz.underlying36 (by kernel_rfl) ?_; simp only [Act.put, List.setIfInBounds_toArray, List.set_cons_zero, List.set_cons_succ])
    go_wp2_with fail
    refine (HCH5.out _ H12.out OH12.out).mono ?_
    rintro e w15 ⟨rfl, x15⟩
    have S15 := Lib.hid (Ext.trans S12.out x15)
    have E15 := Lib.hid (x15.box E12.out)
    have H15 := Lib.hid (H12.out.keep x15)
    have OH15 := Lib.hid (OH12.out.keep x15)
    have hG1 := Lib.hid (S15.out.box G1.out)
    clear x15 S12 E12 H12 OH12
    (go_wp2_with (with_reducible refine wl_stop 54 ?_); refine stop_load (hG1.out) rfl Tryz.underlying31 (by kernel_rfl) ?_; simp only [Act.put, List.setIfInBounds_toArray, List.set_cons_zero, List.set_cons_succ])
    go_wp2_with fail
    refine (HT.out _ (Ext.trans Y3.out S15.out)).mono ?_
    rintro e w16 ⟨a6, g6, qs6, rfl, l6, o6, x16⟩
    have HO6 := Lib.hid o6.rd
    clear o6
    go_wp2_with fail
    refine (HI.out a6 g6 qs6 _ l6 HO6.out).mono ?_
    rintro e w17 ⟨⟨A7, c7, B7, d7, rfl, o7, oo7⟩, x17⟩
    have Z7 := Lib.hid (hNew (w := w17) (o := Im.zobj) rfl)
    have hO7 := Lib.hid (Ow.rdF Cel.enc_len o7).1
    have hOO7 := Lib.hid (Ow.rdF Sea.enc_len oo7).1
    have hS17 := Lib.hid (Ext.trans x16 x17)
    have s17 := (Ext.trans x16 x17).size
    clear o7 oo7 x16 x17 hG1 HI HT l6 HO6
    (go_wp2_with (with_reducible refine wl_stopS 36 ?_); refine stop_store (w17.heap.size) (Im.cs A7 mc.length c7 B7 ms.length d7) rfl rfl (Z7.out) (by kernel_rfl) rfl (by simp [Value.oneCell']) ?_)
    intro W7 e7 k7
    have x7 := chg_new (ext_alloc w17 Im.zobj) k7 (Nat.le_refl _)
    have E7 := Lib.hid e7
    have O7 := Lib.hid (hO7.out.keep x7)
    have OO7 := Lib.hid (hOO7.out.keep x7)
    have T7 := Lib.hid (Ext.trans hS17.out x7)
    have hE3 := Lib.hid ((Ext.trans S15.out (Ext.trans hS17.out x7)).box E3.out)
    clear e7 k7 x7 Z7 hO7 hOO7 hS17
    (go_wp2_with (with_reducible refine wl_stop 57 ?_); refine stop_load (E7.out) rfl Tryz.underlying36 (by kernel_rfl) ?_; simp only [Act.put, List.setIfInBounds_toArray, List.set_cons_zero, List.set_cons_succ])
    (go_wp2_with (with_reducible refine wl_stop 58 ?_); refine stop_load (hE3.out) rfl Tryz.underlying36 (by kernel_rfl) ?_; simp only [Act.put, List.setIfInBounds_toArray, List.set_cons_zero, List.set_cons_succ])
    go_wp2_with fail
    refine (c_eqIm A7 A3 B7 B3 c7 c3 d7 d3 mc ms _ O7.out OO7.out (F3.out.keep (Ext.trans S15.out T7.out)) (FO3.out.keep (Ext.trans S15.out T7.out)) hn5 hm5).mono ?_
    rintro e w19 ⟨rfl, x19⟩
    have T19 := Lib.hid (Ext.trans T7.out x19)
    have E19 := Lib.hid (T19.out.box E15.out)
    have H19 := Lib.hid (H15.out.keep T19.out)
    have OH19 := Lib.hid (OH15.out.keep T19.out)
    clear x19 T7 E7 O7 OO7 hE3 E15 H15 OH15
    (go_wp2_with (with_reducible refine wl_stop 61 ?_); refine stop_load (E19.out) rfl Tryz.underlying36 (by kernel_rfl) ?_; simp only [Act.put, List.setIfInBounds_toArray, List.set_cons_zero, List.set_cons_succ])
    go_wp2_with fail
    refine (HCH5.out _ H19.out OH19.out).mono ?_
    rintro e w21 ⟨rfl, x21⟩
    have HX := Lib.hid (Ext.trans Y3.out (Ext.trans S15.out (Ext.trans T19.out x21)))
    clear x21 E19 H19 OH19
    go_wp2
    go_ret
    exact ⟨rfl, HX.out⟩
  · rw [szV_gt (by omega)] at hcon
    have HC := Lib.hid hcon
    clear hcon
    go_enter Tryz.func3, Tryz.ntmps3
    (go_wp2_with (with_reducible refine wl_stop 11 ?_); refine stop_load (D0.out) rfl Tryz.underlying31 (by kernel_rfl) ?_; simp only [Act.put, List.setIfInBounds_toArray, List.set_cons_zero, List.set_cons_succ])
    go_wp2_with fail
    refine HC.out.mono ?_
    rintro e w1 ⟨rfl, X1⟩
    clear HC
    go_wp2
    go_ret
    exact ⟨rfl, Ext.trans X0 X1⟩

set_option maxRecDepth 100000 in
theorem lifted (os : Os) (started : os.Started) (H : Type) (enc : TypeId × Value → H) :
    ReturnsInHanded {} Tryz.checked os 3 .any (Rows.fnExactCommittedSpec.pre6 enc Tryz.prog Tryz.f3 Rows.fnExactCommittedRow.domain false) (Rows.fnExactCommittedSpec.post enc Tryz.prog Tryz.f3 false true false false) := by
  refine returnsInHanded_of_change (C := Tryz.checked) own started (by kernel_rfl) Tryz.func3
    (ChangeSpec.witness6 (enc := enc) (C := Tryz.checked) false ⟨#[], #[.agg #[.int .i64 0, .int .i64 0, .int .i64 0, .int .i64 0, .int .i64 0, .int .i64 0, .int .i64 0, .slice none 0 0, .slice none 0 0, .slice none 0 0, .slice none 0 0, .int .i64 0, .int .i64 0]], []⟩ 8 (by kernel_rfl) (by kernel_rfl) (by kernel_rfl) (by kernel_rfl)) ?_
  intro W base args ds gs before hval0 hW hcnd _
  have hval : ∀ (j : Nat) t v, Tryz.f3.params[j]? = some t → args[j]? = some v → Value.okWide Tryz.prog W .any base t v := hval0
  have hW' := hW
  obtain ⟨p, q, hA0, hV, rfl, hfz, hnd⟩ := hW
  have hA : DataW.TrodAll enc Tryz.prog W 0 (fun _ => true) true Tryz.f3.params.toList args.toList ds p := hA0
  rw [Tryz.params3] at hA hval
  obtain ⟨rfl, rfl⟩ := trodVars_none hV
  obtain ⟨v0, vs0, d0, ds0, p0, q0, hargs, rfl, rfl, h0, r0⟩ := trodAll_cons hA
  obtain ⟨rfl, rfl, rfl⟩ := trodAll_nil r0
  obtain rfl : args = #[v0] := by cases args; simp_all
  clear hA0 hval0
  refine Calls.mono (R := fun e W' => e = .returned (.bool true) ∧ Ext W W') ?_ (fun e W' ⟨he, hx⟩ => by
    subst he
    exact ⟨_, rfl, law_post laidOut Tryz.underlying4 hW' hx rfl rfl rfl rfl (by kernel_rfl) rfl⟩)
  clear hW'
  exact (by obtain ⟨a, A, c, ps, r, rfl, hr⟩ := open_Replica (hval 0 _ _ rfl rfl) h0; exact walk a A c ps r W hr)

theorem over : Rows.fnExactCommittedRow.holds Tryz.pinned (OpenSpec.ofChange Rows.fnExactCommittedSpec) :=
  OpenClaim.holds_of_wide 3 Tryz.f3 rfl rfl rfl rfl rfl rfl rfl ⟨rfl, rfl, rfl, rfl, rfl⟩ rfl rfl rfl rfl rfl (by kernel_rfl) Tryz.func3 (by kernel_rfl)
    (of_decide_eq_true (by kernel_rfl)) (by unfold Func.isWrapper; first | (rw [if_pos (by decide +kernel)]; kernel_rfl) | (rw [if_neg (by decide +kernel)]; exact ⟨rfl, rfl⟩))
    (fun os started H enc _ => lifted os started H enc)

theorem proved : Rows.FnExactCommittedSaid := over
end Go.Proofs.YtkenlhdiehaemaaGreat.l35
