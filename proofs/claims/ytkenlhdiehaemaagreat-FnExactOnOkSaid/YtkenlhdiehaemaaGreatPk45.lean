/- The reference's small functions of a replica. -/
import Derived.Test.YtkenlhdiehaemaaGreatPk44
import Derived.Test.YtkenlhdiehaemaaGreatPk39
import Derived.Test.YtkenlhdiehaemaaGreatPk41
import Derived.Test.YtkenlhdiehaemaaGreatPk28
namespace Go.Proofs.YtkenlhdiehaemaaGreat
open Go.ChangeShapes Go.WideShapes Go.ChangeAt Go.RowKit Go.Sort
set_option linter.unusedVariables false
set_option linter.unusedSimpArgs false
theorem own_one {α : Type} {enc : α → List Value} {e : TypeId} {sz : Nat} {w : World} {p B : Nat} {cs : Array Value} {x : α} (h : w.heap[p]? = some (.cells cs e (0, 0))) (hB : B ≤ p) (hc : cs.toList = enc x) (hl : (enc x).length = sz) : Ow enc e sz w B (.slice (some ⟨p, 0, none⟩) 1 1) [x] := by
 have hs : cs.size = 1 * sz := by rw [← Array.length_toList, hc, hl, Nat.one_mul]
 refine ⟨by simpa using hl, .inr ⟨p, 1, cs, rfl, hB, h, Nat.le_refl _, by unfold maxLen; omega, hs, ?_⟩⟩
 rw [List.take_of_length_le (by rw [Array.length_toList, hs]; exact Nat.le_refl _), hc]
 simp
theorem c_sPrimaryOf (view n : Int) (w : World) (h : inB view 0 1000000000 = true) (h2 : ofB n = true) : Calls Tryz.prog 68 #[.int .i64 view, .int .i64 n] w fun e w' => e = .returned (.int .i64 (view % n)) ∧ Ext w w' := by
 have hv := (inB_yes _ _ _).1 h
 have ho := ofB_b h2
 have ho' : n ≠ 0 := by omega
 have ho2 : (n == 0) = false := by simpa using ho'
 have HC := Hd (fun W => h ▸ c_l1Whole view W)
 have HD := Hd (fun W => h2 ▸ c_l6Of n W)
 clear h h2
 go_enter Tryz.func68, Tryz.ntmps68
 go_wp2_with fail
 refine (HC.out _).mono ?_
 rintro e w1 ⟨rfl, x1⟩
 go_wp2_with fail
 refine (HD.out _).mono ?_
 rintro e w2 ⟨rfl, x2⟩
 go_wp2
 go_ret
 exact ⟨ret_int (by first | rfl | (simp; done) | omega), Ext.trans x1 x2⟩
theorem c_l6Leads (a : LAd) (A : Option Addr) (n c : Nat) (r : Rp) (w : World) (h : inB r.view 0 1000000000 = true) (h2 : ofB r.of = true) : Calls Tryz.prog 67 #[Rp.val a A n c r] w fun e w' => e = .returned (.bool (leadsB r)) ∧ Ext w w' := by
 have X0 := ext_alloc w (Rp.obj a A n c r)
 have HB := Hd (hNew (w := w) (o := Rp.obj a A n c r) rfl)
 have HH := Hd h
 have HH2 := Hd h2
 clear h h2
 go_enter Tryz.func67, Tryz.ntmps67
 go_wp2
 (refine Rm.wp_region_mix' (R := relE (w.alloc (Rp.obj a A n c r)).heap.size) (fun _ _ _ => True) (fun _ _ _ _ _ hq => hq) 8 (by first | exact Nat.le_refl _ | omega | (simp; omega)) (by kernel_rfl) (by kernel_rfl) ?_; simp only [Tc, Tz, Dc, Dz])
 ((iterate 1 (refine Rm.wpMix_plain rfl rfl ?_; go_big_quiet_step (fail); refine wpQuiet_nil ?_)); (refine Rm.wpMix_load1 (fun W9' h9 => show W9'.cell? _ = some (.int .i64 r.view) from bx_cell (Ext.box h9 HB.out) 3) rfl rfl rfl Tryz.underlying3 rfl ?_; simp only [Act.put, Sa, Sz, Ss]); (iterate 1 (refine Rm.wpMix_plain rfl rfl ?_; go_big_quiet_step (fail); refine wpQuiet_nil ?_)); (refine Rm.wpMix_load1 (fun W9' h9 => show W9'.cell? _ = some (.int .i64 r.of) from bx_cell (Ext.box h9 HB.out) 1) rfl rfl rfl Tryz.underlying3 rfl ?_; simp only [Act.put, Sa, Sz, Ss]))
 (refine Rm.wpMix_det rfl rfl rfl (enters Tryz.func68 (by kernel_rfl) rfl) (fun W9' h9 => c_sPrimaryOf r.view r.of W9' HH.out HH2.out) rfl ?_; simp only [Act.put, Sa, Sz, Ss])
 ((iterate 1 (refine Rm.wpMix_plain rfl rfl ?_; go_big_quiet_step (fail); refine wpQuiet_nil ?_)); (refine Rm.wpMix_load1 (fun W9' h9 => show W9'.cell? _ = some (.int .i64 r.me) from bx_cell (Ext.box h9 HB.out) 0) rfl rfl rfl Tryz.underlying3 rfl ?_; simp only [Act.put, Sa, Sz, Ss]); (iterate 1 (refine Rm.wpMix_plain rfl rfl ?_; go_big_quiet_step (fail); refine wpQuiet_nil ?_)))
 refine Rm.wpMix_nil ?_
 rintro W1 hW1
 have x1 : Ext (w.alloc (Rp.obj a A n c r)) W1 := hW1
 go_wp2
 go_ret
 exact ⟨ret_bool (by unfold leadsB; exact Bool.eq_iff_iff.2 (by simp only [beq_iff_eq]; exact eq_comm)), Ext.trans X0 x1⟩
structure OsK (w : World) (B : Nat) (A : Option Addr) (c : Nat) (os : List OtE) : Prop where
 row : Ow OtE.enc 100 18 w B (.slice A os.length c) os
 logs : OsF w B os
section
variable {w w' : World} {B : Nat} {A : Option Addr} {c : Nat} {os : List OtE}
theorem OsK.keep (h : OsK w B A c os) (hx : Ext w w') : OsK w' B A c os := ⟨h.row.kept hx, fun q hq => (h.logs q hq).keep hx⟩
theorem OsK.rd (h : OsK w B A c os) : OsR w A c os := ⟨(Ow.rdF OtE.len h.row).1, fun q hq => (h.logs q hq).rd⟩
theorem OsK.boxed {p : Nat} {cs : Array Value} {t : TypeId} (h : OsK w B A c os) (hb : w.heap[p]? = some (.cells cs t (0, 0))) (h1 : t ≠ 146) (h2 : t ≠ 149) (h3 : t ≠ 119) (h4 : t ≠ 100) (hg : Chg w w' [p]) : OsK w' B A c os :=
 ⟨h.row.chg hg (fun k hk hm => by rw [Mi] at hm; subst hm; exact box_apart hb h.row h4 hk), fun q hq => (h.logs q hq).boxed hb h1 h2 h3 hg⟩
theorem OsK.nil {p : Nat} (h : w.heap[p]? = some (.cells #[] 100 (0, 0))) (hB : B ≤ p) : OsK w B (some ⟨p, 0, none⟩) 0 [] := ⟨own_empty h hB, fun q hq => (List.not_mem_nil hq).elim⟩
theorem OsK.one {p : Nat} {a : LAd} {o : Ot} (h : w.heap[p]? = some (.cells (OtE.cells a o) 100 (0, 0))) (hB : B ≤ p) (hl : LgF w B a o.msg.log) : OsK w B (some ⟨p, 0, none⟩) 1 [(a, o)] :=
 ⟨own_one h hB rfl (OtE.len _), fun q hq => by rw [Mi] at hq; subst hq; exact hl⟩
theorem none_lgF (w : World) (B : Nat) : LgF w B LAd.none Lg.none := ⟨RdF.nil _ _ _ _ _, RdF.nil _ _ _ _ _, RdF.nil _ _ _ _ _⟩
theorem RoT.of {a : LAd} {A' : Option Addr} {c' : Nat} {qs : List VtE} {R : Rp} {B' : Nat} {O : List Ot} (h : RpF w B' a A' c' qs R) (k : OsK w B A c os) (e : List.map Prod.snd os = O) : RoT w R O (.tuple #[Rp.val a A' (List.length qs) c' R, .slice A (List.length os) c]) :=
 ⟨a, A', c', qs, A, c, os, rfl, h.rd, k.rd, e, fun w2 p cs hp hc => ⟨(h.boxed hp hc).rd, (k.boxed hp (by decide) (by decide) (by decide) (by decide) hc).rd⟩⟩
end
theorem c_l1Max (a b : Int) (w : World) : Calls Tryz.prog 70 #[.int .i64 a, .int .i64 b] w fun e w' => e = .returned (.int .i64 (max a b)) ∧ Ext w w' := by
 go_enter Tryz.func70, Tryz.ntmps70
 go_wp2
 all_goals
  go_ret
  exact ⟨ret_int (by omega), ext_refl _⟩
theorem hearR2_no {r : Rp} {m : Mg} {kind : Int} {R2 : Rp} {O : List Ot} (h : (rpOk r && hearB r m kind) = false) : hearR2 r m kind R2 = sameR r ∧ hearO r m kind O = [] := by
 unfold hearR2 hearO sameR
 rw [h]
 cases q : rpOk r
 ·simp
 ·rw [q] at h
  simp at h
  simp [h]
theorem hearR2_yes {r : Rp} {m : Mg} {kind : Int} {R2 : Rp} {O : List Ot} (h : (rpOk r && hearB r m kind) = true) : hearR2 r m kind R2 = R2 ∧ hearO r m kind O = O ∧ sameR r = r := by
 unfold hearR2 hearO sameR
 rw [h]
 simp at h
 simp [h.1, h.2]
theorem rp_whole {w w' : World} {p : Nat} {a : LAd} {A : Option Addr} {n c : Nat} {r : Rp} (hb : w.heap[p]? = some (Rp.obj a A n c r)) (hx : Ext w w') : ∀ j v, (Rp.cs a A n c r).toList[j]? = some v → w'.cell? ⟨p, 0 + j, none⟩ = some v := cells_mid (cs := Rp.cs a A n c r) (hx.box hb) [] [] rfl rfl
theorem mg_whole {w w' : World} {p : Nat} {a : LAd} {m : Mg} (hb : w.heap[p]? = some (Mg.obj a m)) (hx : Ext w w') : ∀ j v, (Mg.cs a m).toList[j]? = some v → w'.cell? ⟨p, 0 + j, none⟩ = some v := cells_mid (cs := Mg.cs a m) (hx.box hb) [] [] rfl rfl
theorem rp_log {w w' : World} {p : Nat} {a : LAd} {A : Option Addr} {n c : Nat} {r : Rp} (hb : w.heap[p]? = some (Rp.obj a A n c r)) (hx : Ext w w') : ∀ j v, (Lg.cs a r.log).toList[j]? = some v → w'.cell? ⟨p, 6 + j, none⟩ = some v :=
 cells_mid (cs := Lg.cs a r.log) (hx.box hb) [.int .i64 r.me, .int .i64 r.of, .int .i64 r.mode, .int .i64 r.view, .int .i64 r.normal, .int .i64 r.commit] [.slice A n c, .int .i64 r.cell, .int .i64 r.nonce] rfl rfl
theorem rpOk_in {r : Rp} (h : rpOk r = true) : inB r.view 0 1000000000 = true ∧ ofB r.of = true := by
 unfold rpOk at h
 simp only [Bool.and_eq_true] at h
 obtain ⟨⟨⟨⟨⟨⟨⟨⟨⟨h1, h2⟩, h3⟩, h4⟩, h5⟩, h6⟩, h7⟩, h8⟩, h9⟩, h10⟩ := h
 exact ⟨h3, h1⟩
theorem RpF.beside {w w' : World} {B B' : Nat} {a : LAd} {A A' : Option Addr} {n c c' : Nat} {ps : List VtE} {r : Rp} {os : List OtE} (h : RpF w B a A c ps r) (k : Ow OtE.enc 100 18 w B' (.slice A' n c') os) (hg : Chg w w' (blk A')) : RpF w' B a A c ps r :=
 ⟨h.l.besideO k hg, h.v.chg VtE.len hg (fun hl x hx => (h.v.2 hl).apart k (by decide) x hx), fun q hq => (h.vl q hq).besideO k hg, h.e⟩
theorem OsK.less {w : World} {B B' : Nat} {A : Option Addr} {c : Nat} {os : List OtE} (h : OsK w B A c os) (hB : B' ≤ B) : OsK w B' A c os := ⟨h.row.less hB, fun q hq => (h.logs q hq).less hB⟩
theorem OsK.chg1 {w w' : World} {B g : Nat} {A : Option Addr} {c : Nat} {os : List OtE} (h : OsK w B A c os) (hg : Chg w w' [g]) (hlt : g < B) : OsK w' B A c os :=
 ⟨h.row.chg hg (fun k hk hm => by rw [Mi] at hm; have := (h.row.inB k hk).1; omega), fun q hq => (h.logs q hq).chg1 hg hlt⟩
def AskV (B : Nat) (o : Ot) (v : Value) (W : World) : Prop := ∃ p, v = .slice (some ⟨p, 0, none⟩) 1 1 ∧ OsK W B (some ⟨p, 0, none⟩) 1 [(LAd.none, o)]
theorem AskV.mono (B : Nat) (o : Ot) (p : Nat) (obj : Obj) (hp : p < B) : Rm.Mono (relS p obj B hp) (AskV B o) := fun v w w' ⟨g, h, hk⟩ hx => ⟨g, h, hk.chg1 hx.1 hp⟩
theorem AskV.inv {B : Nat} {o : Ot} {p : Nat} {W : World} (h : AskV B o (.slice (some ⟨p, 0, none⟩) 1 1) W) : OsK W B (some ⟨p, 0, none⟩) 1 [(LAd.none, o)] := by
 obtain ⟨g, he, hk⟩ := h
 simp only [Value.slice.injEq, Option.some.injEq, Addr.mk.injEq, and_true] at he
 subst he
 exact hk
set_option maxRecDepth 100000 in
set_option maxHeartbeats 8000000 in
theorem c_l6Answers (a : LAd) (A : Option Addr) (n c : Nat) (r : Rp) (w : World) (hr : LgR w a r.log) (j0 n0 : Nat) (T : Int) (hT : r.log.base + j0 + n0 = T) (hok : logOk r.log = true) (hjn : j0 + n0 ≤ r.log.ents.length) :
  Calls Tryz.prog 111 #[Rp.val a A n c r, .int .i64 (r.log.base + j0), .int .i64 T] w fun e w' => (∃ A' c' os, e = .returned (.slice A' (List.length os) c') ∧ List.map Prod.snd os = ansO r.view r.log j0 n0 ∧ OsK w' w.heap.size A' c' os) ∧ Ext w w' := by
 obtain ⟨i0, hi, hz0, hz1, hz2⟩ := info_parts Tryz.infoOt
 obtain ⟨hb0, hb1, h60, hIm, hAll⟩ := log_b hok
 obtain ⟨S0, hS0⟩ : ∃ S0, r.log.base + (j0 : Int) = S0 := ⟨_, rfl⟩
 have HS0 := Hd hS0
 have hT2 : S0 + n0 = T := by omega
 have hS0b : 0 ≤ S0 ∧ S0 ≤ 1000000000 := by omega
 rw [hS0]
 have X0 := ext_alloc w (Rp.obj a A n c r)
 have D0 := Hd (hNew (w := w) (o := Rp.obj a A n c r) rfl)
 have HR := Hd hr
 have HX0 := Hd X0
 have HOk := Hd hok
 have HIm := Hd hIm
 have HAll := Hd hAll
 clear hr hok hT hS0 hIm hAll X0
 go_enter Tryz.func111, Tryz.ntmps111
 go_wp2
 go_loopw [7, 8] (fun v i wr => ∃ (k : Nat) (os : List OtE) (A1 : Option Addr) (c1 : Nat), k ≤ n0 ∧ i = .int .i64 (S0 + k + 1) ∧ v = .slice A1 os.length c1 ∧ Hid (List.map Prod.snd os = ansO r.view r.log j0 k) ∧ Hid (OsK wr (w.heap.size + 1) A1 c1 os) ∧ Hid (Ext (w.alloc (Rp.obj a A n c r)) wr)) (fun _ i _ => (T + 1 - intOf i).toNat)
 case atStart => exact ⟨0, [], _, 0, Nat.zero_le _, by go_num, rfl, Hd rfl, Hd ⟨own_empty (hNew (by simp)) (by simp), fun p hp => (List.not_mem_nil hp).elim⟩, Hd (ext_alloc _ _)⟩
 case round =>
  obtain ⟨k, os, A1, c1, hkn, rfl, rfl, HO, HK, HX⟩ := hrel
  have hl' : os.length ≤ k := by
   have h1 := congrArg List.length HO.out
   rw [List.length_map] at h1
   have := ansO_len r.view r.log j0 k
   omega
  have hszr := HX.out.size
  simp only [sz_alloc] at hszr
  obtain ⟨N, hN⟩ : ∃ N, S0 + (k : Int) + 1 = N := ⟨_, rfl⟩
  rw [hN]
  by_cases hlt : k < n0
  ·have g0 : decide (N ≤ T) = true := by simp; omega
   have hNb : 0 < N ∧ N ≤ 1000000000 := by have := HS0.out; omega
   have hjk : j0 + k < r.log.ents.length := by omega
   have hN1 : r.log.base + ((j0 + k : Nat) : Int) + 1 = N := by have := HS0.out; omega
   have hN2 : r.log.base + ((j0 + k : Nat) : Int) = N - 1 := by omega
   obtain ⟨e, he⟩ : ∃ e, r.log.ents[j0 + k] = e := ⟨_, rfl⟩
   obtain ⟨m, hm⟩ : ∃ m, allI (r.log.cells, r.log.seats) (r.log.ents.take (j0 + k)) = m := ⟨_, rfl⟩
   have HLA := Hd (show ∀ W, Ext wr W → Calls Tryz.prog 166 #[Lg.val a r.log, .int .i64 N] W fun e9 w' => e9 = .returned (.tuple #[e.val, .bool true]) ∧ Ext W w' from fun W hW => by
    have h5 := c_sLogAt a r.log (j0 + k) W (HR.out.keep (Ext.trans HX0.out (Ext.trans HX.out hW))) HOk.out hjk
    rw [hN1, he] at h5
    exact h5)
   have HLI := Hd (show ∀ W, Ext wr W → Calls Tryz.prog 48 #[Lg.val a r.log, .int .i64 (N - 1)] W fun e9 w' => (∃ A c A' c', e9 = .returned (.tuple #[Im.val A m.1.length c A' m.2.length c', .bool true]) ∧ RdF Cel.enc 146 2 w' W.heap.size A c m.1 ∧ RdF Sea.enc 149 3 w' W.heap.size A' c' m.2) ∧ Ext W w' from fun W hW => by
    have h5 := c_sLogImage a r.log (j0 + k) W (HR.out.keep (Ext.trans HX0.out (Ext.trans HX.out hW))) HOk.out (by omega)
    rw [hN2, hm] at h5
    exact h5)
   have HMP := Hd (show ImgP (m.1, m.2) by rw [← hm]; exact ImgP.all HIm.out (fun e he => HAll.out e (List.mem_of_mem_take he)))
   have HEk := Hd (show e.ok = true by rw [← he]; exact HAll.out _ (List.getElem_mem hjk))
   have HRy := Hd (show repB m e = true → List.map Prod.snd os ++ [⟨-1, repM r.view e (entA m e)⟩] = ansO r.view r.log j0 (k + 1) from fun h => by rw [ansO_next, repO_yes hjk hm (by rw [he]; exact h), HO.out, he])
   have HRn := Hd (show repB m e = false → List.map Prod.snd os = ansO r.view r.log j0 (k + 1) from fun h => by rw [ansO_next, repO_no hjk hm (by rw [he]; exact h), HO.out]; simp)
   have hec := ent_b HEk.out
   clear hm he hN1 hN2
   have HB := Hd (HX.out.box D0.out)
   have hd0 := bx_lt HB.out
   (go_wp2_with (with_reducible refine wl_stop 28 ?_); refine stop_loadAgg (rp_log HB.out (ext_refl _)) rfl Tryz.underlying40 (by kernel_rfl) ?_; simp only [Act.put, Sa, Sz, Ss])
   go_wp2_with fail
   refine (HLI.out _ (ext_refl _)).mono ?_
   rintro e9 w4 ⟨⟨A4, c4, B4, d4, rfl, r4, s4⟩, x4⟩
   have X4 := Hd x4
   have HM4 := Hd (hNew (w := w4) (o := Im.zobj) rfl)
   have XA := ext_alloc w4 Im.zobj
   have hz4 := x4.size
   have R4 := Hd (r4.keep XA)
   have S4 := Hd (s4.keep XA)
   clear r4 s4 x4 HLI
   (go_wp2_with (with_reducible refine wl_stopS 36 ?_); refine stop_store (w4.heap.size) (Im.cs A4 m.1.length c4 B4 m.2.length d4) rfl rfl (HM4.out) (by kernel_rfl) rfl (by simp [Value.oneCell']) ?_)
   intro w5 e5 k5
   have X5 := Hd (Ext.trans X4.out (chg_new XA k5 (Nat.le_refl _)))
   have M5 := Hd e5
   have RC5 := Hd (R4.out.boxed Cel.enc_len HM4.out (by decide) k5).1
   have RS5 := Hd (S4.out.boxed Sea.enc_len HM4.out (by decide) k5).1
   have hz5 := bx_lt e5
   have B5 := Hd (X5.out.box HB.out)
   clear e5 k5 XA HM4 R4 S4 X4
   (go_wp2_with (with_reducible refine wl_stop 36 ?_); refine stop_loadAgg (rp_log B5.out (ext_refl _)) rfl Tryz.underlying40 (by kernel_rfl) ?_; simp only [Act.put, Sa, Sz, Ss])
   go_wp2_with fail
   refine (HLA.out _ X5.out).mono ?_
   rintro e9 v6 ⟨rfl, x6⟩
   have HE6 := Hd (hNew (w := v6) (o := Ent.zbox) rfl)
   have XA := Ext.trans x6 (ext_alloc v6 Ent.zbox)
   have hz6 := x6.size
   clear x6 HLA B5
   (go_wp2_with (with_reducible refine wl_stopS 119 ?_); refine stop_store (v6.heap.size) #[.int .i64 e.client, .int .i64 e.req, .int .i64 e.kind, .int .i64 e.key, .int .i64 e.value] rfl rfl (HE6.out) (by kernel_rfl) rfl (by simp [Value.oneCell']) ?_)
   intro v7 e7 k7
   have Y7 := chg_new XA k7 (by omega)
   have X7 := Hd (Ext.trans X5.out Y7)
   have E7 := Hd e7
   have M7 := Hd (Y7.box M5.out)
   have RC7 := Hd (RC5.out.keep Y7)
   have RS7 := Hd (RS5.out.keep Y7)
   have hz7 := Y7.size
   clear e7 k7 XA HE6 Y7 X5 M5 RC5 RS5
   go_wp2_with (with_reducible refine wl_stop 44 ?_)
   refine stop_load (M7.out) rfl Tryz.underlying36 (by kernel_rfl) ?_
   simp only [Act.put, Sa, Sz, Ss]
   (go_wp2_with (with_reducible refine wl_stop 45 ?_); refine stop_load (E7.out) rfl Tryz.underlying119 (by kernel_rfl) ?_; simp only [Act.put, Sa, Sz, Ss])
   go_wp2_with fail
   refine (c_sRunEntry A4 c4 m.1 B4 d4 m.2 e v7 RC7.out RS7.out HMP.out HEk.out).mono ?_
   rintro e9 w6 ⟨⟨A6, c6, B6, d6, rfl, r6, s6⟩, x6⟩
   have HM6 := Hd (hNew (w := w6) (o := Im.zobj) rfl)
   have XA := ext_alloc w6 Im.zobj
   have X6 := Hd (Ext.trans x6 XA)
   have hz6' := x6.size
   clear r6 s6 x6
   (go_wp2_with (with_reducible refine wl_stopS 36 ?_); refine stop_store (w6.heap.size) (Im.cs A6 (entI (m.1, m.2) e).1.length c6 B6 (entI (m.1, m.2) e).2.length d6) rfl rfl (HM6.out) (by kernel_rfl) rfl (by simp [Value.oneCell']) ?_)
   intro w7 e7 k7
   have Y7 := chg_new X6.out k7 (by omega)
   have X8 := Hd (Ext.trans X7.out Y7)
   have E8 := Hd (Y7.box E7.out)
   have M8 := Hd (Y7.box M7.out)
   have RC8 := Hd (RC7.out.keep Y7)
   have RS8 := Hd (RS7.out.keep Y7)
   have hz8 := Y7.size
   clear e7 k7 XA HM6 X6 Y7 X7 E7 M7 RC7 RS7
   (go_wp2_with (with_reducible refine wl_stop 51 ?_); refine stop_load (M8.out) rfl Tryz.underlying36 (by kernel_rfl) ?_; simp only [Act.put, Sa, Sz, Ss])
   have d7 := bx_cell E8.out
   have z7 := bx_lt E8.out
   go_wp2_with fail
   refine (c_sSeatOf A4 c4 m.1 B4 d4 m.2 e.client w7 RC8.out RS8.out HMP.out).mono ?_
   rintro e9 w8 ⟨⟨x, rfl, hx⟩, x8⟩
   have HXs := Hd hx
   have HS8 := Hd (hNew (w := w8) (o := Sea.zobj) rfl)
   have XA := ext_alloc w8 Sea.zobj
   have XS := Hd (Ext.trans x8 XA)
   have hz9 := x8.size
   clear x8 hx d7 z7
   (go_wp2_with (with_reducible refine wl_stopS 149 ?_); refine stop_store (w8.heap.size) #[.int .i64 x.client, .int .i64 x.req, .int .i64 x.answer] rfl rfl (HS8.out) (by kernel_rfl) rfl (by simp [Value.oneCell']) ?_)
   intro w9 e9 k9
   have Y9 := chg_new XS.out k9 (by omega)
   have X9 := Hd (Ext.trans X8.out Y9)
   have E9 := Hd (Y9.box E8.out)
   have S9 := Hd e9
   have B9 := Hd (X9.out.box HB.out)
   have K9 := Hd (HK.out.keep X9.out)
   have HX9 := Hd (Ext.trans HX.out X9.out)
   have hz10 := Y9.size
   have hs9 := bx_lt e9
   clear e9 k9 XA HS8 XS Y9 X8 E8 M8 RC8 RS8 HK HB
   have d9 := bx_cell E9.out
   have z9 := bx_lt E9.out
   have s9 := bx_cell S9.out
   have k9 := bx_cell B9.out
   have y9 := bx_lt B9.out
   obtain ⟨cd, hcd⟩ : ∃ cd, entCode (m.1, m.2) e = cd := ⟨_, rfl⟩
   obtain ⟨ax, hax⟩ : ∃ ax, entA (m.1, m.2) e = ax := ⟨_, rfl⟩
   obtain ⟨hs, hhs⟩ : ∃ hs, hasS m.2 e.client = hs := ⟨_, rfl⟩
   have HCd := Hd (show cd = 0 ∨ cd = 3 ∨ (cd = 2 ∧ hs = true) by rw [← hcd, ← hhs]; exact code_cases (m.1, m.2) e)
   have HRB := Hd (show repB m e = ((cd == 0) || ((cd == 3) || ((cd == 2) && ((seatAt m.2 e.client).req == e.req)))) by rw [← hcd]; rfl)
   have HAx := Hd (show entA m e = ax from hax)
   have HXs2 := Hd (show hs = true → x = seatAt m.2 e.client from fun h => HXs.out (hhs.trans h))
   rw [hcd, hax, hhs]
   clear hcd hax hhs HXs
   cases gr : repB m e
   ·have HN' := Hd (HRn.out gr)
    have g1 := HRB.out
    rw [gr] at g1
    have hnot : cd = 2 ∧ hs = true ∧ (x.req == e.req) = false := by
     rcases HCd.out with h | h | ⟨h, hs'⟩
     ·rw [h] at g1; simp at g1
     ·rw [h] at g1; simp at g1
     ·refine ⟨h, hs', ?_⟩
      rw [HXs2.out hs']
      rw [h] at g1
      simpa using g1.symm
    obtain ⟨rfl, rfl, hxe⟩ := hnot
    clear g1 gr HRB
    go_wp2
    go_roundw
    case rel => exact ⟨k + 1, os, A1, c1, by omega, by go_num, rfl, HN', K9, HX9⟩
    case measure => simp [intOf] <;> omega
   ·have HN' := Hd (HRy.out gr)
    have g1 := HRB.out
    rw [gr] at g1
    have hyes : cd = 0 ∨ cd = 3 ∨ cd = 2 ∧ hs = true ∧ (x.req == e.req) = true := by
     rcases HCd.out with h | h | ⟨h, hs'⟩
     ·exact .inl h
     ·exact .inr (.inl h)
     ·refine .inr (.inr ⟨h, hs', ?_⟩)
      rw [HXs2.out hs']
      rw [h] at g1
      simpa using g1.symm
    clear g1 gr HRB
    rcases hyes with rfl | rfl | ⟨rfl, rfl, hxe⟩
    all_goals
     go_wp2_with (at_builtin; refine wl_app (enc := OtE.enc) rfl _ _ 55 rfl (w.heap.size + 1) 100 i0 Ot.zero 18 192 Tryz.underlying55 hi hz0 hz1 hz2 rfl (by decide) OtE.len OtE.one (.slice A1 os.length c1) os rfl (K9.out.row.kept (ext_alloc _ _)) (some ⟨w9.heap.size, 0, none⟩) 1 [(LAd.none, (⟨-1, repM r.view e ax⟩ : Ot))] 1 rfl rfl (Rd.one (hNew rfl) rfl) ?c1 ?c2 ?c3 ?_)
     case c1 => unfold maxLen; simp; omega
     case c2 => (try simp) <;> omega
     case c3 => (try simp) <;> omega
     intro v' w10 ho10 hg10
     obtain ⟨A10, c10, rfl⟩ := ho10.form
     have c4 := chg_grown hg10
     have X10 := Hd (ext_chg (ext_to HX9.out (.cells (OtE.cells LAd.none ⟨-1, repM r.view e ax⟩) 100)) c4 (fun g hg => by have := (K9.out.row.inB g hg).1; simp only [sz_alloc]; omega))
     have K10 := Hd (show OsK w10 (w.heap.size + 1) A10 c10 (os ++ [(LAd.none, (⟨-1, repM r.view e ax⟩ : Ot))]) from ⟨ho10, fun p hp => by
      rcases List.mem_append.1 hp with hp | hp
      ·exact ((K9.out.logs p hp).keep (ext_alloc _ (.cells (OtE.cells LAd.none ⟨-1, repM r.view e ax⟩) 100))).besideO (K9.out.row.kept (ext_alloc _ _)) c4
      ·rw [Mi] at hp
       subst hp
       exact LgF.zero _ _⟩)
     have HN2 := Hd (show List.map Prod.snd (os ++ [(LAd.none, (⟨-1, repM r.view e ax⟩ : Ot))]) = ansO r.view r.log j0 (k + 1) by rw [← HN'.out, List.map_append, HAx.out]; rfl)
     clear ho10 hg10 c4 d9 z9 s9 k9 y9
     go_wp2
     go_roundw
     case rel => exact ⟨k + 1, _, A10, c10, by omega, by go_num, rfl, HN2, K10, X10⟩
     case measure => simp [intOf] <;> omega
  ·obtain rfl : k = n0 := by omega
   have g0 : decide (N ≤ T) = false := by simp; omega
   go_wp2
   go_ret
   exact ⟨⟨A1, c1, os, rfl, HO.out, HK.out.less (by omega)⟩, Ext.trans HX0.out HX.out⟩
end Go.Proofs.YtkenlhdiehaemaaGreat
