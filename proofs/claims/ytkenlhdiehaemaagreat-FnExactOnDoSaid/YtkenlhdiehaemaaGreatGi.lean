/- The reference's small functions of a replica. -/
import Derived.Test.YtkenlhdiehaemaaGreatGq
import Derived.Test.YtkenlhdiehaemaaGreatGh
namespace Go.Proofs.YtkenlhdiehaemaaGreat
open Go.ChangeShapes Go.WideShapes Go.ChangeAt Go.RowKit Go.Sort
set_option linter.unusedVariables false
set_option linter.unusedSimpArgs false

theorem own_one {α : Type} {enc : α → List Value} {e : TypeId} {sz : Nat} {w : World} {p B : Nat} {cs : Array Value} {x : α} (h : w.heap[p]? = some (.cells cs e (0, 0))) (hB : B ≤ p) (hc : cs.toList = enc x) (hl : (enc x).length = sz) : Ow enc e sz w B (.slice (some ⟨p, 0, none⟩) 1 1) [x] := by
  have hs : cs.size = 1 * sz := by rw [← Array.length_toList, hc, hl, Nat.one_mul]
  refine ⟨by simpa using hl, .inr ⟨p, 1, cs, rfl, hB, h, Nat.le_refl _, by unfold maxLen; omega, hs, ?_⟩⟩
  rw [List.take_of_length_le (by rw [Array.length_toList, hs]; exact Nat.le_refl _), hc]
  simp
theorem c_l6Live (a : LAd) (A : Option Addr) (n c : Nat) (r : Rp) (w : World) : Calls Tryz.prog 65 #[Rp.val a A n c r] w fun e w' => e = .returned (.bool (liveB r)) ∧ Ext w w' := by
  have X0 := ext_alloc w (Rp.obj a A n c r)
  go_enter Tryz.func65, Tryz.ntmps65
  go_wp2
  all_goals
    go_ret
    exact ⟨ret_bool (by simp_all [liveB]), ext_alloc _ _⟩
theorem c_sPrimaryOf (view n : Int) (w : World) (h : inB view 0 1000000000 = true) (h2 : ofB n = true) : Calls Tryz.prog 68 #[.int .i64 view, .int .i64 n] w fun e w' => e = .returned (.int .i64 (view % n)) ∧ Ext w w' := by
  have hv := (inB_yes _ _ _).1 h
  have ho := ofB_b h2
  have ho' : n ≠ 0 := by omega
  have ho2 : (n == 0) = false := by simpa using ho'
  have HC := Lib.hid (fun W => h ▸ c_l1Whole view W)
  have HD := Lib.hid (fun W => h2 ▸ c_l6Of n W)
  clear h h2
  go_enter Tryz.func68, Tryz.ntmps68
  go_wp2_with fail
  refine (HC.out _).mono ?_
  rintro e w1 ⟨rfl, x1⟩
  go_wp2_with fail
  refine (HD.out _).mono ?_
  rintro e w2 ⟨rfl, x2⟩
  go_wp2
  go_ret
  exact ⟨ret_int (by first | rfl | (simp; done) | omega), Ext.trans x1 x2⟩
theorem c_l6Leads (a : LAd) (A : Option Addr) (n c : Nat) (r : Rp) (w : World) (h : inB r.view 0 1000000000 = true) (h2 : ofB r.of = true) : Calls Tryz.prog 67 #[Rp.val a A n c r] w fun e w' => e = .returned (.bool (leadsB r)) ∧ Ext w w' := by
  have X0 := ext_alloc w (Rp.obj a A n c r)
  have HB := Lib.hid (hNew (w := w) (o := Rp.obj a A n c r) rfl)
  have HH := Lib.hid h
  have HH2 := Lib.hid h2
  clear h h2
  go_enter Tryz.func67, Tryz.ntmps67
  go_wp2
  (refine Rm.wp_region_mix' (R := relE (w.alloc (Rp.obj a A n c r)).heap.size) (fun _ _ _ => True) (fun _ _ _ _ _ hq => hq) 8 (by first | exact Nat.le_refl _ | omega | (simp; omega)) (by kernel_rfl) (by kernel_rfl) ?_; simp only [List.take_succ_cons, List.take_zero, List.drop_succ_cons, List.drop_zero])
  ((iterate 1 (refine Rm.wpMix_plain rfl rfl ?_; go_big_quiet_step (fail); refine wpQuiet_nil ?_)); (refine Rm.wpMix_load1 (fun W9' h9 => show W9'.cell? _ = some (.int .i64 r.view) from bx_cell (Ext.box h9 HB.out) 3) rfl rfl rfl Tryz.underlying3 rfl ?_; simp only [Act.put, List.setIfInBounds_toArray, List.set_cons_zero, List.set_cons_succ]); (iterate 1 (refine Rm.wpMix_plain rfl rfl ?_; go_big_quiet_step (fail); refine wpQuiet_nil ?_)); (refine Rm.wpMix_load1 (fun W9' h9 => show W9'.cell? _ = some (.int .i64 r.of) from bx_cell (Ext.box h9 HB.out) 1) rfl rfl rfl Tryz.underlying3 rfl ?_; simp only [Act.put, List.setIfInBounds_toArray, List.set_cons_zero, List.set_cons_succ]))
  (refine Rm.wpMix_det rfl rfl rfl (enters Tryz.func68 (by kernel_rfl) rfl) (fun W9' h9 => c_sPrimaryOf r.view r.of W9' HH.out HH2.out) rfl ?_; simp only [Act.put, List.setIfInBounds_toArray, List.set_cons_zero, List.set_cons_succ])
  ((iterate 1 (refine Rm.wpMix_plain rfl rfl ?_; go_big_quiet_step (fail); refine wpQuiet_nil ?_)); (refine Rm.wpMix_load1 (fun W9' h9 => show W9'.cell? _ = some (.int .i64 r.me) from bx_cell (Ext.box h9 HB.out) 0) rfl rfl rfl Tryz.underlying3 rfl ?_; simp only [Act.put, List.setIfInBounds_toArray, List.set_cons_zero, List.set_cons_succ]); (iterate 1 (refine Rm.wpMix_plain rfl rfl ?_; go_big_quiet_step (fail); refine wpQuiet_nil ?_)))
  refine Rm.wpMix_nil ?_
  rintro W1 hW1
  have x1 : Ext (w.alloc (Rp.obj a A n c r)) W1 := hW1
  go_wp2
  go_ret
  exact ⟨ret_bool (by unfold leadsB; exact Bool.eq_iff_iff.2 (by simp only [beq_iff_eq]; exact eq_comm)), Ext.trans X0 x1⟩
/-- what is sent reads so, in rows typed, from B on -/
structure OsK (w : World) (B : Nat) (A : Option Addr) (c : Nat) (os : List OtE) : Prop where
  row : Ow OtE.enc 100 18 w B (.slice A os.length c) os
  logs : OsF w B os
section
variable {w w' : World} {B : Nat} {A : Option Addr} {c : Nat} {os : List OtE}
theorem OsK.keep (h : OsK w B A c os) (hx : Ext w w') : OsK w' B A c os := ⟨h.row.kept hx, fun q hq => (h.logs q hq).keep hx⟩
theorem OsK.rd (h : OsK w B A c os) : OsR w A c os := ⟨(Ow.rdF OtE.len h.row).1, fun q hq => (h.logs q hq).rd⟩
theorem OsK.boxed {p : Nat} {cs : Array Value} {t : TypeId} (h : OsK w B A c os) (hb : w.heap[p]? = some (.cells cs t (0, 0))) (h1 : t ≠ 146) (h2 : t ≠ 149) (h3 : t ≠ 119) (h4 : t ≠ 100) (hg : Chg w w' [p]) : OsK w' B A c os :=
  ⟨h.row.chg hg (fun k hk hm => by rw [List.mem_singleton] at hm; subst hm; exact box_apart hb h.row h4 hk), fun q hq => (h.logs q hq).boxed hb h1 h2 h3 hg⟩
theorem OsK.nil {p : Nat} (h : w.heap[p]? = some (.cells #[] 100 (0, 0))) (hB : B ≤ p) : OsK w B (some ⟨p, 0, none⟩) 0 [] := ⟨own_empty h hB, fun q hq => (List.not_mem_nil hq).elim⟩
theorem OsK.one {p : Nat} {a : LAd} {o : Ot} (h : w.heap[p]? = some (.cells (OtE.cells a o) 100 (0, 0))) (hB : B ≤ p) (hl : LgF w B a o.msg.log) : OsK w B (some ⟨p, 0, none⟩) 1 [(a, o)] :=
  ⟨own_one h hB rfl (OtE.len _), fun q hq => by rw [List.mem_singleton] at hq; subst hq; exact hl⟩
theorem none_lgF (w : World) (B : Nat) : LgF w B LAd.none Lg.none := ⟨RdF.nil _ _ _ _ _, RdF.nil _ _ _ _ _, RdF.nil _ _ _ _ _⟩
theorem RoT.of {a : LAd} {A' : Option Addr} {c' : Nat} {qs : List VtE} {R : Rp} {B' : Nat} {O : List Ot} (h : RpF w B' a A' c' qs R) (k : OsK w B A c os) (e : List.map Prod.snd os = O) : RoT w R O (.tuple #[Rp.val a A' (List.length qs) c' R, .slice A (List.length os) c]) :=
  ⟨a, A', c', qs, A, c, os, rfl, h.rd, k.rd, e, fun w2 p cs hp hc => ⟨(h.boxed hp hc).rd, (k.boxed hp (by decide) (by decide) (by decide) (by decide) hc).rd⟩⟩
end
theorem c_l6Ask (a : LAd) (A : Option Addr) (n c : Nat) (r : Rp) (view op to : Int) (w : World) : Calls Tryz.prog 66 #[Rp.val a A n c r, .int .i64 view, .int .i64 op, .int .i64 to] w fun e w' => (∃ p, e = .returned (.slice (some ⟨p, 0, none⟩) 1 1) ∧ w.heap.size ≤ p ∧ OsK w' w.heap.size (some ⟨p, 0, none⟩) 1 [(LAd.none, ⟨to, askM2 r view op⟩)]) ∧ Ext w w' := by
  have X0 := ext_alloc w (Rp.obj a A n c r)
  go_enter Tryz.func66, Tryz.ntmps66
  go_wp2
  go_ret
  exact ⟨⟨_, rfl, by simp, OsK.one (hNew (by simp)) (by simp) (none_lgF _ _)⟩, ext_to X0 _⟩
theorem c_l1Max (a b : Int) (w : World) : Calls Tryz.prog 70 #[.int .i64 a, .int .i64 b] w fun e w' => e = .returned (.int .i64 (max a b)) ∧ Ext w w' := by
  go_enter Tryz.func70, Tryz.ntmps70
  go_wp2
  all_goals
    go_ret
    exact ⟨ret_int (by omega), ext_refl _⟩
theorem c_l1Min (a b : Int) (w : World) : Calls Tryz.prog 71 #[.int .i64 a, .int .i64 b] w fun e w' => e = .returned (.int .i64 (min a b)) ∧ Ext w w' := by
  go_enter Tryz.func71, Tryz.ntmps71
  go_wp2
  all_goals
    go_ret
    exact ⟨ret_int (by omega), ext_refl _⟩
theorem hearR2_no {r : Rp} {m : Mg} {kind : Int} {R2 : Rp} {O : List Ot} (h : (rpOk r && hearB r m kind) = false) : hearR2 r m kind R2 = sameR r ∧ hearO r m kind O = [] := by
  unfold hearR2 hearO sameR
  rw [h]
  cases q : rpOk r
  · simp
  · rw [q] at h
    simp at h
    simp [h]
theorem hearR2_yes {r : Rp} {m : Mg} {kind : Int} {R2 : Rp} {O : List Ot} (h : (rpOk r && hearB r m kind) = true) : hearR2 r m kind R2 = R2 ∧ hearO r m kind O = O ∧ sameR r = r := by
  unfold hearR2 hearO sameR
  rw [h]
  simp at h
  simp [h.1, h.2]
end Go.Proofs.YtkenlhdiehaemaaGreat

/- The reference takes over a view; whole boxes. -/
namespace Go.Proofs.YtkenlhdiehaemaaGreat
open Go.ChangeShapes Go.WideShapes Go.ChangeAt Go.RowKit Go.Sort
set_option linter.unusedVariables false
set_option linter.unusedSimpArgs false

theorem rp_whole {w w' : World} {p : Nat} {a : LAd} {A : Option Addr} {n c : Nat} {r : Rp} (hb : w.heap[p]? = some (Rp.obj a A n c r)) (hx : Ext w w') : ∀ j v, (Rp.cs a A n c r).toList[j]? = some v → w'.cell? ⟨p, 0 + j, none⟩ = some v := cells_mid (cs := Rp.cs a A n c r) (hx.box hb) [] [] rfl rfl
theorem mg_whole {w w' : World} {p : Nat} {a : LAd} {m : Mg} (hb : w.heap[p]? = some (Mg.obj a m)) (hx : Ext w w') : ∀ j v, (Mg.cs a m).toList[j]? = some v → w'.cell? ⟨p, 0 + j, none⟩ = some v := cells_mid (cs := Mg.cs a m) (hx.box hb) [] [] rfl rfl
theorem rp_log {w w' : World} {p : Nat} {a : LAd} {A : Option Addr} {n c : Nat} {r : Rp} (hb : w.heap[p]? = some (Rp.obj a A n c r)) (hx : Ext w w') : ∀ j v, (Lg.cs a r.log).toList[j]? = some v → w'.cell? ⟨p, 6 + j, none⟩ = some v :=
  cells_mid (cs := Lg.cs a r.log) (hx.box hb) [.int .i64 r.me, .int .i64 r.of, .int .i64 r.mode, .int .i64 r.view, .int .i64 r.normal, .int .i64 r.commit] [.slice A n c, .int .i64 r.cell, .int .i64 r.nonce] rfl rfl
theorem mg_log2 {w w' : World} {p : Nat} {a : LAd} {m : Mg} (hb : w.heap[p]? = some (Mg.obj a m)) (hx : Ext w w') : ∀ j v, (Lg.cs a m.log).toList[j]? = some v → w'.cell? ⟨p, 13 + j, none⟩ = some v :=
  cells_mid (cs := Lg.cs a m.log) (hx.box hb) [.int .i64 m.kind, .int .i64 m.frm, .int .i64 m.view, .int .i64 m.op, .int .i64 m.commit, .int .i64 m.normal, .int .i64 m.nonce, .int .i64 m.client, .int .i64 m.req, .int .i64 m.answer, .int .i64 m.ck, .int .i64 m.cx, .int .i64 m.cv] [] rfl rfl
theorem lg_whole {w w' : World} {p : Nat} {a : LAd} {l : Lg} (hb : w.heap[p]? = some (.cells (Lg.cs a l) 40 (0, 0))) (hx : Ext w w') : ∀ j v, (Lg.cs a l).toList[j]? = some v → w'.cell? ⟨p, 0 + j, none⟩ = some v := cells_mid (cs := Lg.cs a l) (hx.box hb) [] [] rfl rfl
theorem rpOk_in {r : Rp} (h : rpOk r = true) : inB r.view 0 1000000000 = true ∧ ofB r.of = true := by
  unfold rpOk at h
  simp only [Bool.and_eq_true] at h
  obtain ⟨⟨⟨⟨⟨⟨⟨⟨⟨h1, h2⟩, h3⟩, h4⟩, h5⟩, h6⟩, h7⟩, h8⟩, h9⟩, h10⟩ := h
  exact ⟨h3, h1⟩
theorem fits_in {m : Mg} (h : iFits m = true) (h86 : sHas (iForm m.kind) 86 = true) : inB m.view 0 1000000000 = true := (inB_yes _ _ _).2 (fits_view h h86)
theorem RpF.beside {w w' : World} {B B' : Nat} {a : LAd} {A A' : Option Addr} {n c c' : Nat} {ps : List VtE} {r : Rp} {os : List OtE} (h : RpF w B a A c ps r) (k : Ow OtE.enc 100 18 w B' (.slice A' n c') os) (hg : Chg w w' (blk A')) : RpF w' B a A c ps r :=
  ⟨h.l.besideO k hg, h.v.chg VtE.len hg (fun hl x hx => (h.v.2 hl).apart k (by decide) x hx), fun q hq => (h.vl q hq).besideO k hg, h.e⟩
theorem OsK.less {w : World} {B B' : Nat} {A : Option Addr} {c : Nat} {os : List OtE} (h : OsK w B A c os) (hB : B' ≤ B) : OsK w B' A c os := ⟨h.row.less hB, fun q hq => (h.logs q hq).less hB⟩
theorem OsK.chg1 {w w' : World} {B g : Nat} {A : Option Addr} {c : Nat} {os : List OtE} (h : OsK w B A c os) (hg : Chg w w' [g]) (hlt : g < B) : OsK w' B A c os :=
  ⟨h.row.chg hg (fun k hk hm => by rw [List.mem_singleton] at hm; have := (h.row.inB k hk).1; omega), fun q hq => (h.logs q hq).chg1 hg hlt⟩
/-- one message that asks, in a new row -/
def AskV (B : Nat) (o : Ot) (v : Value) (W : World) : Prop := ∃ p, v = .slice (some ⟨p, 0, none⟩) 1 1 ∧ OsK W B (some ⟨p, 0, none⟩) 1 [(LAd.none, o)]
theorem AskV.mono (B : Nat) (o : Ot) (p : Nat) (obj : Obj) (hp : p < B) : Rm.Mono (relS p obj B hp) (AskV B o) := fun v w w' ⟨g, h, hk⟩ hx => ⟨g, h, hk.chg1 hx.1 hp⟩
theorem AskV.inv {B : Nat} {o : Ot} {p : Nat} {W : World} (h : AskV B o (.slice (some ⟨p, 0, none⟩) 1 1) W) : OsK W B (some ⟨p, 0, none⟩) 1 [(LAd.none, o)] := by
  obtain ⟨g, he, hk⟩ := h
  simp only [Value.slice.injEq, Option.some.injEq, Addr.mk.injEq, and_true] at he
  subst he
  exact hk
theorem ask_v {p0 : Nat} {obj : Obj} {B : Nat} {hp : p0 < B} {W w' : World} {o : Ot} {e : Ending} (h : (∃ p, e = .returned (.slice (some ⟨p, 0, none⟩) 1 1) ∧ W.heap.size ≤ p ∧ OsK w' W.heap.size (some ⟨p, 0, none⟩) 1 [(LAd.none, o)]) ∧ Ext W w') (hB : B ≤ W.heap.size) : ∃ v, e = .returned v ∧ AskV B o v w' ∧ (relS p0 obj B hp).rel W w' := by
  obtain ⟨⟨p, he, hl, hk⟩, hx⟩ := h
  exact ⟨_, he, ⟨p, rfl, hk.less hB⟩, Rm.Rel.ext _ _ _ hx⟩
set_option maxRecDepth 100000 in
set_option maxHeartbeats 4000000 in
theorem c_l7Take (a : LAd) (A : Option Addr) (n c : Nat) (R : Rp) (view : Int) (al : LAd) (l : Lg) (commit : Int) (w : World) (hl : LgR w al l) (hs : l.small) (hok : logOk l = true) :
    Calls Tryz.prog 85 #[Rp.val a A n c R, .int .i64 view, Lg.val al l, .int .i64 commit] w fun e w' => (∃ a' g, e = .returned (Rp.val a' (some ⟨g, 0, none⟩) 0 0 (R.lead view l (max commit R.commit))) ∧ RpF w' w.heap.size a' (some ⟨g, 0, none⟩) 0 [] (R.lead view l (max commit R.commit))) ∧ Ext w w' := by
  have HL := Lib.hid hl
  have HS := Lib.hid hs
  have HO := Lib.hid hok
  obtain ⟨R1, hR1⟩ : ∃ R1 : Rp, R1 = ⟨R.me, R.of, 1, view, view, R.commit, R.log, R.votes, view, R.nonce⟩ := ⟨_, rfl⟩
  have X0 : Ext w (((w.alloc (Rp.obj a A n c ⟨R.me, R.of, 1, view, view, R.commit, R.log, R.votes, view, R.nonce⟩)).alloc (.cells (Lg.cs al l) 40)).alloc Rp.zobj) := ext_to (ext_to (ext_alloc _ _) _) _
  have D1 := Lib.hid (hOld (o := Rp.zobj) (hOld (o := .cells (Lg.cs al l) 40) (hNew (w := w) (o := Rp.obj a A n c ⟨R.me, R.of, 1, view, view, R.commit, R.log, R.votes, view, R.nonce⟩) rfl)))
  have D2 := Lib.hid (hOld (o := Rp.zobj) (hNew (w := w.alloc (Rp.obj a A n c ⟨R.me, R.of, 1, view, view, R.commit, R.log, R.votes, view, R.nonce⟩)) (o := .cells (Lg.cs al l) 40) (k := w.heap.size + 1) (by simp)))
  have D3 := Lib.hid (hNew (w := (w.alloc (Rp.obj a A n c ⟨R.me, R.of, 1, view, view, R.commit, R.log, R.votes, view, R.nonce⟩)).alloc (.cells (Lg.cs al l) 40)) (o := Rp.zobj) (k := w.heap.size + 1 + 1) (by simp))
  have HX0 := Lib.hid X0
  clear hl hs hok X0 hR1 R1
  go_enter Tryz.func85, Tryz.ntmps85
  (go_wp2_with (with_reducible refine wl_stop 16 ?_); refine stop_load (D2.out) rfl Tryz.underlying40 (by kernel_rfl) ?_; simp only [Act.put, List.setIfInBounds_toArray, List.set_cons_zero, List.set_cons_succ])
  go_wp2_with fail
  refine (c_l3Copy al l HS.out _ (HL.out.keep HX0.out)).mono ?_
  rintro e w4 ⟨a4, rfl, f4, x4⟩
  have E1 := x4.box D1.out
  have b1 := bx_cell E1
  have g1 := bx_frozen E1
  have z1 := bx_lt E1
  have P4 := box_put (box_put (box_put (box_put E1 6 (.int .i64 l.base)) 7 (.slice a4.cA l.cells.length a4.cc)) 8 (.slice a4.sA l.seats.length a4.sc)) 9 (.slice a4.eA l.ents.length a4.ec)
  simp only [List.setIfInBounds_toArray, List.set_cons_zero, List.set_cons_succ] at P4
  have c4 := chg_set (chg_set (chg_set (chg_set (Chg.refl w4 [w.heap.size]) (p := ⟨w.heap.size, 6, none⟩) (by simp) (.int .i64 l.base)) (p := ⟨w.heap.size, 7, none⟩) (by simp) (.slice a4.cA l.cells.length a4.cc)) (p := ⟨w.heap.size, 8, none⟩) (by simp) (.slice a4.sA l.seats.length a4.sc)) (p := ⟨w.heap.size, 9, none⟩) (by simp) (.slice a4.eA l.ents.length a4.ec)
  have HP4 := Lib.hid P4
  have HF4 := Lib.hid ((f4.less (B' := w.heap.size + 1 + 1 + 1) (by simp)).chg c4 (fun k hk => by rw [List.mem_singleton] at hk; omega))
  have HB4 := Lib.hid (box_out' (x4.box D2.out) c4 (by simp))
  have HZ4 := Lib.hid (box_out' (x4.box D3.out) c4 (by simp; omega))
  have HX4 := Lib.hid (chg_new (Ext.trans HX0.out x4) c4 (Nat.le_refl _))
  clear E1 P4 c4 f4 x4 D1 D2 D3 HX0
  go_wp2
  refine code_go (F := fun W => W.heap[w.heap.size]? = some (Rp.obj a4 A n c ⟨R.me, R.of, 1, view, view, R.commit, l, R.votes, view, R.nonce⟩) ∧ LgF W (w.heap.size + 1 + 1 + 1) a4 l ∧ W.heap[w.heap.size + 1]? = some (.cells (Lg.cs al l) 40) ∧ W.heap[w.heap.size + 1 + 1]? = some Rp.zobj ∧ Ext w W) ⟨HP4.out, HF4.out, HB4.out, HZ4.out, HX4.out⟩ ?_
  intro W5 ⟨e5, f5, b5, z5, x5⟩
  have E5 := Lib.hid e5
  have F5 := Lib.hid f5
  have B5 := Lib.hid b5
  have Z5 := Lib.hid z5
  have X5 := Lib.hid x5
  have hz5 := bx_lt z5
  clear e5 f5 b5 z5 x5 HP4 HF4 HB4 HZ4 HX4 b1 g1 z1
  (refine Rm.wp_region_mix' (R := relE W5.heap.size) (fun _ _ _ => True) (fun _ _ _ _ _ hq => hq) 8 (by first | exact Nat.le_refl _ | omega | (simp; omega)) (by kernel_rfl) (by kernel_rfl) ?_; simp only [List.take_succ_cons, List.take_zero, List.drop_succ_cons, List.drop_zero])
  ((iterate 2 (refine Rm.wpMix_plain rfl rfl ?_; go_big_quiet_step (fail); refine wpQuiet_nil ?_)))
  (refine Rm.wpMix_load1 (fun W9' h9 => show W9'.cell? _ = some (.int .i64 R.commit) from bx_cell (Ext.box h9 E5.out) 5) rfl rfl rfl Tryz.underlying3 rfl ?_; simp only [Act.put, List.setIfInBounds_toArray, List.set_cons_zero, List.set_cons_succ])
  (refine Rm.wpMix_det rfl rfl rfl (enters Tryz.func70 (by kernel_rfl) rfl) (fun W9' h9 => c_l1Max commit R.commit W9') rfl ?_; simp only [Act.put, List.setIfInBounds_toArray, List.set_cons_zero, List.set_cons_succ])
  (refine Rm.wpMix_loadAgg (fun W9' h9 => lg_whole B5.out h9) rfl rfl rfl Tryz.underlying40 (by kernel_rfl) ?_; simp only [Act.put, List.setIfInBounds_toArray, List.set_cons_zero, List.set_cons_succ])
  (refine Rm.wpMix_det rfl rfl rfl (enters Tryz.func69 (by kernel_rfl) rfl) (fun W9' h9 => c_sLogEnd al l HS.out.1 HS.out.2.1 HS.out.2.2 W9' (HL.out.keep (Ext.trans X5.out h9)) HO.out) rfl ?_; simp only [Act.put, List.setIfInBounds_toArray, List.set_cons_zero, List.set_cons_succ])
  (refine Rm.wpMix_det rfl rfl rfl (enters Tryz.func71 (by kernel_rfl) rfl) (fun W9' h9 => c_l1Min (max commit R.commit) l.fin W9') rfl ?_; simp only [Act.put, List.setIfInBounds_toArray, List.set_cons_zero, List.set_cons_succ])
  (iterate 1 (refine Rm.wpMix_plain rfl rfl ?_; go_big_quiet_step (fail); refine wpQuiet_nil ?_))
  refine Rm.wpMix_nil ?_
  rintro W6 hW
  have x6 : Ext W5 W6 := hW
  have E6 := x6.box E5.out
  have b6 := bx_cell E6
  have g6 := bx_frozen E6
  have z6 := bx_lt E6
  have P6 := box_put (box_put E6 5 (.int .i64 (min (max commit R.commit) l.fin))) 10 (.slice (some ⟨W6.heap.size, 0, none⟩) 0 0)
  simp only [List.setIfInBounds_toArray, List.set_cons_zero, List.set_cons_succ] at P6
  have c6 := chg_set (chg_set (Chg.refl W6 [w.heap.size]) (p := ⟨w.heap.size, 5, none⟩) (by simp) (.int .i64 (min (max commit R.commit) l.fin))) (p := ⟨w.heap.size, 10, none⟩) (by simp) (.slice (some ⟨W6.heap.size, 0, none⟩) 0 0)
  have HP6 := Lib.hid (hOld (o := .cells #[] 110) P6)
  have HF6 := Lib.hid (((F5.out.keep x6).chg c6 (fun k hk => by rw [List.mem_singleton] at hk; omega)).keep (ext_alloc _ (.cells #[] 110)))
  have HZ6 := Lib.hid (hOld (o := .cells #[] 110) (box_out' (x6.box Z5.out) c6 (by simp; omega)))
  have HX6 := Lib.hid (Ext.trans (chg_new (Ext.trans X5.out x6) c6 (Nat.le_refl _)) (ext_alloc _ (.cells #[] 110)))
  clear E6 P6 c6 x6 hW E5 F5 B5 Z5 X5
  go_wp2_with (with_reducible refine wl_stop 29 ?_)
  refine stop_go (F := fun W => W.heap[w.heap.size]? = some (Rp.obj a4 (some ⟨W6.heap.size, 0, none⟩) 0 0 (R.lead view l (max commit R.commit))) ∧ LgF W (w.heap.size + 1 + 1 + 1) a4 l ∧ W.heap[w.heap.size + 1 + 1]? = some Rp.zobj ∧ Ext w W) ⟨HP6.out, HF6.out, HZ6.out, HX6.out⟩ ?_
  intro W7 ⟨e7, f7, z7, x7⟩
  have E7 := Lib.hid e7
  have F7 := Lib.hid f7
  have Z7 := Lib.hid z7
  have X7 := Lib.hid x7
  clear e7 f7 z7 x7 HP6 HF6 HZ6 HX6 b6 g6 z6
  (go_wp2_with (with_reducible refine wl_stop 29 ?_); refine stop_load (E7.out) rfl Tryz.underlying43 (by kernel_rfl) ?_; simp only [Act.put, List.setIfInBounds_toArray, List.set_cons_zero, List.set_cons_succ])
  (go_wp2_with (with_reducible refine wl_stopS 43 ?_); refine stop_store ((w.heap.size + 1 + 1)) (Rp.cs a4 (some ⟨W6.heap.size, 0, none⟩) 0 0 (R.lead view l (max commit R.commit))) rfl rfl (Z7.out) (by kernel_rfl) rfl (by simp [Value.oneCell']) ?_)
  intro W9 e9 k9
  have HE9 := Lib.hid e9
  have HX9 := Lib.hid (chg_new X7.out k9 (by omega))
  have HF9 := Lib.hid ((F7.out.chg k9 (fun k hk => by rw [List.mem_singleton] at hk; omega)).less (B' := w.heap.size) (by omega))
  clear e9 k9
  go_wp2
  exact bodyPost_ret (results_box Tryz.results85 rfl Tryz.underlying43 (by kernel_rfl) HE9.out) rfl ⟨⟨a4, W6.heap.size, rfl, HF9.out, ⟨⟨Nat.le_refl _, by unfold maxLen; omega, fun h => absurd h (by simp)⟩, fun h => absurd h (by simp)⟩, fun p hp => (List.not_mem_nil hp).elim, rfl⟩, HX9.out⟩
end Go.Proofs.YtkenlhdiehaemaaGreat
