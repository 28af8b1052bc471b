/- The reference's small functions of a replica. -/
import Derived.Test.YtkenlhdiehaemaaGreatPk29
import Derived.Test.YtkenlhdiehaemaaGreatPk28
import Derived.Test.YtkenlhdiehaemaaGreatPk14
namespace Go.Proofs.YtkenlhdiehaemaaGreat
open Go.ChangeShapes Go.WideShapes Go.ChangeAt Go.RowKit Go.Sort
set_option linter.unusedVariables false
set_option linter.unusedSimpArgs false
theorem own_one {α : Type} {enc : α → List Value} {e : TypeId} {sz : Nat} {w : World} {p B : Nat} {cs : Array Value} {x : α} (h : w.heap[p]? = some (.cells cs e (0, 0))) (hB : B ≤ p) (hc : cs.toList = enc x) (hl : (enc x).length = sz) : Ow enc e sz w B (.slice (some ⟨p, 0, none⟩) 1 1) [x] := by
 have hs : cs.size = 1 * sz := by rw [← Array.length_toList, hc, hl, Nat.one_mul]
 refine ⟨by simpa using hl, .inr ⟨p, 1, cs, rfl, hB, h, Nat.le_refl _, by unfold maxLen; omega, hs, ?_⟩⟩
 rw [List.take_of_length_le (by rw [Array.length_toList, hs]; exact Nat.le_refl _), hc]
 simp
theorem c_l6Live (a : LAd) (A : Option Addr) (n c : Nat) (r : Rp) (w : World) : Calls Tryz.prog 65 #[Rp.val a A n c r] w fun e w' => e = .returned (.bool (liveB r)) ∧ Ext w w' := by
 have X0 := ext_alloc w (Rp.obj a A n c r)
 go_enter Tryz.func65, Tryz.ntmps65
 go_wp2
 all_goals
  go_ret
  exact ⟨ret_bool (by simp_all [liveB]), ext_alloc _ _⟩
theorem c_sPrimaryOf (view n : Int) (w : World) (h : inB view 0 1000000000 = true) (h2 : ofB n = true) : Calls Tryz.prog 68 #[.int .i64 view, .int .i64 n] w fun e w' => e = .returned (.int .i64 (view % n)) ∧ Ext w w' := by
 have hv := (inB_yes _ _ _).1 h
 have ho := ofB_b h2
 have ho' : n ≠ 0 := by omega
 have ho2 : (n == 0) = false := by simpa using ho'
 have HC := Lib.hid (fun W => h ▸ c_l1Whole view W)
 have HD := Lib.hid (fun W => h2 ▸ c_l6Of n W)
 clear h h2
 go_enter Tryz.func68, Tryz.ntmps68
 go_wp2_with fail
 refine (HC.out _).mono ?_
 rintro e w1 ⟨rfl, x1⟩
 go_wp2_with fail
 refine (HD.out _).mono ?_
 rintro e w2 ⟨rfl, x2⟩
 go_wp2
 go_ret
 exact ⟨ret_int (by first | rfl | (simp; done) | omega), Ext.trans x1 x2⟩
theorem c_l6Leads (a : LAd) (A : Option Addr) (n c : Nat) (r : Rp) (w : World) (h : inB r.view 0 1000000000 = true) (h2 : ofB r.of = true) : Calls Tryz.prog 67 #[Rp.val a A n c r] w fun e w' => e = .returned (.bool (leadsB r)) ∧ Ext w w' := by
 have X0 := ext_alloc w (Rp.obj a A n c r)
 have HB := Lib.hid (hNew (w := w) (o := Rp.obj a A n c r) rfl)
 have HH := Lib.hid h
 have HH2 := Lib.hid h2
 clear h h2
 go_enter Tryz.func67, Tryz.ntmps67
 go_wp2
 (refine Rm.wp_region_mix' (R := relE (w.alloc (Rp.obj a A n c r)).heap.size) (fun _ _ _ => True) (fun _ _ _ _ _ hq => hq) 8 (by first | exact Nat.le_refl _ | omega | (simp; omega)) (by kernel_rfl) (by kernel_rfl) ?_; simp only [List.take_succ_cons, List.take_zero, List.drop_succ_cons, List.drop_zero])
 ((iterate 1 (refine Rm.wpMix_plain rfl rfl ?_; go_big_quiet_step (fail); refine wpQuiet_nil ?_)); (refine Rm.wpMix_load1 (fun W9' h9 => show W9'.cell? _ = some (.int .i64 r.view) from bx_cell (Ext.box h9 HB.out) 3) rfl rfl rfl Tryz.underlying3 rfl ?_; simp only [Act.put, List.setIfInBounds_toArray, List.set_cons_zero, List.set_cons_succ]); (iterate 1 (refine Rm.wpMix_plain rfl rfl ?_; go_big_quiet_step (fail); refine wpQuiet_nil ?_)); (refine Rm.wpMix_load1 (fun W9' h9 => show W9'.cell? _ = some (.int .i64 r.of) from bx_cell (Ext.box h9 HB.out) 1) rfl rfl rfl Tryz.underlying3 rfl ?_; simp only [Act.put, List.setIfInBounds_toArray, List.set_cons_zero, List.set_cons_succ]))
 (refine Rm.wpMix_det rfl rfl rfl (enters Tryz.func68 (by kernel_rfl) rfl) (fun W9' h9 => c_sPrimaryOf r.view r.of W9' HH.out HH2.out) rfl ?_; simp only [Act.put, List.setIfInBounds_toArray, List.set_cons_zero, List.set_cons_succ])
 ((iterate 1 (refine Rm.wpMix_plain rfl rfl ?_; go_big_quiet_step (fail); refine wpQuiet_nil ?_)); (refine Rm.wpMix_load1 (fun W9' h9 => show W9'.cell? _ = some (.int .i64 r.me) from bx_cell (Ext.box h9 HB.out) 0) rfl rfl rfl Tryz.underlying3 rfl ?_; simp only [Act.put, List.setIfInBounds_toArray, List.set_cons_zero, List.set_cons_succ]); (iterate 1 (refine Rm.wpMix_plain rfl rfl ?_; go_big_quiet_step (fail); refine wpQuiet_nil ?_)))
 refine Rm.wpMix_nil ?_
 rintro W1 hW1
 have x1 : Ext (w.alloc (Rp.obj a A n c r)) W1 := hW1
 go_wp2
 go_ret
 exact ⟨ret_bool (by unfold leadsB; exact Bool.eq_iff_iff.2 (by simp only [beq_iff_eq]; exact eq_comm)), Ext.trans X0 x1⟩
structure OsK (w : World) (B : Nat) (A : Option Addr) (c : Nat) (os : List OtE) : Prop where
 row : Ow OtE.enc 100 18 w B (.slice A os.length c) os
 logs : OsF w B os
section
variable {w w' : World} {B : Nat} {A : Option Addr} {c : Nat} {os : List OtE}
theorem OsK.keep (h : OsK w B A c os) (hx : Ext w w') : OsK w' B A c os := ⟨h.row.kept hx, fun q hq => (h.logs q hq).keep hx⟩
theorem OsK.rd (h : OsK w B A c os) : OsR w A c os := ⟨(Ow.rdF OtE.len h.row).1, fun q hq => (h.logs q hq).rd⟩
theorem OsK.boxed {p : Nat} {cs : Array Value} {t : TypeId} (h : OsK w B A c os) (hb : w.heap[p]? = some (.cells cs t (0, 0))) (h1 : t ≠ 146) (h2 : t ≠ 149) (h3 : t ≠ 119) (h4 : t ≠ 100) (hg : Chg w w' [p]) : OsK w' B A c os :=
 ⟨h.row.chg hg (fun k hk hm => by rw [List.mem_singleton] at hm; subst hm; exact box_apart hb h.row h4 hk), fun q hq => (h.logs q hq).boxed hb h1 h2 h3 hg⟩
theorem OsK.nil {p : Nat} (h : w.heap[p]? = some (.cells #[] 100 (0, 0))) (hB : B ≤ p) : OsK w B (some ⟨p, 0, none⟩) 0 [] := ⟨own_empty h hB, fun q hq => (List.not_mem_nil hq).elim⟩
theorem OsK.one {p : Nat} {a : LAd} {o : Ot} (h : w.heap[p]? = some (.cells (OtE.cells a o) 100 (0, 0))) (hB : B ≤ p) (hl : LgF w B a o.msg.log) : OsK w B (some ⟨p, 0, none⟩) 1 [(a, o)] :=
 ⟨own_one h hB rfl (OtE.len _), fun q hq => by rw [List.mem_singleton] at hq; subst hq; exact hl⟩
theorem none_lgF (w : World) (B : Nat) : LgF w B LAd.none Lg.none := ⟨RdF.nil _ _ _ _ _, RdF.nil _ _ _ _ _, RdF.nil _ _ _ _ _⟩
theorem RoT.of {a : LAd} {A' : Option Addr} {c' : Nat} {qs : List VtE} {R : Rp} {B' : Nat} {O : List Ot} (h : RpF w B' a A' c' qs R) (k : OsK w B A c os) (e : List.map Prod.snd os = O) : RoT w R O (.tuple #[Rp.val a A' (List.length qs) c' R, .slice A (List.length os) c]) :=
 ⟨a, A', c', qs, A, c, os, rfl, h.rd, k.rd, e, fun w2 p cs hp hc => ⟨(h.boxed hp hc).rd, (k.boxed hp (by decide) (by decide) (by decide) (by decide) hc).rd⟩⟩
end
theorem c_l6Ask (a : LAd) (A : Option Addr) (n c : Nat) (r : Rp) (view op to : Int) (w : World) : Calls Tryz.prog 66 #[Rp.val a A n c r, .int .i64 view, .int .i64 op, .int .i64 to] w fun e w' => (∃ p, e = .returned (.slice (some ⟨p, 0, none⟩) 1 1) ∧ w.heap.size ≤ p ∧ OsK w' w.heap.size (some ⟨p, 0, none⟩) 1 [(LAd.none, ⟨to, askM2 r view op⟩)]) ∧ Ext w w' := by
 have X0 := ext_alloc w (Rp.obj a A n c r)
 go_enter Tryz.func66, Tryz.ntmps66
 go_wp2
 go_ret
 exact ⟨⟨_, rfl, by simp, OsK.one (hNew (by simp)) (by simp) (none_lgF _ _)⟩, ext_to X0 _⟩
theorem c_l1Max (a b : Int) (w : World) : Calls Tryz.prog 70 #[.int .i64 a, .int .i64 b] w fun e w' => e = .returned (.int .i64 (max a b)) ∧ Ext w w' := by
 go_enter Tryz.func70, Tryz.ntmps70
 go_wp2
 all_goals
  go_ret
  exact ⟨ret_int (by omega), ext_refl _⟩
theorem c_l1Min (a b : Int) (w : World) : Calls Tryz.prog 71 #[.int .i64 a, .int .i64 b] w fun e w' => e = .returned (.int .i64 (min a b)) ∧ Ext w w' := by
 go_enter Tryz.func71, Tryz.ntmps71
 go_wp2
 all_goals
  go_ret
  exact ⟨ret_int (by omega), ext_refl _⟩
theorem hearR2_no {r : Rp} {m : Mg} {kind : Int} {R2 : Rp} {O : List Ot} (h : (rpOk r && hearB r m kind) = false) : hearR2 r m kind R2 = sameR r ∧ hearO r m kind O = [] := by
 unfold hearR2 hearO sameR
 rw [h]
 cases q : rpOk r
 ·simp
 ·rw [q] at h
  simp at h
  simp [h]
theorem hearR2_yes {r : Rp} {m : Mg} {kind : Int} {R2 : Rp} {O : List Ot} (h : (rpOk r && hearB r m kind) = true) : hearR2 r m kind R2 = R2 ∧ hearO r m kind O = O ∧ sameR r = r := by
 unfold hearR2 hearO sameR
 rw [h]
 simp at h
 simp [h.1, h.2]
end Go.Proofs.YtkenlhdiehaemaaGreat
namespace Go.Proofs.YtkenlhdiehaemaaGreat
open Go.ChangeShapes Go.WideShapes Go.ChangeAt Go.RowKit Go.Sort
set_option linter.unusedVariables false
set_option linter.unusedSimpArgs false
theorem rp_whole {w w' : World} {p : Nat} {a : LAd} {A : Option Addr} {n c : Nat} {r : Rp} (hb : w.heap[p]? = some (Rp.obj a A n c r)) (hx : Ext w w') : ∀ j v, (Rp.cs a A n c r).toList[j]? = some v → w'.cell? ⟨p, 0 + j, none⟩ = some v := cells_mid (cs := Rp.cs a A n c r) (hx.box hb) [] [] rfl rfl
theorem rp_log {w w' : World} {p : Nat} {a : LAd} {A : Option Addr} {n c : Nat} {r : Rp} (hb : w.heap[p]? = some (Rp.obj a A n c r)) (hx : Ext w w') : ∀ j v, (Lg.cs a r.log).toList[j]? = some v → w'.cell? ⟨p, 6 + j, none⟩ = some v :=
 cells_mid (cs := Lg.cs a r.log) (hx.box hb) [.int .i64 r.me, .int .i64 r.of, .int .i64 r.mode, .int .i64 r.view, .int .i64 r.normal, .int .i64 r.commit] [.slice A n c, .int .i64 r.cell, .int .i64 r.nonce] rfl rfl
theorem rpOk_in {r : Rp} (h : rpOk r = true) : inB r.view 0 1000000000 = true ∧ ofB r.of = true := by
 unfold rpOk at h
 simp only [Bool.and_eq_true] at h
 obtain ⟨⟨⟨⟨⟨⟨⟨⟨⟨h1, h2⟩, h3⟩, h4⟩, h5⟩, h6⟩, h7⟩, h8⟩, h9⟩, h10⟩ := h
 exact ⟨h3, h1⟩
theorem RpF.beside {w w' : World} {B B' : Nat} {a : LAd} {A A' : Option Addr} {n c c' : Nat} {ps : List VtE} {r : Rp} {os : List OtE} (h : RpF w B a A c ps r) (k : Ow OtE.enc 100 18 w B' (.slice A' n c') os) (hg : Chg w w' (blk A')) : RpF w' B a A c ps r :=
 ⟨h.l.besideO k hg, h.v.chg VtE.len hg (fun hl x hx => (h.v.2 hl).apart k (by decide) x hx), fun q hq => (h.vl q hq).besideO k hg, h.e⟩
theorem OsK.less {w : World} {B B' : Nat} {A : Option Addr} {c : Nat} {os : List OtE} (h : OsK w B A c os) (hB : B' ≤ B) : OsK w B' A c os := ⟨h.row.less hB, fun q hq => (h.logs q hq).less hB⟩
theorem OsK.chg1 {w w' : World} {B g : Nat} {A : Option Addr} {c : Nat} {os : List OtE} (h : OsK w B A c os) (hg : Chg w w' [g]) (hlt : g < B) : OsK w' B A c os :=
 ⟨h.row.chg hg (fun k hk hm => by rw [List.mem_singleton] at hm; have := (h.row.inB k hk).1; omega), fun q hq => (h.logs q hq).chg1 hg hlt⟩
def AskV (B : Nat) (o : Ot) (v : Value) (W : World) : Prop := ∃ p, v = .slice (some ⟨p, 0, none⟩) 1 1 ∧ OsK W B (some ⟨p, 0, none⟩) 1 [(LAd.none, o)]
theorem AskV.mono (B : Nat) (o : Ot) (p : Nat) (obj : Obj) (hp : p < B) : Rm.Mono (relS p obj B hp) (AskV B o) := fun v w w' ⟨g, h, hk⟩ hx => ⟨g, h, hk.chg1 hx.1 hp⟩
theorem AskV.inv {B : Nat} {o : Ot} {p : Nat} {W : World} (h : AskV B o (.slice (some ⟨p, 0, none⟩) 1 1) W) : OsK W B (some ⟨p, 0, none⟩) 1 [(LAd.none, o)] := by
 obtain ⟨g, he, hk⟩ := h
 simp only [Value.slice.injEq, Option.some.injEq, Addr.mk.injEq, and_true] at he
 subst he
 exact hk
theorem ask_v {p0 : Nat} {obj : Obj} {B : Nat} {hp : p0 < B} {W w' : World} {o : Ot} {e : Ending} (h : (∃ p, e = .returned (.slice (some ⟨p, 0, none⟩) 1 1) ∧ W.heap.size ≤ p ∧ OsK w' W.heap.size (some ⟨p, 0, none⟩) 1 [(LAd.none, o)]) ∧ Ext W w') (hB : B ≤ W.heap.size) : ∃ v, e = .returned v ∧ AskV B o v w' ∧ (relS p0 obj B hp).rel W w' := by
 obtain ⟨⟨p, he, hl, hk⟩, hx⟩ := h
 exact ⟨_, he, ⟨p, rfl, hk.less hB⟩, Rm.Rel.ext _ _ _ hx⟩
end Go.Proofs.YtkenlhdiehaemaaGreat
namespace Go.Proofs.YtkenlhdiehaemaaGreat
open Go.ChangeShapes Go.WideShapes Go.ChangeAt Go.RowKit Go.Sort
set_option linter.unusedVariables false
set_option linter.unusedSimpArgs false
set_option maxRecDepth 100000 in
set_option maxHeartbeats 4000000 in
theorem c_searchCel (g : Nat) (lb : Array Value) (A : Option Addr) (c : Nat) (l : List Cel) (t : Int) (n0 : Nat) (w : World) (eg : ∀ args w, (callFunc g args).run Tryz.prog w = .ok (.enter g args) w) (ha : Rd Cel.enc 2 w A c l) (hn : l.length ≤ 1048576) (h0 : n0 ≤ l.length)
  (hlo : ∀ i (h : i < l.length), i < n0 → l[i].key - t < 0) (hhi : ∀ i (h : i < l.length), n0 ≤ i → ¬ l[i].key - t < 0)
  (hp : ∀ W, Ext w W → ∀ k (hk : k < l.length), Calls Tryz.prog g (#[.agg #[.int .i64 l[k].key, .int .i64 l[k].value], .int .i64 t] ++ lb) W fun e w' => e = .returned (.int .i64 (l[k].key - t)) ∧ Ext W w') :
  Calls Tryz.prog 227 #[.slice A l.length c, .int .i64 t, .func (.func g) #[] lb] w fun e w' => e = .returned (.tuple #[.int .i64 n0, .bool (match l[n0]? with | some x => x.key - t == 0 | none => false)]) ∧ Ext w w' := by
 obtain ⟨V, hV⟩ : ∃ V, (match l[n0]? with | some x => x.key - t == 0 | none => false) = V := ⟨_, rfl⟩
 rw [hV]
 have HV := Lib.hid hV
 clear hV
 have HP := Lib.hid hp
 have HLo := Lib.hid hlo
 have HHi := Lib.hid hhi
 clear hp hlo hhi
 go_enter Tryz.func227, Tryz.ntmps227
 go_wp2
 go_loopw [9, 10] (fun i j wr => ∃ lo hi : Nat, lo ≤ n0 ∧ n0 ≤ hi ∧ hi ≤ l.length ∧ i = .int .i64 lo ∧ j = .int .i64 hi ∧ Ext w wr) (fun i j _ => (intOf j).toNat - (intOf i).toNat)
 case atStart => exact ⟨0, l.length, Nat.zero_le _, h0, Nat.le_refl _, rfl, rfl, ext_refl _⟩
 case round =>
  obtain ⟨lo, hi, h1, h2, h3, rfl, rfl, X⟩ := hrel
  by_cases hlt : lo < hi
  ·obtain ⟨h, hh, hl, hu⟩ : ∃ h : Nat, ((lo : Int) + (hi : Int)) / 2 = (h : Int) ∧ lo ≤ h ∧ h < hi := ⟨(lo + hi) / 2, by omega, by omega, by omega⟩
   have hhl : h < l.length := by omega
   have hcall := HP.out wr X h hhl
   obtain ⟨ab, ao, rfl, hab, a0, a1⟩ := (ha.keep X).atCel hhl
   by_cases hcmp : l[h].key - t < 0
   ·have hge : h < n0 := by
     by_cases hc : h < n0
     ·exact hc
     ·have := HHi.out h hhl (by omega); omega
    have hcmp' : decide (l[h].key - t < 0) = true := by simpa using hcmp
    have HQ := Lib.hid hcall
    clear hcall HP HLo HHi hcmp
    go_wp2_with fail
    refine HQ.out.mono ?_
    rintro e w1 ⟨rfl, hx⟩
    clear HQ
    go_wp2
    go_roundw
    case rel => exact ⟨h + 1, hi, by omega, h2, h3, by go_num, rfl, Ext.trans X hx⟩
    case measure => simp [intOf] <;> omega
   ·have hge : n0 ≤ h := by
     by_cases hc : n0 ≤ h
     ·exact hc
     ·have := HLo.out h hhl (by omega); omega
    have hcmp' : decide (l[h].key - t < 0) = false := by simpa using hcmp
    have HQ := Lib.hid hcall
    clear hcall HP HLo HHi hcmp
    go_wp2_with fail
    refine HQ.out.mono ?_
    rintro e w1 ⟨rfl, hx⟩
    clear HQ
    go_wp2
    go_roundw
    case rel => exact ⟨lo, h, h1, hge, by omega, rfl, rfl, Ext.trans X hx⟩
    case measure => simp [intOf] <;> omega
  ·obtain rfl : lo = n0 := by omega
   obtain rfl : hi = lo := by omega
   by_cases hlt2 : hi < l.length
   ·have hv := Lib.hid (show (l[hi].key - t == 0) = V by rw [← HV.out, List.getElem?_eq_getElem hlt2])
    have hcall := HP.out wr X hi hlt2
    obtain ⟨ab, ao, rfl, hab, a0, a1⟩ := (ha.keep X).atCel hlt2
    have HQ := Lib.hid hcall
    clear hcall HP HLo HHi
    go_wp2_with fail
    refine HQ.out.mono ?_
    rintro e w1 ⟨rfl, hx⟩
    clear HQ
    go_wp2
    refine bodyPost_ret (results_tmp2 Tryz.results227 _ _ _) rfl ⟨?_, Ext.trans X hx⟩
    rw [← hv.out]
    rfl
   ·have hv := Lib.hid (show false = V by rw [← HV.out, List.getElem?_eq_none (by omega)])
    clear HP HLo HHi
    go_wp2
    refine bodyPost_ret (results_tmp2 Tryz.results227 _ _ _) rfl ⟨?_, X⟩
    rw [← hv.out]
    rfl
set_option maxRecDepth 100000 in
set_option maxHeartbeats 4000000 in
theorem c_searchSea (g : Nat) (lb : Array Value) (A : Option Addr) (c : Nat) (l : List Sea) (t : Int) (n0 : Nat) (w : World) (eg : ∀ args w, (callFunc g args).run Tryz.prog w = .ok (.enter g args) w) (ha : Rd Sea.enc 3 w A c l) (hn : l.length ≤ 1048576) (h0 : n0 ≤ l.length)
  (hlo : ∀ i (h : i < l.length), i < n0 → l[i].client - t < 0) (hhi : ∀ i (h : i < l.length), n0 ≤ i → ¬ l[i].client - t < 0)
  (hp : ∀ W, Ext w W → ∀ k (hk : k < l.length), Calls Tryz.prog g (#[.agg #[.int .i64 l[k].client, .int .i64 l[k].req, .int .i64 l[k].answer], .int .i64 t] ++ lb) W fun e w' => e = .returned (.int .i64 (l[k].client - t)) ∧ Ext W w') :
  Calls Tryz.prog 214 #[.slice A l.length c, .int .i64 t, .func (.func g) #[] lb] w fun e w' => e = .returned (.tuple #[.int .i64 n0, .bool (match l[n0]? with | some x => x.client - t == 0 | none => false)]) ∧ Ext w w' := by
 obtain ⟨V, hV⟩ : ∃ V, (match l[n0]? with | some x => x.client - t == 0 | none => false) = V := ⟨_, rfl⟩
 rw [hV]
 have HV := Lib.hid hV
 clear hV
 have HP := Lib.hid hp
 have HLo := Lib.hid hlo
 have HHi := Lib.hid hhi
 clear hp hlo hhi
 go_enter Tryz.func214, Tryz.ntmps214
 go_wp2
 go_loopw [9, 10] (fun i j wr => ∃ lo hi : Nat, lo ≤ n0 ∧ n0 ≤ hi ∧ hi ≤ l.length ∧ i = .int .i64 lo ∧ j = .int .i64 hi ∧ Ext w wr) (fun i j _ => (intOf j).toNat - (intOf i).toNat)
 case atStart => exact ⟨0, l.length, Nat.zero_le _, h0, Nat.le_refl _, rfl, rfl, ext_refl _⟩
 case round =>
  obtain ⟨lo, hi, h1, h2, h3, rfl, rfl, X⟩ := hrel
  by_cases hlt : lo < hi
  ·obtain ⟨h, hh, hl, hu⟩ : ∃ h : Nat, ((lo : Int) + (hi : Int)) / 2 = (h : Int) ∧ lo ≤ h ∧ h < hi := ⟨(lo + hi) / 2, by omega, by omega, by omega⟩
   have hhl : h < l.length := by omega
   have hcall := HP.out wr X h hhl
   obtain ⟨ab, ao, rfl, hab, a0, a1, a2⟩ := (ha.keep X).atSea hhl
   by_cases hcmp : l[h].client - t < 0
   ·have hge : h < n0 := by
     by_cases hc : h < n0
     ·exact hc
     ·have := HHi.out h hhl (by omega); omega
    have hcmp' : decide (l[h].client - t < 0) = true := by simpa using hcmp
    have HQ := Lib.hid hcall
    clear hcall HP HLo HHi hcmp
    go_wp2_with fail
    refine HQ.out.mono ?_
    rintro e w1 ⟨rfl, hx⟩
    clear HQ
    go_wp2
    go_roundw
    case rel => exact ⟨h + 1, hi, by omega, h2, h3, by go_num, rfl, Ext.trans X hx⟩
    case measure => simp [intOf] <;> omega
   ·have hge : n0 ≤ h := by
     by_cases hc : n0 ≤ h
     ·exact hc
     ·have := HLo.out h hhl (by omega); omega
    have hcmp' : decide (l[h].client - t < 0) = false := by simpa using hcmp
    have HQ := Lib.hid hcall
    clear hcall HP HLo HHi hcmp
    go_wp2_with fail
    refine HQ.out.mono ?_
    rintro e w1 ⟨rfl, hx⟩
    clear HQ
    go_wp2
    go_roundw
    case rel => exact ⟨lo, h, h1, hge, by omega, rfl, rfl, Ext.trans X hx⟩
    case measure => simp [intOf] <;> omega
  ·obtain rfl : lo = n0 := by omega
   obtain rfl : hi = lo := by omega
   by_cases hlt2 : hi < l.length
   ·have hv := Lib.hid (show (l[hi].client - t == 0) = V by rw [← HV.out, List.getElem?_eq_getElem hlt2])
    have hcall := HP.out wr X hi hlt2
    obtain ⟨ab, ao, rfl, hab, a0, a1, a2⟩ := (ha.keep X).atSea hlt2
    have HQ := Lib.hid hcall
    clear hcall HP HLo HHi
    go_wp2_with fail
    refine HQ.out.mono ?_
    rintro e w1 ⟨rfl, hx⟩
    clear HQ
    go_wp2
    refine bodyPost_ret (results_tmp2 Tryz.results214 _ _ _) rfl ⟨?_, Ext.trans X hx⟩
    rw [← hv.out]
    rfl
   ·have hv := Lib.hid (show false = V by rw [← HV.out, List.getElem?_eq_none (by omega)])
    clear HP HLo HHi
    go_wp2
    refine bodyPost_ret (results_tmp2 Tryz.results214 _ _ _) rfl ⟨?_, X⟩
    rw [← hv.out]
    rfl
end Go.Proofs.YtkenlhdiehaemaaGreat
