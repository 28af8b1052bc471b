/- The keeper, with all that it holds its own. -/
import Derived.Test.YtkenlhdiehaemaaGreatPk35
namespace Go.Proofs.YtkenlhdiehaemaaGreat
open Go.ChangeShapes Go.WideShapes Go.ChangeAt Go.RowKit Go.Sort
set_option linter.unusedVariables false
set_option linter.unusedSimpArgs false
theorem RpO.chgN {w w' : World} {B T : Nat} {a : LAd} {A : Option Addr} {c : Nat} {ps : List VtE} {r : Rp} {S : List Nat} (h : RpO w B T a A c ps r) (hg : Chg w w' S) (hne : ∀ k ∈ a.fp ++ vsF A ps, k ∉ S) : RpO w' B T a A c ps r :=
 ⟨h.l.chg hg (fun k hk => hne k (List.mem_append_left _ hk)), h.v.chg hg (fun k hk => hne k (List.mem_append_right _ hk)), h.e, h.d⟩
theorem RpO.apartO {w : World} {B B' T : Nat} {a : LAd} {A : Option Addr} {c : Nat} {ps : List VtE} {r : Rp} {Ao : Option Addr} {n co : Nat} {os : List OtE} (h : RpO w B T a A c ps r) (k : Ow OtE.enc 100 18 w B' (.slice Ao n co) os) : ∀ x ∈ a.fp ++ vsF A ps, x ∉ blk Ao := fun x hx => by
 rcases List.mem_append.1 hx with hx | hx
 ·exact lg_apartO h.l k x hx
 ·rcases List.mem_append.1 hx with hx | hx
  ·exact h.v.r.apart k (by decide) x hx
  ·obtain ⟨q, hq, hx⟩ := List.mem_flatMap.1 hx
   exact lg_apartO (h.v.l q hq) k x hx
theorem RpO.apartB {w : World} {B T : Nat} {a : LAd} {A : Option Addr} {c : Nat} {ps : List VtE} {r : Rp} {p : Nat} {cs : Array Value} {t : TypeId} (h : RpO w B T a A c ps r) (hb : w.heap[p]? = some (.cells cs t (0, 0))) (h1 : t ≠ 146) (h2 : t ≠ 149) (h3 : t ≠ 119) (h4 : t ≠ 110) : p ∉ a.fp ++ vsF A ps := fun hx => by
 rcases List.mem_append.1 hx with hx | hx
 ·exact lg_box_apart hb h.l h1 h2 h3 hx
 ·rcases List.mem_append.1 hx with hx | hx
  ·exact box_apart hb h.v.r h4 hx
  ·obtain ⟨q, hq, hx⟩ := List.mem_flatMap.1 hx
   exact lg_box_apart hb (h.v.l q hq) h1 h2 h3 hx
structure KZ (W0 w : World) (p : Nat) (a : LAd) (A : Option Addr) (c : Nat) (qs : List VtE) (R : Rp) (Ao : Option Addr) (co : Nat) (os : List OtE) : Prop where
 box : w.heap[p]? = some (Kp.obj a A qs.length c R (.slice Ao os.length co))
 x : Ext W0 w
 low : W0.heap.size ≤ p
 rp : RpO w W0.heap.size w.heap.size a A c qs R
 row : Ow OtE.enc 100 18 w W0.heap.size (.slice Ao os.length co) os
 logs : OsQ w W0.heap.size os
 d : ∀ x ∈ a.fp ++ vsF A qs, ∀ q ∈ os, x ∉ q.1.fp
def KO (W0 w : World) (p : Nat) (R : Rp) (O : List Ot) : Prop := ∃ a A c qs Ao co os, KZ W0 w p a A c qs R Ao co os ∧ os.map Prod.snd = O
def RoY (w : World) (B : Nat) (R : Rp) (O : List Ot) (V : Value) : Prop := ∃ a A c qs Ao co os, V = .tuple #[Rp.val a A (List.length qs) c R, .slice Ao (List.length os) co] ∧ RpO w B w.heap.size a A c qs R ∧ OsO w B w.heap.size Ao co os ∧ List.map Prod.snd os = O ∧ ∀ x ∈ a.fp ++ vsF A qs, x ∉ OtE.fps Ao os
section
variable {W0 w w' : World} {p : Nat} {a : LAd} {A : Option Addr} {c : Nat} {qs : List VtE} {R R' : Rp} {Ao : Option Addr} {co : Nat} {os : List OtE}
theorem KZ.keep (h : KZ W0 w p a A c qs R Ao co os) (hx : Ext w w') : KZ W0 w' p a A c qs R Ao co os :=
 ⟨hx.box h.box, Ext.trans h.x hx, h.low, (h.rp.kept hx).wide (Nat.le_refl _) hx.size, h.row.kept hx, h.logs.kept hx, h.d⟩
theorem KO.keep {O : List Ot} (h : KO W0 w p R O) (hx : Ext w w') : KO W0 w' p R O := by
 obtain ⟨a, A, c, qs, Ao, co, os, h, e⟩ := h
 exact ⟨a, A, c, qs, Ao, co, os, h.keep hx, e⟩
theorem KZ.pB (h : KZ W0 w p a A c qs R Ao co os) : p ∉ a.fp ++ vsF A qs := h.rp.apartB h.box (by decide) (by decide) (by decide) (by decide)
theorem KZ.pO (h : KZ W0 w p a A c qs R Ao co os) : p ∉ blk Ao := box_apart h.box h.row (by decide)
theorem KZ.pL (h : KZ W0 w p a A c qs R Ao co os) : ∀ q ∈ os, p ∉ q.1.fp := fun q hq => lg_box_apart h.box (h.logs.l q hq) (by decide) (by decide) (by decide)
theorem KZ.put (h : KZ W0 w p a A c qs R Ao co os) (hg : Chg w w' [p]) (hb : w'.heap[p]? = some (Kp.obj a A qs.length c R' (.slice Ao os.length co))) (hl : R'.log = R.log) (hv : R'.votes = R.votes) : KZ W0 w' p a A c qs R' Ao co os := by
 have hr := (h.rp.chgN hg (fun k hk hm => by rw [Mi] at hm; subst hm; exact h.pB hk)).wide (Nat.le_refl _) hg.size
 refine ⟨hb, chg_new h.x hg h.low, h.low, ⟨by rw [hl]; exact hr.l, hr.v, by rw [hv]; exact hr.e, hr.d⟩, h.row.chg hg (fun k hk hm => by rw [Mi] at hm; subst hm; exact h.pO hk), h.logs.chg hg (fun q hq k hk hm => by rw [Mi] at hm; subst hm; exact h.pL q hq hk), h.d⟩
theorem KZ.sent {A' : Option Addr} {c' : Nat} {a' : LAd} {v : Ot} {w1 : World} (h : KZ W0 w p a A c qs R Ao co os) (hx : Ext w w1) (ho : LgO w1 w.heap.size w1.heap.size a' v.msg.log) (hg : Chg w1 w' (p :: blk Ao)) (hb : w'.heap[p]? = some (Kp.obj a A qs.length c R (.slice A' (os ++ [(a', v)]).length c')))
  (hrow : Ow OtE.enc 100 18 w' W0.heap.size (.slice A' (os ++ [(a', v)]).length c') (os ++ [(a', v)])) : KZ W0 w' p a A c qs R A' c' (os ++ [(a', v)]) := by
 have h1 := h.keep hx
 have hlo := h1.logs.l
 have hst : OsQ w1 W0.heap.size (os ++ [(a', v)]) := h.logs.step h.x.size ho hx
 have hne : ∀ q ∈ os ++ [(a', v)], ∀ k ∈ q.1.fp, k ∉ p :: blk Ao := fun q hq k hk hm => by
  rcases List.mem_cons.1 hm with e | hm
  ·subst e
   exact lg_box_apart h1.box (hst.l q hq) (by decide) (by decide) (by decide) hk
  ·exact lg_apartO (hst.l q hq) h1.row k hk hm
 refine ⟨hb, ext_chg h1.x hg (fun g hg => ?_), h.low, (h1.rp.chgN hg (fun k hk hm => ?_)).wide (Nat.le_refl _) hg.size, hrow, hst.chg hg hne, fun x hx q hq hm => ?_⟩
 ·rcases List.mem_cons.1 hg with e | hg
  ·rw [e]; exact h.low
  ·exact (h1.row.inB g hg).1
 ·rcases List.mem_cons.1 hm with e | hm
  ·rw [e] at hk; exact h1.pB hk
  ·exact h1.rp.apartO h1.row k hk hm
 ·rcases List.mem_append.1 hq with hq | hq
  ·exact h.d x hx q hq hm
  ·rw [Mi] at hq
   subst hq
   have h2 := (h.rp.fpIn x hx).2
   have h3 := ho.low x hm
   omega
theorem KZ.oso (h : KZ W0 w p a A c qs R Ao co os) : OsO w W0.heap.size w.heap.size Ao co os := h.logs.own h.row
theorem KZ.dd (h : KZ W0 w p a A c qs R Ao co os) : ∀ x ∈ a.fp ++ vsF A qs, x ∉ OtE.fps Ao os := fun x hx hm => by
 rcases List.mem_append.1 hm with hm | hm
 ·exact h.rp.apartO h.row x hx hm
 ·obtain ⟨q, hq, hm⟩ := List.mem_flatMap.1 hm
  exact h.d x hx q hq hm
end
theorem LgO.lgF {w : World} {B T : Nat} {a : LAd} {l : Lg} (h : LgO w B T a l) : LgF w B a l := ⟨Ow.rdF Cel.len h.c, Ow.rdF Sea.len h.s, Ow.rdF Ent.len h.e⟩
set_option maxRecDepth 100000 in
set_option maxHeartbeats 4000000 in
theorem c_sendZ (W0 : World) (p : Nat) (a : LAd) (A : Option Addr) (c : Nat) (ps : List VtE) (r : Rp) (os : List OtE) (Ao : Option Addr) (co : Nat) (to : Int) (am : LAd) (m : Mg) (w : World) (hk : KZ W0 w p a A c ps r Ao co os) (hm : LgR w am m.log) (hs : m.log.small) (hos : os.length ≤ 100000) :
  Calls Tryz.prog 105 #[.pointer (some ⟨p, 0, none⟩), .int .i64 to, Mg.val am m] w fun e w' => e = .returned (.tuple #[]) ∧ ∃ A' c' a', KZ W0 w' p a A c ps r A' c' (os ++ [(a', ⟨to, m⟩)]) ∧ Chg w w' (p :: blk Ao) := by
 obtain ⟨i0, hi, hz0, hz1, hz2⟩ := info_parts Tryz.infoOt
 have X0 := ext_alloc w (Mg.obj am m)
 have HC := Hd (c_copyLog am m.log hs _ (hm.keep X0))
 have HK := Hd hk
 have hsz := hk.x.size
 clear hm hs hk
 go_enter Tryz.func105, Tryz.ntmps105
 go_wp2_with fail
 refine HC.out.mono ?_
 rintro e w1 ⟨a', rfl, o1, x1⟩
 have B1 := x1.box (hNew (w := w) (o := Mg.obj am m) rfl)
 have b1 := bx_cell B1
 have f1 := bx_frozen B1
 have z1 := bx_lt B1
 have P1 := box_put (box_put (box_put (box_put B1 13 (.int .i64 m.log.base)) 14 (.slice a'.cA m.log.cells.length a'.cc)) 15 (.slice a'.sA m.log.seats.length a'.sc)) 16 (.slice a'.eA m.log.ents.length a'.ec)
 simp only [Sa, Sz, Ss] at P1
 have hcs := chg_set (chg_set (chg_set (chg_set (Chg.refl w1 [w.heap.size]) (p := ⟨w.heap.size, 13, none⟩) (by simp) (.int .i64 m.log.base)) (p := ⟨w.heap.size, 14, none⟩) (by simp) (.slice a'.cA m.log.cells.length a'.cc)) (p := ⟨w.heap.size, 15, none⟩) (by simp) (.slice a'.sA m.log.seats.length a'.sc)) (p := ⟨w.heap.size, 16, none⟩) (by simp) (.slice a'.eA m.log.ents.length a'.ec)
 simp only [sz_alloc] at o1
 have HO := Hd (o1.chg1 hcs (by omega))
 have HP1 := Hd P1
 have HX1 := Hd (chg_new (Ext.trans X0 x1) hcs (Nat.le_refl _))
 have HS := Hd hcs.size
 clear B1 P1 hcs o1 x1 X0 HC
 go_wp2
 refine code_go (F := fun W => W.heap[w.heap.size]? = some (Mg.obj a' m) ∧ LgO W (w.heap.size + 1) W.heap.size a' m.log ∧ Ext w W) ⟨HP1.out, HO.out.wide (Nat.le_refl _) (by exact HS.out), HX1.out⟩ ?_
 intro W2 ⟨E2, O2, X2⟩
 clear b1 f1 z1 HP1 HO HX1 HS
 have D2 := Hd (X2.box HK.out.box)
 have M2 := Hd (cells_mid (cs := Mg.cs a' m) E2 [] [] rfl rfl)
 have HO2 := Hd O2
 have HX2 := Hd X2
 have hlt2 := bx_lt E2
 clear E2 O2
 (refine Rm.wp_region_mix' (R := relE W2.heap.size) (fun _ _ _ => True) (fun _ _ _ _ _ hq => hq) 9 (by first | exact Nat.le_refl _ | omega | (simp; omega)) (by kernel_rfl) (by kernel_rfl) ?_; simp only [Tc, Tz, Dc, Dz])
 (iterate 2 (refine Rm.wpMix_plain rfl rfl ?_; go_big_quiet_step (fail); refine wpQuiet_nil ?_))
 (refine Rm.wpMix_nilp rfl rfl rfl ?_; simp only [Act.put, Sa, Sz, Ss])
 (iterate 1 (refine Rm.wpMix_plain rfl rfl ?_; go_big_quiet_step (fail); refine wpQuiet_nil ?_))
 (refine Rm.wpMix_load1 (fun W hW => bx_cell (Ext.box hW D2.out) 13) rfl rfl rfl Tryz.underlying55 rfl ?_; simp only [Act.put, Sa, Sz, Ss])
 (iterate 1 (refine Rm.wpMix_plain rfl rfl ?_; go_big_quiet_step (fail); refine wpQuiet_nil ?_))
 (refine Rm.wpMix_loadAgg (fun W hW j v hj => (Below.cell hW (p := ⟨w.heap.size, 0 + j, none⟩) hlt2).trans (M2.out j v hj)) rfl rfl rfl Tryz.underlying60 (by kernel_rfl) ?_; simp only [Act.put, Sa, Sz, Ss])
 (iterate 1 (refine Rm.wpMix_plain rfl rfl ?_; go_big_quiet_step (fail); refine wpQuiet_nil ?_))
 (refine Rm.wpMix_alloc (.cells (OtE.cells a' ⟨to, m⟩) 100) rfl (fun W => by kernel_rfl) ?_; intro p1 hp1 hps1 hpi1; simp only [layVal, Act.put, Sa, Sz, Ss])
 refine Rm.wpMix_nil ?_
 rintro W3 ⟨X3, E3⟩
 have X3' : Ext W2 W3 := X3
 have hB3 : W0.heap.size ≤ W3.heap.size := by have := X2.size; have := X3'.size; omega
 have HXw := Hd (Ext.trans X2 X3')
 have HK3 := Hd (HK.out.keep HXw.out)
 have HO3 := Hd ((HO2.out.kept X3').wide (Nat.le_succ _) X3'.size)
 have HE3 := Hd E3
 clear X3 X3' E3 hp1 hps1 hpi1 M2 HO2 HX2 D2 hlt2 X2
 go_wp2_with (at_builtin; refine wl_app (enc := OtE.enc) rfl _ _ 55 rfl W0.heap.size 100 i0 Ot.zero 18 192 Tryz.underlying55 hi hz0 hz1 hz2 rfl (by decide) OtE.len OtE.one (.slice Ao os.length co) os rfl HK3.out.row (some ⟨p1, 0, none⟩) 1 [(a', (⟨to, m⟩ : Ot))] 1 rfl rfl (Rd.one HE3.out rfl) ?c1 ?c2 ?c3 ?_)
 case c1 => unfold maxLen; simp; omega
 case c2 => simp; omega
 case c3 => exact hB3
 intro v' w4 ho4 hg4
 obtain ⟨A', c', rfl⟩ := ho4.form
 have c4 := chg_grown hg4
 have D4 := box_out' HK3.out.box c4 HK3.out.pO
 have d4 := bx_cell D4
 have g4 := bx_frozen D4
 have z4 := bx_lt D4
 have P4 := box_put D4 13 (.slice A' (os.length + 1) c')
 simp only [Sa, Sz, Ss] at P4
 have hl1 : (os ++ [(a', (⟨to, m⟩ : Ot))]).length = os.length + 1 := by simp
 rw [hl1] at ho4
 have c5 := chg_set (Chg.refl w4 [p]) (p := ⟨p, 13, none⟩) (by simp) (.slice A' (os.length + 1) c')
 have hpb := box_apart D4 ho4 (by decide)
 have c45 := (c4.more (fun k hk => List.mem_cons_of_mem p hk)).trans (c5.more (fun k hk => by rw [Mi] at hk; subst hk; exact List.mem_cons_self))
 have HF := Hd (HK.out.sent HXw.out HO3.out c45 (by rw [hl1]; exact P4) (by rw [hl1]; exact ho4.chg c5 (fun k hk hm => by rw [Mi] at hm; subst hm; exact hpb hk)))
 have HCg := Hd ((chg_ext (p :: blk Ao) HXw.out).trans c45)
 clear c4 c5 c45 P4 ho4 hg4 D4 hpb hl1
 go_wp2
 exact bodyPost_end (v := .tuple #[]) (by simp [results, Tryz.results105, go_sem]) rfl ⟨rfl, A', c', a', HF.out, HCg.out⟩
set_option maxRecDepth 100000 in
set_option maxHeartbeats 4000000 in
theorem c_sendAllZ (W0 : World) (p : Nat) (a : LAd) (A : Option Addr) (c : Nat) (ps : List VtE) (r : Rp) (os : List OtE) (Ao : Option Addr) (co : Nat) (am : LAd) (m : Mg) (w : World) (B N : Nat) (hk : KZ W0 w p a A c ps r Ao co os) (hN : r.of = (N : Int)) (hN10 : N ≤ 10) (hm : LgF w B am m.log) (hs : m.log.small) (hos : os.length ≤ 50000) :
  Calls Tryz.prog 116 #[.pointer (some ⟨p, 0, none⟩), Mg.val am m] w fun e w' => e = .returned (.tuple #[]) ∧ ∃ A' c' os', KZ W0 w' p a A c ps r A' c' (os ++ os') ∧ List.map Prod.snd os' = allTo r.me m N := by
 have X0 := ext_alloc w (Mg.obj am m)
 have D0 := hOld (o := Mg.obj am m) hk.box
 have d0 := bx_cell D0
 have z0 := bx_lt D0
 have hk0 : KZ W0 (w.alloc (Mg.obj am m)) p a A c ps r Ao co (os ++ []) := by simpa using hk.keep X0
 have HK0 := Hd hk0
 have HM0 := Hd (hm.keep X0)
 have HN := Hd hN
 clear hk hm hk0 X0 D0
 go_enter Tryz.func116, Tryz.ntmps116
 go_wp2
 go_loopw [10] (fun i wr => ∃ (k : Nat) (os' : List OtE) (A' : Option Addr) (c' : Nat), k ≤ N ∧ i = .int .i64 k ∧ List.map Prod.snd os' = allTo r.me m k ∧ KZ W0 wr p a A c ps r A' c' (os ++ os') ∧ wr.heap[w.heap.size]? = some (Mg.obj am m) ∧ LgF wr B am m.log) (fun i _ => N - (intOf i).toNat)
 case atStart => exact ⟨0, [], Ao, co, Nat.zero_le _, rfl, rfl, HK0.out, hNew rfl, HM0.out⟩
 case round =>
  obtain ⟨k, os', A', c', hkN, rfl, hos', hk1, hE, hF⟩ := hrel
  have HOS := Hd hos'
  have HK := Hd hk1
  have HE := Hd hE
  have HF := Hd hF
  have hl' : os'.length ≤ k := by
   have h1 := congrArg List.length hos'
   rw [List.length_map] at h1
   have := allTo_len r.me m k
   omega
  clear d0 z0
  have d1 := bx_cell hk1.box
  have z1 := bx_lt hk1.box
  have hpw : p ≠ w.heap.size := fun e => by
   have h1 := hk1.box
   rw [e, hE] at h1
   simp only [Option.some.injEq, Obj.cells.injEq] at h1
   exact absurd h1.2.1 (by decide)
  clear hk1 hE hF hos'
  by_cases hlt : k < N
  ·have hg : decide ((k : Int) < r.of) = true := by have := HN.out; simp; omega
   cases hb : ((k : Int) != r.me)
   ·have HN' := Hd (HOS.out.trans (allTo_no hb).symm)
    go_wp2
    go_roundw
    case rel => exact ⟨k + 1, os', A', c', by omega, by go_num, HN'.out, HK.out, HE.out, HF.out⟩
    case measure => simp [intOf] <;> omega
   ·have hq : (os ++ os').length ≤ 100000 := by rw [List.length_append]; omega
    (go_wp2_with (with_reducible refine wl_stop 22 ?_); refine stop_load (HE.out) rfl Tryz.underlying60 (by kernel_rfl) ?_; simp only [Act.put, Sa, Sz, Ss])
    go_wp2_with fail
    refine (c_sendZ W0 p a A c ps r (os ++ os') A' c' k am m wr HK.out HF.out.rd hs hq).mono ?_
    rintro e w2 ⟨rfl, A2, c2, a2, hk2, cg⟩
    have hpm := box_apart HE.out HK.out.row (by decide)
    have HE2 := Hd (box_out' HE.out cg (fun hm => by
     rcases List.mem_cons.1 hm with e | hm
     ·exact hpw e.symm
     ·exact hpm hm))
    have HF2 := Hd (HF.out.sent HK.out.box (by decide) (by decide) (by decide) HK.out.row cg)
    have HK2 := Hd (show KZ W0 w2 p a A c ps r A2 c2 (os ++ (os' ++ [(a2, ⟨k, m⟩)])) by rw [← List.append_assoc]; exact hk2)
    have HN' := Hd (show List.map Prod.snd (os' ++ [(a2, (⟨k, m⟩ : Ot))]) = allTo r.me m (k + 1) by rw [allTo_yes hb, ← HOS.out]; simp)
    clear hk2 cg hpm d1 z1
    go_wp2
    go_roundw
    case rel => exact ⟨k + 1, _, A2, c2, by omega, by go_num, HN'.out, HK2.out, HE2.out, HF2.out⟩
    case measure => simp [intOf] <;> omega
  ·obtain rfl : k = N := by omega
   have hg : decide ((k : Int) < r.of) = false := by have := HN.out; simp; omega
   go_wp2
   exact bodyPost_end (v := .tuple #[]) (by simp [results, Tryz.results116, go_sem]) rfl ⟨rfl, A', c', os', HK.out, HOS.out⟩
end Go.Proofs.YtkenlhdiehaemaaGreat
