/- The keeper sends a message. -/
import Derived.Test.YtkmkchfjnhnacaaGreatPk10
import Derived.Test.YtkmkchfjnhnacaaGreatPk15
namespace Go.Proofs.YtkmkchfjnhnacaaGreat
open Go.ChangeShapes Go.WideShapes Go.ChangeAt Go.RowKit Go.Sort
set_option linter.unusedVariables false
set_option linter.unusedSimpArgs false
abbrev Ot.zero : Value := .agg #[.int .i64 0, .int .i64 0, .int .i64 0, .int .i64 0, .int .i64 0, .int .i64 0, .int .i64 0, .int .i64 0, .int .i64 0, .int .i64 0, .int .i64 0, .int .i64 0, .int .i64 0, .int .i64 0, .int .i64 0, .slice none 0 0, .slice none 0 0, .slice none 0 0]
theorem Tryz.infoOt : (Tryz.prog.info? 47).map (fun i => (i.zero, i.size, i.bytes)) = some (some Ot.zero, 18, 192) := by kernel_rfl
theorem OtE.one (p : OtE) : ∀ u ∈ p.enc, u.oneCell' = true := by
 intro u hu
 simp [OtE.enc] at hu
 rcases hu with rfl | rfl | rfl | rfl | rfl | rfl | rfl | rfl | rfl | rfl | rfl | rfl | rfl | rfl | rfl | rfl | rfl | rfl <;> rfl
structure OsQ (w : World) (B : Nat) (qs : List OtE) : Prop where
 l : ∀ p ∈ qs, LgO w B w.heap.size p.1 p.2.msg.log
 nd : (qs.flatMap (fun p => p.1.fp)).Nodup
theorem OsQ.nil (w : World) (B : Nat) : OsQ w B [] := ⟨by simp, by simp⟩
theorem OsQ.step {w w' : World} {B : Nat} {qs : List OtE} {a : LAd} {v : Ot} (h : OsQ w B qs) (hB : B ≤ w.heap.size) (ho : LgO w' w.heap.size w'.heap.size a v.msg.log) (hx : Ext w w') : OsQ w' B (qs ++ [(a, v)]) := by
 refine ⟨fun p hp => ?_, ?_⟩
 ·rcases List.mem_append.1 hp with hp | hp
  ·exact ((h.l p hp).kept hx).wide (Nat.le_refl _) hx.size
  ·rw [Mi] at hp
   subst hp
   exact ho.wide hB (Nat.le_refl _)
 ·simp only [List.flatMap_append, List.flatMap_cons, List.flatMap_nil, List.append_nil]
  rw [List.nodup_append]
  refine ⟨h.nd, ho.nd, fun x hx1 y hy he => ?_⟩
  subst he
  obtain ⟨p, hp, hxp⟩ := List.mem_flatMap.1 hx1
  have h1 := (h.l p hp).lt x hxp
  have h2 := ho.low x hy
  omega
theorem OsQ.chg {w w' : World} {B : Nat} {qs : List OtE} {S : List Nat} (h : OsQ w B qs) (hg : Chg w w' S) (hne : ∀ p ∈ qs, ∀ k ∈ p.1.fp, k ∉ S) : OsQ w' B qs :=
 ⟨fun p hp => ((h.l p hp).chg hg (hne p hp)).wide (Nat.le_refl _) hg.size, h.nd⟩
theorem OsQ.kept {w w' : World} {B : Nat} {qs : List OtE} (h : OsQ w B qs) (hx : Ext w w') : OsQ w' B qs := ⟨fun p hp => ((h.l p hp).kept hx).wide (Nat.le_refl _) hx.size, h.nd⟩
theorem lg_apartO {w : World} {B B' T : Nat} {a : LAd} {l : Lg} {A : Option Addr} {n c : Nat} {qs : List OtE} (h : LgO w B T a l) (k : Ow OtE.enc 47 18 w B' (.slice A n c) qs) : ∀ x ∈ a.fp, x ∉ blk A := fun x hx => by
 unfold LAd.fp at hx
 rw [List.mem_append, List.mem_append] at hx
 rcases hx with (hx | hx) | hx
 ·exact h.c.apart k (by decide) x hx
 ·exact h.s.apart k (by decide) x hx
 ·exact h.e.apart k (by decide) x hx
theorem OsQ.own {w : World} {B : Nat} {A : Option Addr} {c : Nat} {qs : List OtE} (h : OsQ w B qs) (k : Ow OtE.enc 47 18 w B (.slice A qs.length c) qs) : OsO w B w.heap.size A c qs := by
 refine ⟨k, h.l, ?_, fun x hx => ?_⟩
 ·rw [List.nodup_append]
  refine ⟨k.nodup, h.nd, fun x hx y hy he => ?_⟩
  subst he
  obtain ⟨p, hp, hxp⟩ := List.mem_flatMap.1 hy
  exact lg_apartO (h.l p hp) k x hxp hx
 ·rcases List.mem_append.1 hx with hx | hx
  ·exact (k.inB x hx).2
  ·obtain ⟨p, hp, hxp⟩ := List.mem_flatMap.1 hx
   exact (h.l p hp).lt x hxp
abbrev Kp.obj (a : LAd) (A : Option Addr) (n c : Nat) (r : Rp) (O : Value) : Obj := .cells #[.int .i64 r.me, .int .i64 r.of, .int .i64 r.mode, .int .i64 r.view, .int .i64 r.normal, .int .i64 r.commit, .int .i64 r.log.base, .slice a.cA r.log.cells.length a.cc, .slice a.sA r.log.seats.length a.sc, .slice a.eA r.log.ents.length a.ec, .slice A n c, .int .i64 r.cell, .int .i64 r.nonce, O] 60
structure KS (w0 w : World) (p : Nat) (a : LAd) (A : Option Addr) (n c : Nat) (r : Rp) (os : List OtE) (Ao : Option Addr) (co : Nat) : Prop where
 box : w.heap[p]? = some (Kp.obj a A n c r (.slice Ao os.length co))
 row : Ow OtE.enc 47 18 w w0.heap.size (.slice Ao os.length co) os
 logs : OsQ w w0.heap.size os
 chg : Chg w0 w [p]
theorem chg_low2 {a b c : World} {p : Nat} {A : Option Addr} (h : Chg a b [p]) (k : Chg b c (p :: blk A)) (hA : ∀ x ∈ blk A, a.heap.size ≤ x) : Chg a c [p] :=
 ⟨k.os.trans h.os, k.tape.trans h.tape, k.output.trans h.output, Nat.le_trans h.size k.size, fun i hi hn => (k.block i (Nat.lt_of_lt_of_le hi h.size) (fun hm => by
  rcases List.mem_cons.1 hm with e | hm
  ·exact hn (by rw [e]; exact List.mem_singleton_self _)
  ·have := hA i hm; omega)).trans (h.block i hi hn)⟩
theorem box_out' {w w' : World} {S : List Nat} {P : Nat} {o : Obj} (h : w.heap[P]? = some o) (hg : Chg w w' S) (hn : P ∉ S) : w'.heap[P]? = some o := (hg.block P (bx_lt h) hn).trans h
set_option maxRecDepth 100000 in
set_option maxHeartbeats 4000000 in
theorem c_send (w0 : World) (p : Nat) (a : LAd) (A : Option Addr) (n c : Nat) (r : Rp) (os : List OtE) (Ao : Option Addr) (co : Nat) (to : Int) (am : LAd) (m : Mg) (w : World) (hp : p < w0.heap.size) (hk : KS w0 w p a A n c r os Ao co) (hm : LgR w am m.log) (hs : m.log.small) (hos : os.length ≤ 100000) :
  Calls Tryz.prog 40 #[.pointer (some ⟨p, 0, none⟩), .int .i64 to, Mg.val am m] w fun e w' => e = .returned (.tuple #[]) ∧ ∃ A' c' a', KS w0 w' p a A n c r (os ++ [(a', ⟨to, m⟩)]) A' c' ∧ Chg w w' (p :: blk Ao) := by
 obtain ⟨i0, hi, hz0, hz1, hz2⟩ := info_parts Tryz.infoOt
 have X0 := ext_alloc w (Mg.obj am m)
 have HC := Hd (c_copyLog am m.log hs _ (hm.keep X0))
 have HK := Hd hk
 have hsz := hk.chg.size
 clear hm hs hk
 go_enter Tryz.func40, Tryz.ntmps40
 go_wp2_with fail
 refine HC.out.mono ?_
 rintro e w1 ⟨a', rfl, o1, x1⟩
 have B1 := x1.box (hNew (w := w) (o := Mg.obj am m) rfl)
 have b1 := bx_cell B1
 have f1 := bx_frozen B1
 have z1 := bx_lt B1
 have P1 := box_put (box_put (box_put (box_put B1 13 (.int .i64 m.log.base)) 14 (.slice a'.cA m.log.cells.length a'.cc)) 15 (.slice a'.sA m.log.seats.length a'.sc)) 16 (.slice a'.eA m.log.ents.length a'.ec)
 simp only [Sa, Sz, Ss] at P1
 have hcs := chg_set (chg_set (chg_set (chg_set (Chg.refl w1 [w.heap.size]) (p := ⟨w.heap.size, 13, none⟩) (by simp) (.int .i64 m.log.base)) (p := ⟨w.heap.size, 14, none⟩) (by simp) (.slice a'.cA m.log.cells.length a'.cc)) (p := ⟨w.heap.size, 15, none⟩) (by simp) (.slice a'.sA m.log.seats.length a'.sc)) (p := ⟨w.heap.size, 16, none⟩) (by simp) (.slice a'.eA m.log.ents.length a'.ec)
 simp only [sz_alloc] at o1
 have HO := Hd (o1.chg1 hcs (by omega))
 have HP1 := Hd P1
 have HX1 := Hd (chg_new (Ext.trans X0 x1) hcs (Nat.le_refl _))
 have HS := Hd hcs.size
 clear B1 P1 hcs o1 x1 X0 HC
 go_wp2
 refine code_go (F := fun W => W.heap[w.heap.size]? = some (Mg.obj a' m) ∧ LgO W (w.heap.size + 1) W.heap.size a' m.log ∧ Ext w W) ⟨HP1.out, HO.out.wide (Nat.le_refl _) (by exact HS.out), HX1.out⟩ ?_
 intro W2 ⟨E2, O2, X2⟩
 clear b1 f1 z1 HP1 HO HX1 HS
 have D2 := Hd (X2.box HK.out.box)
 have M2 := Hd (cells_mid (cs := Mg.cs a' m) E2 [] [] rfl rfl)
 have HO2 := Hd O2
 have HX2 := Hd X2
 have hlt2 := bx_lt E2
 clear E2 O2
 (refine Rm.wp_region_mix' (R := relE W2.heap.size) (fun _ _ _ => True) (fun _ _ _ _ _ hq => hq) 9 (by first | exact Nat.le_refl _ | omega | (simp; omega)) (by kernel_rfl) (by kernel_rfl) ?_; simp only [Tc, Tz, Dc, Dz])
 (iterate 2 (refine Rm.wpMix_plain rfl rfl ?_; go_big_quiet_step (fail); refine wpQuiet_nil ?_))
 (refine Rm.wpMix_nilp rfl rfl rfl ?_; simp only [Act.put, Sa, Sz, Ss])
 (iterate 1 (refine Rm.wpMix_plain rfl rfl ?_; go_big_quiet_step (fail); refine wpQuiet_nil ?_))
 (refine Rm.wpMix_load1 (fun W hW => bx_cell (Ext.box hW D2.out) 13) rfl rfl rfl Tryz.underlying38 rfl ?_; simp only [Act.put, Sa, Sz, Ss])
 (iterate 1 (refine Rm.wpMix_plain rfl rfl ?_; go_big_quiet_step (fail); refine wpQuiet_nil ?_))
 (refine Rm.wpMix_loadAgg (fun W hW j v hj => (Below.cell hW (p := ⟨w.heap.size, 0 + j, none⟩) hlt2).trans (M2.out j v hj)) rfl rfl rfl Tryz.underlying45 (by kernel_rfl) ?_; simp only [Act.put, Sa, Sz, Ss])
 (iterate 1 (refine Rm.wpMix_plain rfl rfl ?_; go_big_quiet_step (fail); refine wpQuiet_nil ?_))
 (refine Rm.wpMix_alloc (.cells (OtE.cells a' ⟨to, m⟩) 47) rfl (fun W => by kernel_rfl) ?_; intro p1 hp1 hps1 hpi1; simp only [layVal, Act.put, Sa, Sz, Ss])
 refine Rm.wpMix_nil ?_
 rintro W3 ⟨X3, E3⟩
 have X3' : Ext W2 W3 := X3
 have hB3 : w0.heap.size ≤ W3.heap.size := by have := X2.size; have := X3'.size; omega
 have D3 := Hd (X3'.box D2.out)
 have HXw := Hd (Ext.trans X2 X3')
 have HRow := Hd (HK.out.row.kept HXw.out)
 have HLogs := Hd (HK.out.logs.step (v := ⟨to, m⟩) hsz ((HO2.out.kept X3').wide (by omega) X3'.size) HXw.out)
 have HE3 := Hd E3
 clear X3 X3' E3 hp1 hps1 hpi1 M2 HO2 HX2 D2 hlt2 X2
 go_wp2_with (at_builtin; refine wl_app (enc := OtE.enc) rfl _ _ 38 rfl w0.heap.size 47 i0 Ot.zero 18 192 Tryz.underlying38 hi hz0 hz1 hz2 rfl (by decide) OtE.len OtE.one (.slice Ao os.length co) os rfl HRow.out (some ⟨p1, 0, none⟩) 1 [(a', (⟨to, m⟩ : Ot))] 1 rfl rfl (Rd.one HE3.out rfl) ?c1 ?c2 ?c3 ?_)
 case c1 => unfold maxLen; simp; omega
 case c2 => simp; omega
 case c3 => exact hB3
 intro v' w4 ho4 hg4
 obtain ⟨A', c', rfl⟩ := ho4.form
 have c4 := chg_grown hg4
 have hpa := box_apart D3.out HRow.out (by decide)
 have D4 := box_out' D3.out c4 hpa
 have L4 := HLogs.out.chg c4 (fun q hq x hx => lg_apartO (HLogs.out.l q hq) HRow.out x hx)
 have C4 := chg_low2 (chg_low2 HK.out.chg (chg_ext (p :: blk (none : Option Addr)) HXw.out) (by simp [blk])) (c4.more (fun k hk => List.mem_cons_of_mem p hk)) (fun x hx => (HRow.out.inB x hx).1)
 have d4 := bx_cell D4
 have g4 := bx_frozen D4
 have z4 := bx_lt D4
 have P4 := box_put D4 13 (.slice A' (os.length + 1) c')
 simp only [Sa, Sz, Ss] at P4
 have hl1 : (os ++ [(a', (⟨to, m⟩ : Ot))]).length = os.length + 1 := by simp
 rw [hl1] at ho4
 have c5 := chg_set (Chg.refl w4 [p]) (p := ⟨p, 13, none⟩) (by simp) (.slice A' (os.length + 1) c')
 have hpb := box_apart D4 ho4 (by decide)
 have HF := Hd (show KS w0 (w4.setCell ⟨p, 13, none⟩ (.slice A' (os.length + 1) c')) p a A n c r (os ++ [(a', ⟨to, m⟩)]) A' c' from
  ⟨by rw [hl1]; exact P4, by rw [hl1]; exact ho4.chg c5 (fun k hk hm => by rw [Mi] at hm; subst hm; exact hpb hk),
   L4.chg c5 (fun q hq x hx hm => by rw [Mi] at hm; subst hm; exact lg_box_apart D4 (L4.l q hq) (by decide) (by decide) (by decide) hx), C4.trans c5⟩)
 have HCg := Hd (((chg_ext (p :: blk Ao) HXw.out).trans (c4.more (fun k hk => List.mem_cons_of_mem p hk))).trans (c5.more (fun k hk => by rw [Mi] at hk; subst hk; exact List.mem_cons_self)))
 clear c4 c5 P4 C4 L4 ho4 hg4 D4 hpa hpb hl1
 go_wp2
 exact bodyPost_end (v := .tuple #[]) (by simp [results, Tryz.results40, go_sem]) rfl ⟨rfl, A', c', a', HF.out, HCg.out⟩
theorem LgF.sent {w w' : World} {B B' : Nat} {a : LAd} {l : Lg} {p : Nat} {cs : Array Value} {t : TypeId} {A : Option Addr} {n c : Nat} {qs : List OtE} (h : LgF w B a l) (hb : w.heap[p]? = some (.cells cs t (0, 0))) (h1 : t ≠ 101) (h2 : t ≠ 103) (h3 : t ≠ 70)
  (k : Ow OtE.enc 47 18 w B' (.slice A n c) qs) (hg : Chg w w' (p :: blk A)) : LgF w' B a l := by
 refine ⟨h.c.chg Cel.len hg (fun hl x hx hm => ?_), h.s.chg Sea.len hg (fun hl x hx hm => ?_), h.e.chg Ent.len hg (fun hl x hx hm => ?_)⟩
 ·rcases List.mem_cons.1 hm with e | hm
  ·rw [e] at hx; exact box_apart hb (h.c.2 hl) h1 hx
  ·exact (h.c.2 hl).apart k (by decide) x hx hm
 ·rcases List.mem_cons.1 hm with e | hm
  ·rw [e] at hx; exact box_apart hb (h.s.2 hl) h2 hx
  ·exact (h.s.2 hl).apart k (by decide) x hx hm
 ·rcases List.mem_cons.1 hm with e | hm
  ·rw [e] at hx; exact box_apart hb (h.e.2 hl) h3 hx
  ·exact (h.e.2 hl).apart k (by decide) x hx hm
def allTo (me : Int) (m : Mg) : Nat → List Ot
 | 0 => []
 | k + 1 => allTo me m k ++ if ((k : Int) != me) = true then [⟨k, m⟩] else []
theorem allTo_len (me : Int) (m : Mg) : ∀ k, (allTo me m k).length ≤ k
 | 0 => Nat.le_refl _
 | k + 1 => by
  have := allTo_len me m k
  unfold allTo
  rw [List.length_append]
  split <;> simp <;> omega
theorem allTo_next (me : Int) (m : Mg) (k : Nat) : allTo me m (k + 1) = allTo me m k ++ if ((k : Int) != me) = true then [⟨k, m⟩] else [] := rfl
theorem allTo_yes {me : Int} {m : Mg} {k : Nat} (h : ((k : Int) != me) = true) : allTo me m (k + 1) = allTo me m k ++ [⟨k, m⟩] := by rw [allTo_next, if_pos h]
theorem allTo_no {me : Int} {m : Mg} {k : Nat} (h : ((k : Int) != me) = false) : allTo me m (k + 1) = allTo me m k := by rw [allTo_next, h]; simp
set_option maxRecDepth 100000 in
set_option maxHeartbeats 4000000 in
theorem c_sendAll (w0 : World) (p : Nat) (a : LAd) (A : Option Addr) (n c : Nat) (r : Rp) (os : List OtE) (Ao : Option Addr) (co : Nat) (am : LAd) (m : Mg) (w : World) (B N : Nat) (hp : p < w0.heap.size) (hk : KS w0 w p a A n c r os Ao co) (hN : r.of = (N : Int)) (hN10 : N ≤ 10) (hm : LgF w B am m.log) (hs : m.log.small) (hos : os.length ≤ 50000) :
  Calls Tryz.prog 28 #[.pointer (some ⟨p, 0, none⟩), Mg.val am m] w fun e w' => e = .returned (.tuple #[]) ∧ ∃ A' c' os', KS w0 w' p a A n c r (os ++ os') A' c' ∧ List.map Prod.snd os' = allTo r.me m N := by
 have X0 := ext_alloc w (Mg.obj am m)
 have D0 := hOld (o := Mg.obj am m) hk.box
 have d0 := bx_cell D0
 have z0 := bx_lt D0
 have hk0 : KS w0 (w.alloc (Mg.obj am m)) p a A n c r (os ++ []) Ao co := ⟨by simpa using D0, by simpa using hk.row.kept X0, by simpa using hk.logs.kept X0, hk.chg.trans (chg_ext _ X0)⟩
 have HK0 := Hd hk0
 have HM0 := Hd (hm.keep X0)
 have HN := Hd hN
 have hsz := hk.chg.size
 clear hk hm hk0 X0 D0
 go_enter Tryz.func28, Tryz.ntmps28
 go_wp2
 go_loopw [10] (fun i wr => ∃ (k : Nat) (os' : List OtE) (A' : Option Addr) (c' : Nat), k ≤ N ∧ i = .int .i64 k ∧ List.map Prod.snd os' = allTo r.me m k ∧ KS w0 wr p a A n c r (os ++ os') A' c' ∧ wr.heap[w.heap.size]? = some (Mg.obj am m) ∧ LgF wr B am m.log) (fun i _ => N - (intOf i).toNat)
 case atStart => exact ⟨0, [], Ao, co, Nat.zero_le _, rfl, rfl, HK0.out, hNew rfl, HM0.out⟩
 case round =>
  obtain ⟨k, os', A', c', hkN, rfl, hos', hk1, hE, hF⟩ := hrel
  have HOS := Hd hos'
  have HK := Hd hk1
  have HE := Hd hE
  have HF := Hd hF
  have hl' : os'.length ≤ k := by
   have h1 := congrArg List.length hos'
   rw [List.length_map] at h1
   have := allTo_len r.me m k
   omega
  clear d0 z0
  have d1 := bx_cell hk1.box
  have z1 := bx_lt hk1.box
  clear hk1 hE hF hos'
  by_cases hlt : k < N
  ·have hg : decide ((k : Int) < r.of) = true := by have := HN.out; simp; omega
   cases hb : ((k : Int) != r.me)
   ·have HN' := Hd (HOS.out.trans (allTo_no hb).symm)
    go_wp2
    go_roundw
    case rel => exact ⟨k + 1, os', A', c', by omega, by go_num, HN'.out, HK.out, HE.out, HF.out⟩
    case measure => simp [intOf] <;> omega
   ·have hq : (os ++ os').length ≤ 100000 := by rw [List.length_append]; omega
    (go_wp2_with (with_reducible refine wl_stop 22 ?_); refine stop_load (HE.out) rfl Tryz.underlying45 (by kernel_rfl) ?_; simp only [Act.put, Sa, Sz, Ss])
    go_wp2_with fail
    refine (c_send w0 p a A n c r (os ++ os') A' c' k am m wr hp HK.out HF.out.rd hs hq).mono ?_
    rintro e w2 ⟨rfl, A2, c2, a2, hk2, cg⟩
    have hpm := box_apart HE.out HK.out.row (by decide)
    have HE2 := Hd (box_out' HE.out cg (fun hm => by
     rcases List.mem_cons.1 hm with e | hm
     ·omega
     ·exact hpm hm))
    have HF2 := Hd (HF.out.sent HK.out.box (by decide) (by decide) (by decide) HK.out.row cg)
    have HK2 := Hd (show KS w0 w2 p a A n c r (os ++ (os' ++ [(a2, ⟨k, m⟩)])) A2 c2 by rw [← List.append_assoc]; exact hk2)
    have HN' := Hd (show List.map Prod.snd (os' ++ [(a2, (⟨k, m⟩ : Ot))]) = allTo r.me m (k + 1) by rw [allTo_yes hb, ← HOS.out]; simp)
    clear hk2 cg hpm d1 z1
    go_wp2
    go_roundw
    case rel => exact ⟨k + 1, _, A2, c2, by omega, by go_num, HN'.out, HK2.out, HE2.out, HF2.out⟩
    case measure => simp [intOf] <;> omega
  ·obtain rfl : k = N := by omega
   have hg : decide ((k : Int) < r.of) = false := by have := HN.out; simp; omega
   go_wp2
   exact bodyPost_end (v := .tuple #[]) (by simp [results, Tryz.results28, go_sem]) rfl ⟨rfl, A', c', os', HK.out, HOS.out⟩
end Go.Proofs.YtkmkchfjnhnacaaGreat
