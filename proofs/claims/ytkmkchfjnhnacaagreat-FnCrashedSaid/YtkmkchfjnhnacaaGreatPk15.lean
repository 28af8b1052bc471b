/- Copies of replicas, of the reference. -/
import Derived.Test.YtkmkchfjnhnacaaGreatPk12
import Derived.Test.YtkmkchfjnhnacaaGreatPk8
import Derived.Test.YtkmkchfjnhnacaaGreatPk14
namespace Go.Proofs.YtkmkchfjnhnacaaGreat
open Go.ChangeShapes Go.WideShapes Go.ChangeAt Go.RowKit Go.Sort
set_option linter.unusedVariables false
set_option linter.unusedSimpArgs false
structure RpF (w : World) (B : Nat) (a : LAd) (A : Option Addr) (c : Nat) (ps : List VtE) (r : Rp) : Prop where
 l : LgF w B a r.log
 v : RdF VtE.enc 53 10 w B A c ps
 vl : ∀ p ∈ ps, LgF w B p.1 p.2.log
 e : ps.map Prod.snd = r.votes
theorem RpF.rd {w : World} {B : Nat} {a : LAd} {A : Option Addr} {c : Nat} {ps : List VtE} {r : Rp} (h : RpF w B a A c ps r) : RpR w a A c ps r := ⟨h.l.rd, ⟨h.v.1, fun p hp => (h.vl p hp).rd⟩, h.e⟩
theorem RpF.keep {w w' : World} {B : Nat} {a : LAd} {A : Option Addr} {c : Nat} {ps : List VtE} {r : Rp} (h : RpF w B a A c ps r) (hx : Ext w w') : RpF w' B a A c ps r := ⟨h.l.keep hx, h.v.keep hx, fun p hp => (h.vl p hp).keep hx, h.e⟩
theorem RpF.chg {w w' : World} {B : Nat} {a : LAd} {A : Option Addr} {c : Nat} {ps : List VtE} {r : Rp} {S : List Nat} (h : RpF w B a A c ps r) (hg : Chg w w' S) (hS : ∀ k ∈ S, k < B) : RpF w' B a A c ps r := ⟨h.l.chg hg hS, h.v.chg VtE.len hg (low_out h.v hS), fun p hp => (h.vl p hp).chg hg hS, h.e⟩
theorem RpF.less {w : World} {B B' : Nat} {a : LAd} {A : Option Addr} {c : Nat} {ps : List VtE} {r : Rp} (h : RpF w B a A c ps r) (hB : B' ≤ B) : RpF w B' a A c ps r := ⟨h.l.less hB, h.v.less hB, fun p hp => (h.vl p hp).less hB, h.e⟩
theorem LgF.zero (w : World) (B : Nat) : LgF w B LAd.none Lg.none := ⟨RdF.nil _ _ _ _ _, RdF.nil _ _ _ _ _, RdF.nil _ _ _ _ _⟩
theorem LgF.beside {w w' : World} {B B' : Nat} {a : LAd} {l : Lg} {A : Option Addr} {n c : Nat} {qs : List VtE} (h : LgF w B a l) (k : Ow VtE.enc 53 10 w B' (.slice A n c) qs) (hg : Chg w w' (blk A)) : LgF w' B a l :=
 ⟨h.c.chg Cel.len hg (fun hl => (h.c.2 hl).apart k (by decide)), h.s.chg Sea.len hg (fun hl => (h.s.2 hl).apart k (by decide)), h.e.chg Ent.len hg (fun hl => (h.e.2 hl).apart k (by decide))⟩
set_option maxRecDepth 100000 in
set_option maxHeartbeats 8000000 in
theorem c_l6Copy (a : LAd) (A : Option Addr) (c : Nat) (ps : List VtE) (r : Rp) (w : World) (hr : RpR w a A c ps r) (hs : r.log.small) (hn : ps.length ≤ 1048576) (hv : LgS ps) :
  Calls Tryz.prog 117 #[Rp.val a A ps.length c r] w fun e w' => ∃ (a' : LAd) (A' : Option Addr) (c' : Nat) (qs : List VtE), e = .returned (Rp.val a' A' ps.length c' r) ∧ qs.length = ps.length ∧ RpF w' w.heap.size a' A' c' qs r ∧ Ext w w' := by
 obtain ⟨i0, hi, hz0, hz1, hz2⟩ := info_parts Tryz.infoVt
 have HS := Hd hs
 have HR := Hd hr
 have HV := Hd hv
 have hL := hr.v.len
 clear hs hr hv
 have X0 : Ext w (((w.alloc (Rp.obj a A ps.length c r)).alloc Rp.zobj).alloc (Rp.obj a A ps.length c r)) := ext_to (ext_to (ext_alloc _ _) _) _
 go_enter Tryz.func117, Tryz.ntmps117
 go_wp2_with fail
 refine (c_l3Copy a r.log HS.out _ (HR.out.l.keep X0)).mono ?_
 rintro e w1 ⟨a', rfl, o1, x1⟩
 have B1 := x1.box (hOld (o := Rp.obj a A ps.length c r) (hOld (o := Rp.zobj) (hNew (w := w) (o := Rp.obj a A ps.length c r) rfl)))
 have B2 := x1.box (hOld (o := Rp.obj a A ps.length c r) (hNew (w := w.alloc (Rp.obj a A ps.length c r)) (o := Rp.zobj) rfl))
 have B3 := x1.box (hNew (w := (w.alloc (Rp.obj a A ps.length c r)).alloc Rp.zobj) (o := Rp.obj a A ps.length c r) rfl)
 rw [sz_alloc] at B2
 rw [sz_alloc, sz_alloc] at B3
 simp only [sz_alloc] at o1
 have X1 := Ext.trans X0 x1
 have b3 := bx_cell B3
 have f3 := bx_frozen B3
 have z3 := bx_lt B3
 have P3 := box_put (box_put (box_put (box_put B3 6 (.int .i64 r.log.base)) 7 (.slice a'.cA r.log.cells.length a'.cc)) 8 (.slice a'.sA r.log.seats.length a'.sc)) 9 (.slice a'.eA r.log.ents.length a'.ec)
 simp only [Sa, Sz, Ss] at P3
 have hcs := chg_set (chg_set (chg_set (chg_set (Chg.refl w1 [w.heap.size + 1 + 1]) (p := ⟨w.heap.size + 1 + 1, 6, none⟩) (by simp) (.int .i64 r.log.base)) (p := ⟨w.heap.size + 1 + 1, 7, none⟩) (by simp) (.slice a'.cA r.log.cells.length a'.cc)) (p := ⟨w.heap.size + 1 + 1, 8, none⟩) (by simp) (.slice a'.sA r.log.seats.length a'.sc)) (p := ⟨w.heap.size + 1 + 1, 9, none⟩) (by simp) (.slice a'.eA r.log.ents.length a'.ec)
 have HB1 := Hd (box_chg B1 hcs (by omega))
 have HB2 := Hd (box_chg B2 hcs (by omega))
 have HP3 := Hd P3
 have HO1 := Hd (o1.chg hcs (fun k hk => by simp only [Mi] at hk; omega))
 have HX1 := Hd (chg_new X1 hcs (by omega))
 have hsz1 : w.heap.size + 1 + 1 + 1 ≤ w1.heap.size := by have := x1.size; simp only [sz_alloc] at this; omega
 clear B1 B2 B3 P3 o1 hcs
 have hsz := sz_alloc
 go_wp2
 have Q3 := box_put HP3.out 10 (.slice (some ⟨w1.heap.size, 0, none⟩) 0 0)
 simp only [Sa, Sz, Ss] at Q3
 have HQ3 := Hd Q3
 clear Q3 b3 f3 z3
 have HLow : w.heap.size + 1 + 1 < w1.heap.size := by omega
 go_loopw [4] (fun i wr => ∃ (k : Nat) (qs : List VtE) (A1 : Option Addr) (c1 : Nat), k ≤ ps.length ∧ i = .int .i64 k ∧ VsS ps qs k ∧ wr.heap[w.heap.size]? = some (Rp.obj a A ps.length c r) ∧ wr.heap[w.heap.size + 1]? = some Rp.zobj ∧ wr.heap[w.heap.size + 1 + 1]? = some (Rp.obj a' A1 qs.length c1 r) ∧ Ow VtE.enc 53 10 wr (w.heap.size + 1 + 1 + 1) (.slice A1 qs.length c1) qs ∧ (∀ p ∈ qs, LgF wr (w.heap.size + 1 + 1 + 1) p.1 p.2.log) ∧ LgF wr (w.heap.size + 1 + 1 + 1) a' r.log ∧ Ext w wr) (fun i _ => ps.length - (intOf i).toNat)
 case atStart =>
  refine ⟨0, [], some ⟨w1.heap.size, 0, none⟩, 0, Nat.zero_le _, rfl, rfl, ?_, ?_, hOld HQ3.out, ?_, by simp, ?_, ?_⟩
  ·exact hOld (box_set HB1.out (show w.heap.size + 1 + 1 ≠ w.heap.size by omega))
  ·exact hOld (box_set HB2.out (show w.heap.size + 1 + 1 ≠ w.heap.size + 1 by omega))
  ·exact own_empty (hNew (by simp only [sz_set])) (by omega)
  ·exact (HO1.out.chg (chg_set (Chg.refl _ [w.heap.size + 1 + 1]) (p := ⟨w.heap.size + 1 + 1, 10, none⟩) (by simp) _) (fun k hk => by simp only [Mi] at hk; omega)).keep (ext_alloc _ _)
  ·exact ext_to (ext_set HX1.out (p := ⟨w.heap.size + 1 + 1, 10, none⟩) (show w.heap.size ≤ w.heap.size + 1 + 1 by omega) _) _
 case round =>
  obtain ⟨k, qs, A1, c1, hk, rfl, hq, E1, E2, E3, ho, hl, hla, X⟩ := hrel
  have hql := hq.length hk
  have e1 := bx_cell E1
  have e3 := bx_cell E3
  have f3 := bx_frozen E3
  have z3 := bx_lt E3
  have HE1 := Hd E1
  have HE2 := Hd E2
  have HE3 := Hd E3
  have HO := Hd ho
  have HLs := Hd hl
  have HLa := Hd hla
  have HVS := Hd hq
  have HQL := Hd hql
  clear E1 E2 E3 ho hl hla hq hql HX1 HO1 HP3 HB1 HB2 HQ3
  by_cases hlt : k < ps.length
  ·obtain ⟨ab, ao, hA, hab, a0, a1, a2, a3, a4, a5, a6, a7, a8, a9⟩ := (HR.out.v.1.keep X).atVtE hlt
   subst hA
   have X2 := ext_alloc wr (Vt.obj ps[k].1 ps[k].2)
   have HCL := Hd (c_l3Copy ps[k].1 ps[k].2.log (HV.out _ (List.getElem_mem hlt)) (wr.alloc (Vt.obj ps[k].1 ps[k].2)) ((HR.out.v.2 _ (List.getElem_mem hlt)).keep (Ext.trans X X2)))
   go_wp2_with fail
   refine HCL.out.mono ?_
   rintro e w2 ⟨a2', rfl, o2, x2⟩
   have B2 := x2.box (hNew (w := wr) (o := Vt.obj ps[k].1 ps[k].2) rfl)
   have P2 := box_put (box_put (box_put (box_put B2 6 (.int .i64 ps[k].2.log.base)) 7 (.slice a2'.cA ps[k].2.log.cells.length a2'.cc)) 8 (.slice a2'.sA ps[k].2.log.seats.length a2'.sc)) 9 (.slice a2'.eA ps[k].2.log.ents.length a2'.ec)
   simp only [Sa, Sz, Ss] at P2
   have b2 := bx_cell B2
   have f2 := bx_frozen B2
   have z2 := bx_lt B2
   have HP2 := Hd P2
   simp only [sz_alloc] at o2
   have HOn := Hd o2
   have HX := Hd (Ext.trans X2 x2)
   have hws := X.size
   clear B2 P2 o2
   go_wp2_with (with_reducible refine wl_stop 29 ?_)
   have hcs := chg_set (chg_set (chg_set (chg_set (Chg.refl w2 [wr.heap.size]) (p := ⟨wr.heap.size, 6, none⟩) (by simp) (.int .i64 ps[k].2.log.base)) (p := ⟨wr.heap.size, 7, none⟩) (by simp) (.slice a2'.cA ps[k].2.log.cells.length a2'.cc)) (p := ⟨wr.heap.size, 8, none⟩) (by simp) (.slice a2'.sA ps[k].2.log.seats.length a2'.sc)) (p := ⟨wr.heap.size, 9, none⟩) (by simp) (.slice a2'.eA ps[k].2.log.ents.length a2'.ec)
   refine stop_go (F := fun W => W.heap[wr.heap.size]? = some (Vt.obj a2' ps[k].2) ∧ W.heap[w.heap.size]? = some (Rp.obj a (some ⟨ab, ao, none⟩) ps.length c r) ∧ W.heap[w.heap.size + 1]? = some Rp.zobj ∧ W.heap[w.heap.size + 1 + 1]? = some (Rp.obj a' A1 qs.length c1 r) ∧ Ow VtE.enc 53 10 W (w.heap.size + 1 + 1 + 1) (.slice A1 qs.length c1) qs ∧ (∀ p ∈ qs ++ [(a2', ps[k].2)], LgF W (w.heap.size + 1 + 1 + 1) p.1 p.2.log) ∧ LgF W (w.heap.size + 1 + 1 + 1) a' r.log ∧ Ext w W) ?_ ?_
   ·have X23 := chg_new HX.out hcs (Nat.le_refl _)
    refine ⟨HP2.out, X23.box HE1.out, X23.box HE2.out, X23.box HE3.out, HO.out.kept X23, fun p hp => ?_, HLa.out.keep X23, Ext.trans X X23⟩
    rcases List.mem_append.1 hp with hp | hp
    ·exact (HLs.out p hp).keep X23
    ·rw [Mi] at hp
     subst hp
     have := bx_lt HE3.out
     exact (HOn.out.chg hcs (fun k hk => by simp only [Mi] at hk; omega)).less (by omega)
   intro W3 ⟨E4, E1, E2, E3, o3, l3, la3, X3⟩
   clear b2 f2 z2 e1 e3 f3 z3 hcs a0 a1 a2 a3 a4 a5 a6 a7 a8 a9
   have e4 := bx_cell E4
   have g4 := bx_frozen E4
   have z4 := bx_lt E4
   have e3 := bx_cell E3
   have f3 := bx_frozen E3
   have z3 := bx_lt E3
   have HE1 := Hd E1
   have HE2 := Hd E2
   have HE3 := Hd E3
   have HO3 := Hd o3
   have HL3 := Hd l3
   have HLa3 := Hd la3
   clear E4 E1 E2 E3 o3 l3 la3
   go_wp2_with (at_builtin; refine wl_app (enc := VtE.enc) rfl _ _ 31 rfl (w.heap.size + 1 + 1 + 1) 53 i0 Vt.zero 10 128 Tryz.underlying31 hi hz0 hz1 hz2 rfl (by decide) VtE.len VtE.one (.slice A1 qs.length c1) qs rfl (HO3.out.kept (ext_alloc _ _)) (some ⟨W3.heap.size, 0, none⟩) 1 [(a2', ps[k].2)] 1 rfl rfl (Rd.one (hNew rfl) rfl) ?c1 ?c2 ?c3 ?_)
   case c1 => have := HQL.out; unfold maxLen; simp; omega
   case c2 => have := HQL.out; simp; omega
   case c3 => simp; omega
   intro v' w4 ho4 hg4
   obtain ⟨A4, c4', rfl⟩ := ho4.form
   have hlen4 : (qs ++ [(a2', ps[k].2)]).length = qs.length + 1 := by simp
   rw [hlen4]
   rw [hlen4] at ho4
   have c4 := chg_grown hg4
   have hout : ∀ x, x < w.heap.size + 1 + 1 + 1 → x ∉ blk A1 := fun x hx hm => by have := (HO3.out.inB x hm).1; omega
   have Y := ext_alloc W3 (.cells #[.int .i64 ps[k].2.kind, .int .i64 ps[k].2.frm, .int .i64 ps[k].2.view, .int .i64 ps[k].2.normal, .int .i64 ps[k].2.op, .int .i64 ps[k].2.commit, .int .i64 ps[k].2.log.base, .slice a2'.cA ps[k].2.log.cells.length a2'.cc, .slice a2'.sA ps[k].2.log.seats.length a2'.sc, .slice a2'.eA ps[k].2.log.ents.length a2'.ec] 53)
   have hup : W3.heap.size < (W3.alloc (.cells #[.int .i64 ps[k].2.kind, .int .i64 ps[k].2.frm, .int .i64 ps[k].2.view, .int .i64 ps[k].2.normal, .int .i64 ps[k].2.op, .int .i64 ps[k].2.commit, .int .i64 ps[k].2.log.base, .slice a2'.cA ps[k].2.log.cells.length a2'.cc, .slice a2'.sA ps[k].2.log.seats.length a2'.sc, .slice a2'.eA ps[k].2.log.ents.length a2'.ec] 53)).heap.size := by simp
   have F1 := Hd ((c4.block w.heap.size (by omega) (hout _ (by omega))).trans (Y.box HE1.out))
   have F2 := Hd ((c4.block (w.heap.size + 1) (by omega) (hout _ (by omega))).trans (Y.box HE2.out))
   have F3 := Hd ((c4.block (w.heap.size + 1 + 1) (by omega) (hout _ (by omega))).trans (Y.box HE3.out))
   have XX := Hd (ext_chg (Ext.trans X3 Y) c4 (fun g hg => by have := (HO3.out.inB g hg).1; omega))
   have L4 := Hd (show ∀ p ∈ qs ++ [(a2', ps[k].2)], LgF w4 (w.heap.size + 1 + 1 + 1) p.1 p.2.log from fun p hp => ((HL3.out p hp).keep Y).beside (HO3.out.kept Y) c4)
   have La4 := Hd ((HLa3.out.keep Y).beside (HO3.out.kept Y) c4)
   have HO4 := Hd ho4
   clear ho4 hg4 c4 hout Y hup e4 g4 z4 e3 f3 z3
   have e3 := bx_cell F3.out
   have f3 := bx_frozen F3.out
   have z3 := bx_lt F3.out
   have Q4 := box_put F3.out 10 (.slice A4 (qs.length + 1) c4')
   simp only [Sa, Sz, Ss] at Q4
   have HQ4 := Hd Q4
   clear Q4
   go_wp2
   have hcs := chg_set (Chg.refl w4 [w.heap.size + 1 + 1]) (p := ⟨w.heap.size + 1 + 1, 10, none⟩) (by simp) (.slice A4 (qs.length + 1) c4')
   have HCS := Hd hcs
   clear hcs
   go_roundw
   case rel =>
    refine ⟨k + 1, qs ++ [(a2', ps[k].2)], A4, c4', by omega, by go_num, HVS.out.next hlt a2', box_chg F1.out HCS.out (by omega), box_chg F2.out HCS.out (by omega), ?_, ?_, fun p hp => (L4.out p hp).chg HCS.out (fun k hk => by simp only [Mi] at hk; omega), La4.out.chg HCS.out (fun k hk => by simp only [Mi] at hk; omega), ext_chg XX.out HCS.out (fun g hg => by simp only [Mi] at hg; omega)⟩
    ·rw [hlen4]; exact HQ4.out
    ·rw [hlen4]
     exact HO4.out.chg HCS.out (fun k hk hm => by simp only [Mi] at hm; have := (HO4.out.inB k hk).1; omega)
   case measure => simp [intOf] <;> omega
  ·obtain rfl : k = ps.length := by omega
   have E3 := HE3.out
   rw [HQL.out] at E3
   clear e3 f3 z3
   have e3 := bx_cell E3
   have f3 := bx_frozen E3
   have z3 := bx_lt E3
   clear E3
   go_wp2_with (with_reducible refine wl_stopS 33 ?_)
   refine stop_store (w.heap.size + 1) #[.int .i64 r.me, .int .i64 r.of, .int .i64 r.mode, .int .i64 r.view, .int .i64 r.normal, .int .i64 r.commit, .int .i64 r.log.base, .slice a'.cA r.log.cells.length a'.cc, .slice a'.sA r.log.seats.length a'.sc, .slice a'.eA r.log.ents.length a'.ec, .slice A1 ps.length c1, .int .i64 r.cell, .int .i64 r.nonce] rfl rfl HE2.out (by kernel_rfl) rfl (by simp [Value.oneCell']) ?_
   intro W4 E4 C4
   have hX4 := Hd (chg_new X C4 (by omega))
   have hlow : ∀ k ∈ [w.heap.size + 1], k < w.heap.size + 1 + 1 + 1 := fun k hk => by simp only [Mi] at hk; omega
   have h1 := HVS.out
   unfold VsS at h1
   rw [List.take_length] at h1
   have hR := Hd (show RpF W4 w.heap.size a' A1 c1 qs r from (show RpF W4 (w.heap.size + 1 + 1 + 1) a' A1 c1 qs r from ⟨HLa.out.chg C4 hlow, (Ow.rdF VtE.len HO.out).chg VtE.len C4 (low_out (Ow.rdF VtE.len HO.out) hlow), fun p hp => (HLs.out p hp).chg C4 hlow, by rw [h1]; exact HR.out.e⟩).less (by omega))
   clear C4 h1 hlow e3 f3 z3
   go_wp2
   exact bodyPost_ret (results_box Tryz.results117 rfl Tryz.underlying33 (by kernel_rfl) E4) rfl ⟨a', A1, c1, qs, rfl, HQL.out, hR.out, hX4.out⟩
end Go.Proofs.YtkmkchfjnhnacaaGreat
