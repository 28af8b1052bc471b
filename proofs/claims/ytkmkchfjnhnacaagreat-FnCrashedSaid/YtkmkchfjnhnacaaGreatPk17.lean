/- l6Same of the reference. -/
import Derived.Test.YtkmkchfjnhnacaaGreatPk15
import Derived.Test.YtkmkchfjnhnacaaGreatPk16
namespace Go.Proofs.YtkmkchfjnhnacaaGreat
open Go.ChangeShapes Go.WideShapes Go.ChangeAt Go.RowKit Go.Sort
set_option linter.unusedVariables false
set_option linter.unusedSimpArgs false
def Rp.zero : Rp := ⟨0, 0, 0, 0, 0, 0, Lg.none, [], 0, 0⟩
def Rp.fallen (r : Rp) : Rp := ⟨r.me, r.of, 0, 0, 0, 0, Lg.none, [], r.cell, r.nonce⟩
def sameR (r : Rp) : Rp := if rpOk r = true then r else Rp.zero
def crashR (r : Rp) : Rp := if rpOk r = true then (if (r.mode == 0) = true then r else r.fallen) else Rp.zero
def RpW (w : World) (B : Nat) (R : Rp) (v : Value) : Prop := ∃ a A c qs, v = Rp.val a A (List.length qs) c R ∧ RpF w B a A c qs R
def RpX (w : World) (B T : Nat) (R : Rp) (v : Value) : Prop := ∃ a A c qs, v = Rp.val a A (List.length qs) c R ∧ RpO w B T a A c qs R
theorem RpF.none (w : World) (B : Nat) (R : Rp) (hl : R.log = Lg.none) (hv : R.votes = []) : RpF w B LAd.none Option.none 0 [] R := ⟨by rw [hl]; exact LgF.zero _ _, RdF.nil _ _ _ _ _, by simp, by rw [hv]; rfl⟩
theorem LgO.none (w : World) (B T : Nat) : LgO w B T LAd.none Lg.none := ⟨World.ownsRow_nil _ _ _ _, World.ownsRow_nil _ _ _ _, World.ownsRow_nil _ _ _ _, by simp [LAd.fp, LAd.none, blk], by simp [LAd.fp, LAd.none, blk]⟩
theorem RpO.none (w : World) (B T : Nat) (R : Rp) (hl : R.log = Lg.none) (hv : R.votes = []) : RpO w B T LAd.none Option.none 0 [] R := ⟨by rw [hl]; exact LgO.none _ _ _, ⟨World.ownsRow_nil _ _ _ _, by simp, by simp [blk], by simp [blk]⟩, by rw [hv]; rfl, by simp [LAd.fp, LAd.none, blk]⟩
theorem RpO.chg1 {w w' : World} {B T g : Nat} {a : LAd} {A : Option Addr} {c : Nat} {ps : List VtE} {r : Rp} (h : RpO w B T a A c ps r) (hg : Chg w w' [g]) (hlt : g < B) : RpO w' B T a A c ps r :=
 ⟨h.l.chg1 hg hlt, h.v.chg hg (fun k hk hm => by rw [Mi] at hm; have := (h.v.low k hk).1; omega), h.e, h.d⟩
theorem RpO.wide {w : World} {B B' T T' : Nat} {a : LAd} {A : Option Addr} {c : Nat} {ps : List VtE} {r : Rp} (h : RpO w B T a A c ps r) (hB : B' ≤ B) (hT : T ≤ T') : RpO w B' T' a A c ps r := ⟨h.l.wide hB hT, h.v.wide hB hT, h.e, h.d⟩
set_option maxRecDepth 100000 in
set_option maxHeartbeats 4000000 in
theorem c_l6Same (a : LAd) (A : Option Addr) (c : Nat) (ps : List VtE) (r : Rp) (w : World) (hr : RpR w a A c ps r) (hs : r.log.small) (hn : ps.length ≤ 1048576) (hv : LgS ps) :
  Calls Tryz.prog 122 #[Rp.val a A ps.length c r] w fun e w' => ∃ v, e = .returned v ∧ RpW w' w.heap.size (sameR r) v ∧ Ext w w' := by
 have X0 : Ext w ((w.alloc (Rp.obj a A ps.length c r)).alloc Rp.zobj) := ext_to (ext_alloc _ _) _
 have hcon := c_sReplicaOk a A c ps r _ (hr.keep X0) hs hn hv
 have HCp := Hd (fun W (h : Ext w W) => c_l6Copy a A c ps r W (hr.keep h) hs hn hv)
 cases q : rpOk r
 ·rw [q] at hcon
  have HC := Hd hcon
  have HR := Hd (show sameR r = Rp.zero by simp [sameR, q])
  clear q hcon hr hs hv
  go_enter Tryz.func122, Tryz.ntmps122
  go_wp2_with fail
  refine HC.out.mono ?_
  rintro e w1 ⟨rfl, x1⟩
  have B2 := x1.box (hNew (w := w.alloc (Rp.obj a A ps.length c r)) (o := Rp.zobj) rfl)
  rw [sz_alloc] at B2
  have HB := Hd B2
  clear B2
  go_wp2_with (with_reducible refine wl_stopS 33 ?_)
  refine stop_store (w.heap.size + 1) #[.int .i64 0, .int .i64 0, .int .i64 0, .int .i64 0, .int .i64 0, .int .i64 0, .int .i64 0, .slice none 0 0, .slice none 0 0, .slice none 0 0, .slice none 0 0, .int .i64 0, .int .i64 0] rfl rfl HB.out (by kernel_rfl) rfl (by simp [Value.oneCell']) ?_
  intro W4 E4 C4
  have hX4 := Hd (chg_new (Ext.trans X0 x1) C4 (by omega))
  go_wp2
  refine bodyPost_ret (results_box Tryz.results122 rfl Tryz.underlying33 (by kernel_rfl) E4) rfl ⟨_, rfl, ?_, hX4.out⟩
  rw [HR.out]
  exact ⟨LAd.none, none, 0, [], rfl, RpF.none _ _ _ rfl rfl⟩
 ·rw [q] at hcon
  have HC := Hd hcon
  have HR := Hd (show sameR r = r by simp [sameR, q])
  clear q hcon hr hs hv
  go_enter Tryz.func122, Tryz.ntmps122
  go_wp2_with fail
  refine HC.out.mono ?_
  rintro e w1 ⟨rfl, x1⟩
  have b1 := bx_cell (x1.box (hOld (o := Rp.zobj) (hNew (w := w) (o := Rp.obj a A ps.length c r) rfl)))
  go_wp2_with fail
  refine (HCp.out _ (Ext.trans X0 x1)).mono ?_
  rintro e w2 ⟨a', A', c', qs, rfl, hl, hF, x2⟩
  have B2 := x2.box (x1.box (hNew (w := w.alloc (Rp.obj a A ps.length c r)) (o := Rp.zobj) rfl))
  rw [sz_alloc] at B2
  have HB := Hd B2
  have HF := Hd hF
  have hsz : w.heap.size + 1 + 1 ≤ w1.heap.size := by have := x1.size; simp only [sz_alloc] at this; omega
  have HX := Hd (Ext.trans (Ext.trans X0 x1) x2)
  clear B2 hF b1
  go_wp2_with (with_reducible refine wl_stopS 33 ?_)
  refine stop_store (w.heap.size + 1) #[.int .i64 r.me, .int .i64 r.of, .int .i64 r.mode, .int .i64 r.view, .int .i64 r.normal, .int .i64 r.commit, .int .i64 r.log.base, .slice a'.cA r.log.cells.length a'.cc, .slice a'.sA r.log.seats.length a'.sc, .slice a'.eA r.log.ents.length a'.ec, .slice A' ps.length c', .int .i64 r.cell, .int .i64 r.nonce] rfl rfl HB.out (by kernel_rfl) rfl (by simp [Value.oneCell']) ?_
  intro W4 E4 C4
  have hX4 := Hd (chg_new HX.out C4 (by omega))
  have hF4 := Hd ((HF.out.chg C4 (fun k hk => by simp only [Mi] at hk; omega)).less (show w.heap.size ≤ w1.heap.size by omega))
  clear C4
  go_wp2
  refine bodyPost_ret (results_box Tryz.results122 rfl Tryz.underlying33 (by kernel_rfl) E4) rfl ⟨_, rfl, ?_, hX4.out⟩
  rw [HR.out]
  exact ⟨a', A', c', qs, by rw [hl], hF4.out⟩
theorem RpW.chg {w w' : World} {B : Nat} {R : Rp} {v : Value} {S : List Nat} (h : RpW w B R v) (hg : Chg w w' S) (hS : ∀ k ∈ S, k < B) : RpW w' B R v := by
 obtain ⟨a, A, c, qs, hv, hF⟩ := h
 exact ⟨a, A, c, qs, hv, hF.chg hg hS⟩
theorem RpW.less {w : World} {B B' : Nat} {R : Rp} {v : Value} (h : RpW w B R v) (hB : B' ≤ B) : RpW w B' R v := by
 obtain ⟨a, A, c, qs, hv, hF⟩ := h
 exact ⟨a, A, c, qs, hv, hF.less hB⟩
theorem rpOk_facts {r : Rp} (h : rpOk r = true) : (r.of = 1 ∨ r.of = 3 ∨ r.of = 5) ∧ 0 ≤ r.nonce ∧ r.nonce ≤ 1000000000 ∧ 0 ≤ r.me ∧ r.me < r.of := by
 unfold rpOk inB ofB at h
 simp only [Bool.and_eq_true, Bool.or_eq_true, decide_eq_true_eq, beq_iff_eq] at h
 omega
def Rp.waked (r : Rp) : Rp := ⟨r.me, r.of, 3, r.view, r.normal, r.commit, r.log, r.votes, r.cell, r.nonce + 1⟩
def askM (r : Rp) : Mg := ⟨8, r.me, 0, 0, 0, 0, r.nonce + 1, 0, 0, 0, 0, 0, 0, Lg.none⟩
def wakes (r : Rp) : Bool := (r.mode == 0) && decide (r.nonce < 1000000000)
def restR (r : Rp) : Rp := if rpOk r = true then (if wakes r = true then r.waked else r) else Rp.zero
def restO (r : Rp) : List Ot := if rpOk r = true then (if wakes r = true then allTo r.me (askM r) r.of.toNat else []) else []
theorem OsO.chg {w w' : World} {B T : Nat} {A : Option Addr} {c : Nat} {ps : List OtE} {S : List Nat} (h : OsO w B T A c ps) (hg : Chg w w' S) (hne : ∀ k, k ∈ blk A ++ ps.flatMap (fun p => p.1.fp) → k ∉ S) : OsO w' B T A c ps :=
 ⟨h.r.chg hg (fun k hk => hne k (List.mem_append_left _ hk)), fun p hp => (h.l p hp).chg hg (fun k hk => hne k (List.mem_append_right _ (List.mem_flatMap.2 ⟨p, hp, hk⟩))), h.nd, h.top⟩
theorem OsO.low {w : World} {B T : Nat} {A : Option Addr} {c : Nat} {ps : List OtE} (h : OsO w B T A c ps) : ∀ k ∈ blk A ++ ps.flatMap (fun p => p.1.fp), B ≤ k := fun k hk => by
 rcases List.mem_append.1 hk with hk | hk
 ·exact (h.r.inB k hk).1
 ·obtain ⟨p, hp, hk⟩ := List.mem_flatMap.1 hk
  exact (h.l p hp).low k hk
theorem OsO.wide {w : World} {B B' T T' : Nat} {A : Option Addr} {c : Nat} {ps : List OtE} (h : OsO w B T A c ps) (hB : B' ≤ B) (hT : T ≤ T') : OsO w B' T' A c ps :=
 ⟨h.r.less hB, fun p hp => (h.l p hp).wide hB hT, h.nd, fun k hk => by have := h.top k hk; omega⟩
theorem OsO.nil (w : World) (B T : Nat) : OsO w B T none 0 [] := ⟨World.ownsRow_nil _ _ _ _, by simp, by simp [blk], by simp [blk]⟩
theorem RpO.chgAny {w w' : World} {B T : Nat} {a : LAd} {A : Option Addr} {c : Nat} {ps : List VtE} {r : Rp} {S : List Nat} (h : RpO w B T a A c ps r) (hg : Chg w w' S) (hne : ∀ k, B ≤ k → k < T → k ∉ S) : RpO w' B T a A c ps r :=
 ⟨h.l.chg hg (fun k hk => hne k (h.fpIn k (List.mem_append_left _ hk)).1 (h.fpIn k (List.mem_append_left _ hk)).2), h.v.chg hg (fun k hk => hne k (h.fpIn k (List.mem_append_right _ hk)).1 (h.fpIn k (List.mem_append_right _ hk)).2), h.e, h.d⟩
theorem chg_alloc2 (w : World) (o1 o2 : Obj) : Chg (w.alloc o1) (w.alloc o2) [w.heap.size] := ⟨rfl, rfl, rfl, by simp, fun k hk hn => by
 have hk' : k < w.heap.size := by
  rw [sz_alloc] at hk
  rw [Mi] at hn
  omega
 rw [heap_alloc_old _ _ hk', heap_alloc_old _ _ hk']⟩
def RoX (w : World) (B : Nat) (R : Rp) (O : List Ot) (V : Value) : Prop := ∃ a A c qs Ao co os M, V = .tuple #[Rp.val a A (List.length qs) c R, .slice Ao (List.length os) co] ∧ RpO w B M a A c qs R ∧ OsO w M w.heap.size Ao co os ∧ List.map Prod.snd os = O ∧ B ≤ M ∧ M ≤ w.heap.size
theorem results_box2 {P : Program} {fn : Func} {tmps : Array Value} {w : World} {p k j : Nat} {v : Value} {cs : Array Value} {t T : TypeId} {fs : Array Field} (hr : fn.results = #[.cell k t, .tmp j]) (ht : tmps[k]? = some (.pointer (some ⟨p, 0, none⟩))) (hj : tmps[j]? = some v)
  (hu : P.underlying t = some (.struct fs)) (hie : (P.info? t).map (·.size) = some cs.size) (hb : w.heap[p]? = some (.cells cs T (0, 0))) : (results fn tmps).run P w = .ok (.tuple #[.agg cs, v]) w := by
 have h1 := run_loadCells_list (P := P) w ⟨p, 0, none⟩ cs.toList (fun j v h => by rw [Addr.add_lit, Nat.zero_add, bx_cell hb j]; simpa using h)
 obtain ⟨ie, hie, hs⟩ := Option.map_eq_some_iff.1 hie
 rw [Array.length_toList] at h1
 have hagg := isAgg_struct hu w
 have hti : (typeInfo t).run P w = .ok ie w := by simp [typeInfo, hie, go_sem]
 have hload : (loadVar t ⟨p, 0, none⟩).run P w = .ok (.agg cs) w := by
  simp [loadVar, hagg, sizeOf, hti, hs, h1, Result.andThen]
 simp [results, hr, ht, hj, asAddr, hload]
abbrev Rp.cs (a : LAd) (A : Option Addr) (n c : Nat) (r : Rp) : Array Value := #[.int .i64 r.me, .int .i64 r.of, .int .i64 r.mode, .int .i64 r.view, .int .i64 r.normal, .int .i64 r.commit, .int .i64 r.log.base, .slice a.cA r.log.cells.length a.cc, .slice a.sA r.log.seats.length a.sc, .slice a.eA r.log.ents.length a.ec, .slice A n c, .int .i64 r.cell, .int .i64 r.nonce]
theorem LgF.besideO {w w' : World} {B B' : Nat} {a : LAd} {l : Lg} {A : Option Addr} {n c : Nat} {qs : List OtE} (h : LgF w B a l) (k : Ow OtE.enc 47 18 w B' (.slice A n c) qs) (hg : Chg w w' (blk A)) : LgF w' B a l :=
 ⟨h.c.chg Cel.len hg (fun hl x hx => (h.c.2 hl).apart k (by decide) x hx), h.s.chg Sea.len hg (fun hl x hx => (h.s.2 hl).apart k (by decide) x hx), h.e.chg Ent.len hg (fun hl x hx => (h.e.2 hl).apart k (by decide) x hx)⟩
theorem LgF.chg1 {w w' : World} {B g : Nat} {a : LAd} {l : Lg} (h : LgF w B a l) (hg : Chg w w' [g]) (hlt : g < B) : LgF w' B a l := h.chg hg (fun k hk => by rw [Mi] at hk; omega)
def OsF (w : World) (B : Nat) (os : List OtE) : Prop := ∀ p ∈ os, LgF w B p.1 p.2.msg.log
set_option maxRecDepth 100000 in
set_option maxHeartbeats 4000000 in
theorem c_l6All (a : LAd) (A : Option Addr) (n c : Nat) (r : Rp) (am : LAd) (m : Mg) (w : World) (N : Nat) (hN : r.of = (N : Int)) (hN10 : N ≤ 10) (hm : LgR w am m.log) (hs : m.log.small) :
  Calls Tryz.prog 124 #[Rp.val a A n c r, Mg.val am m] w fun e w' => ∃ A' c' os, e = .returned (.slice A' (List.length os) c') ∧ List.map Prod.snd os = allTo r.me m N ∧ Ow OtE.enc 47 18 w' w.heap.size (.slice A' (List.length os) c') os ∧ OsF w' w.heap.size os ∧ Ext w w' := by
 obtain ⟨i0, hi, hz0, hz1, hz2⟩ := info_parts Tryz.infoOt
 have X0 : Ext w ((w.alloc (Rp.obj a A n c r)).alloc (Mg.obj am m)) := ext_to (ext_alloc _ _) _
 have HX0 := Hd X0
 have HM := Hd hm
 have HN := Hd hN
 have D1 := Hd (hOld (o := Mg.obj am m) (hNew (w := w) (o := Rp.obj a A n c r) rfl))
 have D2 := hNew (w := w.alloc (Rp.obj a A n c r)) (o := Mg.obj am m) rfl
 rw [sz_alloc] at D2
 have HD2 := Hd D2
 clear X0 hm hN D2
 go_enter Tryz.func124, Tryz.ntmps124
 go_wp2
 go_loopw [5, 6] (fun v i wr => ∃ (k : Nat) (os : List OtE), k ≤ N ∧ i = .int .i64 k ∧ List.map Prod.snd os = allTo r.me m k ∧ Ow OtE.enc 47 18 wr (w.heap.size + 1 + 1) v os ∧ OsF wr (w.heap.size + 1 + 1) os ∧ Ext ((w.alloc (Rp.obj a A n c r)).alloc (Mg.obj am m)) wr) (fun _ i _ => N - (intOf i).toNat)
 case atStart => exact ⟨0, [], Nat.zero_le _, rfl, rfl, own_empty (hNew (by simp)) (by simp), fun p hp => (List.not_mem_nil hp).elim, ext_alloc _ _⟩
 case round =>
  obtain ⟨k, os, hkN, rfl, hos, ho, hF, X⟩ := hrel
  obtain ⟨A1, c1, rfl⟩ := ho.form
  have HOS := Hd hos
  have HO := Hd ho
  have HF := Hd hF
  have hl' : os.length ≤ k := by
   have h1 := congrArg List.length hos
   rw [List.length_map] at h1
   have := allTo_len r.me m k
   omega
  have E1 := Hd (X.box D1.out)
  have E2 := Hd (X.box HD2.out)
  have b1 := bx_cell E1.out
  have z1 := bx_lt E1.out
  have hsz := X.size
  simp only [sz_alloc] at hsz
  have HX := Hd X
  clear ho hF hos X
  by_cases hlt : k < N
  ·have hg : decide ((k : Int) < r.of) = true := by have := HN.out; simp; omega
   cases hb : ((k : Int) != r.me)
   ·have HN' := Hd (HOS.out.trans (allTo_no hb).symm)
    go_wp2
    go_roundw
    case rel => exact ⟨k + 1, os, by omega, by go_num, HN'.out, HO.out, HF.out, HX.out⟩
    case measure => simp [intOf] <;> omega
   ·(go_wp2_with (with_reducible refine wl_stop 19 ?_); refine stop_load (E2.out) rfl Tryz.underlying45 (by kernel_rfl) ?_; simp only [Act.put, Sa, Sz, Ss])
    have Z := Hd (hNew (w := wr) (o := Mg.zobj) rfl)
    (go_wp2_with (with_reducible refine wl_stopS 45 ?_); refine stop_store (wr.heap.size) (Mg.cs am m) rfl rfl (Z.out) (by kernel_rfl) rfl (by simp [Value.oneCell']) ?_)
    intro W3 e3 k3
    have x3 := chg_new (ext_alloc wr Mg.zobj) k3 (Nat.le_refl _)
    have E3 := Hd e3
    have F2 := Hd (x3.box E2.out)
    have HX3 := Hd x3
    have hs3 := bx_lt e3
    clear b1 z1 e3 k3 x3 Z
    have f2 := bx_cell F2.out
    have y2 := bx_lt F2.out
    go_wp2_with fail
    refine (c_l3Copy am m.log hs W3 (HM.out.keep (Ext.trans HX0.out (Ext.trans HX.out HX3.out)))).mono ?_
    rintro e w4 ⟨a4, rfl, o4, x4⟩
    have G3 := x4.box E3.out
    have g3 := bx_cell G3
    have h3 := bx_frozen G3
    have y3 := bx_lt G3
    have P3 := box_put (box_put (box_put (box_put G3 13 (.int .i64 m.log.base)) 14 (.slice a4.cA m.log.cells.length a4.cc)) 15 (.slice a4.sA m.log.seats.length a4.sc)) 16 (.slice a4.eA m.log.ents.length a4.ec)
    simp only [Sa, Sz, Ss] at P3
    have hcs := chg_set (chg_set (chg_set (chg_set (Chg.refl w4 [wr.heap.size]) (p := ⟨wr.heap.size, 13, none⟩) (by simp) (.int .i64 m.log.base)) (p := ⟨wr.heap.size, 14, none⟩) (by simp) (.slice a4.cA m.log.cells.length a4.cc)) (p := ⟨wr.heap.size, 15, none⟩) (by simp) (.slice a4.sA m.log.seats.length a4.sc)) (p := ⟨wr.heap.size, 16, none⟩) (by simp) (.slice a4.eA m.log.ents.length a4.ec)
    have x34 := Ext.trans HX3.out x4
    have HP3 := Hd P3
    have HL4 := Hd ((o4.less (B' := wr.heap.size + 1) (by omega)).chg1 hcs (by omega))
    have HX5 := Hd (chg_new x34 hcs (Nat.le_refl _))
    clear f2 y2 G3 P3 hcs x34 x4 o4
    go_wp2_with (with_reducible refine wl_stop 26 ?_)
    refine stop_go (F := fun W => W.heap[wr.heap.size]? = some (Mg.obj a4 m) ∧ LgF W (wr.heap.size + 1) a4 m.log ∧ Ext wr W) ⟨HP3.out, HL4.out, HX5.out⟩ ?_
    intro W6 ⟨E6, L6, X6⟩
    have HE6 := Hd E6
    have HR6 := Hd (HO.out.kept X6)
    have HF6 := Hd (show OsF W6 (w.heap.size + 1 + 1) (os ++ [(a4, (⟨k, m⟩ : Ot))]) from fun p hp => by
     rcases List.mem_append.1 hp with hp | hp
     ·exact (HF.out p hp).keep X6
     ·rw [Mi] at hp
      subst hp
      exact L6.less (by omega))
    have HX6 := Hd (Ext.trans HX.out X6)
    have hs6 := X6.size
    clear g3 h3 y3 E6 L6 X6 HL4 HP3 HX5
    refine stop_load (HE6.out) rfl Tryz.underlying45 (by kernel_rfl) ?_
    simp only [Act.put, Sa, Sz, Ss]
    go_wp2_with (at_builtin; refine wl_app (enc := OtE.enc) rfl _ _ 38 rfl (w.heap.size + 1 + 1) 47 i0 Ot.zero 18 192 Tryz.underlying38 hi hz0 hz1 hz2 rfl (by decide) OtE.len OtE.one (.slice A1 os.length c1) os rfl (HR6.out.kept (ext_alloc _ _)) (some ⟨W6.heap.size, 0, none⟩) 1 [(a4, (⟨k, m⟩ : Ot))] 1 rfl rfl (Rd.one (hNew rfl) rfl) ?c1 ?c2 ?c3 ?_)
    case c1 => unfold maxLen; simp; omega
    case c2 => simp; omega
    case c3 => simp; omega
    intro v' w7 ho7 hg7
    have c7 := chg_grown hg7
    have HX7 := Hd (ext_chg (ext_to HX6.out (.cells (OtE.cells a4 ⟨k, m⟩) 47)) c7 (fun g hg => by have := (HR6.out.inB g hg).1; simp only [sz_alloc]; omega))
    have HF7 := Hd (show OsF w7 (w.heap.size + 1 + 1) (os ++ [(a4, (⟨k, m⟩ : Ot))]) from fun p hp => ((HF6.out p hp).keep (ext_alloc _ (.cells (OtE.cells a4 ⟨k, m⟩) 47))).besideO (HR6.out.kept (ext_alloc _ _)) c7)
    have HO7 := Hd ho7
    have HN' := Hd (show List.map Prod.snd (os ++ [(a4, (⟨k, m⟩ : Ot))]) = allTo r.me m (k + 1) by rw [allTo_yes hb, ← HOS.out]; simp)
    clear ho7 hg7 c7
    go_wp2
    go_roundw
    case rel => exact ⟨k + 1, _, by omega, by go_num, HN'.out, HO7.out, HF7.out, HX7.out⟩
    case measure => simp [intOf] <;> omega
  ·obtain rfl : k = N := by omega
   have hg : decide ((k : Int) < r.of) = false := by have := HN.out; simp; omega
   go_wp2
   go_ret
   exact ⟨A1, c1, os, rfl, HOS.out, HO.out.less (by omega), fun p hp => (HF.out p hp).less (by omega), Ext.trans HX0.out HX.out⟩
theorem OsR.nil (w : World) : OsR w none 0 [] := ⟨⟨Nat.le_refl _, by unfold maxLen; omega, fun h => absurd h (by simp)⟩, by simp⟩
def OsV (B : Nat) (O : List Ot) (v : Value) (W : World) : Prop := ∃ A c os, v = .slice A (List.length os) c ∧ List.map Prod.snd os = O ∧ Ow OtE.enc 47 18 W B (.slice A (List.length os) c) os ∧ OsF W B os
theorem OsV.mono (B : Nat) (O : List Ot) (p : Nat) (obj : Obj) (hp : p < B) : Rm.Mono (relS p obj B hp) (OsV B O) := fun v w w' ⟨A, c, os, h1, h2, h3, h4⟩ hx =>
 ⟨A, c, os, h1, h2, h3.chg hx.1 (fun k hk hm => by rw [Mi] at hm; have := (h3.inB k hk).1; omega), fun q hq => (h4 q hq).chg1 hx.1 hp⟩
theorem LgF.boxed {w w' : World} {B : Nat} {a : LAd} {l : Lg} {p : Nat} {cs : Array Value} {t : TypeId} (h : LgF w B a l) (hb : w.heap[p]? = some (.cells cs t (0, 0))) (h1 : t ≠ 101) (h2 : t ≠ 103) (h3 : t ≠ 70) (hg : Chg w w' [p]) : LgF w' B a l :=
 ⟨h.c.chg Cel.len hg (fun hl x hx hm => by rw [Mi] at hm; rw [hm] at hx; exact box_apart hb (h.c.2 hl) h1 hx),
  h.s.chg Sea.len hg (fun hl x hx hm => by rw [Mi] at hm; rw [hm] at hx; exact box_apart hb (h.s.2 hl) h2 hx),
  h.e.chg Ent.len hg (fun hl x hx hm => by rw [Mi] at hm; rw [hm] at hx; exact box_apart hb (h.e.2 hl) h3 hx)⟩
theorem RpF.boxed {w w' : World} {B : Nat} {a : LAd} {A : Option Addr} {c : Nat} {ps : List VtE} {r : Rp} {p : Nat} {cs : Array Value} (h : RpF w B a A c ps r) (hb : w.heap[p]? = some (.cells cs 33 (0, 0))) (hg : Chg w w' [p]) : RpF w' B a A c ps r :=
 ⟨h.l.boxed hb (by decide) (by decide) (by decide) hg, h.v.chg VtE.len hg (fun hl x hx hm => by rw [Mi] at hm; rw [hm] at hx; exact box_apart hb (h.v.2 hl) (by decide) hx), fun q hq => (h.vl q hq).boxed hb (by decide) (by decide) (by decide) hg, h.e⟩
end Go.Proofs.YtkmkchfjnhnacaaGreat
