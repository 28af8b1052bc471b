/- GroupAgree of the reference and of the program. -/
import Derived.Test.YtmphedkbdlckhaaGreatPk19
import Derived.Test.YtmphedkbdlckhaaGreatPk32
import Derived.Test.YtmphedkbdlckhaaGreatPk37
import Derived.RegionTactic
import Derived.BigRegion
import Derived.Deep.CutRange
namespace Go.Proofs.YtmphedkbdlckhaaGreat
open Go.ChangeShapes Go.WideShapes Go.ChangeAt Go.RowKit Go.Sort
set_option linter.unusedVariables false
set_option linter.unusedSimpArgs false
def imgAt (l : Lg) (n : Int) : List Cel × List Sea := allI (l.cells, l.seats) (l.ents.take (n - l.base).toNat)
def sameI (x y : List Cel × List Sea) : Bool := eqB x.1 y.1 && eqB x.2 y.2
def disB (a b : Rp) : Bool := upB a && (upB b && (!decide (min a.commit b.commit < a.log.base) && (!decide (min a.commit b.commit < b.log.base) && !sameI (imgAt a.log (min a.commit b.commit)) (imgAt b.log (min a.commit b.commit)))))
def dis (q p : RpE) : Bool := disB q.r p.r
def AgTo (l : List RpE) (k : Nat) : Prop := ∀ i (h : i < l.length), i < k → (l.take i).any (dis l[i]) = false
theorem AgTo.zero (l : List RpE) : AgTo l 0 := fun i _ h => absurd h (by omega)
theorem AgTo.next {l : List RpE} {k : Nat} (h : AgTo l k) (hk : k < l.length) (h1 : (l.take k).any (dis l[k]) = false) : AgTo l (k + 1) := fun j hj hjk => by
 by_cases he : j = k
 ·subst he; exact h1
 ·exact h j hj (by omega)
def gpAgree (g : Gp) : Bool := gpOk g && decide (∀ i (h : i < (asE g.reps).length), ((asE g.reps).take i).any (dis (asE g.reps)[i]) = false)
theorem gpAgree_no {g : Gp} (h : gpOk g = false) : gpAgree g = false := by simp [gpAgree, h]
theorem dis_congr {ps qs : List RpE} (h : ps.map RpE.r = qs.map RpE.r) (i : Nat) (h1 : i < ps.length) (h2 : i < qs.length) : (ps.take i).any (dis ps[i]) = (qs.take i).any (dis qs[i]) := by
 have he : ps[i].r = qs[i].r := by
  have := congrArg (fun l => l[i]?) h
  simpa [h1, h2] using this
 have e : ∀ (x : RpE) (l : List RpE), l.any (dis x) = (l.map RpE.r).any (disB x.r) := fun x l => by rw [List.any_map]; rfl
 rw [e, e, he, List.map_take, List.map_take, h]
theorem gpAgree_bad {qs : List RpE} {g : Gp} (he : qs.map RpE.r = g.reps) {k : Nat} (hk : k < qs.length) (h : (qs.take k).any (dis qs[k]) = true) : gpAgree g = false := by
 unfold gpAgree
 rw [Bool.and_eq_false_iff]
 have hl : (asE g.reps).length = qs.length := by rw [← he]; simp [asE]
 have h2 := dis_congr ((asE_r g.reps).trans he.symm) k (by omega) hk
 exact .inr (decide_eq_false fun hp => by have := hp k (by omega); rw [h2, h] at this; cases this)
theorem gpAgree_yes {qs : List RpE} {g : Gp} (he : qs.map RpE.r = g.reps) (h : gpOk g = true) (h2 : AgTo qs qs.length) : gpAgree g = true := by
 unfold gpAgree
 rw [h, Bool.true_and]
 have hl : (asE g.reps).length = qs.length := by rw [← he]; simp [asE]
 refine decide_eq_true fun i hi => ?_
 rw [dis_congr ((asE_r g.reps).trans he.symm) i hi (by omega)]
 exact h2 i (by omega) (by omega)
theorem any_hit_a {α : Type} {l : List α} {p : α → Bool} {k i : Nat} (hk : k < l.length) (hi : k < i) (hs : p l[k] = true) : (l.take i).any p = true := by
 rw [List.any_eq_true]
 exact ⟨l[k], by rw [List.mem_take_iff_getElem]; exact ⟨k, by omega, rfl⟩, hs⟩
theorem gp_rep {qs : List RpE} {g : Gp} (he : qs.map RpE.r = g.reps) (h : gpOk g = true) {k : Nat} (hk : k < qs.length) : logOk qs[k].r.log = true ∧ qs[k].r.log.base ≤ qs[k].r.commit ∧ qs[k].r.commit ≤ qs[k].r.log.fin ∧ 0 ≤ qs[k].r.log.base ∧ qs[k].r.log.fin ≤ 1000000000 := by
 obtain ⟨h1, h2⟩ := gp_at he hk
 have h3 := ((gpOk_p h).2.2.2.2.1 k h1).1
 rw [h2] at h3
 have h4 : hasNum qs[k].r.log qs[k].r.commit = true := by unfold rpOk at h3; simp only [Bool.and_eq_true] at h3; exact h3.1.1.1.2
 obtain ⟨h5, h6, h7⟩ := hasNum_ok h4
 obtain ⟨b0, b1, b2, _, _⟩ := log_b h5
 exact ⟨h5, h6, h7, b0, by unfold Lg.fin; omega⟩
def ImV (I : List Cel × List Sea) (v : Value) (w : World) : Prop := ∃ A c B d, v = .agg #[.slice A I.1.length c, .slice B I.2.length d] ∧ Rd Cel.enc 2 w A c I.1 ∧ Rd Sea.enc 3 w B d I.2
theorem ImV.mono (I : List Cel × List Sea) : Mono (ImV I) := fun v w w' ⟨A, c, B, d, h, h1, h2⟩ hx => ⟨A, c, B, d, h, h1.keep hx, h2.keep hx⟩
theorem imgAt_len {l : Lg} (h : logOk l = true) (n : Int) : (imgAt l n).1.length ≤ 1048576 ∧ (imgAt l n).2.length ≤ 1048576 := by
 obtain ⟨_, _, _, hI, hA⟩ := log_b h
 have h1 : ImgP (imgAt l n) := hI.all (fun e he => hA e (List.mem_of_mem_take he))
 have h2 : (imgAt l n).1.length ≤ 40 := h1.c.len
 have h3 : (imgAt l n).2.length ≤ 10 := h1.s.len
 omega
theorem c_sImgAt (a : LAd) (l : Lg) (n : Int) (w : World) (hr : LgR w a l) (hok : logOk l = true) (h1 : l.base ≤ n) (h2 : n ≤ l.fin) :
  Calls Tryz.prog 51 #[Lg.val a l, .int .i64 n] w fun e w' => (∃ v, e = .returned (.tuple #[v, .bool true]) ∧ ImV (imgAt l n) v w') ∧ Ext w w' := by
 obtain ⟨j, hj, hjl⟩ : ∃ j : Nat, n = l.base + (j : Int) ∧ j ≤ l.ents.length := ⟨(n - l.base).toNat, by omega, by unfold Lg.fin at h2; omega⟩
 have h := c_sLogImage a l j w hr hok hjl
 have he : (n - l.base).toNat = j := by omega
 unfold imgAt
 rw [he, hj]
 refine h.mono ?_
 rintro e w1 ⟨⟨A, c, A', c', rfl, r1, r2⟩, x⟩
 exact ⟨⟨_, rfl, A, c, A', c', rfl, r1.1, r2.1⟩, x⟩
theorem c_iImgAt (a : LAd) (l : Lg) (n : Int) (w : World) (hr : LgR w a l) (hok : logOk l = true) (h1 : l.base ≤ n) (h2 : n ≤ l.fin) :
  Calls Tryz.prog 54 #[Lg.val a l, .int .i64 n] w fun e w' => ∃ v, e = .returned v ∧ ImV (imgAt l n) v w' ∧ Ext w w' := by
 obtain ⟨j, hj, hjl⟩ : ∃ j : Nat, n = l.base + (j : Int) ∧ j ≤ l.ents.length := ⟨(n - l.base).toNat, by omega, by unfold Lg.fin at h2; omega⟩
 have h := c_image a l j w hr hok hjl
 have he : (n - l.base).toNat = j := by omega
 unfold imgAt
 rw [he, hj]
 refine h.mono ?_
 rintro e w1 ⟨⟨A, c, A', c', rfl, r1, r2⟩, x⟩
 exact ⟨_, rfl, ⟨A, c, A', c', rfl, (r1.rd Cel.len).2, (r2.rd Sea.len).2⟩, x⟩
theorem c_iSameV (I J : List Cel × List Sea) (h1 : I.1.length ≤ 1048576 ∧ I.2.length ≤ 1048576) (h2 : J.1.length ≤ 1048576 ∧ J.2.length ≤ 1048576) (v u : Value) (w : World) (hv : ImV I v w) (hu : ImV J u w) : Calls Tryz.prog 53 #[v, u] w fun e w' => e = .returned (.bool (sameI I J)) ∧ Ext w w' := by
 obtain ⟨A, c, B, d, rfl, r1, r2⟩ := hv
 obtain ⟨A', c', B', d', rfl, r3, r4⟩ := hu
 exact c_iSameImage A B A' B' c d c' d' I.1 J.1 I.2 J.2 w r1 r2 r3 r4 h1.1 h1.2 h2.1 h2.2
set_option maxRecDepth 100000 in
set_option maxHeartbeats 16000000 in
theorem c_iGroupAgree (a : GAd) (qs : List RpE) (g : Gp) (w : World) (hr : GpR w a qs g) (hs : RpsS qs) (hm : FlsM g.fls) (hn : qs.length ≤ 1048576) (hf : g.fls.length ≤ 1048576) (hy : g.rys.length ≤ 1048576) :
  Calls Tryz.prog 20 #[Gp.val a qs.length g] w fun e w' => e = .returned (.bool (gpAgree g)) ∧ Ext w w' := by
 have X0 := ext_alloc w (Gp.obj a qs.length g)
 have hcon := c_iGroupOk a qs g _ (hr.keep X0) hs hm hn hf hy
 have HE := Hd hr.e
 have HR := Hd hr.r
 clear hr hs hm
 cases q : gpOk g
 ·rw [q] at hcon
  have HC := Hd hcon
  have HN := Hd (gpAgree_no q)
  clear hcon q
  go_enter Tryz.func20, Tryz.ntmps20
  go_wp2_with fail
  refine HC.out.mono ?_
  rintro e w1 ⟨rfl, x1⟩
  go_wp2
  go_ret
  exact ⟨ret_bool HN.out.symm, Ext.trans X0 x1⟩
 ·rw [q] at hcon
  have HC := Hd hcon
  have HY := Hd (fun h => gpAgree_yes HE.out q h)
  have HOf := Hd (gpOk_len HE.out q)
  have HRp := Hd (fun (k : Nat) (h : k < qs.length) => gp_rep HE.out q h)
  clear hcon q
  go_enter Tryz.func20, Tryz.ntmps20
  go_wp2_with fail
  refine HC.out.mono ?_
  rintro e w1 ⟨rfl, x1⟩
  have b1 := bx_cell (x1.box (hNew (w := w) (o := Gp.obj a qs.length g) rfl))
  go_wp2
  clear b1
  go_loopw [14] (fun i wr => ∃ k : Nat, k ≤ qs.length ∧ i = .int .i64 k ∧ AgTo qs k ∧ Ext (w.alloc (Gp.obj a qs.length g)) wr) (fun i _ => qs.length - (intOf i).toNat)
  case atStart => exact ⟨0, Nat.zero_le _, rfl, AgTo.zero _, x1⟩
  case round =>
   obtain ⟨k, hk, rfl, ht, hx3⟩ := hrel
   have HT := Hd ht
   clear ht
   have B3 := hx3.box (hNew (w := w) (o := Gp.obj a qs.length g) rfl)
   have b3 := bx_cell B3
   have z3 := bx_lt B3
   have X3 := Ext.trans X0 hx3
   by_cases hlt : k < qs.length
   ·obtain ⟨ab, ao, hA, hab, a0, a1, a2, a3, a4, a5, a6, a7, a8, a9, a10, a11, a12⟩ := (HR.out.1.keep X3).atRpE hlt
    have hcc := HR.out.1.1
    have hcm := HR.out.1.2.1
    unfold maxLen at hcm
    have hab1 : ¬ ab = wr.heap.size := by omega
    have hab2 : ab < wr.heap.size + 1 := by omega
    dsimp only [Gp.cs] at b3
    rw [hA] at b3
    try rw [hA]
    have HA := Hd hA
    clear hA
    have hzk := hx3.size
    simp only [sz_alloc] at hzk
    have HX4 := Hd (show Ext (w.alloc (Gp.obj a qs.length g)) (wr.alloc (Rp.obj qs[k].a qs[k].A qs[k].ps.length qs[k].c qs[k].r)) from ext_to hx3 _)
    have HB4 := Hd (hNew (w := wr) (o := (Rp.obj qs[k].a qs[k].A qs[k].ps.length qs[k].c qs[k].r)) rfl)
    go_wp2
    clear b3 z3 B3 X3 hx3 hab1 hab2 a0 a1 a2 a3 a4 a5 a6 a7 a8 a9 a10 a11 a12
    obtain ⟨P, hP⟩ : ∃ P, wr.heap.size = P := ⟨_, rfl⟩
    rw [hP] at HB4 ⊢
    have hPw : w.heap.size < P := by omega
    clear hP hzk
    obtain ⟨wo, hwo⟩ : ∃ wo : World, wo = wr := ⟨_, rfl⟩
    go_loopw [24] (fun i wr2 => ∃ j : Nat, j ≤ k ∧ i = .int .i64 j ∧ (qs.take j).any (dis qs[k]) = false ∧ Ext (w.alloc (Gp.obj a qs.length g)) wr2 ∧ wr2.heap[P]? = some (Rp.obj qs[k].a qs[k].A qs[k].ps.length qs[k].c qs[k].r)) (fun i _ => k - (intOf i).toNat)
    case atStart => exact ⟨0, Nat.zero_le _, rfl, rfl, HX4.out, HB4.out⟩
    case round =>
     obtain ⟨j, hj, rfl, ht, hx3, hbP⟩ := hrel
     have HJ := Hd ht
     have HBP := Hd hbP
     have bP := bx_cell hbP
     have zP := bx_lt hbP
     clear ht hbP
     have X3 := Ext.trans X0 hx3
     by_cases hjl : j < k
     ·have hjl2 : j < qs.length := by omega
      obtain ⟨bb, bo, hB, hbb, c0, c1, c2, c3, c4, c5, c6, c7, c8, c9, c10, c11, c12⟩ := (HR.out.1.keep X3).atRpE hjl2
      rw [HA.out] at hB
      obtain ⟨rfl, rfl⟩ : ab = bb ∧ ao = bo := by simpa using hB
      clear hB
      have hab1 : ¬ ab = wr.heap.size := by omega
      have hab2 : ab < wr.heap.size + 1 := by omega
      have hP1 : ¬ P = wr.heap.size := by omega
      have hP2 : P < wr.heap.size + 1 := by omega
      have HX5 := Hd (show Ext (w.alloc (Gp.obj a qs.length g)) (wr.alloc (Rp.obj qs[j].a qs[j].A qs[j].ps.length qs[j].c qs[j].r)) from ext_to hx3 _)
      have HB5 := Hd (hNew (w := wr) (o := (Rp.obj qs[j].a qs[j].A qs[j].ps.length qs[j].c qs[j].r)) rfl)
      have HBP5 := Hd (hOld (o := (Rp.obj qs[j].a qs[j].A qs[j].ps.length qs[j].c qs[j].r)) HBP.out)
      have hra := HRp.out k hlt
      have hrb := HRp.out j hjl2
      obtain ⟨n, hn'⟩ : ∃ n, min qs[k].r.commit qs[j].r.commit = n := ⟨_, rfl⟩
      have hn0 : n ≤ qs[k].r.commit ∧ n ≤ qs[j].r.commit := by omega
      have HD := Hd (show disB qs[k].r qs[j].r = (upB qs[k].r && (upB qs[j].r && (!decide (n < qs[k].r.log.base) && (!decide (n < qs[j].r.log.base) && !sameI (imgAt qs[k].r.log n) (imgAt qs[j].r.log n))))) by unfold disB; rw [hn'])
      have h1 := c_isUp qs[k].a qs[k].A qs[k].ps.length qs[k].c qs[k].r
      have h2 := c_isUp qs[j].a qs[j].A qs[j].ps.length qs[j].c qs[j].r
      have H1 := Hd h1
      have H2 := Hd h2
      clear h1 h2
      cases p1 : upB qs[k].r
      ·have HN := Hd (any_next hjl2 HJ.out (show dis qs[k] qs[j] = false by show disB _ _ = false; rw [HD.out, p1]; rfl))
       rw [p1] at H1
       go_wp2_with fail
       refine (H1.out _).mono ?_
       rintro e w4 ⟨rfl, x4⟩
       have cP := bx_cell (x4.box HBP5.out)
       have cB := bx_cell (x4.box HB5.out)
       go_wp2
       go_roundw
       case rel => exact ⟨j + 1, by omega, by go_num, HN.out, Ext.trans HX5.out x4, x4.box HBP5.out⟩
       case measure => simp [intOf] <;> omega
      ·cases p2 : upB qs[j].r
       ·have HN := Hd (any_next hjl2 HJ.out (show dis qs[k] qs[j] = false by show disB _ _ = false; rw [HD.out, p1, p2]; rfl))
        rw [p1] at H1
        rw [p2] at H2
        go_wp2_with fail
        refine (H1.out _).mono ?_
        rintro e w4 ⟨rfl, x4⟩
        have cP := bx_cell (x4.box HBP5.out)
        have cB := bx_cell (x4.box HB5.out)
        go_wp2_with fail
        refine (H2.out _).mono ?_
        rintro e w5 ⟨rfl, x5⟩
        have dP := bx_cell ((Ext.trans x4 x5).box HBP5.out)
        have dB := bx_cell ((Ext.trans x4 x5).box HB5.out)
        have zP5 := bx_lt ((Ext.trans x4 x5).box HBP5.out)
        have zB5 := bx_lt ((Ext.trans x4 x5).box HB5.out)
        clear cP cB
        go_wp2
        go_roundw
        case rel => exact ⟨j + 1, by omega, by go_num, HN.out, Ext.trans HX5.out (Ext.trans x4 x5), (Ext.trans x4 x5).box HBP5.out⟩
        case measure => simp [intOf] <;> omega
       ·cases p3 : decide (n < qs[k].r.log.base)
        ·cases p4 : decide (n < qs[j].r.log.base)
         ·have n1 : qs[k].r.log.base ≤ n := by simpa using p3
          have n2 : qs[j].r.log.base ≤ n := by simpa using p4
          have HI1 := Hd (fun W (h : Ext (w.alloc (Gp.obj a qs.length g)) W) => c_iImgAt qs[k].a qs[k].r.log n W (((HR.out.keep (Ext.trans X0 h)).2 _ (List.getElem_mem hlt)).l) hra.1 n1 (by omega))
          have HI2 := Hd (fun W (h : Ext (w.alloc (Gp.obj a qs.length g)) W) => c_iImgAt qs[j].a qs[j].r.log n W (((HR.out.keep (Ext.trans X0 h)).2 _ (List.getElem_mem hjl2)).l) hrb.1 n2 (by omega))
          have HLn1 := Hd (imgAt_len hra.1 n)
          have HLn2 := Hd (imgAt_len hrb.1 n)
          rw [p1] at H1
          rw [p2] at H2
          cases p5 : sameI (imgAt qs[k].r.log n) (imgAt qs[j].r.log n)
          ·have HN := Hd (gpAgree_bad HE.out hlt (any_hit_a hjl2 hjl (show dis qs[k] qs[j] = true by show disB _ _ = true; rw [HD.out, p1, p2, p3, p4, p5]; rfl)))
           go_wp2_with fail
           refine (H1.out _).mono ?_
           rintro e w4 ⟨rfl, x4⟩
           have cP := bx_cell (x4.box HBP5.out)
           have cB := bx_cell (x4.box HB5.out)
           go_wp2_with fail
           refine (H2.out _).mono ?_
           rintro e w5 ⟨rfl, x5⟩
           have dP := bx_cell ((Ext.trans x4 x5).box HBP5.out)
           have dB := bx_cell ((Ext.trans x4 x5).box HB5.out)
           have zP5 := bx_lt ((Ext.trans x4 x5).box HBP5.out)
           have zB5 := bx_lt ((Ext.trans x4 x5).box HB5.out)
           clear cP cB
           have HX45 := Hd (Ext.trans HX5.out (Ext.trans x4 x5))
           go_wp2
           (refine wp_region_mix' (fun _ _ _ _ _ hq => hq) 10 (by kernel_rfl) (by kernel_rfl) (fun hg => ?_); simp only [headOps, Tc, Tz, List.filter_cons, List.filter_nil, isAlloc, Bool.not_false, Bf, if_true, if_false, List.append_nil, Dc, Dz])
           (repeat (first | (refine wpMix_plain rfl rfl ?_; go_big_quiet_step (fail); refine wpQuiet_nil ?_) | (refine wpMix_skip rfl rfl ?_; simp only [Act.put, Sa, Sz, Ss])))
           refine wpMix_call (ImV (imgAt qs[k].r.log n)) rfl rfl rfl (enters Tryz.func54 (by kernel_rfl) rfl) (ImV.mono _) (fun W hW => (HI1.out W (Ext.trans HX45.out hW)).mono fun e w' h => h) rfl (fun v1 hv1 => ?_)
           simp only [Act.put, Sa, Sz, Ss]
           (repeat (first | (refine wpMix_plain rfl rfl ?_; go_big_quiet_step (fail); refine wpQuiet_nil ?_) | (refine wpMix_skip rfl rfl ?_; simp only [Act.put, Sa, Sz, Ss])))
           refine wpMix_call (ImV (imgAt qs[j].r.log n)) rfl rfl rfl (enters Tryz.func54 (by kernel_rfl) rfl) (ImV.mono _) (fun W hW => (HI2.out W (Ext.trans HX45.out hW.1)).mono fun e w' h => h) rfl (fun v2 hv2 => ?_)
           simp only [Act.put, Sa, Sz, Ss]
           (repeat (first | (refine wpMix_plain rfl rfl ?_; go_big_quiet_step (fail); refine wpQuiet_nil ?_) | (refine wpMix_skip rfl rfl ?_; simp only [Act.put, Sa, Sz, Ss])))
           refine wpMix_det rfl rfl rfl (enters Tryz.func53 (by kernel_rfl) rfl) (fun W hW => by
            have h9 := c_iSameV _ _ HLn1.out HLn2.out v1 v2 W hW.1.2 hW.2
            rw [p5] at h9
            exact h9) rfl ?_
           simp only [Act.put, Sa, Sz, Ss]
           (repeat (first | (refine wpMix_plain rfl rfl ?_; go_big_quiet_step (fail); refine wpQuiet_nil ?_) | (refine wpMix_skip rfl rfl ?_; simp only [Act.put, Sa, Sz, Ss])))
           refine wpMix_nil ?_
           rintro w6 ⟨⟨hw6, _⟩, _⟩
           go_wp2
           go_ret
           exact ⟨ret_bool HN.out.symm, Ext.trans X0 (Ext.trans HX45.out hw6)⟩
          ·have HN := Hd (any_next hjl2 HJ.out (show dis qs[k] qs[j] = false by show disB _ _ = false; rw [HD.out, p1, p2, p3, p4, p5]; rfl))
           go_wp2_with fail
           refine (H1.out _).mono ?_
           rintro e w4 ⟨rfl, x4⟩
           have cP := bx_cell (x4.box HBP5.out)
           have cB := bx_cell (x4.box HB5.out)
           go_wp2_with fail
           refine (H2.out _).mono ?_
           rintro e w5 ⟨rfl, x5⟩
           have dP := bx_cell ((Ext.trans x4 x5).box HBP5.out)
           have dB := bx_cell ((Ext.trans x4 x5).box HB5.out)
           have zP5 := bx_lt ((Ext.trans x4 x5).box HBP5.out)
           have zB5 := bx_lt ((Ext.trans x4 x5).box HB5.out)
           clear cP cB
           have HX45 := Hd (Ext.trans HX5.out (Ext.trans x4 x5))
           go_wp2
           (refine wp_region_mix' (fun _ _ _ _ _ hq => hq) 10 (by kernel_rfl) (by kernel_rfl) (fun hg => ?_); simp only [headOps, Tc, Tz, List.filter_cons, List.filter_nil, isAlloc, Bool.not_false, Bf, if_true, if_false, List.append_nil, Dc, Dz])
           (repeat (first | (refine wpMix_plain rfl rfl ?_; go_big_quiet_step (fail); refine wpQuiet_nil ?_) | (refine wpMix_skip rfl rfl ?_; simp only [Act.put, Sa, Sz, Ss])))
           refine wpMix_call (ImV (imgAt qs[k].r.log n)) rfl rfl rfl (enters Tryz.func54 (by kernel_rfl) rfl) (ImV.mono _) (fun W hW => (HI1.out W (Ext.trans HX45.out hW)).mono fun e w' h => h) rfl (fun v1 hv1 => ?_)
           simp only [Act.put, Sa, Sz, Ss]
           (repeat (first | (refine wpMix_plain rfl rfl ?_; go_big_quiet_step (fail); refine wpQuiet_nil ?_) | (refine wpMix_skip rfl rfl ?_; simp only [Act.put, Sa, Sz, Ss])))
           refine wpMix_call (ImV (imgAt qs[j].r.log n)) rfl rfl rfl (enters Tryz.func54 (by kernel_rfl) rfl) (ImV.mono _) (fun W hW => (HI2.out W (Ext.trans HX45.out hW.1)).mono fun e w' h => h) rfl (fun v2 hv2 => ?_)
           simp only [Act.put, Sa, Sz, Ss]
           (repeat (first | (refine wpMix_plain rfl rfl ?_; go_big_quiet_step (fail); refine wpQuiet_nil ?_) | (refine wpMix_skip rfl rfl ?_; simp only [Act.put, Sa, Sz, Ss])))
           refine wpMix_det rfl rfl rfl (enters Tryz.func53 (by kernel_rfl) rfl) (fun W hW => by
            have h9 := c_iSameV _ _ HLn1.out HLn2.out v1 v2 W hW.1.2 hW.2
            rw [p5] at h9
            exact h9) rfl ?_
           simp only [Act.put, Sa, Sz, Ss]
           (repeat (first | (refine wpMix_plain rfl rfl ?_; go_big_quiet_step (fail); refine wpQuiet_nil ?_) | (refine wpMix_skip rfl rfl ?_; simp only [Act.put, Sa, Sz, Ss])))
           refine wpMix_nil ?_
           rintro w6 ⟨⟨hw6, _⟩, _⟩
           go_wp2
           go_roundw
           case rel => exact ⟨j + 1, by omega, by go_num, HN.out, Ext.trans HX5.out (Ext.trans (Ext.trans x4 x5) hw6), (Ext.trans (Ext.trans x4 x5) hw6).box HBP5.out⟩
           case measure => simp [intOf] <;> omega
         ·have HN := Hd (any_next hjl2 HJ.out (show dis qs[k] qs[j] = false by show disB _ _ = false; rw [HD.out, p1, p2, p3, p4]; rfl))
          rw [p1] at H1
          rw [p2] at H2
          go_wp2_with fail
          refine (H1.out _).mono ?_
          rintro e w4 ⟨rfl, x4⟩
          have cP := bx_cell (x4.box HBP5.out)
          have cB := bx_cell (x4.box HB5.out)
          go_wp2_with fail
          refine (H2.out _).mono ?_
          rintro e w5 ⟨rfl, x5⟩
          have dP := bx_cell ((Ext.trans x4 x5).box HBP5.out)
          have dB := bx_cell ((Ext.trans x4 x5).box HB5.out)
          have zP5 := bx_lt ((Ext.trans x4 x5).box HBP5.out)
          have zB5 := bx_lt ((Ext.trans x4 x5).box HB5.out)
          clear cP cB
          go_wp2
          go_roundw
          case rel => exact ⟨j + 1, by omega, by go_num, HN.out, Ext.trans HX5.out (Ext.trans x4 x5), (Ext.trans x4 x5).box HBP5.out⟩
          case measure => simp [intOf] <;> omega
        ·have HN := Hd (any_next hjl2 HJ.out (show dis qs[k] qs[j] = false by show disB _ _ = false; rw [HD.out, p1, p2, p3]; rfl))
         rw [p1] at H1
         rw [p2] at H2
         go_wp2_with fail
         refine (H1.out _).mono ?_
         rintro e w4 ⟨rfl, x4⟩
         have cP := bx_cell (x4.box HBP5.out)
         have cB := bx_cell (x4.box HB5.out)
         go_wp2_with fail
         refine (H2.out _).mono ?_
         rintro e w5 ⟨rfl, x5⟩
         have dP := bx_cell ((Ext.trans x4 x5).box HBP5.out)
         have dB := bx_cell ((Ext.trans x4 x5).box HB5.out)
         have zP5 := bx_lt ((Ext.trans x4 x5).box HBP5.out)
         have zB5 := bx_lt ((Ext.trans x4 x5).box HB5.out)
         clear cP cB
         go_wp2
         go_roundw
         case rel => exact ⟨j + 1, by omega, by go_num, HN.out, Ext.trans HX5.out (Ext.trans x4 x5), (Ext.trans x4 x5).box HBP5.out⟩
         case measure => simp [intOf] <;> omega
     ·obtain rfl : j = k := by omega
      have HN := Hd (HT.out.next hlt HJ.out)
      go_wp2
      go_roundw
      case rel => exact ⟨j + 1, by omega, by go_num, HN.out, hx3⟩
      case measure => simp [intOf] <;> omega
   ·obtain rfl : k = qs.length := by omega
    have HV := Hd (HY.out HT.out)
    go_wp2
    go_ret
    exact ⟨ret_bool HV.out.symm, X3⟩
abbrev Lg.csW (a : LAd) (l : Lg) : Array Value := #[.int .i64 l.base, .slice a.cA l.cells.length a.cc, .slice a.sA l.seats.length a.sc, .slice a.eA l.ents.length a.ec]
theorem c_l1MinG (a b : Int) (w : World) : Calls Tryz.prog 50 #[.int .i64 a, .int .i64 b] w fun e w' => e = .returned (.int .i64 (min a b)) ∧ Ext w w' := by
 go_enter Tryz.func50, Tryz.ntmps50
 go_wp2
 all_goals
  go_ret
  exact ⟨ret_int (by omega), ext_refl _⟩
set_option maxRecDepth 100000 in
set_option maxHeartbeats 32000000 in
theorem c_sGroupAgree (a : GAd) (qs : List RpE) (g : Gp) (w : World) (hr : GpR w a qs g) (hs : RpsS qs) (hm : FlsM g.fls) (hn : qs.length ≤ 1048576) (hf : g.fls.length ≤ 1048576) (hy : g.rys.length ≤ 1048576) :
  Calls Tryz.prog 19 #[Gp.val a qs.length g] w fun e w' => e = .returned (.bool (gpAgree g)) ∧ Ext w w' := by
 have X0 := ext_alloc w (Gp.obj a qs.length g)
 have hcon := c_sGroupOk a qs g _ (hr.keep X0) hs hm hn hf hy
 have HE := Hd hr.e
 have HR := Hd hr.r
 clear hr hs hm
 cases q : gpOk g
 ·rw [q] at hcon
  have HC := Hd hcon
  have HN := Hd (gpAgree_no q)
  clear hcon q
  go_enter Tryz.func19, Tryz.ntmps19
  go_wp2_with fail
  refine HC.out.mono ?_
  rintro e w1 ⟨rfl, x1⟩
  go_wp2
  go_ret
  exact ⟨ret_bool HN.out.symm, Ext.trans X0 x1⟩
 ·rw [q] at hcon
  have HC := Hd hcon
  have HY := Hd (fun h => gpAgree_yes HE.out q h)
  have HOf := Hd (gpOk_len HE.out q)
  have HRp := Hd (fun (k : Nat) (h : k < qs.length) => gp_rep HE.out q h)
  clear hcon q
  go_enter Tryz.func19, Tryz.ntmps19
  go_wp2_with fail
  refine HC.out.mono ?_
  rintro e w1 ⟨rfl, x1⟩
  have b1 := bx_cell (x1.box (hNew (w := w) (o := Gp.obj a qs.length g) rfl))
  go_wp2
  clear b1
  go_loopw [3] (fun i wr => ∃ k : Nat, k ≤ qs.length ∧ i = .int .i64 k ∧ AgTo qs k ∧ Ext (w.alloc (Gp.obj a qs.length g)) wr) (fun i _ => qs.length - (intOf i).toNat)
  case atStart => exact ⟨0, Nat.zero_le _, rfl, AgTo.zero _, x1⟩
  case round =>
   obtain ⟨k, hk, rfl, ht, hx3⟩ := hrel
   have HT := Hd ht
   clear ht
   have B3 := hx3.box (hNew (w := w) (o := Gp.obj a qs.length g) rfl)
   have b3 := bx_cell B3
   have z3 := bx_lt B3
   have X3 := Ext.trans X0 hx3
   have hof := HOf.out.1
   by_cases hlt : k < qs.length
   ·have g4 : decide ((k : Int) < g.of) = true := by rw [hof]; simp; omega
    have HX4 := Hd hx3
    clear hof
    go_wp2
    clear b3 z3 B3 X3 hx3 g4
    obtain ⟨wo, hwo⟩ : ∃ wo : World, wo = wr := ⟨_, rfl⟩
    go_loopw [4] (fun i wr2 => ∃ j : Nat, j ≤ k ∧ i = .int .i64 j ∧ (qs.take j).any (dis qs[k]) = false ∧ Ext (w.alloc (Gp.obj a qs.length g)) wr2) (fun i _ => k - (intOf i).toNat)
    case atStart => exact ⟨0, Nat.zero_le _, rfl, rfl, HX4.out⟩
    case round =>
     obtain ⟨j, hj, rfl, ht, hx3⟩ := hrel
     have HJ := Hd ht
     clear ht
     have B3 := hx3.box (hNew (w := w) (o := Gp.obj a qs.length g) rfl)
     have b3 := bx_cell B3
     have z3 := bx_lt B3
     have X3 := Ext.trans X0 hx3
     by_cases hjl : j < k
     ·have hjl2 : j < qs.length := by omega
      obtain ⟨ab, ao, hA, hab, a0, a1, a2, a3, a4, a5, a6, a7, a8, a9, a10, a11, a12⟩ := (HR.out.1.keep X3).atRpE hlt
      obtain ⟨bb, bo, hB, hbb, c0, c1, c2, c3, c4, c5, c6, c7, c8, c9, c10, c11, c12⟩ := (HR.out.1.keep X3).atRpE hjl2
      rw [hA] at hB
      obtain ⟨rfl, rfl⟩ : ab = bb ∧ ao = bo := by simpa using hB
      dsimp only [Gp.cs] at b3
      rw [hA] at b3
      have HA := Hd hA
      clear hA hB
      have HX5 := Hd hx3
      have hz5 := hx3.size
      simp only [sz_alloc] at hz5
      clear hx3 B3 X3 hwo
      have hra := HRp.out k hlt
      have hrb := HRp.out j hjl2
      have HRA := Hd hra
      have HRB := Hd hrb
      obtain ⟨n, hn'⟩ : ∃ n, min qs[k].r.commit qs[j].r.commit = n := ⟨_, rfl⟩
      have hn0 : n ≤ qs[k].r.commit ∧ n ≤ qs[j].r.commit := by omega
      have HD := Hd (show disB qs[k].r qs[j].r = (upB qs[k].r && (upB qs[j].r && (!decide (n < qs[k].r.log.base) && (!decide (n < qs[j].r.log.base) && !sameI (imgAt qs[k].r.log n) (imgAt qs[j].r.log n))))) by unfold disB; rw [hn'])
      have hn1 := Hd (show n ≤ qs[k].r.log.fin ∧ n ≤ qs[j].r.log.fin by omega)
      clear hra hrb hn0
      have hmin := c_l1MinG qs[k].r.commit qs[j].r.commit
      rw [hn'] at hmin
      have HMin := Hd hmin
      clear hmin hn'
      have h1 := c_sLive qs[k].a qs[k].A qs[k].ps.length qs[k].c qs[k].r
      have h2 := c_sLive qs[j].a qs[j].A qs[j].ps.length qs[j].c qs[j].r
      have H1 := Hd h1
      have H2 := Hd h2
      clear h1 h2
      go_upto_region 9 with fail
      go_cut [5, 6] from 21 to 80 (fun av bv wx => ∃ P Q : Nat, av = .pointer (some ⟨P, 0, none⟩) ∧ bv = .pointer (some ⟨Q, 0, none⟩) ∧ Hid (wx.heap[P]? = some (Rp.obj qs[k].a qs[k].A qs[k].ps.length qs[k].c qs[k].r)) ∧ Hid (wx.heap[Q]? = some (Rp.obj qs[j].a qs[j].A qs[j].ps.length qs[j].c qs[j].r)) ∧ Hid (Ext (w.alloc (Gp.obj a qs.length g)) wx))
      case first =>
       go_region
       ·obtain ⟨W5, hW5⟩ : ∃ W5, ((wr.alloc (Rp.obj qs[k].a qs[k].A qs[k].ps.length qs[k].c qs[k].r)).alloc (Rp.obj qs[j].a qs[j].A qs[j].ps.length qs[j].c qs[j].r)).drew = W5 := ⟨_, rfl⟩
        rw [hW5]
        have BP0 : W5.heap[wr.heap.size]? = some (Rp.obj qs[k].a qs[k].A qs[k].ps.length qs[k].c qs[k].r) := by rw [← hW5]; exact hOld (hNew rfl)
        have BB0 : W5.heap[wr.heap.size + 1]? = some (Rp.obj qs[j].a qs[j].A qs[j].ps.length qs[j].c qs[j].r) := by rw [← hW5]; exact hNew (by simp)
        have HX6 := Hd (show Ext (w.alloc (Gp.obj a qs.length g)) W5 by rw [← hW5]; exact ext_drew (ext_to (ext_to HX5.out _) _))
        clear hW5
        generalize wr.heap.size + 1 = Q at BP0 BB0 ⊢
        generalize wr.heap.size = P at BP0 BB0 ⊢
        have HBP5 := Hd BP0
        have HB5 := Hd BB0
        clear BP0 BB0
        go_wp2_with fail
        go_meet
        exact ⟨P, Q, rfl, rfl, HBP5, HB5, HX6⟩
       ·obtain ⟨W5, hW5⟩ : ∃ W5, ((wr.alloc (Rp.obj qs[j].a qs[j].A qs[j].ps.length qs[j].c qs[j].r)).alloc (Rp.obj qs[k].a qs[k].A qs[k].ps.length qs[k].c qs[k].r)).drew = W5 := ⟨_, rfl⟩
        rw [hW5]
        have BP0 : W5.heap[wr.heap.size + 1]? = some (Rp.obj qs[k].a qs[k].A qs[k].ps.length qs[k].c qs[k].r) := by rw [← hW5]; exact hNew (by simp)
        have BB0 : W5.heap[wr.heap.size]? = some (Rp.obj qs[j].a qs[j].A qs[j].ps.length qs[j].c qs[j].r) := by rw [← hW5]; exact hOld (hNew rfl)
        have HX6 := Hd (show Ext (w.alloc (Gp.obj a qs.length g)) W5 by rw [← hW5]; exact ext_drew (ext_to (ext_to HX5.out _) _))
        clear hW5
        generalize wr.heap.size + 1 = Q at BP0 BB0 ⊢
        generalize wr.heap.size = P at BP0 BB0 ⊢
        have HBP5 := Hd BP0
        have HB5 := Hd BB0
        clear BP0 BB0
        go_wp2_with fail
        go_meet
        exact ⟨Q, P, rfl, rfl, HBP5, HB5, HX6⟩
      case rest =>
       obtain ⟨P, Q, rfl, rfl, HBP5, HB5, HX6⟩ := hcut
       clear b3 z3 hz5 hab hbb a0 a1 a2 a3 a4 a5 a6 a7 a8 a9 a10 a11 a12 c0 c1 c2 c3 c4 c5 c6 c7 c8 c9 c10 c11 c12
       have bP := bx_cell HBP5.out
       have bB := bx_cell HB5.out
       have lP := bx_lt HBP5.out
       have lB := bx_lt HB5.out
       go_wp2_with fail
       refine (HMin.out _).mono ?_
       rintro e w3 ⟨rfl, x3⟩
       have Y3 := Hd (Ext.trans HX6.out x3)
       have BP := Hd (x3.box HBP5.out)
       have BB := Hd (x3.box HB5.out)
       clear x3 HBP5 HB5 HX6 HX5 bP bB lP lB
       cases p1 : upB qs[k].r
       ·have HN := Hd (any_next hjl2 HJ.out (show dis qs[k] qs[j] = false by show disB _ _ = false; rw [HD.out, p1]; rfl))
        rw [p1] at H1
        (go_wp2_with (with_reducible refine wl_stop 41 ?_); refine stop_load (BP.out) rfl Tryz.underlying56 (by kernel_rfl) ?_; simp only [Act.put, Sa, Sz, Ss])
        go_wp2_with fail
        refine (H1.out _).mono ?_
        rintro e w4 ⟨rfl, x4⟩
        have Y4 := Hd (Ext.trans Y3.out x4)
        have BP4 := Hd (x4.box BP.out)
        have BB4 := Hd (x4.box BB.out)
        clear x4 Y3 BP BB
        go_wp2
        go_roundw
        case rel => exact ⟨j + 1, by omega, by go_num, HN.out, Y4.out⟩
        case measure => simp [intOf] <;> omega
       ·cases p2 : upB qs[j].r
        ·have HN := Hd (any_next hjl2 HJ.out (show dis qs[k] qs[j] = false by show disB _ _ = false; rw [HD.out, p1, p2]; rfl))
         rw [p1] at H1
         rw [p2] at H2
         (go_wp2_with (with_reducible refine wl_stop 41 ?_); refine stop_load (BP.out) rfl Tryz.underlying56 (by kernel_rfl) ?_; simp only [Act.put, Sa, Sz, Ss])
         go_wp2_with fail
         refine (H1.out _).mono ?_
         rintro e w4 ⟨rfl, x4⟩
         have Y4 := Hd (Ext.trans Y3.out x4)
         have BP4 := Hd (x4.box BP.out)
         have BB4 := Hd (x4.box BB.out)
         clear x4 Y3 BP BB
         (go_wp2_with (with_reducible refine wl_stop 45 ?_); refine stop_loadG (BB4.out) rfl rfl Tryz.underlying56 (by kernel_rfl) ?_; simp only [Act.put, Sa, Sz, Ss])
         go_wp2_with fail
         refine (H2.out _).mono ?_
         rintro e w5 ⟨rfl, x5⟩
         have Y5 := Hd (Ext.trans Y4.out x5)
         have BP5 := Hd (x5.box BP4.out)
         have BB5 := Hd (x5.box BB4.out)
         clear x5 Y4 BP4 BB4
         have dP := bx_cell BP5.out
         have dB := bx_cell BB5.out
         have zP := bx_lt BP5.out
         have zB := bx_lt BB5.out
         go_wp2
         go_roundw
         case rel => exact ⟨j + 1, by omega, by go_num, HN.out, Y5.out⟩
         case measure => simp [intOf] <;> omega
        ·cases p3 : decide (n < qs[k].r.log.base)
         ·cases p4 : decide (n < qs[j].r.log.base)
          ·have n1 : qs[k].r.log.base ≤ n := by simpa using p3
           have n2 : qs[j].r.log.base ≤ n := by simpa using p4
           have HI1 := Hd (fun W (h : Ext (w.alloc (Gp.obj a qs.length g)) W) => c_sImgAt qs[k].a qs[k].r.log n W (((HR.out.keep (Ext.trans X0 h)).2 _ (List.getElem_mem hlt)).l) HRA.out.1 n1 hn1.out.1)
           have HI2 := Hd (fun W (h : Ext (w.alloc (Gp.obj a qs.length g)) W) => c_sImgAt qs[j].a qs[j].r.log n W (((HR.out.keep (Ext.trans X0 h)).2 _ (List.getElem_mem hjl2)).l) HRB.out.1 n2 hn1.out.2)
           have HLn1 := Hd (imgAt_len HRA.out.1 n)
           have HLn2 := Hd (imgAt_len HRB.out.1 n)
           rw [p1] at H1
           rw [p2] at H2
           cases p5 : sameI (imgAt qs[k].r.log n) (imgAt qs[j].r.log n)
           ·have HN := Hd (gpAgree_bad HE.out hlt (any_hit_a hjl2 hjl (show dis qs[k] qs[j] = true by show disB _ _ = true; rw [HD.out, p1, p2, p3, p4, p5]; rfl)))
            (go_wp2_with (with_reducible refine wl_stop 41 ?_); refine stop_load (BP.out) rfl Tryz.underlying56 (by kernel_rfl) ?_; simp only [Act.put, Sa, Sz, Ss])
            go_wp2_with fail
            refine (H1.out _).mono ?_
            rintro e w4 ⟨rfl, x4⟩
            have Y4 := Hd (Ext.trans Y3.out x4)
            have BP4 := Hd (x4.box BP.out)
            have BB4 := Hd (x4.box BB.out)
            clear x4 Y3 BP BB
            (go_wp2_with (with_reducible refine wl_stop 45 ?_); refine stop_loadG (BB4.out) rfl rfl Tryz.underlying56 (by kernel_rfl) ?_; simp only [Act.put, Sa, Sz, Ss])
            go_wp2_with fail
            refine (H2.out _).mono ?_
            rintro e w5 ⟨rfl, x5⟩
            have Y5 := Hd (Ext.trans Y4.out x5)
            have BP5 := Hd (x5.box BP4.out)
            have BB5 := Hd (x5.box BB4.out)
            clear x5 Y4 BP4 BB4
            have dP := bx_cell BP5.out
            have dB := bx_cell BB5.out
            have zP := bx_lt BP5.out
            have zB := bx_lt BB5.out
            (go_wp2_with (with_reducible refine wl_stop 65 ?_); refine stop_loadAgg (cells_mid (cs := Lg.csW qs[k].a qs[k].r.log) BP5.out [.int .i64 qs[k].r.me, .int .i64 qs[k].r.of, .int .i64 qs[k].r.mode, .int .i64 qs[k].r.view, .int .i64 qs[k].r.normal, .int .i64 qs[k].r.commit] [.slice qs[k].A qs[k].ps.length qs[k].c, .int .i64 qs[k].r.cell, .int .i64 qs[k].r.nonce] rfl rfl) rfl Tryz.underlying53 (by kernel_rfl) ?_; simp only [Act.put, Sa, Sz, Ss])
            go_wp2_with fail
            refine (HI1.out _ Y5.out).mono ?_
            rintro e w6 ⟨⟨v1, rfl, A1, cc1, B1, d1, rfl, r1, r2⟩, x6⟩
            have Y7 := Hd (ext_to (Ext.trans Y5.out x6) (.cells #[.slice A1 (imgAt qs[k].r.log n).1.length cc1, .slice B1 (imgAt qs[k].r.log n).2.length d1] 50))
            have BB7 := Hd (hOld (o := (.cells #[.slice A1 (imgAt qs[k].r.log n).1.length cc1, .slice B1 (imgAt qs[k].r.log n).2.length d1] 50)) (x6.box BB5.out))
            have R1 := Hd r1
            have R2 := Hd r2
            clear dP dB zP zB r1 r2 x6 Y5 BP5 BB5
            (go_wp2_with (with_reducible refine wl_stop 72 ?_); refine stop_loadAgg (cells_mid (cs := Lg.csW qs[j].a qs[j].r.log) BB7.out [.int .i64 qs[j].r.me, .int .i64 qs[j].r.of, .int .i64 qs[j].r.mode, .int .i64 qs[j].r.view, .int .i64 qs[j].r.normal, .int .i64 qs[j].r.commit] [.slice qs[j].A qs[j].ps.length qs[j].c, .int .i64 qs[j].r.cell, .int .i64 qs[j].r.nonce] rfl rfl) rfl Tryz.underlying53 (by kernel_rfl) ?_; simp only [Act.put, Sa, Sz, Ss])
            go_wp2_with fail
            refine (HI2.out _ Y7.out).mono ?_
            rintro e w8 ⟨⟨v2, rfl, A2, cc2, B2, d2, rfl, r3, r4⟩, x8⟩
            have Y8 := Hd (Ext.trans Y7.out x8)
            have X67 := Hd (Ext.trans (ext_alloc w6 (.cells #[.slice A1 (imgAt qs[k].r.log n).1.length cc1, .slice B1 (imgAt qs[k].r.log n).2.length d1] 50)) x8)
            have i1 := bx_cell (x8.box (hNew (w := w6) (o := (.cells #[.slice A1 (imgAt qs[k].r.log n).1.length cc1, .slice B1 (imgAt qs[k].r.log n).2.length d1] 50)) rfl))
            have zi1 := bx_lt (x8.box (hNew (w := w6) (o := (.cells #[.slice A1 (imgAt qs[k].r.log n).1.length cc1, .slice B1 (imgAt qs[k].r.log n).2.length d1] 50)) rfl))
            have X9 := Hd (ext_alloc w8 (.cells #[.slice A2 (imgAt qs[j].r.log n).1.length cc2, .slice B2 (imgAt qs[j].r.log n).2.length d2] 50))
            clear x8 Y7 BB7
            have hsm := c_sSameImage A1 B1 A2 B2 cc1 d1 cc2 d2 (imgAt qs[k].r.log n).1 (imgAt qs[j].r.log n).1 (imgAt qs[k].r.log n).2 (imgAt qs[j].r.log n).2 (w8.alloc (.cells #[.slice A2 (imgAt qs[j].r.log n).1.length cc2, .slice B2 (imgAt qs[j].r.log n).2.length d2] 50)) (R1.out.keep (Ext.trans X67.out X9.out)) (R2.out.keep (Ext.trans X67.out X9.out)) (r3.keep X9.out) (r4.keep X9.out) HLn1.out.1 HLn1.out.2 HLn2.out.1 HLn2.out.2
            have hse : (eqB (imgAt qs[k].r.log n).1 (imgAt qs[j].r.log n).1 && eqB (imgAt qs[k].r.log n).2 (imgAt qs[j].r.log n).2) = sameI (imgAt qs[k].r.log n) (imgAt qs[j].r.log n) := rfl
            rw [hse, p5] at hsm
            have HSm := Hd hsm
            clear hsm hse r3 r4
            go_wp2_with fail
            refine HSm.out.mono ?_
            rintro e w9 ⟨rfl, x9⟩
            have Y9 := Hd (Ext.trans Y8.out (Ext.trans X9.out x9))
            go_wp2
            go_ret
            exact ⟨ret_bool HN.out.symm, Ext.trans X0 Y9.out⟩
           ·have HN := Hd (any_next hjl2 HJ.out (show dis qs[k] qs[j] = false by show disB _ _ = false; rw [HD.out, p1, p2, p3, p4, p5]; rfl))
            (go_wp2_with (with_reducible refine wl_stop 41 ?_); refine stop_load (BP.out) rfl Tryz.underlying56 (by kernel_rfl) ?_; simp only [Act.put, Sa, Sz, Ss])
            go_wp2_with fail
            refine (H1.out _).mono ?_
            rintro e w4 ⟨rfl, x4⟩
            have Y4 := Hd (Ext.trans Y3.out x4)
            have BP4 := Hd (x4.box BP.out)
            have BB4 := Hd (x4.box BB.out)
            clear x4 Y3 BP BB
            (go_wp2_with (with_reducible refine wl_stop 45 ?_); refine stop_loadG (BB4.out) rfl rfl Tryz.underlying56 (by kernel_rfl) ?_; simp only [Act.put, Sa, Sz, Ss])
            go_wp2_with fail
            refine (H2.out _).mono ?_
            rintro e w5 ⟨rfl, x5⟩
            have Y5 := Hd (Ext.trans Y4.out x5)
            have BP5 := Hd (x5.box BP4.out)
            have BB5 := Hd (x5.box BB4.out)
            clear x5 Y4 BP4 BB4
            have dP := bx_cell BP5.out
            have dB := bx_cell BB5.out
            have zP := bx_lt BP5.out
            have zB := bx_lt BB5.out
            (go_wp2_with (with_reducible refine wl_stop 65 ?_); refine stop_loadAgg (cells_mid (cs := Lg.csW qs[k].a qs[k].r.log) BP5.out [.int .i64 qs[k].r.me, .int .i64 qs[k].r.of, .int .i64 qs[k].r.mode, .int .i64 qs[k].r.view, .int .i64 qs[k].r.normal, .int .i64 qs[k].r.commit] [.slice qs[k].A qs[k].ps.length qs[k].c, .int .i64 qs[k].r.cell, .int .i64 qs[k].r.nonce] rfl rfl) rfl Tryz.underlying53 (by kernel_rfl) ?_; simp only [Act.put, Sa, Sz, Ss])
            go_wp2_with fail
            refine (HI1.out _ Y5.out).mono ?_
            rintro e w6 ⟨⟨v1, rfl, A1, cc1, B1, d1, rfl, r1, r2⟩, x6⟩
            have Y7 := Hd (ext_to (Ext.trans Y5.out x6) (.cells #[.slice A1 (imgAt qs[k].r.log n).1.length cc1, .slice B1 (imgAt qs[k].r.log n).2.length d1] 50))
            have BB7 := Hd (hOld (o := (.cells #[.slice A1 (imgAt qs[k].r.log n).1.length cc1, .slice B1 (imgAt qs[k].r.log n).2.length d1] 50)) (x6.box BB5.out))
            have R1 := Hd r1
            have R2 := Hd r2
            clear dP dB zP zB r1 r2 x6 Y5 BP5 BB5
            (go_wp2_with (with_reducible refine wl_stop 72 ?_); refine stop_loadAgg (cells_mid (cs := Lg.csW qs[j].a qs[j].r.log) BB7.out [.int .i64 qs[j].r.me, .int .i64 qs[j].r.of, .int .i64 qs[j].r.mode, .int .i64 qs[j].r.view, .int .i64 qs[j].r.normal, .int .i64 qs[j].r.commit] [.slice qs[j].A qs[j].ps.length qs[j].c, .int .i64 qs[j].r.cell, .int .i64 qs[j].r.nonce] rfl rfl) rfl Tryz.underlying53 (by kernel_rfl) ?_; simp only [Act.put, Sa, Sz, Ss])
            go_wp2_with fail
            refine (HI2.out _ Y7.out).mono ?_
            rintro e w8 ⟨⟨v2, rfl, A2, cc2, B2, d2, rfl, r3, r4⟩, x8⟩
            have Y8 := Hd (Ext.trans Y7.out x8)
            have X67 := Hd (Ext.trans (ext_alloc w6 (.cells #[.slice A1 (imgAt qs[k].r.log n).1.length cc1, .slice B1 (imgAt qs[k].r.log n).2.length d1] 50)) x8)
            have i1 := bx_cell (x8.box (hNew (w := w6) (o := (.cells #[.slice A1 (imgAt qs[k].r.log n).1.length cc1, .slice B1 (imgAt qs[k].r.log n).2.length d1] 50)) rfl))
            have zi1 := bx_lt (x8.box (hNew (w := w6) (o := (.cells #[.slice A1 (imgAt qs[k].r.log n).1.length cc1, .slice B1 (imgAt qs[k].r.log n).2.length d1] 50)) rfl))
            have X9 := Hd (ext_alloc w8 (.cells #[.slice A2 (imgAt qs[j].r.log n).1.length cc2, .slice B2 (imgAt qs[j].r.log n).2.length d2] 50))
            clear x8 Y7 BB7
            have hsm := c_sSameImage A1 B1 A2 B2 cc1 d1 cc2 d2 (imgAt qs[k].r.log n).1 (imgAt qs[j].r.log n).1 (imgAt qs[k].r.log n).2 (imgAt qs[j].r.log n).2 (w8.alloc (.cells #[.slice A2 (imgAt qs[j].r.log n).1.length cc2, .slice B2 (imgAt qs[j].r.log n).2.length d2] 50)) (R1.out.keep (Ext.trans X67.out X9.out)) (R2.out.keep (Ext.trans X67.out X9.out)) (r3.keep X9.out) (r4.keep X9.out) HLn1.out.1 HLn1.out.2 HLn2.out.1 HLn2.out.2
            have hse : (eqB (imgAt qs[k].r.log n).1 (imgAt qs[j].r.log n).1 && eqB (imgAt qs[k].r.log n).2 (imgAt qs[j].r.log n).2) = sameI (imgAt qs[k].r.log n) (imgAt qs[j].r.log n) := rfl
            rw [hse, p5] at hsm
            have HSm := Hd hsm
            clear hsm hse r3 r4
            go_wp2_with fail
            refine HSm.out.mono ?_
            rintro e w9 ⟨rfl, x9⟩
            have Y9 := Hd (Ext.trans Y8.out (Ext.trans X9.out x9))
            go_wp2
            go_roundw
            case rel => exact ⟨j + 1, by omega, by go_num, HN.out, Y9.out⟩
            case measure => simp [intOf] <;> omega
          ·have HN := Hd (any_next hjl2 HJ.out (show dis qs[k] qs[j] = false by show disB _ _ = false; rw [HD.out, p1, p2, p3, p4]; rfl))
           rw [p1] at H1
           rw [p2] at H2
           (go_wp2_with (with_reducible refine wl_stop 41 ?_); refine stop_load (BP.out) rfl Tryz.underlying56 (by kernel_rfl) ?_; simp only [Act.put, Sa, Sz, Ss])
           go_wp2_with fail
           refine (H1.out _).mono ?_
           rintro e w4 ⟨rfl, x4⟩
           have Y4 := Hd (Ext.trans Y3.out x4)
           have BP4 := Hd (x4.box BP.out)
           have BB4 := Hd (x4.box BB.out)
           clear x4 Y3 BP BB
           (go_wp2_with (with_reducible refine wl_stop 45 ?_); refine stop_loadG (BB4.out) rfl rfl Tryz.underlying56 (by kernel_rfl) ?_; simp only [Act.put, Sa, Sz, Ss])
           go_wp2_with fail
           refine (H2.out _).mono ?_
           rintro e w5 ⟨rfl, x5⟩
           have Y5 := Hd (Ext.trans Y4.out x5)
           have BP5 := Hd (x5.box BP4.out)
           have BB5 := Hd (x5.box BB4.out)
           clear x5 Y4 BP4 BB4
           have dP := bx_cell BP5.out
           have dB := bx_cell BB5.out
           have zP := bx_lt BP5.out
           have zB := bx_lt BB5.out
           go_wp2
           go_roundw
           case rel => exact ⟨j + 1, by omega, by go_num, HN.out, Y5.out⟩
           case measure => simp [intOf] <;> omega
         ·have HN := Hd (any_next hjl2 HJ.out (show dis qs[k] qs[j] = false by show disB _ _ = false; rw [HD.out, p1, p2, p3]; rfl))
          rw [p1] at H1
          rw [p2] at H2
          (go_wp2_with (with_reducible refine wl_stop 41 ?_); refine stop_load (BP.out) rfl Tryz.underlying56 (by kernel_rfl) ?_; simp only [Act.put, Sa, Sz, Ss])
          go_wp2_with fail
          refine (H1.out _).mono ?_
          rintro e w4 ⟨rfl, x4⟩
          have Y4 := Hd (Ext.trans Y3.out x4)
          have BP4 := Hd (x4.box BP.out)
          have BB4 := Hd (x4.box BB.out)
          clear x4 Y3 BP BB
          (go_wp2_with (with_reducible refine wl_stop 45 ?_); refine stop_loadG (BB4.out) rfl rfl Tryz.underlying56 (by kernel_rfl) ?_; simp only [Act.put, Sa, Sz, Ss])
          go_wp2_with fail
          refine (H2.out _).mono ?_
          rintro e w5 ⟨rfl, x5⟩
          have Y5 := Hd (Ext.trans Y4.out x5)
          have BP5 := Hd (x5.box BP4.out)
          have BB5 := Hd (x5.box BB4.out)
          clear x5 Y4 BP4 BB4
          have dP := bx_cell BP5.out
          have dB := bx_cell BB5.out
          have zP := bx_lt BP5.out
          have zB := bx_lt BB5.out
          go_wp2
          go_roundw
          case rel => exact ⟨j + 1, by omega, by go_num, HN.out, Y5.out⟩
          case measure => simp [intOf] <;> omega
     ·obtain rfl : j = k := by omega
      have HN := Hd (HT.out.next hlt HJ.out)
      go_wp2
      go_roundw
      case rel => exact ⟨j + 1, by omega, by go_num, HN.out, hx3⟩
      case measure => simp [intOf] <;> omega
   ·obtain rfl : k = qs.length := by omega
    have HV := Hd (HY.out HT.out)
    have g4 : decide ((qs.length : Int) < g.of) = false := by rw [hof]; simp
    clear hof
    go_wp2
    go_ret
    exact ⟨ret_bool HV.out.symm, X3⟩
end Go.Proofs.YtmphedkbdlckhaaGreat
