/- Logs read from bytes: UnpackLog of the program. -/
import Derived.Test.YtpghedeghoegmaaPk36
import Derived.Test.YtpghedeghoegmaaPk5
import Derived.Test.YtpghedeghoegmaaPk4
namespace Go.Proofs.Ytpghedeghoegmaa
open Go.ChangeShapes Go.WideShapes Go.ChangeAt Go.RowKit Go.Sort
set_option linter.unusedVariables false
set_option linter.unusedSimpArgs false
def LgQ (W : World) (B : Nat) (a : LAd) (l : Lg) : Prop := Ow Cel.enc 101 2 W B (.slice a.cA l.cells.length a.cc) l.cells ∧ Ow Sea.enc 103 3 W B (.slice a.sA l.seats.length a.sc) l.seats ∧ Ow Ent.enc 105 5 W B (.slice a.eA l.ents.length a.ec) l.ents
def UqV (B : Nat) (o : Option (Lg × Nat)) (v : Value) (W : World) : Prop := match o with
 | none => v = .tuple #[.agg #[.int .i64 0, .slice none 0 0, .slice none 0 0, .slice none 0 0], .int .i64 0, .bool false]
 | some p => ∃ a, v = .tuple #[Lg.val a p.1, .int .i64 p.2, .bool true] ∧ LgQ W B a p.1
theorem Rd.atRw {w : World} {A : Option Addr} {c : Nat} {l : List RwE} (h : Rd RwE.enc 1 w A c l) {k : Nat} (hk : k < l.length) : ∃ b o, A = some ⟨b, o, none⟩ ∧ b < w.heap.size ∧ w.cell? ⟨b, o + k, none⟩ = some (.slice l[k].1.1 l[k].2.length l[k].1.2) := by
 obtain ⟨b, o, e, hlt, hc⟩ := h.2.2 (by omega)
 exact ⟨b, o, e, hlt, by simpa using hc k hk 0 _ rfl⟩
theorem RsO.at2 {W : World} {B : Nat} {A : Option Addr} {c : Nat} {rs : List RwE} (h : RsO W B A c rs) (hw : RowsN 2 (rs.map Prod.snd)) {k : Nat} (hk : k < rs.length) : ∃ (zb zo yb yo yc : Nat) (x0 x1 : Int), A = some ⟨zb, zo, none⟩ ∧ zb < W.heap.size ∧ yb < W.heap.size ∧ W.cell? ⟨zb, zo + k, none⟩ = some (.slice (some ⟨yb, yo, none⟩) 2 yc) ∧ W.cell? ⟨yb, yo, none⟩ = some (.int .i64 x0) ∧ W.cell? ⟨yb, yo + 1, none⟩ = some (.int .i64 x1) ∧ ((rs.map Prod.snd).map celR)[k]? = some ⟨x0, x1⟩ ∧ 0 ≤ x1 ∧ x1 < 9223372036854775808 := by
 obtain ⟨zb, zo, hA, hzb, hz⟩ := Rd.atRw (h.1.rd RwE.len).2 hk
 have ho := h.2 rs[k] (List.getElem_mem hk)
 obtain ⟨hl, hb⟩ := hw rs[k].2 (List.mem_map_of_mem (List.getElem_mem hk))
 have hg : ((rs.map Prod.snd).map celR)[k]? = some (celR rs[k].2) := by simp [hk]
 obtain ⟨x, hx⟩ : ∃ x, rs[k] = x := ⟨_, rfl⟩
 rw [hx] at ho hl hb hz hg
 clear hx
 obtain ⟨⟨Ar, cr⟩, l⟩ := x
 have hl : l.length = 2 := hl
 match l, hl with
 | [x0, x1], _ =>
  have hr := (ho.rd zEnc_len).2
  obtain ⟨yb, yo, hy, hyb, _⟩ := hr.atZ (show 0 < [x0, x1].length by simp)
  subst hy
  refine ⟨zb, zo, yb, yo, cr, x0, x1, hA, hzb, hyb, hz, hr.cellZ (j := 0) rfl, hr.cellZ (j := 1) rfl, hg, hb _ (by simp)⟩
theorem RsO.at3 {W : World} {B : Nat} {A : Option Addr} {c : Nat} {rs : List RwE} (h : RsO W B A c rs) (hw : RowsN 3 (rs.map Prod.snd)) {k : Nat} (hk : k < rs.length) : ∃ (zb zo yb yo yc : Nat) (x0 x1 x2 : Int), A = some ⟨zb, zo, none⟩ ∧ zb < W.heap.size ∧ yb < W.heap.size ∧ W.cell? ⟨zb, zo + k, none⟩ = some (.slice (some ⟨yb, yo, none⟩) 3 yc) ∧ W.cell? ⟨yb, yo, none⟩ = some (.int .i64 x0) ∧ W.cell? ⟨yb, yo + 1, none⟩ = some (.int .i64 x1) ∧ W.cell? ⟨yb, yo + 2, none⟩ = some (.int .i64 x2) ∧ ((rs.map Prod.snd).map seaR)[k]? = some ⟨x0, x1, x2 - 1⟩ ∧ 0 ≤ x2 ∧ x2 < 9223372036854775808 := by
 obtain ⟨zb, zo, hA, hzb, hz⟩ := Rd.atRw (h.1.rd RwE.len).2 hk
 have ho := h.2 rs[k] (List.getElem_mem hk)
 obtain ⟨hl, hb⟩ := hw rs[k].2 (List.mem_map_of_mem (List.getElem_mem hk))
 have hg : ((rs.map Prod.snd).map seaR)[k]? = some (seaR rs[k].2) := by simp [hk]
 obtain ⟨x, hx⟩ : ∃ x, rs[k] = x := ⟨_, rfl⟩
 rw [hx] at ho hl hb hz hg
 clear hx
 obtain ⟨⟨Ar, cr⟩, l⟩ := x
 have hl : l.length = 3 := hl
 match l, hl with
 | [x0, x1, x2], _ =>
  have hr := (ho.rd zEnc_len).2
  obtain ⟨yb, yo, hy, hyb, _⟩ := hr.atZ (show 0 < [x0, x1, x2].length by simp)
  subst hy
  refine ⟨zb, zo, yb, yo, cr, x0, x1, x2, hA, hzb, hyb, hz, hr.cellZ (j := 0) rfl, hr.cellZ (j := 1) rfl, hr.cellZ (j := 2) rfl, hg, hb _ (by simp)⟩
theorem RsO.at5 {W : World} {B : Nat} {A : Option Addr} {c : Nat} {rs : List RwE} (h : RsO W B A c rs) (hw : RowsN 5 (rs.map Prod.snd)) {k : Nat} (hk : k < rs.length) : ∃ (zb zo yb yo yc : Nat) (x0 x1 x2 x3 x4 : Int), A = some ⟨zb, zo, none⟩ ∧ zb < W.heap.size ∧ yb < W.heap.size ∧ W.cell? ⟨zb, zo + k, none⟩ = some (.slice (some ⟨yb, yo, none⟩) 5 yc) ∧ W.cell? ⟨yb, yo, none⟩ = some (.int .i64 x0) ∧ W.cell? ⟨yb, yo + 1, none⟩ = some (.int .i64 x1) ∧ W.cell? ⟨yb, yo + 2, none⟩ = some (.int .i64 x2) ∧ W.cell? ⟨yb, yo + 3, none⟩ = some (.int .i64 x3) ∧ W.cell? ⟨yb, yo + 4, none⟩ = some (.int .i64 x4) ∧ ((rs.map Prod.snd).map entR)[k]? = some ⟨x0, x1, x2, x3, x4⟩ ∧ 0 ≤ x4 ∧ x4 < 9223372036854775808 := by
 obtain ⟨zb, zo, hA, hzb, hz⟩ := Rd.atRw (h.1.rd RwE.len).2 hk
 have ho := h.2 rs[k] (List.getElem_mem hk)
 obtain ⟨hl, hb⟩ := hw rs[k].2 (List.mem_map_of_mem (List.getElem_mem hk))
 have hg : ((rs.map Prod.snd).map entR)[k]? = some (entR rs[k].2) := by simp [hk]
 obtain ⟨x, hx⟩ : ∃ x, rs[k] = x := ⟨_, rfl⟩
 rw [hx] at ho hl hb hz hg
 clear hx
 obtain ⟨⟨Ar, cr⟩, l⟩ := x
 have hl : l.length = 5 := hl
 match l, hl with
 | [x0, x1, x2, x3, x4], _ =>
  have hr := (ho.rd zEnc_len).2
  obtain ⟨yb, yo, hy, hyb, _⟩ := hr.atZ (show 0 < [x0, x1, x2, x3, x4].length by simp)
  subst hy
  refine ⟨zb, zo, yb, yo, cr, x0, x1, x2, x3, x4, hA, hzb, hyb, hz, hr.cellZ (j := 0) rfl, hr.cellZ (j := 1) rfl, hr.cellZ (j := 2) rfl, hr.cellZ (j := 3) rfl, hr.cellZ (j := 4) rfl, hg, hb _ (by simp)⟩
set_option maxRecDepth 100000 in
set_option maxHeartbeats 16000000 in
theorem c_iUnpackLog (A : Option Addr) (c : Nat) (b : List Nat) (at_ Bb : Nat) (w : World) (hr : Ow bEnc 5 1 w Bb (.slice A b.length c) b) (hb : Byt b) (hn : b.length ≤ 1048576) (ha : at_ ≤ b.length) : Calls Try.prog 52 #[.slice A b.length c, .int .i64 at_] w fun e w' => (∃ v, e = .returned v ∧ UqV w.heap.size (rdLog b at_) v w') ∧ Ext w w' := by
 obtain ⟨i0, hi, hz0, hz1, hz2⟩ := info_parts Try.infoCel
 obtain ⟨j0, ji, jz0, jz1, jz2⟩ := info_parts Try.infoSea
 obtain ⟨n0, ni, nz0, nz1, nz2⟩ := info_parts Try.infoEnt
 have HB := Hd hb
 have X0 := Hd (show Ext w (((w.alloc zL9).alloc (rdO A b.length c at_ true)).alloc zL9) from ext_to (ext_to (ext_alloc _ _) _) _)
 have E0 := Hd (hOld (o := zL9) (hOld (o := rdO A b.length c at_ true) (hNew (w := w) (o := zL9) rfl)))
 have Q0 := Hd (hOld (o := zL9) (hNew (w := w.alloc zL9) (o := rdO A b.length c at_ true) (k := w.heap.size + 1) (by simp)))
 have D0 := Hd (hNew (w := (w.alloc zL9).alloc (rdO A b.length c at_ true)) (o := zL9) (k := w.heap.size + 2) (by simp))
 have O0 := Hd (hr.kept X0.out)
 have HC := Hd (c_num A c b at_ true (w.heap.size + 1) _ (O0.out.rd bEnc_len).2 hb hn (by omega) Q0.out)
 obtain ⟨a0, hb0, hb1⟩ := rdN_le hb ha true
 obtain ⟨⟨base, f0, k0⟩, h0⟩ : ∃ p, rdN b at_ true = p := ⟨_, rfl⟩
 rw [h0] at a0 hb0 hb1 HC
 simp only at a0 hb0 hb1 HC
 have H0 := Hd h0
 clear hr hb h0
 go_enter Try.func52, Try.ntmps52
 go_wp2_with fail
 refine HC.out.mono ?_
 rintro e w1 ⟨rfl, hd1, hc1⟩
 have D1 := Hd (box_chg D0.out hc1 (by omega))
 have E1 := Hd (box_chg E0.out hc1 (by omega))
 have X1 := Hd (chg_new X0.out hc1 (by omega))
 have O1 := Hd (O0.out.bxk Q0.out (by decide) hc1)
 have Q1 := Hd hd1
 have dp := bx_cell D1.out
 have fp := bx_frozen D1.out
 have zp := bx_lt D1.out
 have D2 := Hd (box_put D1.out 0 (.int .i64 base))
 have E2 := Hd (bx_set_other E1.out (j := 0) (show w.heap.size ≠ w.heap.size + 2 by omega) (.int .i64 base))
 have Q2 := Hd (bx_set_other Q1.out (j := 0) (show w.heap.size + 1 ≠ w.heap.size + 2 by omega) (.int .i64 base))
 have X2 := Hd (ext_bx X1.out (show w.heap.size ≤ w.heap.size + 2 by omega) 0 (.int .i64 base))
 have O2 := Hd (O1.out.bx D1.out (by decide) (.int .i64 base) 0)
 clear HC hd1 hc1 D0 E0 X0 O0 Q0 D1 E1 X1 O1 Q1
 have HC1 := Hd (c_rows A c b f0 40 2 k0 (w.heap.size + 1) Bb _ O2.out HB.out hn a0 (by omega) (by omega) Q2.out)
 obtain ⟨r1, a1⟩ := rdRw_rows HB.out a0 k0 40 2
 obtain ⟨⟨L1, f1, k1⟩, h1⟩ : ∃ p, rdRw b f0 k0 40 2 = p := ⟨_, rfl⟩
 rw [h1] at r1 a1 HC1
 simp only at r1 a1 HC1
 have H1 := Hd h1
 clear h1
 go_wp2_with fail
 refine HC1.out.mono ?_
 rintro e3 v1 ⟨⟨Ao1, co1, rs1, rfl, hl1, hL1, q1⟩, hd, hc⟩
 subst hL1
 have D3 := Hd (box_chg D2.out hc (by omega))
 have E3 := Hd (box_chg E2.out hc (by omega))
 have X3 := Hd (chg_new X2.out hc (by omega))
 have O3 := Hd (O2.out.bxk Q2.out (by decide) hc)
 have Q3 := Hd hd
 have Z := Hd (q1.less (B' := w.heap.size) X2.out.size)
 have HW := Hd r1
 obtain ⟨C1, hC⟩ : ∃ C, (rs1.map Prod.snd).map celR = C := ⟨_, rfl⟩
 have HCl1 := Hd (show C1.length = rs1.length by rw [← hC]; simp)
 have HCd1 := Hd hC
 clear hC r1 q1 hd hc HC1 D2 E2 X2 O2 Q2
 clear dp fp zp
 go_wp2
 go_loopw [10, 26] (fun _ i wr => ∃ (k : Nat) (Aq : Option Addr) (cq : Nat), k ≤ rs1.length ∧ i = .int .i64 k ∧ Hid (wr.heap[w.heap.size + 2]? = some (.cells #[.int .i64 base, .slice Aq k cq, .slice none 0 0, .slice none 0 0] 44 (0, 0))) ∧ Hid (wr.heap[w.heap.size]? = some zL9) ∧ Hid (wr.heap[w.heap.size + 1]? = some (rdO A b.length c f1 k1)) ∧ Hid (Ow Cel.enc 101 2 wr w.heap.size (.slice Aq k cq) (C1.take k)) ∧ Hid (RsO wr w.heap.size Ao1 co1 rs1) ∧ Hid (Ow bEnc 5 1 wr Bb (.slice A b.length c) b) ∧ Hid (Ext w wr)) (fun _ i _ => rs1.length - (intOf i).toNat)
 case atStart => exact ⟨0, none, 0, Nat.zero_le _, rfl, D3, E3, Q3, Hd (by rw [Tz]; exact own_none0 _ _ _ _ _), Z, O3, X3⟩
 case round =>
  clear D3 E3 Q3 Z O3 X3
  obtain ⟨k, Ar1, cr1, hk, rfl, D, E, Q, P, Z, O, X⟩ := hrel
  have hs := X.out.size
  have zp := bx_lt D.out
  have dp := bx_cell D.out
  have fp := bx_frozen D.out
  by_cases hlt : k < rs1.length
  ·obtain ⟨zb, zo, yb, yo, yc, m0, m1, hA, hzb, hyb, hz, y0, y1, hel, hx0, hx1⟩ := Z.out.at2 HW.out hlt
   subst hA
   rw [HCd1.out] at hel
   have HEl := Hd hel
   clear hel
   go_wp2
   (refine wp_region_mix' (fun _ _ _ _ _ hq => hq) 11 (by kernel_rfl) (by kernel_rfl) (fun hg => ?_); simp only [headOps, Tc, Tz, List.filter_cons, List.filter_nil, isAlloc, Bool.not_true, Bool.not_false, Bf, if_true, if_false, List.cons_append, List.nil_append, Dc, Dz])
   (repeat (first | (refine wpMix_plain rfl rfl ?_; go_big_quiet_step (fail); refine wpQuiet_nil ?_) | (refine wpMix_skip rfl rfl ?_; simp only [Act.put, Sa, Sz, Ss])))
   (refine wpMix_alloc (.cells #[.int .i64 m0, .int .i64 m1] 101) rfl (fun W => by kernel_rfl) ?_; intro p1 hp1 hps1 hpi1; simp only [layVal, Act.put, Sa, Sz, Ss])
   refine wpMix_nil ?_
   rintro w3 ⟨x3, e3⟩
   have x3 : Ext wr w3 := x3
   have D := Hd (x3.box D.out)
   have E := Hd (x3.box E.out)
   have Q := Hd (x3.box Q.out)
   have P := Hd (P.out.kept x3)
   have Z := Hd (Z.out.kept x3)
   have O := Hd (O.out.kept x3)
   have X := Hd (Ext.trans X.out x3)
   have HE3 := Hd e3
   have hs := X.out.size
   have HN := Hd (show C1.take k ++ [⟨m0, m1⟩] = C1.take (k + 1) by rw [List.take_add_one, HEl.out]; rfl)
   have htk : (C1.take k).length ≤ 100 := by rw [List.length_take]; omega
   clear x3 e3 hp1 hps1 hpi1 dp fp zp hz hzb hyb HEl y0 y1
   go_wp2_with (at_builtin; refine wl_app (enc := Cel.enc) rfl _ _ 38 rfl w.heap.size 101 i0 _ 2 16 Try.underlying38 hi hz0 hz1 hz2 rfl (by decide) Cel.enc_len cel_one (.slice Ar1 k cr1) (C1.take k) rfl P.out (some ⟨p1, 0, none⟩) 1 [⟨m0, m1⟩] 1 rfl rfl (Rd.one HE3.out rfl) (by unfold maxLen; simp; omega) (by simp; omega) hs ?_)
   intro v' w4 ho4 hg4
   (try rw [HN.out] at ho4)
   have X4 := ext_app3 X.out hg4 P.out (Nat.le_refl _)
   have D4 := box_own D.out P.out hg4 (by decide)
   have E4 := box_own E.out P.out hg4 (by decide)
   have Q4 := box_own Q.out P.out hg4 (by decide)
   have Z4 := Z.out.beside P.out (by decide) (by decide) hg4
   have O4 := O.out.chg (chg_grown hg4) (O.out.apart P.out (by decide))
   obtain ⟨A5, c5, hv5⟩ := ho4.form
   have hlc : k + 1 ≤ C1.length := by have := HCl1.out; omega
   rw [List.length_take, Nat.min_eq_left hlc] at hv5
   subst hv5
   have dp := bx_cell D4
   have fp := bx_frozen D4
   have zp := bx_lt D4
   have hs4 := X4.size
   have D7 := Hd (box_put D4 1 (.slice A5 (k + 1) c5))
   have E7 := Hd (bx_set_other E4 (j := 1) (show w.heap.size ≠ w.heap.size + 2 by omega) (.slice A5 (k + 1) c5))
   have Q7 := Hd (bx_set_other Q4 (j := 1) (show w.heap.size + 1 ≠ w.heap.size + 2 by omega) (.slice A5 (k + 1) c5))
   have X7 := Hd (ext_bx X4 (show w.heap.size ≤ w.heap.size + 2 by omega) 1 (.slice A5 (k + 1) c5))
   have P7 := Hd (ho4.bx D4 (by decide) (.slice A5 (k + 1) c5) 1)
   have O7 := Hd (O4.bx D4 (by decide) (.slice A5 (k + 1) c5) 1)
   have Z7 := Hd (Z4.bxk D4 (by decide) (by decide) (chg_bx w4 (w.heap.size + 2) 1 (.slice A5 (k + 1) c5)))
   clear hg4 ho4 D4 E4 Q4 X4 O4 Z4  D E Q O P X Z HE3 hlc 
   go_wp2
   go_roundw
   case rel => exact ⟨k + 1, A5, c5, by omega, by go_num, D7, E7, Q7, P7, Z7, O7, X7⟩
   case measure => simp [intOf] <;> omega
  ·obtain rfl : k = rs1.length := by omega
   have R1 := Hd (show Ow Cel.enc 101 2 _ w.heap.size (.slice Ar1 C1.length cr1) C1 by have := P.out; rw [← HCl1.out, List.take_length] at this; exact this)
   have D6 := D
   rw [← HCl1.out] at D6
   have E6 := E
   have Q6 := Q
   have X6 := X
   have O6 := O
   have hC1 : C1.length ≤ 40 := by have := HCl1.out; omega
   clear D E Q X O P Z dp fp zp HW
   have HC2 := Hd (c_rows A c b f1 10 3 k1 (w.heap.size + 1) Bb _ O6.out HB.out hn a1 (by omega) (by omega) Q6.out)
   obtain ⟨r2, a2⟩ := rdRw_rows HB.out a1 k1 10 3
   obtain ⟨⟨L2, f2, k2⟩, h2⟩ : ∃ p, rdRw b f1 k1 10 3 = p := ⟨_, rfl⟩
   rw [h2] at r2 a2 HC2
   simp only at r2 a2 HC2
   have H2 := Hd h2
   clear h2
   go_wp2_with fail
   refine HC2.out.mono ?_
   rintro e4 v2 ⟨⟨Ao2, co2, rs2, rfl, hl2, hL2, q2⟩, hd, hc⟩
   subst hL2
   have D3 := Hd (box_chg D6.out hc (by omega))
   have E3 := Hd (box_chg E6.out hc (by omega))
   have X3 := Hd (chg_new X6.out hc (by omega))
   have O3 := Hd (O6.out.bxk Q6.out (by decide) hc)
   have Q3 := Hd hd
   have R1 := Hd (R1.out.bxk Q6.out (by decide) hc)
   have Z := Hd (q2.less (B' := w.heap.size) X6.out.size)
   have HW := Hd r2
   obtain ⟨C2, hC⟩ : ∃ C, (rs2.map Prod.snd).map seaR = C := ⟨_, rfl⟩
   have HCl2 := Hd (show C2.length = rs2.length by rw [← hC]; simp)
   have HCd2 := Hd hC
   clear hC r2 q2 hd hc HC2 D6 E6 X6 O6 Q6
   go_wp2
   go_loopw [12, 48] (fun _ i wr => ∃ (k : Nat) (Aq : Option Addr) (cq : Nat), k ≤ rs2.length ∧ i = .int .i64 k ∧ Hid (wr.heap[w.heap.size + 2]? = some (.cells #[.int .i64 base, .slice Ar1 C1.length cr1, .slice Aq k cq, .slice none 0 0] 44 (0, 0))) ∧ Hid (wr.heap[w.heap.size]? = some zL9) ∧ Hid (wr.heap[w.heap.size + 1]? = some (rdO A b.length c f2 k2)) ∧ Hid (Ow Sea.enc 103 3 wr w.heap.size (.slice Aq k cq) (C2.take k)) ∧ Hid (Ow Cel.enc 101 2 wr w.heap.size (.slice Ar1 C1.length cr1) C1) ∧ Hid (RsO wr w.heap.size Ao2 co2 rs2) ∧ Hid (Ow bEnc 5 1 wr Bb (.slice A b.length c) b) ∧ Hid (Ext w wr)) (fun _ i _ => rs2.length - (intOf i).toNat)
   case atStart => exact ⟨0, none, 0, Nat.zero_le _, rfl, D3, E3, Q3, Hd (by rw [Tz]; exact own_none0 _ _ _ _ _), R1, Z, O3, X3⟩
   case round =>
    clear D3 E3 Q3 R1 Z O3 X3
    obtain ⟨k, Ar2, cr2, hk, rfl, D, E, Q, P, R1, Z, O, X⟩ := hrel
    have hs := X.out.size
    have zp := bx_lt D.out
    have dp := bx_cell D.out
    have fp := bx_frozen D.out
    by_cases hlt : k < rs2.length
    ·obtain ⟨zb, zo, yb, yo, yc, m0, m1, m2, hA, hzb, hyb, hz, y0, y1, y2, hel, hx0, hx1⟩ := Z.out.at3 HW.out hlt
     subst hA
     rw [HCd2.out] at hel
     have hws : IntKind.i64.wrap (m2 - 1) = m2 - 1 := by rw [IntKind.wrap_i64]; omega
     have HEl := Hd hel
     clear hel
     go_wp2
     (refine wp_region_mix' (fun _ _ _ _ _ hq => hq) 15 (by kernel_rfl) (by kernel_rfl) (fun hg => ?_); simp only [headOps, Tc, Tz, List.filter_cons, List.filter_nil, isAlloc, Bool.not_true, Bool.not_false, Bf, if_true, if_false, List.cons_append, List.nil_append, Dc, Dz])
     (repeat (first | (refine wpMix_plain rfl rfl ?_; go_big_quiet_step (fail); refine wpQuiet_nil ?_) | (refine wpMix_skip rfl rfl ?_; simp only [Act.put, Sa, Sz, Ss])))
     (try simp only [hws])
     (repeat (first | (refine wpMix_plain rfl rfl ?_; go_big_quiet_step (fail); refine wpQuiet_nil ?_) | (refine wpMix_skip rfl rfl ?_; simp only [Act.put, Sa, Sz, Ss])))
     (refine wpMix_alloc (.cells #[.int .i64 m0, .int .i64 m1, .int .i64 (m2 - 1)] 103) rfl (fun W => by kernel_rfl) ?_; intro p1 hp1 hps1 hpi1; simp only [layVal, Act.put, Sa, Sz, Ss])
     refine wpMix_nil ?_
     rintro w3 ⟨x3, e3⟩
     have x3 : Ext wr w3 := x3
     have D := Hd (x3.box D.out)
     have E := Hd (x3.box E.out)
     have Q := Hd (x3.box Q.out)
     have P := Hd (P.out.kept x3)
     have Z := Hd (Z.out.kept x3)
     have O := Hd (O.out.kept x3)
     have R1 := Hd (R1.out.kept x3)
     have X := Hd (Ext.trans X.out x3)
     have HE3 := Hd e3
     have hs := X.out.size
     have HN := Hd (show C2.take k ++ [⟨m0, m1, (m2 - 1)⟩] = C2.take (k + 1) by rw [List.take_add_one, HEl.out]; rfl)
     have htk : (C2.take k).length ≤ 100 := by rw [List.length_take]; omega
     clear x3 e3 hp1 hps1 hpi1 dp fp zp hz hzb hyb HEl y0 y1 y2
     go_wp2_with (at_builtin; refine wl_app (enc := Sea.enc) rfl _ _ 39 rfl w.heap.size 103 j0 _ 3 24 Try.underlying39 ji jz0 jz1 jz2 rfl (by decide) Sea.enc_len sea_one (.slice Ar2 k cr2) (C2.take k) rfl P.out (some ⟨p1, 0, none⟩) 1 [⟨m0, m1, (m2 - 1)⟩] 1 rfl rfl (Rd.one HE3.out rfl) (by unfold maxLen; simp; omega) (by simp; omega) hs ?_)
     intro v' w4 ho4 hg4
     (try rw [HN.out] at ho4)
     have X4 := ext_app3 X.out hg4 P.out (Nat.le_refl _)
     have D4 := box_own D.out P.out hg4 (by decide)
     have E4 := box_own E.out P.out hg4 (by decide)
     have Q4 := box_own Q.out P.out hg4 (by decide)
     have Z4 := Z.out.beside P.out (by decide) (by decide) hg4
     have O4 := O.out.chg (chg_grown hg4) (O.out.apart P.out (by decide))
     have R14 := R1.out.chg (chg_grown hg4) (R1.out.apart P.out (by decide))
     obtain ⟨A5, c5, hv5⟩ := ho4.form
     have hlc : k + 1 ≤ C2.length := by have := HCl2.out; omega
     rw [List.length_take, Nat.min_eq_left hlc] at hv5
     subst hv5
     have dp := bx_cell D4
     have fp := bx_frozen D4
     have zp := bx_lt D4
     have hs4 := X4.size
     have D7 := Hd (box_put D4 2 (.slice A5 (k + 1) c5))
     have E7 := Hd (bx_set_other E4 (j := 2) (show w.heap.size ≠ w.heap.size + 2 by omega) (.slice A5 (k + 1) c5))
     have Q7 := Hd (bx_set_other Q4 (j := 2) (show w.heap.size + 1 ≠ w.heap.size + 2 by omega) (.slice A5 (k + 1) c5))
     have X7 := Hd (ext_bx X4 (show w.heap.size ≤ w.heap.size + 2 by omega) 2 (.slice A5 (k + 1) c5))
     have P7 := Hd (ho4.bx D4 (by decide) (.slice A5 (k + 1) c5) 2)
     have O7 := Hd (O4.bx D4 (by decide) (.slice A5 (k + 1) c5) 2)
     have Z7 := Hd (Z4.bxk D4 (by decide) (by decide) (chg_bx w4 (w.heap.size + 2) 2 (.slice A5 (k + 1) c5)))
     have R17 := Hd (R14.bx D4 (by decide) (.slice A5 (k + 1) c5) 2)
     clear hg4 ho4 D4 E4 Q4 X4 O4 Z4 R14 D E Q O P X Z HE3 hlc R1
     go_wp2
     go_roundw
     case rel => exact ⟨k + 1, A5, c5, by omega, by go_num, D7, E7, Q7, P7, R17, Z7, O7, X7⟩
     case measure => simp [intOf] <;> omega
    ·obtain rfl : k = rs2.length := by omega
     have R2 := Hd (show Ow Sea.enc 103 3 _ w.heap.size (.slice Ar2 C2.length cr2) C2 by have := P.out; rw [← HCl2.out, List.take_length] at this; exact this)
     have D6 := D
     rw [← HCl2.out] at D6
     have E6 := E
     have Q6 := Q
     have X6 := X
     have O6 := O
     have hC2 : C2.length ≤ 10 := by have := HCl2.out; omega
     clear D E Q X O P Z dp fp zp HW
     have HC3 := Hd (c_rows A c b f2 60 5 k2 (w.heap.size + 1) Bb _ O6.out HB.out hn a2 (by omega) (by omega) Q6.out)
     obtain ⟨r3, a3⟩ := rdRw_rows HB.out a2 k2 60 5
     obtain ⟨⟨L3, f3, k3⟩, h3⟩ : ∃ p, rdRw b f2 k2 60 5 = p := ⟨_, rfl⟩
     rw [h3] at r3 a3 HC3
     simp only at r3 a3 HC3
     have H3 := Hd h3
     clear h3
     go_wp2_with fail
     refine HC3.out.mono ?_
     rintro e5 v3 ⟨⟨Ao3, co3, rs3, rfl, hl3, hL3, q3⟩, hd, hc⟩
     subst hL3
     have D3 := Hd (box_chg D6.out hc (by omega))
     have E3 := Hd (box_chg E6.out hc (by omega))
     have X3 := Hd (chg_new X6.out hc (by omega))
     have O3 := Hd (O6.out.bxk Q6.out (by decide) hc)
     have Q3 := Hd hd
     have R1 := Hd (R1.out.bxk Q6.out (by decide) hc)
     have R2 := Hd (R2.out.bxk Q6.out (by decide) hc)
     have Z := Hd (q3.less (B' := w.heap.size) X6.out.size)
     have HW := Hd r3
     obtain ⟨C3, hC⟩ : ∃ C, (rs3.map Prod.snd).map entR = C := ⟨_, rfl⟩
     have HCl3 := Hd (show C3.length = rs3.length by rw [← hC]; simp)
     have HCd3 := Hd hC
     clear hC r3 q3 hd hc HC3 D6 E6 X6 O6 Q6
     go_wp2
     go_loopw [14, 74] (fun _ i wr => ∃ (k : Nat) (Aq : Option Addr) (cq : Nat), k ≤ rs3.length ∧ i = .int .i64 k ∧ Hid (wr.heap[w.heap.size + 2]? = some (.cells #[.int .i64 base, .slice Ar1 C1.length cr1, .slice Ar2 C2.length cr2, .slice Aq k cq] 44 (0, 0))) ∧ Hid (wr.heap[w.heap.size]? = some zL9) ∧ Hid (wr.heap[w.heap.size + 1]? = some (rdO A b.length c f3 k3)) ∧ Hid (Ow Ent.enc 105 5 wr w.heap.size (.slice Aq k cq) (C3.take k)) ∧ Hid (Ow Cel.enc 101 2 wr w.heap.size (.slice Ar1 C1.length cr1) C1) ∧ Hid (Ow Sea.enc 103 3 wr w.heap.size (.slice Ar2 C2.length cr2) C2) ∧ Hid (RsO wr w.heap.size Ao3 co3 rs3) ∧ Hid (Ow bEnc 5 1 wr Bb (.slice A b.length c) b) ∧ Hid (Ext w wr)) (fun _ i _ => rs3.length - (intOf i).toNat)
     case atStart => exact ⟨0, none, 0, Nat.zero_le _, rfl, D3, E3, Q3, Hd (by rw [Tz]; exact own_none0 _ _ _ _ _), R1, R2, Z, O3, X3⟩
     case round =>
      clear D3 E3 Q3 R1 R2 Z O3 X3
      obtain ⟨k, Ar3, cr3, hk, rfl, D, E, Q, P, R1, R2, Z, O, X⟩ := hrel
      have hs := X.out.size
      have zp := bx_lt D.out
      have dp := bx_cell D.out
      have fp := bx_frozen D.out
      by_cases hlt : k < rs3.length
      ·obtain ⟨zb, zo, yb, yo, yc, m0, m1, m2, m3, m4, hA, hzb, hyb, hz, y0, y1, y2, y3, y4, hel, hx0, hx1⟩ := Z.out.at5 HW.out hlt
       subst hA
       rw [HCd3.out] at hel
       have HEl := Hd hel
       clear hel
       go_wp2
       (refine wp_region_mix' (fun _ _ _ _ _ hq => hq) 20 (by kernel_rfl) (by kernel_rfl) (fun hg => ?_); simp only [headOps, Tc, Tz, List.filter_cons, List.filter_nil, isAlloc, Bool.not_true, Bool.not_false, Bf, if_true, if_false, List.cons_append, List.nil_append, Dc, Dz])
       (repeat (first | (refine wpMix_plain rfl rfl ?_; go_big_quiet_step (fail); refine wpQuiet_nil ?_) | (refine wpMix_skip rfl rfl ?_; simp only [Act.put, Sa, Sz, Ss])))
       (refine wpMix_alloc (.cells #[.int .i64 m0, .int .i64 m1, .int .i64 m2, .int .i64 m3, .int .i64 m4] 105) rfl (fun W => by kernel_rfl) ?_; intro p1 hp1 hps1 hpi1; simp only [layVal, Act.put, Sa, Sz, Ss])
       refine wpMix_nil ?_
       rintro w3 ⟨x3, e3⟩
       have x3 : Ext wr w3 := x3
       have D := Hd (x3.box D.out)
       have E := Hd (x3.box E.out)
       have Q := Hd (x3.box Q.out)
       have P := Hd (P.out.kept x3)
       have Z := Hd (Z.out.kept x3)
       have O := Hd (O.out.kept x3)
       have R1 := Hd (R1.out.kept x3)
       have R2 := Hd (R2.out.kept x3)
       have X := Hd (Ext.trans X.out x3)
       have HE3 := Hd e3
       have hs := X.out.size
       have HN := Hd (show C3.take k ++ [⟨m0, m1, m2, m3, m4⟩] = C3.take (k + 1) by rw [List.take_add_one, HEl.out]; rfl)
       have htk : (C3.take k).length ≤ 100 := by rw [List.length_take]; omega
       clear x3 e3 hp1 hps1 hpi1 dp fp zp hz hzb hyb HEl y0 y1 y2 y3 y4
       go_wp2_with (at_builtin; refine wl_app (enc := Ent.enc) rfl _ _ 42 rfl w.heap.size 105 n0 _ 5 40 Try.underlying42 ni nz0 nz1 nz2 rfl (by decide) Ent.enc_len ent_one (.slice Ar3 k cr3) (C3.take k) rfl P.out (some ⟨p1, 0, none⟩) 1 [⟨m0, m1, m2, m3, m4⟩] 1 rfl rfl (Rd.one HE3.out rfl) (by unfold maxLen; simp; omega) (by simp; omega) hs ?_)
       intro v' w4 ho4 hg4
       (try rw [HN.out] at ho4)
       have X4 := ext_app3 X.out hg4 P.out (Nat.le_refl _)
       have D4 := box_own D.out P.out hg4 (by decide)
       have E4 := box_own E.out P.out hg4 (by decide)
       have Q4 := box_own Q.out P.out hg4 (by decide)
       have Z4 := Z.out.beside P.out (by decide) (by decide) hg4
       have O4 := O.out.chg (chg_grown hg4) (O.out.apart P.out (by decide))
       have R14 := R1.out.chg (chg_grown hg4) (R1.out.apart P.out (by decide))
       have R24 := R2.out.chg (chg_grown hg4) (R2.out.apart P.out (by decide))
       obtain ⟨A5, c5, hv5⟩ := ho4.form
       have hlc : k + 1 ≤ C3.length := by have := HCl3.out; omega
       rw [List.length_take, Nat.min_eq_left hlc] at hv5
       subst hv5
       have dp := bx_cell D4
       have fp := bx_frozen D4
       have zp := bx_lt D4
       have hs4 := X4.size
       have D7 := Hd (box_put D4 3 (.slice A5 (k + 1) c5))
       have E7 := Hd (bx_set_other E4 (j := 3) (show w.heap.size ≠ w.heap.size + 2 by omega) (.slice A5 (k + 1) c5))
       have Q7 := Hd (bx_set_other Q4 (j := 3) (show w.heap.size + 1 ≠ w.heap.size + 2 by omega) (.slice A5 (k + 1) c5))
       have X7 := Hd (ext_bx X4 (show w.heap.size ≤ w.heap.size + 2 by omega) 3 (.slice A5 (k + 1) c5))
       have P7 := Hd (ho4.bx D4 (by decide) (.slice A5 (k + 1) c5) 3)
       have O7 := Hd (O4.bx D4 (by decide) (.slice A5 (k + 1) c5) 3)
       have Z7 := Hd (Z4.bxk D4 (by decide) (by decide) (chg_bx w4 (w.heap.size + 2) 3 (.slice A5 (k + 1) c5)))
       have R17 := Hd (R14.bx D4 (by decide) (.slice A5 (k + 1) c5) 3)
       have R27 := Hd (R24.bx D4 (by decide) (.slice A5 (k + 1) c5) 3)
       clear hg4 ho4 D4 E4 Q4 X4 O4 Z4 R14 R24 D E Q O P X Z HE3 hlc R1 R2
       go_wp2
       go_roundw
       case rel => exact ⟨k + 1, A5, c5, by omega, by go_num, D7, E7, Q7, P7, R17, R27, Z7, O7, X7⟩
       case measure => simp [intOf] <;> omega
      ·obtain rfl : k = rs3.length := by omega
       have R3 := Hd (show Ow Ent.enc 105 5 _ w.heap.size (.slice Ar3 C3.length cr3) C3 by have := P.out; rw [← HCl3.out, List.take_length] at this; exact this)
       have D6 := D
       rw [← HCl3.out] at D6
       have E6 := E
       have Q6 := Q
       have X6 := X
       have O6 := O
       have hC3 : C3.length ≤ 60 := by have := HCl3.out; omega
       clear D E Q X O P Z dp fp zp HW
       have HG := Hd (rdLog_prog HB.out ha H0.out H1.out H2.out H3.out)
       rw [HCd1.out, HCd2.out, HCd3.out] at HG
       have drp := bx_cell Q6.out
       have frp := bx_frozen Q6.out
       have zrp := bx_lt Q6.out
       have D6' := D6
       have F6 := Hd (show LgF _ w.heap.size ⟨Ar1, cr1, Ar2, cr2, Ar3, cr3⟩ ⟨base, C1, C2, C3⟩ from ⟨Ow.rdF Cel.enc_len R1.out, Ow.rdF Sea.enc_len R2.out, Ow.rdF Ent.enc_len R3.out⟩)
       cases k3
       ·have HN := Hd (show rdLog b at_ = none by rw [HG.out]; simp)
        (go_wp2_with (with_reducible refine wl_stopS 44 ?_); refine stop_store (w.heap.size) (#[.int .i64 0, .slice none 0 0, .slice none 0 0, .slice none 0 0]) rfl rfl (E6.out) (by kernel_rfl) rfl (by simp [Value.oneCell']) ?_)
        intro w9 e9 k9
        have E9 := Hd e9
        have X9 := Hd (chg_new X6.out k9 (Nat.le_refl _))
        clear e9 k9
        go_wp2
        exact bodyPost_ret (results_three Try.results52 rfl rfl rfl Try.underlying44 (by kernel_rfl) E9.out) rfl ⟨⟨_, rfl, by rw [HN.out]; rfl⟩, X9.out⟩
       ·have HCL := Hd (c_iLogOk ⟨Ar1, cr1, Ar2, cr2, Ar3, cr3⟩ ⟨base, C1, C2, C3⟩ (by show C1.length ≤ 1048576; omega) (by show C2.length ≤ 1048576; omega) (by show C3.length ≤ 1048576; omega) _ F6.out.rd)
        (go_wp2_with (with_reducible refine wl_stop 107 ?_); refine stop_loadG (D6.out) rfl rfl Try.underlying44 (by kernel_rfl) ?_; simp only [Act.put, Sa, Sz, Ss])
        go_wp2_with fail
        refine HCL.out.mono ?_
        rintro e9 w7 ⟨rfl, x7⟩
        have D7 := Hd (x7.box D6.out)
        have E7 := Hd (x7.box E6.out)
        have Q7 := Hd (x7.box Q6.out)
        have X7 := Hd (Ext.trans X6.out x7)
        have R17 := Hd (R1.out.kept x7)
        have R27 := Hd (R2.out.kept x7)
        have R37 := Hd (R3.out.kept x7)
        clear x7 D6 D6' E6 X6 F6 HCL Q6 O6 R1 R2 R3 drp frp zrp
        obtain ⟨q, hq⟩ : ∃ q, logOk ⟨base, C1, C2, C3⟩ = q := ⟨_, rfl⟩
        rw [hq] at HG ⊢
        cases q
        ·have HN := Hd (show rdLog b at_ = none by rw [HG.out]; simp)
         (go_wp2_with (with_reducible refine wl_stopS 44 ?_); refine stop_store (w.heap.size) (#[.int .i64 0, .slice none 0 0, .slice none 0 0, .slice none 0 0]) rfl rfl (E7.out) (by kernel_rfl) rfl (by simp [Value.oneCell']) ?_)
         intro w9 e9 k9
         have E9 := Hd e9
         have X9 := Hd (chg_new X7.out k9 (Nat.le_refl _))
         clear e9 k9
         go_wp2
         exact bodyPost_ret (results_three Try.results52 rfl rfl rfl Try.underlying44 (by kernel_rfl) E9.out) rfl ⟨⟨_, rfl, by rw [HN.out]; rfl⟩, X9.out⟩
        ·have HN := Hd (show rdLog b at_ = some (⟨base, C1, C2, C3⟩, f3) by rw [HG.out]; simp)
         have hq9 : w.heap.size < w7.heap.size := bx_lt E7.out
         have M := Hd (fun W' (h : (relS w.heap.size (.cells #[.int .i64 base, .slice Ar1 C1.length cr1, .slice Ar2 C2.length cr2, .slice Ar3 C3.length cr3] 44) w7.heap.size hq9).rel w7 W') => cells_mid (cs := #[.int .i64 base, .slice Ar1 C1.length cr1, .slice Ar2 C2.length cr2, .slice Ar3 C3.length cr3]) (relS_box D7.out (by omega) W' h) [] [] rfl rfl)
         go_wp2
         (refine Rm.wp_region_mix' (R := relS w.heap.size (.cells #[.int .i64 base, .slice Ar1 C1.length cr1, .slice Ar2 C2.length cr2, .slice Ar3 C3.length cr3] 44) w7.heap.size hq9) (stored w.heap.size (.cells #[.int .i64 base, .slice Ar1 C1.length cr1, .slice Ar2 C2.length cr2, .slice Ar3 C3.length cr3] 44)) (fun _ _ _ _ _ hq => hq) 6 (by first | exact Nat.le_refl _ | omega | (simp; omega)) (by kernel_rfl) (by kernel_rfl) ?_; simp only [Tc, Tz, Dc, Dz])
         (refine Rm.wpMix_loadAgg (M.out) rfl rfl rfl Try.underlying44 (by kernel_rfl) ?_; simp only [Act.put, Sa, Sz, Ss])
         (iterate 1 (refine Rm.wpMix_plain rfl rfl ?_; go_big_quiet_step (fail); refine wpQuiet_nil ?_))
         (refine Rm.wpMix_nilp rfl rfl rfl ?_; simp only [Act.put, Sa, Sz, Ss])
         (iterate 1 (refine Rm.wpMix_plain rfl rfl ?_; go_big_quiet_step (fail); refine wpQuiet_nil ?_))
         (refine Rm.wpMix_load1 (fun W' h => show W'.cell? _ = some (.int .i64 f3) from bx_cell (relS_box Q7.out (by omega) W' h) 1) rfl rfl rfl Try.underlying3 rfl ?_; simp only [Act.put, Sa, Sz, Ss])
         refine wpMix_st E7.out rfl rfl rfl rfl rfl (by kernel_rfl) rfl (by simp [Value.oneCell']) ?_
         simp only [Act.put, Sa, Sz, Ss]
         refine Rm.wpMix_nil ?_
         rintro W9 ⟨h9, e9⟩
         have E9 := Hd e9
         have k9 := h9.1
         have X9 := Hd (chg_new X7.out k9 (Nat.le_refl _))
         have F9 := Hd (show LgQ W9 w.heap.size ⟨Ar1, cr1, Ar2, cr2, Ar3, cr3⟩ ⟨base, C1, C2, C3⟩ from ⟨R17.out.bxk E7.out (by decide) k9, R27.out.bxk E7.out (by decide) k9, R37.out.bxk E7.out (by decide) k9⟩)
         clear e9 k9 h9 M
         go_wp2
         exact bodyPost_ret (results_three Try.results52 rfl rfl rfl Try.underlying44 (by kernel_rfl) E9.out) rfl ⟨⟨_, rfl, by rw [HN.out]; exact ⟨⟨Ar1, cr1, Ar2, cr2, Ar3, cr3⟩, rfl, F9.out⟩⟩, X9.out⟩
instance : Inhabited Lg := ⟨Lg.none⟩
instance : Inhabited LAd := ⟨LAd.none⟩
instance : Inhabited Vt := ⟨⟨0, 0, 0, 0, 0, 0, Lg.none⟩⟩
theorem Ow.frozen {α : Type} {enc : α → List Value} {e : TypeId} {sz : Nat} {w : World} {B g n c : Nat} {l : List α} (h : Ow enc e sz w B (.slice (some ⟨g, 0, none⟩) n c) l) : ∀ y, w.frozen? ⟨g, y, none⟩ = false := fun y => by
 rcases h.2 with ⟨h2, _⟩ | ⟨g', cap, cur, hv, hb, hh, r⟩
 ·cases h2
 ·simp only [Value.slice.injEq, Option.some.injEq, Addr.mk.injEq] at hv
  obtain ⟨⟨rfl, _⟩, _⟩ := hv
  exact frozen_of_row w g y cur e hh
def Vt.mk' (k : Int) (v : Vt) : Vt := ⟨k, k + 1, k + 1 + 1, k + 1 + 1 + 1, k + 1 + 1 + 1 + 1, k + 1 + 1 + 1 + 1 + 1, v.log.mk' (k + 1 + 1 + 1 + 1 + 1 + 1 + 1) (k + 1 + 1 + 1 + 1 + 1 + 1)⟩
def Vt.mN (v : Vt) : Int := 7 + v.log.mN
def VtE.Ks (k : Int) (ps : List VtE) : Nat → Int
 | 0 => k
 | j + 1 => VtE.Ks k ps j + match ps[j]? with | some p => p.2.mN | none => 0
def VtE.M (k : Int) (ps : List VtE) (i : Nat) : VtE := match ps[i]? with
 | some p => (p.1, p.2.mk' (VtE.Ks k ps i))
 | none => (LAd.none, (⟨LAd.none, default⟩ : VtE).2)
instance : Inhabited Mg := ⟨⟨0, 0, 0, 0, 0, 0, 0, 0, 0, 0, 0, 0, 0, Lg.none⟩⟩
instance : Inhabited Ot := ⟨⟨0, default⟩⟩
theorem OtE.len (p : OtE) : (OtE.enc p).length = 18 := rfl
def Ot.mk' (k : Int) (v : Ot) : Ot := ⟨k, ⟨k + 1, k + 1 + 1, k + 1 + 1 + 1, k + 1 + 1 + 1 + 1, k + 1 + 1 + 1 + 1 + 1, k + 1 + 1 + 1 + 1 + 1 + 1, k + 1 + 1 + 1 + 1 + 1 + 1 + 1, k + 1 + 1 + 1 + 1 + 1 + 1 + 1 + 1, k + 1 + 1 + 1 + 1 + 1 + 1 + 1 + 1 + 1, k + 1 + 1 + 1 + 1 + 1 + 1 + 1 + 1 + 1 + 1, k + 1 + 1 + 1 + 1 + 1 + 1 + 1 + 1 + 1 + 1 + 1, k + 1 + 1 + 1 + 1 + 1 + 1 + 1 + 1 + 1 + 1 + 1 + 1, k + 1 + 1 + 1 + 1 + 1 + 1 + 1 + 1 + 1 + 1 + 1 + 1 + 1, v.msg.log.mk' (k + 1 + 1 + 1 + 1 + 1 + 1 + 1 + 1 + 1 + 1 + 1 + 1 + 1 + 1 + 1) (k + 1 + 1 + 1 + 1 + 1 + 1 + 1 + 1 + 1 + 1 + 1 + 1 + 1 + 1)⟩⟩
def Ot.mN (v : Ot) : Int := 15 + v.msg.log.mN
def OtE.Ks (k : Int) (ps : List OtE) : Nat → Int
 | 0 => k
 | j + 1 => OtE.Ks k ps j + match ps[j]? with | some p => p.2.mN | none => 0
def OtE.M (k : Int) (ps : List OtE) (i : Nat) : OtE := match ps[i]? with
 | some p => (p.1, p.2.mk' (OtE.Ks k ps i))
 | none => (LAd.none, (⟨LAd.none, default⟩ : OtE).2)
abbrev OtE.cells (a : LAd) (o : Ot) : Array Value := #[.int .i64 o.to, .int .i64 o.msg.kind, .int .i64 o.msg.frm, .int .i64 o.msg.view, .int .i64 o.msg.op, .int .i64 o.msg.commit, .int .i64 o.msg.normal, .int .i64 o.msg.nonce, .int .i64 o.msg.client, .int .i64 o.msg.req, .int .i64 o.msg.answer, .int .i64 o.msg.ck, .int .i64 o.msg.cx, .int .i64 o.msg.cv, .int .i64 o.msg.log.base, .slice a.cA o.msg.log.cells.length a.cc, .slice a.sA o.msg.log.seats.length a.sc, .slice a.eA o.msg.log.ents.length a.ec]
abbrev Mg.cs (a : LAd) (m : Mg) : Array Value := #[.int .i64 m.kind, .int .i64 m.frm, .int .i64 m.view, .int .i64 m.op, .int .i64 m.commit, .int .i64 m.normal, .int .i64 m.nonce, .int .i64 m.client, .int .i64 m.req, .int .i64 m.answer, .int .i64 m.ck, .int .i64 m.cx, .int .i64 m.cv, .int .i64 m.log.base, .slice a.cA m.log.cells.length a.cc, .slice a.sA m.log.seats.length a.sc, .slice a.eA m.log.ents.length a.ec]
end Go.Proofs.Ytpghedeghoegmaa
