/- slices.Insert at cells and seats. -/
import Derived.Test.YtmphedkbdlckhaaGreatPk2
import Derived.Test.YtmphedkbdlckhaaGreatPk4
namespace Go.Proofs.YtmphedkbdlckhaaGreat
open Go.ChangeShapes Go.WideShapes Go.ChangeAt Go.RowKit Go.Sort
set_option linter.unusedVariables false
theorem szCel : (Tryz.prog.info? 112).map (·.size) = some 2 := by kernel_rfl
theorem oneCel (x : Cel) : ∀ u ∈ x.enc, u.oneCell' = true := by intro u hu; simp [Cel.enc] at hu; rcases hu with rfl | rfl <;> rfl
theorem boxCel {w : World} {p : Nat} {x0 x1 : Int} (hv : w.heap[p]? = some (.cells #[.int .i64 x0, .int .i64 x1] 112 (0, 0))) : ∀ (j : Nat) (u : Value), ((⟨x0, x1⟩ : Cel).enc)[j]? = some u → w.cell? ((⟨p, 0, none⟩ : Addr).add j) = some u := fun j u hj => by
 rw [Addr.add_lit, Nat.zero_add, bx_cell hv j]
 simpa [Cel.enc] using hj
set_option maxHeartbeats 4000000 in
set_option maxRecDepth 100000 in
theorem c_insCel (g c : Nat) (l : List Cel) (i : Nat) (x0 x1 : Int) (p B : Nat) (w : World) (ho : Ow Cel.enc 112 2 w B (.slice (some ⟨g, 0, none⟩) l.length c) l) (hv : w.heap[p]? = some (.cells #[.int .i64 x0, .int .i64 x1] 112 (0, 0))) (hpg : p ≠ g) (hil : i ≤ l.length) (hn : l.length ≤ 1048576) (hB : B ≤ w.heap.size) :
  Calls Tryz.prog 153 #[.slice (some ⟨g, 0, none⟩) l.length c, .int .i64 i, .slice (some ⟨p, 0, none⟩) 1 1] w fun e w' => ∃ v', e = .returned v' ∧ Ow Cel.enc 112 2 w' B v' (l.take i ++ ⟨x0, x1⟩ :: l.drop i) ∧ w.grownBy w' (some g) := by
 obtain ⟨i0, hi, hz0, hz1, hz2⟩ := info_parts Tryz.infoCel
 have hr := (ho.rd Cel.enc_len).2
 have hcl := hr.1
 have hcm := hr.2.1
 unfold maxLen at hcm
 obtain ⟨n, hnn⟩ : ∃ n, l.length = n := ⟨_, rfl⟩
 have HF := Hd (flat_length Cel.enc_len l)
 have O0 := Hd (show w.ownsRow B 112 2 (.slice (some ⟨g, 0, none⟩) n c) n (l.flatMap Cel.enc) by have := ho; unfold Ow at this; rw [hnn] at this; exact this)
 have HV := Hd hv
 have hpl := bx_lt hv
 have hgl : g < w.heap.size := (ho.lt g rfl).2
 have HN := Hd hnn
 rw [hnn]
 rw [hnn] at hcl hil hn
 clear ho hv hr hnn
 rcases Nat.lt_or_ge i n with hlt | hge
 ·have q1 : ((i : Int) == (n : Int)) = false := by simp; omega
  have hci : ¬ (c = i) := by omega
  rcases Nat.lt_or_ge c (n + 1) with hroom | hroom
  ·have q2 : decide ((c : Int) < (n : Int) + 1) = true := by simp; omega
   go_enter Tryz.func153, Tryz.ntmps153
   go_wp2_with (at_builtin; refine wpList_zeros_own rfl _ _ _ _ rfl g i c rfl .i64 _ rfl (n + 1 - i) (by omega) O0.out i0 (.agg #[.int .i64 0, .int .i64 0]) .i64 Tryz.underlying47 Tryz.underlying3 hi hz0 hz1 rfl (by decide) (by omega) (by omega) (by omega) (by rw [hz2]; omega) (by omega) hB (n + 1) (by omega) ?_)
   intro w1 c1 ys hy o1 g1
   have s1 := g1.size
   have h1c := (World.ownsRow.lt o1 _ rfl).2
   have HV1 := Hd (box_beside HV.out g1 (by simp))
   have P1 := Hd (ownsRow_beside O0.out g1 (by simp))
   have HY := Hd hy
   have O1 := Hd o1
   have hc1 := (own_cap o1).1
   have hc2 := (own_cap o1).2
   have hci1 : ¬ (c1 = i) := by omega
   have hci2 : ¬ (c1 = i + 1) := by omega
   have g1' : w.grownBy w1 none := g1
   clear hy o1 hz0 hz1 hz2 hi
   clear g1
   obtain ⟨w2, r2, o2, g2⟩ := own_copy O1.out 47 47 3 (i * 2) (n + 1 - i) (c1 - i) ⟨p, 0, none⟩ 1 1 ((⟨x0, x1⟩ : Cel).enc) Tryz.underlying47 szCel (by rw [Cel.enc_len, show Nat.min 1 (n + 1 - i) = 1 from Nat.min_eq_left (by omega)]) (boxCel HV1.out) (by rw [Cel.enc_len]; omega) (oneCel _)
   have s2 := g2.size
   have P2 := Hd (ownsRow_beside P1.out g2 (fun k hk => by (have h : g = k := (by simpa [Value.ownBlock] using hk)); simp only [ne_eq, Option.some.injEq]; omega))
   have O2 := Hd o2
   have G2 := Hd g2
   have G1 := Hd g1'
   clear o2 g2 g1'
   go_wp2
   (refine wp_region_mix' (fun _ _ _ _ _ hq => hq) 8 (by kernel_rfl) (by kernel_rfl) (fun hg => ?_); simp only [headOps, Tc, Tz, List.filter_cons, List.filter_nil, isAlloc, Bool.not_false, Bf, if_true, if_false, List.append_nil, Dc, Dz])
   (repeat (refine wpMix_plain rfl rfl ?_; go_big_quiet_step (fail); refine wpQuiet_nil ?_))
   (refine wpMix_nil ?_; intro w3 hw3)
   have s3 := hw3.size
   have P3 := Hd (ownsRow_ext P2.out hw3)
   have O3 := Hd (ownsRow_ext O2.out hw3)
   obtain ⟨w4, r4, o4, g4⟩ := own_copy O3.out 47 47 3 ((i + 1) * 2) (n - i) (c1 - (i + 1)) ⟨g, i * 2, none⟩ (n - i) (c - i) ((l.flatMap Cel.enc).drop (i * 2)) Tryz.underlying47 szCel (by rw [List.length_drop, HF.out, HN.out, show Nat.min (n - i) (n - i) = n - i from Nat.min_self _]; omega) (fun j v hj => by rw [Addr.add_lit, World.ownsRow.cellAt P3.out _ (by have := (List.getElem?_eq_some_iff.1 hj).1; rw [List.length_drop, HF.out, HN.out] at this; omega)]; rwa [List.getElem?_drop] at hj) (by rw [List.length_drop, HF.out, HN.out]; omega) (fun v hv => flat_one oneCel l v (List.mem_of_mem_drop hv))
   have O4 := Hd o4
   have G4 := Hd g4
   clear o4 g4
   go_wp2
   go_ret
   refine ⟨_, rfl, ?_, ?_⟩
   ·have h := ins_new Cel.enc_len l i (by rw [HN.out]; exact hlt) ⟨x0, x1⟩ _ (by rw [HN.out]; exact HY.out)
    have h2 := O4.out
    rw [Cel.enc_len] at h2
    rw [Cel.enc_len] at h
    rw [h] at h2
    exact own_of h2 (by simp; have := HN.out; omega)
   ·have x1 : Ext w w1 := ext_grown (ext_refl _) G1.out (fun k hk => by cases hk)
    have x2 : Ext w w2 := ext_grown x1 G2.out (fun k hk => by simp only [Option.some.injEq] at hk; omega)
    have x4 : Ext w w4 := ext_grown (Ext.trans x2 hw3) G4.out (fun k hk => by simp only [Option.some.injEq] at hk; omega)
    exact grown_of_ext x4
  ·have q2 : decide ((c : Int) < (n : Int) + 1) = false := by simp; omega
   have hci2 : ¬ (c = i + 1) := by omega
   obtain ⟨ys, hy, o1⟩ := own_room O0.out hroom
   obtain ⟨cur, hgc, hcur⟩ := own_heap O0.out
   have hov : ∀ lb cb, (callFunc 157 #[.slice (some ⟨p, 0, none⟩) 1 1, .slice (some ⟨g, (i + 1) * 2, none⟩) lb cb]).run Tryz.prog w = .ok (.value (.bool false)) w := fun lb cb => by
    rw [run_callFunc_extern Tryz.func157 (by kernel_rfl) (by kernel_rfl) (by kernel_rfl) (e := Extern.SlicesOverlaps.overlaps #[47, 47] #[4]) (by kernel_rfl),
     own_apart (P := Tryz.prog) (tR := 4) Tryz.underlying47 Tryz.sizeOf112 HV.out hgc hpg (by rw [hcur]; omega)]
    rfl
   have HC := Hd hgc
   have HY := Hd hy
   have O1 := Hd o1
   clear hgc hy o1 hz0 hz1 hz2 hi hcur
   go_enter Tryz.func153, Tryz.ntmps153
   go_wp2
   clear hov
   (refine wp_region_mix' (fun _ _ _ _ _ hq => hq) 8 (by kernel_rfl) (by kernel_rfl) (fun hg => ?_); simp only [headOps, Tc, Tz, List.filter_cons, List.filter_nil, isAlloc, Bool.not_false, Bf, if_true, if_false, List.append_nil, Dc, Dz])
   (repeat (refine wpMix_plain rfl rfl ?_; go_big_quiet_step (fail); refine wpQuiet_nil ?_))
   (refine wpMix_nil ?_; intro w3 hw3)
   have s3 := hw3.size
   have O3 := Hd (ownsRow_ext O1.out hw3)
   have HV3 := Hd (hw3.box HV.out)
   obtain ⟨w4, r4, o4, g4⟩ := own_copy O3.out 47 47 3 ((i + 1) * 2) (n - i) (c - (i + 1)) ⟨g, i * 2, none⟩ (n + 1 - i) (c - i) ((l.flatMap Cel.enc).drop (i * 2)) Tryz.underlying47 szCel (by rw [List.length_drop, HF.out, HN.out, show Nat.min (n + 1 - i) (n - i) = n - i from Nat.min_eq_right (by omega)]; omega) (fun j v hj => by
    have hjl := (List.getElem?_eq_some_iff.1 hj).1
    rw [List.length_drop, HF.out, HN.out] at hjl
    rw [Addr.add_lit, World.ownsRow.cellAt O3.out _ (by omega), List.getElem?_append_left (by rw [HF.out, HN.out]; omega)]
    rwa [List.getElem?_drop] at hj) (by rw [List.length_drop, HF.out, HN.out]; omega) (fun v hv => flat_one oneCel l v (List.mem_of_mem_drop hv))
   have O4 := Hd o4
   have G4 := Hd g4
   have HV4 := Hd (box_beside HV3.out g4 (by simp only [ne_eq, Option.some.injEq]; omega))
   clear o4 g4
   obtain ⟨w5, r5, o5, g5⟩ := own_copy O4.out 47 47 3 (i * 2) (n + 1 - i) (c - i) ⟨p, 0, none⟩ 1 1 ((⟨x0, x1⟩ : Cel).enc) Tryz.underlying47 szCel (by rw [Cel.enc_len, show Nat.min 1 (n + 1 - i) = 1 from Nat.min_eq_left (by omega)]) (boxCel HV4.out) (by rw [Cel.enc_len]; omega) (oneCel _)
   have O5 := Hd o5
   have G5 := Hd g5
   clear o5 g5
   go_wp2
   go_ret
   refine ⟨_, rfl, ?_, ?_⟩
   ·have h := ins_room Cel.enc_len l i (by rw [HN.out]; exact hlt) ⟨x0, x1⟩ _ HY.out
    have h2 := O5.out
    rw [Cel.enc_len] at h2
    rw [Cel.enc_len] at h
    rw [h] at h2
    exact own_of h2 (by simp; have := HN.out; omega)
   ·exact grown_trans (grown_trans (grown_of_ext hw3) G4.out) G5.out
 ·obtain rfl : i = n := by omega
  have q1 : ((i : Int) == (i : Int)) = true := by simp
  have hnil : ∀ {v' : Value}, True := fun {_} => trivial
  go_enter Tryz.func153, Tryz.ntmps153
  by_cases hci : c = i
  all_goals
   go_wp2_with (at_builtin; refine wpList_append_own _ rfl _ _ 47 rfl B 112 i0 (.agg #[.int .i64 0, .int .i64 0]) 2 16 Tryz.underlying47 hi hz0 hz1 hz2 rfl (by decide) _ _ _ rfl O0.out ⟨p, 0, none⟩ 1 1 ((⟨x0, x1⟩ : Cel).enc) rfl rfl (boxCel HV.out) (oneCel _) (by unfold maxLen; omega) (by omega) hB ?_)
   intro v2 w2 o2 g2 _
   have O2 := Hd o2
   have G2 := Hd g2
   clear o2 g2
   go_wp2
   go_ret
   refine ⟨_, rfl, ?_, G2.out⟩
   have hl : l.length = i := HN.out
   rw [List.take_of_length_le (by omega), List.drop_of_length_le (by omega)]
   exact own_snoc O2.out (by rw [hl]) rfl
theorem szSea : (Tryz.prog.info? 113).map (·.size) = some 3 := by kernel_rfl
theorem oneSea (x : Sea) : ∀ u ∈ x.enc, u.oneCell' = true := by intro u hu; simp [Sea.enc] at hu; rcases hu with rfl | rfl | rfl <;> rfl
theorem boxSea {w : World} {p : Nat} {x0 x1 x2 : Int} (hv : w.heap[p]? = some (.cells #[.int .i64 x0, .int .i64 x1, .int .i64 x2] 113 (0, 0))) : ∀ (j : Nat) (u : Value), ((⟨x0, x1, x2⟩ : Sea).enc)[j]? = some u → w.cell? ((⟨p, 0, none⟩ : Addr).add j) = some u := fun j u hj => by
 rw [Addr.add_lit, Nat.zero_add, bx_cell hv j]
 simpa [Sea.enc] using hj
set_option maxHeartbeats 4000000 in
set_option maxRecDepth 100000 in
theorem c_insSea (g c : Nat) (l : List Sea) (i : Nat) (x0 x1 x2 : Int) (p B : Nat) (w : World) (ho : Ow Sea.enc 113 3 w B (.slice (some ⟨g, 0, none⟩) l.length c) l) (hv : w.heap[p]? = some (.cells #[.int .i64 x0, .int .i64 x1, .int .i64 x2] 113 (0, 0))) (hpg : p ≠ g) (hil : i ≤ l.length) (hn : l.length ≤ 1048576) (hB : B ≤ w.heap.size) :
  Calls Tryz.prog 124 #[.slice (some ⟨g, 0, none⟩) l.length c, .int .i64 i, .slice (some ⟨p, 0, none⟩) 1 1] w fun e w' => ∃ v', e = .returned v' ∧ Ow Sea.enc 113 3 w' B v' (l.take i ++ ⟨x0, x1, x2⟩ :: l.drop i) ∧ w.grownBy w' (some g) := by
 obtain ⟨i0, hi, hz0, hz1, hz2⟩ := info_parts Tryz.infoSea
 have hr := (ho.rd Sea.enc_len).2
 have hcl := hr.1
 have hcm := hr.2.1
 unfold maxLen at hcm
 obtain ⟨n, hnn⟩ : ∃ n, l.length = n := ⟨_, rfl⟩
 have HF := Hd (flat_length Sea.enc_len l)
 have O0 := Hd (show w.ownsRow B 113 3 (.slice (some ⟨g, 0, none⟩) n c) n (l.flatMap Sea.enc) by have := ho; unfold Ow at this; rw [hnn] at this; exact this)
 have HV := Hd hv
 have hpl := bx_lt hv
 have hgl : g < w.heap.size := (ho.lt g rfl).2
 have HN := Hd hnn
 rw [hnn]
 rw [hnn] at hcl hil hn
 clear ho hv hr hnn
 rcases Nat.lt_or_ge i n with hlt | hge
 ·have q1 : ((i : Int) == (n : Int)) = false := by simp; omega
  have hci : ¬ (c = i) := by omega
  rcases Nat.lt_or_ge c (n + 1) with hroom | hroom
  ·have q2 : decide ((c : Int) < (n : Int) + 1) = true := by simp; omega
   go_enter Tryz.func124, Tryz.ntmps124
   go_wp2_with (at_builtin; refine wpList_zeros_own rfl _ _ _ _ rfl g i c rfl .i64 _ rfl (n + 1 - i) (by omega) O0.out i0 (.agg #[.int .i64 0, .int .i64 0, .int .i64 0]) .i64 Tryz.underlying48 Tryz.underlying3 hi hz0 hz1 rfl (by decide) (by omega) (by omega) (by omega) (by rw [hz2]; omega) (by omega) hB (n + 1) (by omega) ?_)
   intro w1 c1 ys hy o1 g1
   have s1 := g1.size
   have h1c := (World.ownsRow.lt o1 _ rfl).2
   have HV1 := Hd (box_beside HV.out g1 (by simp))
   have P1 := Hd (ownsRow_beside O0.out g1 (by simp))
   have HY := Hd hy
   have O1 := Hd o1
   have hc1 := (own_cap o1).1
   have hc2 := (own_cap o1).2
   have hci1 : ¬ (c1 = i) := by omega
   have hci2 : ¬ (c1 = i + 1) := by omega
   have g1' : w.grownBy w1 none := g1
   clear hy o1 hz0 hz1 hz2 hi
   clear g1
   obtain ⟨w2, r2, o2, g2⟩ := own_copy O1.out 48 48 3 (i * 3) (n + 1 - i) (c1 - i) ⟨p, 0, none⟩ 1 1 ((⟨x0, x1, x2⟩ : Sea).enc) Tryz.underlying48 szSea (by rw [Sea.enc_len, show Nat.min 1 (n + 1 - i) = 1 from Nat.min_eq_left (by omega)]) (boxSea HV1.out) (by rw [Sea.enc_len]; omega) (oneSea _)
   have s2 := g2.size
   have P2 := Hd (ownsRow_beside P1.out g2 (fun k hk => by (have h : g = k := (by simpa [Value.ownBlock] using hk)); simp only [ne_eq, Option.some.injEq]; omega))
   have O2 := Hd o2
   have G2 := Hd g2
   have G1 := Hd g1'
   clear o2 g2 g1'
   go_wp2
   (refine wp_region_mix' (fun _ _ _ _ _ hq => hq) 8 (by kernel_rfl) (by kernel_rfl) (fun hg => ?_); simp only [headOps, Tc, Tz, List.filter_cons, List.filter_nil, isAlloc, Bool.not_false, Bf, if_true, if_false, List.append_nil, Dc, Dz])
   (repeat (refine wpMix_plain rfl rfl ?_; go_big_quiet_step (fail); refine wpQuiet_nil ?_))
   (refine wpMix_nil ?_; intro w3 hw3)
   have s3 := hw3.size
   have P3 := Hd (ownsRow_ext P2.out hw3)
   have O3 := Hd (ownsRow_ext O2.out hw3)
   obtain ⟨w4, r4, o4, g4⟩ := own_copy O3.out 48 48 3 ((i + 1) * 3) (n - i) (c1 - (i + 1)) ⟨g, i * 3, none⟩ (n - i) (c - i) ((l.flatMap Sea.enc).drop (i * 3)) Tryz.underlying48 szSea (by rw [List.length_drop, HF.out, HN.out, show Nat.min (n - i) (n - i) = n - i from Nat.min_self _]; omega) (fun j v hj => by rw [Addr.add_lit, World.ownsRow.cellAt P3.out _ (by have := (List.getElem?_eq_some_iff.1 hj).1; rw [List.length_drop, HF.out, HN.out] at this; omega)]; rwa [List.getElem?_drop] at hj) (by rw [List.length_drop, HF.out, HN.out]; omega) (fun v hv => flat_one oneSea l v (List.mem_of_mem_drop hv))
   have O4 := Hd o4
   have G4 := Hd g4
   clear o4 g4
   go_wp2
   go_ret
   refine ⟨_, rfl, ?_, ?_⟩
   ·have h := ins_new Sea.enc_len l i (by rw [HN.out]; exact hlt) ⟨x0, x1, x2⟩ _ (by rw [HN.out]; exact HY.out)
    have h2 := O4.out
    rw [Sea.enc_len] at h2
    rw [Sea.enc_len] at h
    rw [h] at h2
    exact own_of h2 (by simp; have := HN.out; omega)
   ·have x1 : Ext w w1 := ext_grown (ext_refl _) G1.out (fun k hk => by cases hk)
    have x2 : Ext w w2 := ext_grown x1 G2.out (fun k hk => by simp only [Option.some.injEq] at hk; omega)
    have x4 : Ext w w4 := ext_grown (Ext.trans x2 hw3) G4.out (fun k hk => by simp only [Option.some.injEq] at hk; omega)
    exact grown_of_ext x4
  ·have q2 : decide ((c : Int) < (n : Int) + 1) = false := by simp; omega
   have hci2 : ¬ (c = i + 1) := by omega
   obtain ⟨ys, hy, o1⟩ := own_room O0.out hroom
   obtain ⟨cur, hgc, hcur⟩ := own_heap O0.out
   have hov : ∀ lb cb, (callFunc 143 #[.slice (some ⟨p, 0, none⟩) 1 1, .slice (some ⟨g, (i + 1) * 3, none⟩) lb cb]).run Tryz.prog w = .ok (.value (.bool false)) w := fun lb cb => by
    rw [run_callFunc_extern Tryz.func143 (by kernel_rfl) (by kernel_rfl) (by kernel_rfl) (e := Extern.SlicesOverlaps.overlaps #[48, 48] #[4]) (by kernel_rfl),
     own_apart (P := Tryz.prog) (tR := 4) Tryz.underlying48 Tryz.sizeOf113 HV.out hgc hpg (by rw [hcur]; omega)]
    rfl
   have HC := Hd hgc
   have HY := Hd hy
   have O1 := Hd o1
   clear hgc hy o1 hz0 hz1 hz2 hi hcur
   go_enter Tryz.func124, Tryz.ntmps124
   go_wp2
   clear hov
   (refine wp_region_mix' (fun _ _ _ _ _ hq => hq) 8 (by kernel_rfl) (by kernel_rfl) (fun hg => ?_); simp only [headOps, Tc, Tz, List.filter_cons, List.filter_nil, isAlloc, Bool.not_false, Bf, if_true, if_false, List.append_nil, Dc, Dz])
   (repeat (refine wpMix_plain rfl rfl ?_; go_big_quiet_step (fail); refine wpQuiet_nil ?_))
   (refine wpMix_nil ?_; intro w3 hw3)
   have s3 := hw3.size
   have O3 := Hd (ownsRow_ext O1.out hw3)
   have HV3 := Hd (hw3.box HV.out)
   obtain ⟨w4, r4, o4, g4⟩ := own_copy O3.out 48 48 3 ((i + 1) * 3) (n - i) (c - (i + 1)) ⟨g, i * 3, none⟩ (n + 1 - i) (c - i) ((l.flatMap Sea.enc).drop (i * 3)) Tryz.underlying48 szSea (by rw [List.length_drop, HF.out, HN.out, show Nat.min (n + 1 - i) (n - i) = n - i from Nat.min_eq_right (by omega)]; omega) (fun j v hj => by
    have hjl := (List.getElem?_eq_some_iff.1 hj).1
    rw [List.length_drop, HF.out, HN.out] at hjl
    rw [Addr.add_lit, World.ownsRow.cellAt O3.out _ (by omega), List.getElem?_append_left (by rw [HF.out, HN.out]; omega)]
    rwa [List.getElem?_drop] at hj) (by rw [List.length_drop, HF.out, HN.out]; omega) (fun v hv => flat_one oneSea l v (List.mem_of_mem_drop hv))
   have O4 := Hd o4
   have G4 := Hd g4
   have HV4 := Hd (box_beside HV3.out g4 (by simp only [ne_eq, Option.some.injEq]; omega))
   clear o4 g4
   obtain ⟨w5, r5, o5, g5⟩ := own_copy O4.out 48 48 3 (i * 3) (n + 1 - i) (c - i) ⟨p, 0, none⟩ 1 1 ((⟨x0, x1, x2⟩ : Sea).enc) Tryz.underlying48 szSea (by rw [Sea.enc_len, show Nat.min 1 (n + 1 - i) = 1 from Nat.min_eq_left (by omega)]) (boxSea HV4.out) (by rw [Sea.enc_len]; omega) (oneSea _)
   have O5 := Hd o5
   have G5 := Hd g5
   clear o5 g5
   go_wp2
   go_ret
   refine ⟨_, rfl, ?_, ?_⟩
   ·have h := ins_room Sea.enc_len l i (by rw [HN.out]; exact hlt) ⟨x0, x1, x2⟩ _ HY.out
    have h2 := O5.out
    rw [Sea.enc_len] at h2
    rw [Sea.enc_len] at h
    rw [h] at h2
    exact own_of h2 (by simp; have := HN.out; omega)
   ·exact grown_trans (grown_trans (grown_of_ext hw3) G4.out) G5.out
 ·obtain rfl : i = n := by omega
  have q1 : ((i : Int) == (i : Int)) = true := by simp
  have hnil : ∀ {v' : Value}, True := fun {_} => trivial
  go_enter Tryz.func124, Tryz.ntmps124
  by_cases hci : c = i
  all_goals
   go_wp2_with (at_builtin; refine wpList_append_own _ rfl _ _ 48 rfl B 113 i0 (.agg #[.int .i64 0, .int .i64 0, .int .i64 0]) 3 24 Tryz.underlying48 hi hz0 hz1 hz2 rfl (by decide) _ _ _ rfl O0.out ⟨p, 0, none⟩ 1 1 ((⟨x0, x1, x2⟩ : Sea).enc) rfl rfl (boxSea HV.out) (oneSea _) (by unfold maxLen; omega) (by omega) hB ?_)
   intro v2 w2 o2 g2 _
   have O2 := Hd o2
   have G2 := Hd g2
   clear o2 g2
   go_wp2
   go_ret
   refine ⟨_, rfl, ?_, G2.out⟩
   have hl : l.length = i := HN.out
   rw [List.take_of_length_le (by omega), List.drop_of_length_le (by omega)]
   exact own_snoc O2.out (by rw [hl]) rfl
end Go.Proofs.YtmphedkbdlckhaaGreat
