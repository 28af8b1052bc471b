/- The laws' own functions on rows of votes: marked, held. -/
import Derived.Test.YtkenlhdiehaemaaGreatPk12
namespace Go.Proofs.YtkenlhdiehaemaaGreat
open Go.ChangeShapes Go.WideShapes Go.ChangeAt Go.RowKit Go.Sort
set_option linter.unusedVariables false
set_option linter.unusedSimpArgs false
instance : Inhabited Lg := ⟨Lg.none⟩
instance : Inhabited LAd := ⟨LAd.none⟩
instance : Inhabited Vt := ⟨⟨0, 0, 0, 0, 0, 0, Lg.none⟩⟩
theorem mixed_at {α : Type} (M : Nat → α) (l : List α) {j : Nat} (hj : j ≤ l.length) {i : Nat} (hi : i < (mixed M l j).length) : (mixed M l j)[i] = if i < j then M i else l[i]'(by rw [mixed_length M l hj] at hi; exact hi) := by
 have hil : i < l.length := by rw [mixed_length M l hj] at hi; exact hi
 have h2 : (mixed M l j)[i]? = some (if i < j then M i else l[i]) := by
  unfold mixed
  by_cases h : i < j
  ·rw [List.getElem?_append_left (by simpa using h), if_pos h]
   simp [h]
  ·rw [List.getElem?_append_right (by simp; omega), if_neg h, List.getElem?_drop, List.length_map, List.length_range, show j + (i - j) = i by omega, List.getElem?_eq_getElem hil]
 rw [List.getElem?_eq_getElem hi] at h2
 exact Option.some.inj h2
theorem flatMap_congr_at {α β : Type} {f : α → List β} {l m : List α} (hl : l.length = m.length) (h : ∀ (i : Nat) (h1 : i < l.length) (h2 : i < m.length), f l[i] = f m[i]) : l.flatMap f = m.flatMap f := by
 rw [List.flatMap_def, List.flatMap_def]
 congr 1
 exact List.ext_getElem (by simpa using hl) (fun i h1 h2 => by simpa using h i (by simpa using h1) (by simpa using h2))
theorem nodup_apart {α : Type} {f : α → List Nat} : ∀ {l : List α} (_ : (l.flatMap f).Nodup) {i j : Nat} (hi : i < l.length) (hj : j < l.length) (_ : i ≠ j), ∀ x ∈ f l[i], x ∉ f l[j]
 | [], _, i, _, hi, _, _ => absurd hi (by simp)
 | a :: l, h, 0, 0, _, _, hne => absurd rfl hne
 | a :: l, h, 0, j + 1, hi, hj, hne => fun x hx hy => by
  rw [List.flatMap_cons, List.nodup_append] at h
  simp only [List.getElem_cons_zero, List.getElem_cons_succ] at hx hy
  exact h.2.2 x hx x (List.mem_flatMap.2 ⟨_, List.getElem_mem _, hy⟩) rfl
 | a :: l, h, i + 1, 0, hi, hj, hne => fun x hx hy => by
  rw [List.flatMap_cons, List.nodup_append] at h
  simp only [List.getElem_cons_zero, List.getElem_cons_succ] at hx hy
  exact h.2.2 x hy x (List.mem_flatMap.2 ⟨_, List.getElem_mem _, hx⟩) rfl
 | a :: l, h, i + 1, j + 1, hi, hj, hne => fun x hx hy => by
  rw [List.flatMap_cons, List.nodup_append] at h
  simp only [List.getElem_cons_succ] at hx hy
  exact nodup_apart h.2.1 (by simpa using hi) (by simpa using hj) (by omega) x hx hy
theorem Ow.frozen {α : Type} {enc : α → List Value} {e : TypeId} {sz : Nat} {w : World} {B g n c : Nat} {l : List α} (h : Ow enc e sz w B (.slice (some ⟨g, 0, none⟩) n c) l) : ∀ y, w.frozen? ⟨g, y, none⟩ = false := fun y => by
 rcases h.2 with ⟨h2, _⟩ | ⟨g', cap, cur, hv, hb, hh, r⟩
 ·cases h2
 ·simp only [Value.slice.injEq, Option.some.injEq, Addr.mk.injEq] at hv
  obtain ⟨⟨rfl, _⟩, _⟩ := hv
  exact frozen_of_row w g y cur e hh
def VtE.fps (A : Option Addr) (ps : List VtE) : List Nat := blk A ++ ps.flatMap (fun p => p.1.fp)
def Vt.mk' (k : Int) (v : Vt) : Vt := ⟨k, k + 1, k + 1 + 1, k + 1 + 1 + 1, k + 1 + 1 + 1 + 1, k + 1 + 1 + 1 + 1 + 1, v.log.mk' (k + 1 + 1 + 1 + 1 + 1 + 1 + 1) (k + 1 + 1 + 1 + 1 + 1 + 1)⟩
theorem Vt.mk_log (k : Int) (v : Vt) : (v.mk' k).log = v.log.mk' (k + 1 + 1 + 1 + 1 + 1 + 1 + 1) (k + 1 + 1 + 1 + 1 + 1 + 1) := rfl
def Vt.mN (v : Vt) : Int := 7 + v.log.mN
def VtE.Ks (k : Int) (ps : List VtE) : Nat → Int
 | 0 => k
 | j + 1 => VtE.Ks k ps j + match ps[j]? with | some p => p.2.mN | none => 0
theorem VtE.Ks_next (k : Int) {ps : List VtE} {j : Nat} (h : j < ps.length) : VtE.Ks k ps (j + 1) = VtE.Ks k ps j + ps[j].2.mN := by simp [VtE.Ks, h]
theorem VtE.Ks_le (k : Int) (ps : List VtE) (j : Nat) : ∀ d, VtE.Ks k ps j ≤ VtE.Ks k ps (j + d)
 | 0 => by simp
 | d + 1 => by
  have ih := VtE.Ks_le k ps j d
  show _ ≤ VtE.Ks k ps (j + d) + _
  cases h : ps[j + d]? with
  | none => simp; exact ih
  | some p =>
   have := p.2.log.mN_pos
   simp only [Vt.mN]
   omega
theorem VtE.Ks_ge (k : Int) (ps : List VtE) (j : Nat) : k ≤ VtE.Ks k ps j := by
 have := VtE.Ks_le k ps 0 j
 rwa [Nat.zero_add] at this
def VtE.M (k : Int) (ps : List VtE) (i : Nat) : VtE := match ps[i]? with
 | some p => (p.1, p.2.mk' (VtE.Ks k ps i))
 | none => (LAd.none, (⟨LAd.none, default⟩ : VtE).2)
theorem VtE.M_at (k : Int) {ps : List VtE} {i : Nat} (h : i < ps.length) : VtE.M k ps i = (ps[i].1, ps[i].2.mk' (VtE.Ks k ps i)) := by simp [VtE.M, h]
def VtE.mks (k : Int) (ps : List VtE) : List VtE := (List.range ps.length).map (VtE.M k ps)
theorem VtE.mks_length (k : Int) (ps : List VtE) : (VtE.mks k ps).length = ps.length := by simp [VtE.mks]
theorem VtE.mks_at (k : Int) {ps : List VtE} {i : Nat} (h : i < ps.length) : (VtE.mks k ps)[i]'(by rw [VtE.mks_length]; exact h) = (ps[i].1, ps[i].2.mk' (VtE.Ks k ps i)) := by simp [VtE.mks, VtE.M_at k h]
theorem VtE.mixed_fp (k : Int) (ps : List VtE) (j : Nat) (hj : j ≤ ps.length) : (mixed (VtE.M k ps) ps j).flatMap (fun p => p.1.fp) = ps.flatMap (fun p => p.1.fp) := by
 refine flatMap_congr_at (mixed_length _ _ hj) fun i h1 h2 => ?_
 rw [mixed_at _ _ hj h1]
 split
 ·rw [VtE.M_at k h2]
 ·rfl
theorem VsO.step {wr w7 w3 : World} {B T : Nat} {A : Option Addr} {c : Nat} {ps : List VtE} {k : Int} {j : Nat} (hj : j < ps.length) (h : VsO wr B T A c (mixed (VtE.M k ps) ps j)) (c7 : Chg wr w7 (blk A)) (o7 : Ow VtE.enc 110 10 w7 B (.slice A ps.length c) (mixed (VtE.M k ps) ps (j + 1))) (hL : LgO w3 B T ps[j].1 (ps[j].2.mk' (VtE.Ks k ps j)).log) (c3 : Chg w7 w3 ps[j].1.fp) : VsO w3 B T A c (mixed (VtE.M k ps) ps (j + 1)) := by
 have hnd := h.nd
 have htop := h.top
 rw [VtE.mixed_fp k ps j (by omega)] at hnd htop
 refine ⟨?_, ?_, ?_, ?_⟩
 ·rw [mixed_length _ _ (by omega : j + 1 ≤ ps.length)]
  exact o7.chg c3 (fun x hx hm => by
   rw [List.nodup_append] at hnd
   exact hnd.2.2 x hx x (List.mem_flatMap.2 ⟨ps[j], List.getElem_mem hj, hm⟩) rfl)
 ·intro p hp
  obtain ⟨i, hi, rfl⟩ := List.mem_iff_getElem.1 hp
  have hi2 : i < ps.length := by rw [mixed_length _ _ (by omega : j + 1 ≤ ps.length)] at hi; exact hi
  by_cases he : i = j
  ·subst he
   rw [mixed_at _ _ (by omega) hi, if_pos (by omega), VtE.M_at k hi2]
   exact hL
  ·have hold := h.l ((mixed (VtE.M k ps) ps j)[i]'(by rw [mixed_length _ _ (by omega : j ≤ ps.length)]; exact hi2)) (List.getElem_mem _)
   have hsame : (mixed (VtE.M k ps) ps (j + 1))[i] = (mixed (VtE.M k ps) ps j)[i]'(by rw [mixed_length _ _ (by omega : j ≤ ps.length)]; exact hi2) := by
    rw [mixed_at _ _ (by omega) hi, mixed_at _ _ (by omega) _]
    by_cases h1 : i < j
    ·rw [if_pos (by omega), if_pos h1]
    ·rw [if_neg (by omega), if_neg h1]
   have hfp : ((mixed (VtE.M k ps) ps j)[i]'(by rw [mixed_length _ _ (by omega : j ≤ ps.length)]; exact hi2)).1.fp = ps[i].1.fp := by
    rw [mixed_at _ _ (by omega) _]
    split
    ·rw [VtE.M_at k hi2]
    ·rfl
   rw [hsame]
   refine (hold.chg c7 (fun x hx hm => ?_)).chg c3 (fun x hx hm => ?_)
   ·rw [hfp] at hx
    rw [List.nodup_append] at hnd
    exact hnd.2.2 x hm x (List.mem_flatMap.2 ⟨ps[i], List.getElem_mem hi2, hx⟩) rfl
   ·rw [hfp] at hx
    rw [List.nodup_append] at hnd
    exact nodup_apart hnd.2.1 hi2 hj he x hx hm
 ·rw [VtE.mixed_fp k ps (j + 1) (by omega)]; exact hnd
 ·rw [VtE.mixed_fp k ps (j + 1) (by omega)]; exact htop
theorem VsO.done {w : World} {B T : Nat} {A : Option Addr} {c : Nat} {ps : List VtE} {k : Int} (h : VsO w B T A c (mixed (VtE.M k ps) ps ps.length)) : VsO w B T A c (VtE.mks k ps) := by
 rw [mixed_all] at h
 exact h
theorem VtE.own_next {w7 : World} {B g c : Nat} {k : Int} {ps : List VtE} {j : Nat} (hj : j < ps.length) {xs : List Value} (ho : w7.ownsRow B 110 10 (.slice (some ⟨g, 0, none⟩) ps.length c) ps.length xs) (hx : xs = (mixed (VtE.M k ps) ps (j + 1)).flatMap VtE.enc) : Ow VtE.enc 110 10 w7 B (.slice (some ⟨g, 0, none⟩) ps.length c) (mixed (VtE.M k ps) ps (j + 1)) := by
 unfold Ow
 rw [mixed_length _ _ (by omega : j + 1 ≤ ps.length), ← hx]
 exact ho
set_option maxHeartbeats 1000000 in
theorem VtE.set_next (k : Int) {ps : List VtE} {j : Nat} (hj : j < ps.length) : setAll ((mixed (VtE.M k ps) ps j).flatMap VtE.enc) (j * 10) [.int .i64 (VtE.Ks k ps j), .int .i64 (VtE.Ks k ps j + 1), .int .i64 (VtE.Ks k ps j + 1 + 1), .int .i64 (VtE.Ks k ps j + 1 + 1 + 1), .int .i64 (VtE.Ks k ps j + 1 + 1 + 1 + 1), .int .i64 (VtE.Ks k ps j + 1 + 1 + 1 + 1 + 1), .int .i64 (VtE.Ks k ps j + 1 + 1 + 1 + 1 + 1 + 1)] = (mixed (VtE.M k ps) ps (j + 1)).flatMap VtE.enc := by
 have h1 := setAll_mixed VtE.len (VtE.M k ps) ps j hj
 rw [← h1, VtE.M_at k hj]
 have hm : j < (mixed (VtE.M k ps) ps j).length := by rw [mixed_length _ _ (by omega : j ≤ ps.length)]; exact hj
 have hat : (mixed (VtE.M k ps) ps j)[j] = ps[j] := by rw [mixed_at _ _ (by omega) hm, if_neg (by omega)]
 have hg : ∀ i, i < 10 → ((mixed (VtE.M k ps) ps j).flatMap VtE.enc)[j * 10 + i]? = (VtE.enc ps[j])[i]? := fun i hi => by
  rw [flat_get VtE.len _ j hm i hi, hat]
 have g7 := hg 7 (by omega)
 have g8 := hg 8 (by omega)
 have g9 := hg 9 (by omega)
 generalize (mixed (VtE.M k ps) ps j).flatMap VtE.enc = xs at *
 simp only [VtE.enc, List.getElem?_cons_succ, List.getElem?_cons_zero] at g7 g8 g9
 simp only [setAll, VtE.enc, Vt.mk', Lg.mk_cells, Lg.mk_seats, Lg.mk_ents, Nat.add_assoc, Nat.reduceAdd]
 rw [list_set_self (i := j * 10 + 7) (by (repeat rw [List.getElem?_set_ne (by omega)]); exact g7), list_set_self (i := j * 10 + 8) (by (repeat rw [List.getElem?_set_ne (by omega)]); exact g8), list_set_self (i := j * 10 + 9) (by (repeat rw [List.getElem?_set_ne (by omega)]); exact g9)]
 rfl
set_option maxRecDepth 100000 in
set_option maxHeartbeats 4000000 in
theorem c_markVoteS (A : Option Addr) (c : Nat) (ps : List VtE) (B T : Nat) (k : Int) (w : World) (h : VsO w B T A c ps) (h0 : 0 ≤ k) (hK : VtE.Ks k ps ps.length ≤ 1000000000) (hs : ∀ p ∈ ps, p.2.log.small) (hn : ps.length ≤ 1048576) :
  Calls Tryz.prog 58 #[.slice A ps.length c, .int .i64 k] w fun e w' => e = .returned (.int .i64 (VtE.Ks k ps ps.length)) ∧ VsO w' B T A c (VtE.mks k ps) ∧ Chg w w' (VtE.fps A ps) := by
 have HH := Hd h
 have HSm := Hd hs
 clear h hs
 go_enter Tryz.func58, Tryz.ntmps58
 go_wp2
 go_loopw [1, 5] (fun q i wr => ∃ j : Nat, j ≤ ps.length ∧ i = .int .i64 j ∧ q = .int .i64 (VtE.Ks k ps j) ∧ VsO wr B T A c (mixed (VtE.M k ps) ps j) ∧ Chg w wr (VtE.fps A ps)) (fun _ i _ => ps.length - (intOf i).toNat)
 case atStart => exact ⟨0, Nat.zero_le _, rfl, rfl, by rw [mixed_zero]; exact HH.out, Chg.refl _ _⟩
 case round =>
  obtain ⟨j, hj, rfl, rfl, hown, hch⟩ := hrel
  have HOW := Hd hown
  have HCH := Hd hch
  clear hown hch
  by_cases hlt : j < ps.length
  ·have hml : (mixed (VtE.M k ps) ps j).length = ps.length := mixed_length _ _ hj
   have hown := HOW.out.r
   have hat := (HOW.out.rd.1).atVtE (k := j) (by rw [hml]; exact hlt)
   unfold Ow at hown
   rw [hml] at hown
   obtain ⟨g, rfl, hgB, hgl⟩ := ownsRow_form hown (by omega)
   obtain ⟨_, _, e, _, a0, a1, a2, a3, a4, a5, a6, a7, a8, a9⟩ := hat
   obtain ⟨rfl, rfl⟩ : g = _ ∧ 0 = _ := by simpa using e
   have hel : (mixed (VtE.M k ps) ps j)[j]'(by rw [hml]; exact hlt) = ps[j] := by rw [mixed_at _ _ (by omega) (by rw [hml]; exact hlt), if_neg (by omega)]
   rw [hel] at a0 a1 a2 a3 a4 a5 a6 a7 a8 a9
   simp only [Nat.zero_add] at a0 a1 a2 a3 a4 a5 a6 a7 a8 a9
   have hfz := World.ownsRow.frozenAt hown
   have HO := Hd hown
   have hKp := VtE.Ks_ge k ps j
   have hKn := VtE.Ks_le k ps (j + 1) (ps.length - (j + 1))
   rw [show j + 1 + (ps.length - (j + 1)) = ps.length by omega, VtE.Ks_next k hlt] at hKn
   have hmp := ps[j].2.log.mN_pos
   obtain ⟨hs1, hs2, hs3⟩ := HSm.out ps[j] (List.getElem_mem hlt)
   have hmN : ps[j].2.mN = 7 + (2 * (ps[j].2.log.cells.length : Int) + 3 * ps[j].2.log.seats.length + 5 * ps[j].2.log.ents.length) := rfl
   have HQ := Hd (show VtE.Ks k ps j + 1 + 1 + 1 + 1 + 1 + 1 + 1 + 2 * (ps[j].2.log.cells.length : Int) + 3 * ps[j].2.log.seats.length + 5 * ps[j].2.log.ents.length = VtE.Ks k ps (j + 1) by rw [VtE.Ks_next k hlt]; omega)
   have hKb : VtE.Ks k ps j ≤ 1000000000 := by rw [hmN] at hKn; omega
   have s0 := World.ownsRow.stored HO.out (j * 10) (.int .i64 (VtE.Ks k ps j))
   have s1 := World.ownsRow.stored s0.1 (j * 10 + 1) (.int .i64 (VtE.Ks k ps j + 1))
   have s2 := World.ownsRow.stored s1.1 (j * 10 + 2) (.int .i64 (VtE.Ks k ps j + 1 + 1))
   have s3 := World.ownsRow.stored s2.1 (j * 10 + 3) (.int .i64 (VtE.Ks k ps j + 1 + 1 + 1))
   have s4 := World.ownsRow.stored s3.1 (j * 10 + 4) (.int .i64 (VtE.Ks k ps j + 1 + 1 + 1 + 1))
   have s5 := World.ownsRow.stored s4.1 (j * 10 + 5) (.int .i64 (VtE.Ks k ps j + 1 + 1 + 1 + 1 + 1))
   have s6 := World.ownsRow.stored s5.1 (j * 10 + 6) (.int .i64 (VtE.Ks k ps j + 1 + 1 + 1 + 1 + 1 + 1))
   have G7 := Hd (grown_trans s0.2 (grown_trans s1.2 (grown_trans s2.2 (grown_trans s3.2 (grown_trans s4.2 (grown_trans s5.2 (s6.2)))))))
   have O7 := Hd (VtE.own_next (k := k) hlt s6.1 (VtE.set_next k hlt))
   have C7 := Hd (chg_grown (A := some ⟨g, 0, none⟩) (n := 0) (c := 0) G7.out)
   have hap := HOW.out.nd
   rw [VtE.mixed_fp k ps j hj, List.nodup_append] at hap
   have HAP := Hd (fun x (hx : x ∈ ps[j].1.fp) (hm : x ∈ blk (some ⟨g, 0, none⟩)) => hap.2.2 x hm x (List.mem_flatMap.2 ⟨ps[j], List.getElem_mem hlt, hx⟩) rfl)
   have hgfp : ∀ x, x ∈ ps[j].1.fp → ¬ g = x := fun x hx he => HAP.out x hx (by simp [blk, he])
   have HGF := Hd hgfp
   have hl := HOW.out.l ps[j] (by rw [← hel]; exact List.getElem_mem _)
   have HL := Hd (hl.chg C7.out (fun x hx hm => HAP.out x hx hm))
   clear s0 s1 s2 s3 s4 s5 s6 hap hgfp hl hown hel e hml hmN hKn HH HSm
   go_wp2_with fail
   refine (c_markCellS ps[j].1.cA ps[j].1.cc ps[j].2.log.cells B (VtE.Ks k ps j + 1 + 1 + 1 + 1 + 1 + 1 + 1) _ HL.out.c (by omega) (by omega) (by omega)).mono ?_
   rintro e w1 ⟨rfl, o1, g1⟩
   have O8 := Hd (O7.out.chg (chg_grown g1) (fun x hx hm => HAP.out x (fp_c _ x hm) hx))
   have hr8 := (O8.out.rd VtE.len).2.atVtE (k := j) (by rw [mixed_length _ _ (by omega : j + 1 ≤ ps.length)]; omega)
   obtain ⟨_, _, e, z8, b0, b1, b2, b3, b4, b5, b6, b7, b8, b9⟩ := hr8
   obtain ⟨rfl, rfl⟩ : g = _ ∧ 0 = _ := by simpa using e
   have hel : (mixed (VtE.M k ps) ps (j + 1))[j]'(by rw [mixed_length _ _ (by omega : j + 1 ≤ ps.length)]; omega) = (ps[j].1, ps[j].2.mk' (VtE.Ks k ps j)) := by rw [mixed_at _ _ (by omega) (by rw [mixed_length _ _ (by omega : j + 1 ≤ ps.length)]; omega), if_pos (by omega), VtE.M_at k hlt]
   rw [hel] at b8
   simp only [Nat.zero_add, Vt.mk', Lg.mk_seats] at b8
   have f8 := O8.out.frozen
   have HS := Hd (((HL.out.s.chg (chg_grown g1) HL.out.nd1)))
   have OO1 := Hd o1
   have G1 := Hd g1
   clear o1 g1 e a0 a1 a2 a3 a4 a5 a6 a7 a8 a9 hfz b0 b1 b2 b3 b4 b5 b6 b7 b9
   go_wp2_with fail
   refine (c_markSeatS ps[j].1.sA ps[j].1.sc ps[j].2.log.seats B (VtE.Ks k ps j + 1 + 1 + 1 + 1 + 1 + 1 + 1 + 2 * (ps[j].2.log.cells.length : Int)) _ HS.out (by omega) (by omega) (by omega)).mono ?_
   rintro e w2 ⟨rfl, o2, g2⟩
   have O9 := Hd (O8.out.chg (chg_grown g2) (fun x hx hm => HAP.out x (fp_s _ x hm) hx))
   have hr9 := (O9.out.rd VtE.len).2.atVtE (k := j) (by rw [mixed_length _ _ (by omega : j + 1 ≤ ps.length)]; omega)
   obtain ⟨_, _, e, z9, c0, c1, c2, c3, c4, c5, c6, c7, c8, c9⟩ := hr9
   obtain ⟨rfl, rfl⟩ : g = _ ∧ 0 = _ := by simpa using e
   rw [hel] at c9
   simp only [Nat.zero_add, Vt.mk', Lg.mk_ents] at c9
   have f9 := O9.out.frozen
   have HE := Hd ((HL.out.e.chg (chg_grown G1.out) HL.out.nd2).chg (chg_grown g2) HL.out.nd3)
   have OO2 := Hd o2
   have G2 := Hd g2
   clear o2 g2 e b8 f8 z8 c0 c1 c2 c3 c4 c5 c6 c7 c8 hel
   go_wp2_with fail
   refine (c_markEntryS ps[j].1.eA ps[j].1.ec ps[j].2.log.ents B (VtE.Ks k ps j + 1 + 1 + 1 + 1 + 1 + 1 + 1 + 2 * (ps[j].2.log.cells.length : Int) + 3 * (ps[j].2.log.seats.length : Int)) _ HE.out (by omega) (by omega) (by omega)).mono ?_
   rintro e w3 ⟨rfl, o3, g3⟩
   have HM := Hd (HL.out.marked (VtE.Ks k ps j + 1 + 1 + 1 + 1 + 1 + 1 + 1) (VtE.Ks k ps j + 1 + 1 + 1 + 1 + 1 + 1) (ext_refl _) OO1.out G1.out (ext_refl _) OO2.out G2.out (ext_refl _) o3 g3)
   have hML : LgO w3 B T ps[j].1 (ps[j].2.mk' (VtE.Ks k ps j)).log := by
    rw [Vt.mk_log]
    exact HM.out.1
   have HN := Hd (HOW.out.step hlt C7.out O7.out hML HM.out.2)
   clear hML
   have HC := Hd ((HCH.out.trans (C7.out.more (fun x hx => by unfold VtE.fps; exact List.mem_append_left _ hx))).trans (HM.out.2.more (fun x hx => by unfold VtE.fps; exact List.mem_append_right _ (List.mem_flatMap.2 ⟨ps[j], List.getElem_mem hlt, hx⟩))))
   clear o3 g3 c9 f9 z9
   go_wp2
   go_roundw
   case rel => exact ⟨j + 1, by omega, by go_num, by rw [HQ.out], HN.out, HC.out⟩
   case measure => simp [intOf] <;> omega
  ·have hjl : j = ps.length := by omega
   subst hjl
   go_wp2
   go_ret
   exact ⟨rfl, HOW.out.done, HCH.out⟩
set_option maxRecDepth 100000 in
set_option maxHeartbeats 4000000 in
theorem c_heldVoteS (A : Option Addr) (c : Nat) (ps : List VtE) (k : Int) (w : World) (h : VsR w A c (VtE.mks k ps)) (h0 : 0 ≤ k) (hK : VtE.Ks k ps ps.length ≤ 1000000000) (hs : ∀ p ∈ ps, p.2.log.small) (hn : ps.length ≤ 1048576) :
  Calls Tryz.prog 83 #[.slice A ps.length c, .int .i64 k] w fun e w' => e = .returned (.int .i64 (VtE.Ks k ps ps.length)) ∧ Ext w w' := by
 have HH := Hd h
 have HSm := Hd hs
 clear h hs
 go_enter Tryz.func83, Tryz.ntmps83
 go_wp2
 go_loopw [1, 5] (fun q i wr => ∃ j : Nat, j ≤ ps.length ∧ i = .int .i64 j ∧ q = .int .i64 (VtE.Ks k ps j) ∧ Ext w wr) (fun _ i _ => ps.length - (intOf i).toNat)
 case atStart => exact ⟨0, Nat.zero_le _, rfl, rfl, ext_refl _⟩
 case round =>
  obtain ⟨j, hj, rfl, rfl, X⟩ := hrel
  by_cases hlt : j < ps.length
  ·have hlt' : j < (VtE.mks k ps).length := by rw [VtE.mks_length]; exact hlt
   obtain ⟨g, o, rfl, z, a0, a1, a2, a3, a4, a5, a6, a7, a8, a9⟩ := (HH.out.keep X).1.atVtE hlt'
   have hlr := (HH.out.keep X).2 _ (List.getElem_mem hlt')
   rw [VtE.mks_at k hlt] at hlr a0 a1 a2 a3 a4 a5 a6 a7 a8 a9
   simp only [Vt.mk', Lg.mk_cells, Lg.mk_seats, Lg.mk_ents] at a0 a1 a2 a3 a4 a5 a6 a7 a8 a9
   simp only [Vt.mk', Lg.mk'] at hlr a0 a1 a2 a3 a4 a5 a6 a7 a8 a9
   have HLR := Hd hlr
   have hKp := VtE.Ks_ge k ps j
   have hKn := VtE.Ks_le k ps (j + 1) (ps.length - (j + 1))
   rw [show j + 1 + (ps.length - (j + 1)) = ps.length by omega, VtE.Ks_next k hlt] at hKn
   obtain ⟨hs1, hs2, hs3⟩ := HSm.out ps[j] (List.getElem_mem hlt)
   have hmN : ps[j].2.mN = 7 + (2 * (ps[j].2.log.cells.length : Int) + 3 * ps[j].2.log.seats.length + 5 * ps[j].2.log.ents.length) := rfl
   have HQ := Hd (show VtE.Ks k ps j + 1 + 1 + 1 + 1 + 1 + 1 + 1 + 2 * (ps[j].2.log.cells.length : Int) + 3 * ps[j].2.log.seats.length + 5 * ps[j].2.log.ents.length = VtE.Ks k ps (j + 1) by rw [VtE.Ks_next k hlt]; omega)
   have hKb : VtE.Ks k ps j ≤ 1000000000 := by rw [hmN] at hKn; omega
   have t0 : ((VtE.Ks k ps j) != (VtE.Ks k ps j)) = false := by simp
   have t1 : ((VtE.Ks k ps j + 1) != (VtE.Ks k ps j + 1)) = false := by simp
   have t2 : ((VtE.Ks k ps j + 1 + 1) != (VtE.Ks k ps j + 1 + 1)) = false := by simp
   have t3 : ((VtE.Ks k ps j + 1 + 1 + 1) != (VtE.Ks k ps j + 1 + 1 + 1)) = false := by simp
   have t4 : ((VtE.Ks k ps j + 1 + 1 + 1 + 1) != (VtE.Ks k ps j + 1 + 1 + 1 + 1)) = false := by simp
   have t5 : ((VtE.Ks k ps j + 1 + 1 + 1 + 1 + 1) != (VtE.Ks k ps j + 1 + 1 + 1 + 1 + 1)) = false := by simp
   have t6 : ((VtE.Ks k ps j + 1 + 1 + 1 + 1 + 1 + 1) != (VtE.Ks k ps j + 1 + 1 + 1 + 1 + 1 + 1)) = false := by simp
   have u1 : decide (VtE.Ks k ps j + 1 + 1 + 1 + 1 + 1 + 1 + 1 + 2 * (ps[j].2.log.cells.length : Int) < 0) = false := by simp; omega
   have u2 : decide (VtE.Ks k ps j + 1 + 1 + 1 + 1 + 1 + 1 + 1 + 2 * (ps[j].2.log.cells.length : Int) + 3 * ps[j].2.log.seats.length < 0) = false := by simp; omega
   have u3 : decide (VtE.Ks k ps j + 1 + 1 + 1 + 1 + 1 + 1 + 1 + 2 * (ps[j].2.log.cells.length : Int) + 3 * ps[j].2.log.seats.length + 5 * ps[j].2.log.ents.length < 0) = false := by simp; omega
   clear hlr hmN hKn
   go_wp2_with fail
   refine (c_heldCellS ps[j].1.cA ps[j].1.cc ps[j].2.log.cells.length (VtE.Ks k ps j + 1 + 1 + 1 + 1 + 1 + 1 + 1) _ HLR.out.1 (by omega) (by omega) (by omega)).mono ?_
   rintro e w1 ⟨rfl, x1⟩
   have e8 := (x1.rules.1 g (o + j * 10 + 8) z).trans a8
   have e9 := (x1.rules.1 g (o + j * 10 + 9) z).trans a9
   have z1 : g < w1.heap.size := Nat.lt_of_lt_of_le z x1.size
   have HS := Hd (HLR.out.2.1.keep x1)
   clear a0 a1 a2 a3 a4 a5 a6 a7 a8 a9
   go_wp2_with fail
   refine (c_heldSeatS ps[j].1.sA ps[j].1.sc ps[j].2.log.seats.length (VtE.Ks k ps j + 1 + 1 + 1 + 1 + 1 + 1 + 1 + 2 * (ps[j].2.log.cells.length : Int)) _ HS.out (by omega) (by omega) (by omega)).mono ?_
   rintro e w2 ⟨rfl, x2⟩
   have e10 := (x2.rules.1 g (o + j * 10 + 9) z1).trans e9
   have z2 : g < w2.heap.size := Nat.lt_of_lt_of_le z1 x2.size
   have HE := Hd (HLR.out.2.2.keep (Ext.trans x1 x2))
   clear e8 e9
   go_wp2_with fail
   refine (c_heldEntryS ps[j].1.eA ps[j].1.ec ps[j].2.log.ents.length (VtE.Ks k ps j + 1 + 1 + 1 + 1 + 1 + 1 + 1 + 2 * (ps[j].2.log.cells.length : Int) + 3 * (ps[j].2.log.seats.length : Int)) _ HE.out (by omega) (by omega) (by omega)).mono ?_
   rintro e w3 ⟨rfl, x3⟩
   go_wp2
   go_roundw
   case rel => exact ⟨j + 1, by omega, by go_num, by rw [HQ.out], Ext.trans X (Ext.trans x1 (Ext.trans x2 x3))⟩
   case measure => simp [intOf] <;> omega
  ·have hjl : j = ps.length := by omega
   subst hjl
   go_wp2
   go_ret
   exact ⟨rfl, X⟩
end Go.Proofs.YtkenlhdiehaemaaGreat
