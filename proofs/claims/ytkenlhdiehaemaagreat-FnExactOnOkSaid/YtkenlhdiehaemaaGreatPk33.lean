/- The laws' own functions on rows of what is sent: marked, held. -/
import Derived.Test.YtkenlhdiehaemaaGreatPk32
import Derived.Test.YtkenlhdiehaemaaGreatPk11
namespace Go.Proofs.YtkenlhdiehaemaaGreat
open Go.ChangeShapes Go.WideShapes Go.ChangeAt Go.RowKit Go.Sort
set_option linter.unusedVariables false
set_option linter.unusedSimpArgs false
instance : Inhabited Mg := ⟨⟨0, 0, 0, 0, 0, 0, 0, 0, 0, 0, 0, 0, 0, Lg.none⟩⟩
instance : Inhabited Ot := ⟨⟨0, default⟩⟩
theorem OtE.len (p : OtE) : (OtE.enc p).length = 18 := rfl
theorem Rd.atOtE {w : World} {A : Option Addr} {c : Nat} {l : List OtE} (h : Rd OtE.enc 18 w A c l) {k : Nat} (hk : k < l.length) : ∃ b o, A = some ⟨b, o, none⟩ ∧ b < w.heap.size ∧
  w.cell? ⟨b, o + k * 18, none⟩ = some (.int .i64 l[k].2.to) ∧ w.cell? ⟨b, o + k * 18 + 1, none⟩ = some (.int .i64 l[k].2.msg.kind) ∧ w.cell? ⟨b, o + k * 18 + 2, none⟩ = some (.int .i64 l[k].2.msg.frm) ∧ w.cell? ⟨b, o + k * 18 + 3, none⟩ = some (.int .i64 l[k].2.msg.view) ∧ w.cell? ⟨b, o + k * 18 + 4, none⟩ = some (.int .i64 l[k].2.msg.op) ∧ w.cell? ⟨b, o + k * 18 + 5, none⟩ = some (.int .i64 l[k].2.msg.commit) ∧ w.cell? ⟨b, o + k * 18 + 6, none⟩ = some (.int .i64 l[k].2.msg.normal) ∧ w.cell? ⟨b, o + k * 18 + 7, none⟩ = some (.int .i64 l[k].2.msg.nonce) ∧ w.cell? ⟨b, o + k * 18 + 8, none⟩ = some (.int .i64 l[k].2.msg.client) ∧ w.cell? ⟨b, o + k * 18 + 9, none⟩ = some (.int .i64 l[k].2.msg.req) ∧ w.cell? ⟨b, o + k * 18 + 10, none⟩ = some (.int .i64 l[k].2.msg.answer) ∧ w.cell? ⟨b, o + k * 18 + 11, none⟩ = some (.int .i64 l[k].2.msg.ck) ∧ w.cell? ⟨b, o + k * 18 + 12, none⟩ = some (.int .i64 l[k].2.msg.cx) ∧ w.cell? ⟨b, o + k * 18 + 13, none⟩ = some (.int .i64 l[k].2.msg.cv) ∧ w.cell? ⟨b, o + k * 18 + 14, none⟩ = some (.int .i64 l[k].2.msg.log.base) ∧ w.cell? ⟨b, o + k * 18 + 15, none⟩ = some (.slice l[k].1.cA l[k].2.msg.log.cells.length l[k].1.cc) ∧ w.cell? ⟨b, o + k * 18 + 16, none⟩ = some (.slice l[k].1.sA l[k].2.msg.log.seats.length l[k].1.sc) ∧ w.cell? ⟨b, o + k * 18 + 17, none⟩ = some (.slice l[k].1.eA l[k].2.msg.log.ents.length l[k].1.ec) := by
 obtain ⟨b, o, e, hlt, hc⟩ := h.2.2 (by omega)
 exact ⟨b, o, e, hlt, hc k hk 0 _ rfl, hc k hk 1 _ rfl, hc k hk 2 _ rfl, hc k hk 3 _ rfl, hc k hk 4 _ rfl, hc k hk 5 _ rfl, hc k hk 6 _ rfl, hc k hk 7 _ rfl, hc k hk 8 _ rfl, hc k hk 9 _ rfl, hc k hk 10 _ rfl, hc k hk 11 _ rfl, hc k hk 12 _ rfl, hc k hk 13 _ rfl, hc k hk 14 _ rfl, hc k hk 15 _ rfl, hc k hk 16 _ rfl, hc k hk 17 _ rfl⟩
structure OsO (w : World) (B T : Nat) (A : Option Addr) (c : Nat) (ps : List OtE) : Prop where
 r : Ow OtE.enc 100 18 w B (.slice A ps.length c) ps
 l : ∀ p ∈ ps, LgO w B T p.1 p.2.msg.log
 nd : (blk A ++ ps.flatMap (fun p => p.1.fp)).Nodup
 top : ∀ k ∈ blk A ++ ps.flatMap (fun p => p.1.fp), k < T
theorem OsO.rd {w : World} {B T : Nat} {A : Option Addr} {c : Nat} {ps : List OtE} (h : OsO w B T A c ps) : OsR w A c ps := ⟨(h.r.rd OtE.len).2, fun p hp => (h.l p hp).rd⟩
theorem OsO.kept {w w' : World} {B T : Nat} {A : Option Addr} {c : Nat} {ps : List OtE} (h : OsO w B T A c ps) (hx : Ext w w') : OsO w' B T A c ps := ⟨h.r.kept hx, fun p hp => (h.l p hp).kept hx, h.nd, h.top⟩
def OtE.fps (A : Option Addr) (ps : List OtE) : List Nat := blk A ++ ps.flatMap (fun p => p.1.fp)
def Ot.mk' (k : Int) (v : Ot) : Ot := ⟨k, ⟨k + 1, k + 1 + 1, k + 1 + 1 + 1, k + 1 + 1 + 1 + 1, k + 1 + 1 + 1 + 1 + 1, k + 1 + 1 + 1 + 1 + 1 + 1, k + 1 + 1 + 1 + 1 + 1 + 1 + 1, k + 1 + 1 + 1 + 1 + 1 + 1 + 1 + 1, k + 1 + 1 + 1 + 1 + 1 + 1 + 1 + 1 + 1, k + 1 + 1 + 1 + 1 + 1 + 1 + 1 + 1 + 1 + 1, k + 1 + 1 + 1 + 1 + 1 + 1 + 1 + 1 + 1 + 1 + 1, k + 1 + 1 + 1 + 1 + 1 + 1 + 1 + 1 + 1 + 1 + 1 + 1, k + 1 + 1 + 1 + 1 + 1 + 1 + 1 + 1 + 1 + 1 + 1 + 1 + 1, v.msg.log.mk' (k + 1 + 1 + 1 + 1 + 1 + 1 + 1 + 1 + 1 + 1 + 1 + 1 + 1 + 1 + 1) (k + 1 + 1 + 1 + 1 + 1 + 1 + 1 + 1 + 1 + 1 + 1 + 1 + 1 + 1)⟩⟩
theorem Ot.mk_log (k : Int) (v : Ot) : (v.mk' k).msg.log = v.msg.log.mk' (k + 1 + 1 + 1 + 1 + 1 + 1 + 1 + 1 + 1 + 1 + 1 + 1 + 1 + 1 + 1) (k + 1 + 1 + 1 + 1 + 1 + 1 + 1 + 1 + 1 + 1 + 1 + 1 + 1 + 1) := rfl
def Ot.mN (v : Ot) : Int := 15 + v.msg.log.mN
def OtE.Ks (k : Int) (ps : List OtE) : Nat → Int
 | 0 => k
 | j + 1 => OtE.Ks k ps j + match ps[j]? with | some p => p.2.mN | none => 0
theorem OtE.Ks_next (k : Int) {ps : List OtE} {j : Nat} (h : j < ps.length) : OtE.Ks k ps (j + 1) = OtE.Ks k ps j + ps[j].2.mN := by simp [OtE.Ks, h]
theorem OtE.Ks_le (k : Int) (ps : List OtE) (j : Nat) : ∀ d, OtE.Ks k ps j ≤ OtE.Ks k ps (j + d)
 | 0 => by simp
 | d + 1 => by
  have ih := OtE.Ks_le k ps j d
  show _ ≤ OtE.Ks k ps (j + d) + _
  cases h : ps[j + d]? with
  | none => simp; exact ih
  | some p =>
   have := p.2.msg.log.mN_pos
   simp only [Ot.mN]
   omega
theorem OtE.Ks_ge (k : Int) (ps : List OtE) (j : Nat) : k ≤ OtE.Ks k ps j := by
 have := OtE.Ks_le k ps 0 j
 rwa [Nat.zero_add] at this
def OtE.M (k : Int) (ps : List OtE) (i : Nat) : OtE := match ps[i]? with
 | some p => (p.1, p.2.mk' (OtE.Ks k ps i))
 | none => (LAd.none, (⟨LAd.none, default⟩ : OtE).2)
theorem OtE.M_at (k : Int) {ps : List OtE} {i : Nat} (h : i < ps.length) : OtE.M k ps i = (ps[i].1, ps[i].2.mk' (OtE.Ks k ps i)) := by simp [OtE.M, h]
def OtE.mks (k : Int) (ps : List OtE) : List OtE := (List.range ps.length).map (OtE.M k ps)
theorem OtE.mks_length (k : Int) (ps : List OtE) : (OtE.mks k ps).length = ps.length := by simp [OtE.mks]
theorem OtE.mks_at (k : Int) {ps : List OtE} {i : Nat} (h : i < ps.length) : (OtE.mks k ps)[i]'(by rw [OtE.mks_length]; exact h) = (ps[i].1, ps[i].2.mk' (OtE.Ks k ps i)) := by simp [OtE.mks, OtE.M_at k h]
theorem OtE.mixed_fp (k : Int) (ps : List OtE) (j : Nat) (hj : j ≤ ps.length) : (mixed (OtE.M k ps) ps j).flatMap (fun p => p.1.fp) = ps.flatMap (fun p => p.1.fp) := by
 refine flatMap_congr_at (mixed_length _ _ hj) fun i h1 h2 => ?_
 rw [mixed_at _ _ hj h1]
 split
 ·rw [OtE.M_at k h2]
 ·rfl
theorem OsO.step {wr w7 w3 : World} {B T : Nat} {A : Option Addr} {c : Nat} {ps : List OtE} {k : Int} {j : Nat} (hj : j < ps.length) (h : OsO wr B T A c (mixed (OtE.M k ps) ps j)) (c7 : Chg wr w7 (blk A)) (o7 : Ow OtE.enc 100 18 w7 B (.slice A ps.length c) (mixed (OtE.M k ps) ps (j + 1))) (hL : LgO w3 B T ps[j].1 (ps[j].2.mk' (OtE.Ks k ps j)).msg.log) (c3 : Chg w7 w3 ps[j].1.fp) : OsO w3 B T A c (mixed (OtE.M k ps) ps (j + 1)) := by
 have hnd := h.nd
 have htop := h.top
 rw [OtE.mixed_fp k ps j (by omega)] at hnd htop
 refine ⟨?_, ?_, ?_, ?_⟩
 ·rw [mixed_length _ _ (by omega : j + 1 ≤ ps.length)]
  exact o7.chg c3 (fun x hx hm => by
   rw [List.nodup_append] at hnd
   exact hnd.2.2 x hx x (List.mem_flatMap.2 ⟨ps[j], List.getElem_mem hj, hm⟩) rfl)
 ·intro p hp
  obtain ⟨i, hi, rfl⟩ := List.mem_iff_getElem.1 hp
  have hi2 : i < ps.length := by rw [mixed_length _ _ (by omega : j + 1 ≤ ps.length)] at hi; exact hi
  by_cases he : i = j
  ·subst he
   rw [mixed_at _ _ (by omega) hi, if_pos (by omega), OtE.M_at k hi2]
   exact hL
  ·have hold := h.l ((mixed (OtE.M k ps) ps j)[i]'(by rw [mixed_length _ _ (by omega : j ≤ ps.length)]; exact hi2)) (List.getElem_mem _)
   have hsame : (mixed (OtE.M k ps) ps (j + 1))[i] = (mixed (OtE.M k ps) ps j)[i]'(by rw [mixed_length _ _ (by omega : j ≤ ps.length)]; exact hi2) := by
    rw [mixed_at _ _ (by omega) hi, mixed_at _ _ (by omega) _]
    by_cases h1 : i < j
    ·rw [if_pos (by omega), if_pos h1]
    ·rw [if_neg (by omega), if_neg h1]
   have hfp : ((mixed (OtE.M k ps) ps j)[i]'(by rw [mixed_length _ _ (by omega : j ≤ ps.length)]; exact hi2)).1.fp = ps[i].1.fp := by
    rw [mixed_at _ _ (by omega) _]
    split
    ·rw [OtE.M_at k hi2]
    ·rfl
   rw [hsame]
   refine (hold.chg c7 (fun x hx hm => ?_)).chg c3 (fun x hx hm => ?_)
   ·rw [hfp] at hx
    rw [List.nodup_append] at hnd
    exact hnd.2.2 x hm x (List.mem_flatMap.2 ⟨ps[i], List.getElem_mem hi2, hx⟩) rfl
   ·rw [hfp] at hx
    rw [List.nodup_append] at hnd
    exact nodup_apart hnd.2.1 hi2 hj he x hx hm
 ·rw [OtE.mixed_fp k ps (j + 1) (by omega)]; exact hnd
 ·rw [OtE.mixed_fp k ps (j + 1) (by omega)]; exact htop
theorem OsO.done {w : World} {B T : Nat} {A : Option Addr} {c : Nat} {ps : List OtE} {k : Int} (h : OsO w B T A c (mixed (OtE.M k ps) ps ps.length)) : OsO w B T A c (OtE.mks k ps) := by
 rw [mixed_all] at h
 exact h
theorem OtE.own_next {w7 : World} {B g c : Nat} {k : Int} {ps : List OtE} {j : Nat} (hj : j < ps.length) {xs : List Value} (ho : w7.ownsRow B 100 18 (.slice (some ⟨g, 0, none⟩) ps.length c) ps.length xs) (hx : xs = (mixed (OtE.M k ps) ps (j + 1)).flatMap OtE.enc) : Ow OtE.enc 100 18 w7 B (.slice (some ⟨g, 0, none⟩) ps.length c) (mixed (OtE.M k ps) ps (j + 1)) := by
 unfold Ow
 rw [mixed_length _ _ (by omega : j + 1 ≤ ps.length), ← hx]
 exact ho
set_option maxHeartbeats 1000000 in
theorem OtE.set_next (k : Int) {ps : List OtE} {j : Nat} (hj : j < ps.length) : setAll ((mixed (OtE.M k ps) ps j).flatMap OtE.enc) (j * 18) [.int .i64 (OtE.Ks k ps j), .int .i64 (OtE.Ks k ps j + 1), .int .i64 (OtE.Ks k ps j + 1 + 1), .int .i64 (OtE.Ks k ps j + 1 + 1 + 1), .int .i64 (OtE.Ks k ps j + 1 + 1 + 1 + 1), .int .i64 (OtE.Ks k ps j + 1 + 1 + 1 + 1 + 1), .int .i64 (OtE.Ks k ps j + 1 + 1 + 1 + 1 + 1 + 1), .int .i64 (OtE.Ks k ps j + 1 + 1 + 1 + 1 + 1 + 1 + 1), .int .i64 (OtE.Ks k ps j + 1 + 1 + 1 + 1 + 1 + 1 + 1 + 1), .int .i64 (OtE.Ks k ps j + 1 + 1 + 1 + 1 + 1 + 1 + 1 + 1 + 1), .int .i64 (OtE.Ks k ps j + 1 + 1 + 1 + 1 + 1 + 1 + 1 + 1 + 1 + 1), .int .i64 (OtE.Ks k ps j + 1 + 1 + 1 + 1 + 1 + 1 + 1 + 1 + 1 + 1 + 1), .int .i64 (OtE.Ks k ps j + 1 + 1 + 1 + 1 + 1 + 1 + 1 + 1 + 1 + 1 + 1 + 1), .int .i64 (OtE.Ks k ps j + 1 + 1 + 1 + 1 + 1 + 1 + 1 + 1 + 1 + 1 + 1 + 1 + 1), .int .i64 (OtE.Ks k ps j + 1 + 1 + 1 + 1 + 1 + 1 + 1 + 1 + 1 + 1 + 1 + 1 + 1 + 1)] = (mixed (OtE.M k ps) ps (j + 1)).flatMap OtE.enc := by
 have h1 := setAll_mixed OtE.len (OtE.M k ps) ps j hj
 rw [← h1, OtE.M_at k hj]
 have hm : j < (mixed (OtE.M k ps) ps j).length := by rw [mixed_length _ _ (by omega : j ≤ ps.length)]; exact hj
 have hat : (mixed (OtE.M k ps) ps j)[j] = ps[j] := by rw [mixed_at _ _ (by omega) hm, if_neg (by omega)]
 have hg : ∀ i, i < 18 → ((mixed (OtE.M k ps) ps j).flatMap OtE.enc)[j * 18 + i]? = (OtE.enc ps[j])[i]? := fun i hi => by
  rw [flat_get OtE.len _ j hm i hi, hat]
 have g7 := hg 15 (by omega)
 have g8 := hg 16 (by omega)
 have g9 := hg 17 (by omega)
 generalize (mixed (OtE.M k ps) ps j).flatMap OtE.enc = xs at *
 simp only [OtE.enc, List.getElem?_cons_succ, List.getElem?_cons_zero] at g7 g8 g9
 simp only [setAll, OtE.enc, Ot.mk', Lg.mk_cells, Lg.mk_seats, Lg.mk_ents, Nat.add_assoc, Nat.reduceAdd]
 rw [list_set_self (i := j * 18 + 15) (by (repeat rw [List.getElem?_set_ne (by omega)]); exact g7), list_set_self (i := j * 18 + 16) (by (repeat rw [List.getElem?_set_ne (by omega)]); exact g8), list_set_self (i := j * 18 + 17) (by (repeat rw [List.getElem?_set_ne (by omega)]); exact g9)]
 rfl
set_option maxRecDepth 100000 in
set_option maxHeartbeats 4000000 in
theorem c_markOutS (A : Option Addr) (c : Nat) (ps : List OtE) (B T : Nat) (k : Int) (w : World) (h : OsO w B T A c ps) (h0 : 0 ≤ k) (hK : OtE.Ks k ps ps.length ≤ 1000000000) (hs : ∀ p ∈ ps, p.2.msg.log.small) (hn : ps.length ≤ 1048576) :
  Calls Tryz.prog 28 #[.slice A ps.length c, .int .i64 k] w fun e w' => e = .returned (.int .i64 (OtE.Ks k ps ps.length)) ∧ OsO w' B T A c (OtE.mks k ps) ∧ Chg w w' (OtE.fps A ps) := by
 have HH := Hd h
 have HSm := Hd hs
 clear h hs
 go_enter Tryz.func28, Tryz.ntmps28
 go_wp2
 go_loopw [1, 5] (fun q i wr => ∃ j : Nat, j ≤ ps.length ∧ i = .int .i64 j ∧ q = .int .i64 (OtE.Ks k ps j) ∧ OsO wr B T A c (mixed (OtE.M k ps) ps j) ∧ Chg w wr (OtE.fps A ps)) (fun _ i _ => ps.length - (intOf i).toNat)
 case atStart => exact ⟨0, Nat.zero_le _, rfl, rfl, by rw [mixed_zero]; exact HH.out, Chg.refl _ _⟩
 case round =>
  obtain ⟨j, hj, rfl, rfl, hown, hch⟩ := hrel
  have HOW := Hd hown
  have HCH := Hd hch
  clear hown hch
  by_cases hlt : j < ps.length
  ·have hml : (mixed (OtE.M k ps) ps j).length = ps.length := mixed_length _ _ hj
   have hown := HOW.out.r
   have hat := (HOW.out.rd.1).atOtE (k := j) (by rw [hml]; exact hlt)
   unfold Ow at hown
   rw [hml] at hown
   obtain ⟨g, rfl, hgB, hgl⟩ := ownsRow_form hown (by omega)
   obtain ⟨_, _, e, _, a0, a1, a2, a3, a4, a5, a6, a7, a8, a9, a10, a11, a12, a13, a14, a15, a16, a17⟩ := hat
   obtain ⟨rfl, rfl⟩ : g = _ ∧ 0 = _ := by simpa using e
   have hel : (mixed (OtE.M k ps) ps j)[j]'(by rw [hml]; exact hlt) = ps[j] := by rw [mixed_at _ _ (by omega) (by rw [hml]; exact hlt), if_neg (by omega)]
   rw [hel] at a0 a1 a2 a3 a4 a5 a6 a7 a8 a9 a10 a11 a12 a13 a14 a15 a16 a17
   simp only [Nat.zero_add] at a0 a1 a2 a3 a4 a5 a6 a7 a8 a9 a10 a11 a12 a13 a14 a15 a16 a17
   have hfz := World.ownsRow.frozenAt hown
   have HO := Hd hown
   have hKp := OtE.Ks_ge k ps j
   have hKn := OtE.Ks_le k ps (j + 1) (ps.length - (j + 1))
   rw [show j + 1 + (ps.length - (j + 1)) = ps.length by omega, OtE.Ks_next k hlt] at hKn
   have hmp := ps[j].2.msg.log.mN_pos
   obtain ⟨hs1, hs2, hs3⟩ := HSm.out ps[j] (List.getElem_mem hlt)
   have hmN : ps[j].2.mN = 15 + (2 * (ps[j].2.msg.log.cells.length : Int) + 3 * ps[j].2.msg.log.seats.length + 5 * ps[j].2.msg.log.ents.length) := rfl
   have HQ := Hd (show OtE.Ks k ps j + 1 + 1 + 1 + 1 + 1 + 1 + 1 + 1 + 1 + 1 + 1 + 1 + 1 + 1 + 1 + 2 * (ps[j].2.msg.log.cells.length : Int) + 3 * ps[j].2.msg.log.seats.length + 5 * ps[j].2.msg.log.ents.length = OtE.Ks k ps (j + 1) by rw [OtE.Ks_next k hlt]; omega)
   have hKb : OtE.Ks k ps j ≤ 1000000000 := by rw [hmN] at hKn; omega
   have s0 := World.ownsRow.stored HO.out (j * 18) (.int .i64 (OtE.Ks k ps j))
   have s1 := World.ownsRow.stored s0.1 (j * 18 + 1) (.int .i64 (OtE.Ks k ps j + 1))
   have s2 := World.ownsRow.stored s1.1 (j * 18 + 2) (.int .i64 (OtE.Ks k ps j + 1 + 1))
   have s3 := World.ownsRow.stored s2.1 (j * 18 + 3) (.int .i64 (OtE.Ks k ps j + 1 + 1 + 1))
   have s4 := World.ownsRow.stored s3.1 (j * 18 + 4) (.int .i64 (OtE.Ks k ps j + 1 + 1 + 1 + 1))
   have s5 := World.ownsRow.stored s4.1 (j * 18 + 5) (.int .i64 (OtE.Ks k ps j + 1 + 1 + 1 + 1 + 1))
   have s6 := World.ownsRow.stored s5.1 (j * 18 + 6) (.int .i64 (OtE.Ks k ps j + 1 + 1 + 1 + 1 + 1 + 1))
   have s7 := World.ownsRow.stored s6.1 (j * 18 + 7) (.int .i64 (OtE.Ks k ps j + 1 + 1 + 1 + 1 + 1 + 1 + 1))
   have s8 := World.ownsRow.stored s7.1 (j * 18 + 8) (.int .i64 (OtE.Ks k ps j + 1 + 1 + 1 + 1 + 1 + 1 + 1 + 1))
   have s9 := World.ownsRow.stored s8.1 (j * 18 + 9) (.int .i64 (OtE.Ks k ps j + 1 + 1 + 1 + 1 + 1 + 1 + 1 + 1 + 1))
   have s10 := World.ownsRow.stored s9.1 (j * 18 + 10) (.int .i64 (OtE.Ks k ps j + 1 + 1 + 1 + 1 + 1 + 1 + 1 + 1 + 1 + 1))
   have s11 := World.ownsRow.stored s10.1 (j * 18 + 11) (.int .i64 (OtE.Ks k ps j + 1 + 1 + 1 + 1 + 1 + 1 + 1 + 1 + 1 + 1 + 1))
   have s12 := World.ownsRow.stored s11.1 (j * 18 + 12) (.int .i64 (OtE.Ks k ps j + 1 + 1 + 1 + 1 + 1 + 1 + 1 + 1 + 1 + 1 + 1 + 1))
   have s13 := World.ownsRow.stored s12.1 (j * 18 + 13) (.int .i64 (OtE.Ks k ps j + 1 + 1 + 1 + 1 + 1 + 1 + 1 + 1 + 1 + 1 + 1 + 1 + 1))
   have s14 := World.ownsRow.stored s13.1 (j * 18 + 14) (.int .i64 (OtE.Ks k ps j + 1 + 1 + 1 + 1 + 1 + 1 + 1 + 1 + 1 + 1 + 1 + 1 + 1 + 1))
   have G7 := Hd (grown_trans s0.2 (grown_trans s1.2 (grown_trans s2.2 (grown_trans s3.2 (grown_trans s4.2 (grown_trans s5.2 (grown_trans s6.2 (grown_trans s7.2 (grown_trans s8.2 (grown_trans s9.2 (grown_trans s10.2 (grown_trans s11.2 (grown_trans s12.2 (grown_trans s13.2 (s14.2)))))))))))))))
   have O7 := Hd (OtE.own_next (k := k) hlt s14.1 (OtE.set_next k hlt))
   have C7 := Hd (chg_grown (A := some ⟨g, 0, none⟩) (n := 0) (c := 0) G7.out)
   have hap := HOW.out.nd
   rw [OtE.mixed_fp k ps j hj, List.nodup_append] at hap
   have HAP := Hd (fun x (hx : x ∈ ps[j].1.fp) (hm : x ∈ blk (some ⟨g, 0, none⟩)) => hap.2.2 x hm x (List.mem_flatMap.2 ⟨ps[j], List.getElem_mem hlt, hx⟩) rfl)
   have hgfp : ∀ x, x ∈ ps[j].1.fp → ¬ g = x := fun x hx he => HAP.out x hx (by simp [blk, he])
   have HGF := Hd hgfp
   have hl := HOW.out.l ps[j] (by rw [← hel]; exact List.getElem_mem _)
   have HL := Hd (hl.chg C7.out (fun x hx hm => HAP.out x hx hm))
   clear s0 s1 s2 s3 s4 s5 s6 s7 s8 s9 s10 s11 s12 s13 s14 hap hgfp hl hown hel e hml hmN hKn HH HSm
   go_wp2_with fail
   refine (c_markCellS ps[j].1.cA ps[j].1.cc ps[j].2.msg.log.cells B (OtE.Ks k ps j + 1 + 1 + 1 + 1 + 1 + 1 + 1 + 1 + 1 + 1 + 1 + 1 + 1 + 1 + 1) _ HL.out.c (by omega) (by omega) (by omega)).mono ?_
   rintro e w1 ⟨rfl, o1, g1⟩
   have O8 := Hd (O7.out.chg (chg_grown g1) (fun x hx hm => HAP.out x (fp_c _ x hm) hx))
   have hr8 := (O8.out.rd OtE.len).2.atOtE (k := j) (by rw [mixed_length _ _ (by omega : j + 1 ≤ ps.length)]; omega)
   obtain ⟨_, _, e, z8, b0, b1, b2, b3, b4, b5, b6, b7, b8, b9, b10, b11, b12, b13, b14, b15, b16, b17⟩ := hr8
   obtain ⟨rfl, rfl⟩ : g = _ ∧ 0 = _ := by simpa using e
   have hel : (mixed (OtE.M k ps) ps (j + 1))[j]'(by rw [mixed_length _ _ (by omega : j + 1 ≤ ps.length)]; omega) = (ps[j].1, ps[j].2.mk' (OtE.Ks k ps j)) := by rw [mixed_at _ _ (by omega) (by rw [mixed_length _ _ (by omega : j + 1 ≤ ps.length)]; omega), if_pos (by omega), OtE.M_at k hlt]
   rw [hel] at b16
   simp only [Nat.zero_add, Ot.mk', Lg.mk_seats] at b16
   have f8 := O8.out.frozen
   have HS := Hd (((HL.out.s.chg (chg_grown g1) HL.out.nd1)))
   have OO1 := Hd o1
   have G1 := Hd g1
   clear o1 g1 e a0 a1 a2 a3 a4 a5 a6 a7 a8 a9 a10 a11 a12 a13 a14 a15 a16 a17 hfz b0 b1 b2 b3 b4 b5 b6 b7 b8 b9 b10 b11 b12 b13 b14 b15 b17
   go_wp2_with fail
   refine (c_markSeatS ps[j].1.sA ps[j].1.sc ps[j].2.msg.log.seats B (OtE.Ks k ps j + 1 + 1 + 1 + 1 + 1 + 1 + 1 + 1 + 1 + 1 + 1 + 1 + 1 + 1 + 1 + 2 * (ps[j].2.msg.log.cells.length : Int)) _ HS.out (by omega) (by omega) (by omega)).mono ?_
   rintro e w2 ⟨rfl, o2, g2⟩
   have O9 := Hd (O8.out.chg (chg_grown g2) (fun x hx hm => HAP.out x (fp_s _ x hm) hx))
   have hr9 := (O9.out.rd OtE.len).2.atOtE (k := j) (by rw [mixed_length _ _ (by omega : j + 1 ≤ ps.length)]; omega)
   obtain ⟨_, _, e, z9, c0, c1, c2, c3, c4, c5, c6, c7, c8, c9, c10, c11, c12, c13, c14, c15, c16, c17⟩ := hr9
   obtain ⟨rfl, rfl⟩ : g = _ ∧ 0 = _ := by simpa using e
   rw [hel] at c17
   simp only [Nat.zero_add, Ot.mk', Lg.mk_ents] at c17
   have f9 := O9.out.frozen
   have HE := Hd ((HL.out.e.chg (chg_grown G1.out) HL.out.nd2).chg (chg_grown g2) HL.out.nd3)
   have OO2 := Hd o2
   have G2 := Hd g2
   clear o2 g2 e b16 f8 z8 c0 c1 c2 c3 c4 c5 c6 c7 c8 c9 c10 c11 c12 c13 c14 c15 c16 hel
   go_wp2_with fail
   refine (c_markEntryS ps[j].1.eA ps[j].1.ec ps[j].2.msg.log.ents B (OtE.Ks k ps j + 1 + 1 + 1 + 1 + 1 + 1 + 1 + 1 + 1 + 1 + 1 + 1 + 1 + 1 + 1 + 2 * (ps[j].2.msg.log.cells.length : Int) + 3 * (ps[j].2.msg.log.seats.length : Int)) _ HE.out (by omega) (by omega) (by omega)).mono ?_
   rintro e w3 ⟨rfl, o3, g3⟩
   have HM := Hd (HL.out.marked (OtE.Ks k ps j + 1 + 1 + 1 + 1 + 1 + 1 + 1 + 1 + 1 + 1 + 1 + 1 + 1 + 1 + 1) (OtE.Ks k ps j + 1 + 1 + 1 + 1 + 1 + 1 + 1 + 1 + 1 + 1 + 1 + 1 + 1 + 1) (ext_refl _) OO1.out G1.out (ext_refl _) OO2.out G2.out (ext_refl _) o3 g3)
   have hML : LgO w3 B T ps[j].1 (ps[j].2.mk' (OtE.Ks k ps j)).msg.log := by
    rw [Ot.mk_log]
    exact HM.out.1
   have HN := Hd (HOW.out.step hlt C7.out O7.out hML HM.out.2)
   clear hML
   have HC := Hd ((HCH.out.trans (C7.out.more (fun x hx => by unfold OtE.fps; exact List.mem_append_left _ hx))).trans (HM.out.2.more (fun x hx => by unfold OtE.fps; exact List.mem_append_right _ (List.mem_flatMap.2 ⟨ps[j], List.getElem_mem hlt, hx⟩))))
   clear o3 g3 c17 f9 z9
   go_wp2
   go_roundw
   case rel => exact ⟨j + 1, by omega, by go_num, by rw [HQ.out], HN.out, HC.out⟩
   case measure => simp [intOf] <;> omega
  ·have hjl : j = ps.length := by omega
   subst hjl
   go_wp2
   go_ret
   exact ⟨rfl, HOW.out.done, HCH.out⟩
set_option maxRecDepth 100000 in
set_option maxHeartbeats 4000000 in
theorem c_heldOutS (A : Option Addr) (c : Nat) (ps : List OtE) (k : Int) (w : World) (h : OsR w A c (OtE.mks k ps)) (h0 : 0 ≤ k) (hK : OtE.Ks k ps ps.length ≤ 1000000000) (hs : ∀ p ∈ ps, p.2.msg.log.small) (hn : ps.length ≤ 1048576) :
  Calls Tryz.prog 30 #[.slice A ps.length c, .int .i64 k] w fun e w' => e = .returned (.int .i64 (OtE.Ks k ps ps.length)) ∧ Ext w w' := by
 have HH := Hd h
 have HSm := Hd hs
 clear h hs
 go_enter Tryz.func30, Tryz.ntmps30
 go_wp2
 go_loopw [1, 5] (fun q i wr => ∃ j : Nat, j ≤ ps.length ∧ i = .int .i64 j ∧ q = .int .i64 (OtE.Ks k ps j) ∧ Ext w wr) (fun _ i _ => ps.length - (intOf i).toNat)
 case atStart => exact ⟨0, Nat.zero_le _, rfl, rfl, ext_refl _⟩
 case round =>
  obtain ⟨j, hj, rfl, rfl, X⟩ := hrel
  by_cases hlt : j < ps.length
  ·have hlt' : j < (OtE.mks k ps).length := by rw [OtE.mks_length]; exact hlt
   obtain ⟨g, o, rfl, z, a0, a1, a2, a3, a4, a5, a6, a7, a8, a9, a10, a11, a12, a13, a14, a15, a16, a17⟩ := (HH.out.keep X).1.atOtE hlt'
   have hlr := (HH.out.keep X).2 _ (List.getElem_mem hlt')
   rw [OtE.mks_at k hlt] at hlr a0 a1 a2 a3 a4 a5 a6 a7 a8 a9 a10 a11 a12 a13 a14 a15 a16 a17
   simp only [Ot.mk', Lg.mk_cells, Lg.mk_seats, Lg.mk_ents] at a0 a1 a2 a3 a4 a5 a6 a7 a8 a9 a10 a11 a12 a13 a14 a15 a16 a17
   simp only [Ot.mk', Lg.mk'] at hlr a0 a1 a2 a3 a4 a5 a6 a7 a8 a9 a10 a11 a12 a13 a14 a15 a16 a17
   have HLR := Hd hlr
   have hKp := OtE.Ks_ge k ps j
   have hKn := OtE.Ks_le k ps (j + 1) (ps.length - (j + 1))
   rw [show j + 1 + (ps.length - (j + 1)) = ps.length by omega, OtE.Ks_next k hlt] at hKn
   obtain ⟨hs1, hs2, hs3⟩ := HSm.out ps[j] (List.getElem_mem hlt)
   have hmN : ps[j].2.mN = 15 + (2 * (ps[j].2.msg.log.cells.length : Int) + 3 * ps[j].2.msg.log.seats.length + 5 * ps[j].2.msg.log.ents.length) := rfl
   have HQ := Hd (show OtE.Ks k ps j + 1 + 1 + 1 + 1 + 1 + 1 + 1 + 1 + 1 + 1 + 1 + 1 + 1 + 1 + 1 + 2 * (ps[j].2.msg.log.cells.length : Int) + 3 * ps[j].2.msg.log.seats.length + 5 * ps[j].2.msg.log.ents.length = OtE.Ks k ps (j + 1) by rw [OtE.Ks_next k hlt]; omega)
   have hKb : OtE.Ks k ps j ≤ 1000000000 := by rw [hmN] at hKn; omega
   have t0 : ((OtE.Ks k ps j) != (OtE.Ks k ps j)) = false := by simp
   have t1 : ((OtE.Ks k ps j + 1) != (OtE.Ks k ps j + 1)) = false := by simp
   have t2 : ((OtE.Ks k ps j + 1 + 1) != (OtE.Ks k ps j + 1 + 1)) = false := by simp
   have t3 : ((OtE.Ks k ps j + 1 + 1 + 1) != (OtE.Ks k ps j + 1 + 1 + 1)) = false := by simp
   have t4 : ((OtE.Ks k ps j + 1 + 1 + 1 + 1) != (OtE.Ks k ps j + 1 + 1 + 1 + 1)) = false := by simp
   have t5 : ((OtE.Ks k ps j + 1 + 1 + 1 + 1 + 1) != (OtE.Ks k ps j + 1 + 1 + 1 + 1 + 1)) = false := by simp
   have t6 : ((OtE.Ks k ps j + 1 + 1 + 1 + 1 + 1 + 1) != (OtE.Ks k ps j + 1 + 1 + 1 + 1 + 1 + 1)) = false := by simp
   have t7 : ((OtE.Ks k ps j + 1 + 1 + 1 + 1 + 1 + 1 + 1) != (OtE.Ks k ps j + 1 + 1 + 1 + 1 + 1 + 1 + 1)) = false := by simp
   have t8 : ((OtE.Ks k ps j + 1 + 1 + 1 + 1 + 1 + 1 + 1 + 1) != (OtE.Ks k ps j + 1 + 1 + 1 + 1 + 1 + 1 + 1 + 1)) = false := by simp
   have t9 : ((OtE.Ks k ps j + 1 + 1 + 1 + 1 + 1 + 1 + 1 + 1 + 1) != (OtE.Ks k ps j + 1 + 1 + 1 + 1 + 1 + 1 + 1 + 1 + 1)) = false := by simp
   have t10 : ((OtE.Ks k ps j + 1 + 1 + 1 + 1 + 1 + 1 + 1 + 1 + 1 + 1) != (OtE.Ks k ps j + 1 + 1 + 1 + 1 + 1 + 1 + 1 + 1 + 1 + 1)) = false := by simp
   have t11 : ((OtE.Ks k ps j + 1 + 1 + 1 + 1 + 1 + 1 + 1 + 1 + 1 + 1 + 1) != (OtE.Ks k ps j + 1 + 1 + 1 + 1 + 1 + 1 + 1 + 1 + 1 + 1 + 1)) = false := by simp
   have t12 : ((OtE.Ks k ps j + 1 + 1 + 1 + 1 + 1 + 1 + 1 + 1 + 1 + 1 + 1 + 1) != (OtE.Ks k ps j + 1 + 1 + 1 + 1 + 1 + 1 + 1 + 1 + 1 + 1 + 1 + 1)) = false := by simp
   have t13 : ((OtE.Ks k ps j + 1 + 1 + 1 + 1 + 1 + 1 + 1 + 1 + 1 + 1 + 1 + 1 + 1) != (OtE.Ks k ps j + 1 + 1 + 1 + 1 + 1 + 1 + 1 + 1 + 1 + 1 + 1 + 1 + 1)) = false := by simp
   have t14 : ((OtE.Ks k ps j + 1 + 1 + 1 + 1 + 1 + 1 + 1 + 1 + 1 + 1 + 1 + 1 + 1 + 1) != (OtE.Ks k ps j + 1 + 1 + 1 + 1 + 1 + 1 + 1 + 1 + 1 + 1 + 1 + 1 + 1 + 1)) = false := by simp
   have u1 : decide (OtE.Ks k ps j + 1 + 1 + 1 + 1 + 1 + 1 + 1 + 1 + 1 + 1 + 1 + 1 + 1 + 1 + 1 + 2 * (ps[j].2.msg.log.cells.length : Int) < 0) = false := by simp; omega
   have u2 : decide (OtE.Ks k ps j + 1 + 1 + 1 + 1 + 1 + 1 + 1 + 1 + 1 + 1 + 1 + 1 + 1 + 1 + 1 + 2 * (ps[j].2.msg.log.cells.length : Int) + 3 * ps[j].2.msg.log.seats.length < 0) = false := by simp; omega
   have u3 : decide (OtE.Ks k ps j + 1 + 1 + 1 + 1 + 1 + 1 + 1 + 1 + 1 + 1 + 1 + 1 + 1 + 1 + 1 + 2 * (ps[j].2.msg.log.cells.length : Int) + 3 * ps[j].2.msg.log.seats.length + 5 * ps[j].2.msg.log.ents.length < 0) = false := by simp; omega
   clear hlr hmN hKn
   go_wp2_with fail
   refine (c_heldCellS ps[j].1.cA ps[j].1.cc ps[j].2.msg.log.cells.length (OtE.Ks k ps j + 1 + 1 + 1 + 1 + 1 + 1 + 1 + 1 + 1 + 1 + 1 + 1 + 1 + 1 + 1) _ HLR.out.1 (by omega) (by omega) (by omega)).mono ?_
   rintro e w1 ⟨rfl, x1⟩
   have e8 := (x1.rules.1 g (o + j * 18 + 16) z).trans a16
   have e9 := (x1.rules.1 g (o + j * 18 + 17) z).trans a17
   have z1 : g < w1.heap.size := Nat.lt_of_lt_of_le z x1.size
   have HS := Hd (HLR.out.2.1.keep x1)
   clear a0 a1 a2 a3 a4 a5 a6 a7 a8 a9 a10 a11 a12 a13 a14 a15 a16 a17
   go_wp2_with fail
   refine (c_heldSeatS ps[j].1.sA ps[j].1.sc ps[j].2.msg.log.seats.length (OtE.Ks k ps j + 1 + 1 + 1 + 1 + 1 + 1 + 1 + 1 + 1 + 1 + 1 + 1 + 1 + 1 + 1 + 2 * (ps[j].2.msg.log.cells.length : Int)) _ HS.out (by omega) (by omega) (by omega)).mono ?_
   rintro e w2 ⟨rfl, x2⟩
   have e10 := (x2.rules.1 g (o + j * 18 + 17) z1).trans e9
   have z2 : g < w2.heap.size := Nat.lt_of_lt_of_le z1 x2.size
   have HE := Hd (HLR.out.2.2.keep (Ext.trans x1 x2))
   clear e8 e9
   go_wp2_with fail
   refine (c_heldEntryS ps[j].1.eA ps[j].1.ec ps[j].2.msg.log.ents.length (OtE.Ks k ps j + 1 + 1 + 1 + 1 + 1 + 1 + 1 + 1 + 1 + 1 + 1 + 1 + 1 + 1 + 1 + 2 * (ps[j].2.msg.log.cells.length : Int) + 3 * (ps[j].2.msg.log.seats.length : Int)) _ HE.out (by omega) (by omega) (by omega)).mono ?_
   rintro e w3 ⟨rfl, x3⟩
   go_wp2
   go_roundw
   case rel => exact ⟨j + 1, by omega, by go_num, by rw [HQ.out], Ext.trans X (Ext.trans x1 (Ext.trans x2 x3))⟩
   case measure => simp [intOf] <;> omega
  ·have hjl : j = ps.length := by omega
   subst hjl
   go_wp2
   go_ret
   exact ⟨rfl, X⟩
abbrev OtE.cells (a : LAd) (o : Ot) : Array Value := #[.int .i64 o.to, .int .i64 o.msg.kind, .int .i64 o.msg.frm, .int .i64 o.msg.view, .int .i64 o.msg.op, .int .i64 o.msg.commit, .int .i64 o.msg.normal, .int .i64 o.msg.nonce, .int .i64 o.msg.client, .int .i64 o.msg.req, .int .i64 o.msg.answer, .int .i64 o.msg.ck, .int .i64 o.msg.cx, .int .i64 o.msg.cv, .int .i64 o.msg.log.base, .slice a.cA o.msg.log.cells.length a.cc, .slice a.sA o.msg.log.seats.length a.sc, .slice a.eA o.msg.log.ents.length a.ec]
abbrev Mg.cs (a : LAd) (m : Mg) : Array Value := #[.int .i64 m.kind, .int .i64 m.frm, .int .i64 m.view, .int .i64 m.op, .int .i64 m.commit, .int .i64 m.normal, .int .i64 m.nonce, .int .i64 m.client, .int .i64 m.req, .int .i64 m.answer, .int .i64 m.ck, .int .i64 m.cx, .int .i64 m.cv, .int .i64 m.log.base, .slice a.cA m.log.cells.length a.cc, .slice a.sA m.log.seats.length a.sc, .slice a.eA m.log.ents.length a.ec]
set_option maxRecDepth 100000 in
set_option maxHeartbeats 4000000 in
theorem c_eqOut_same (a b : LAd) (o : Ot) (hl : o.msg.log.small) (w : World) (ha : LgR w a o.msg.log) (hb : LgR w b o.msg.log) :
  Calls Tryz.prog 79 #[.agg (OtE.cells a o), .agg (OtE.cells b o)] w fun e w' => e = .returned (.bool true) ∧ Ext w w' := by
 have X0 : Ext w ((w.alloc (.cells (OtE.cells a o) 100)).alloc (.cells (OtE.cells b o) 100)) := ext_to (ext_alloc _ _) _
 have HC := Hd (c_eqMsg_same a b o.msg hl _ (ha.keep X0) (hb.keep X0))
 have B1 := hOld (o := .cells (OtE.cells b o) 100) (hNew (w := w) (o := .cells (OtE.cells a o) 100) rfl)
 have B2 := hNew (w := w.alloc (.cells (OtE.cells a o) 100)) (o := .cells (OtE.cells b o) 100) rfl
 rw [sz_alloc] at B2
 have M1 := Hd (cells_mid (cs := Mg.cs a o.msg) B1 [.int .i64 o.to] [] rfl rfl)
 have M2 := Hd (cells_mid (cs := Mg.cs b o.msg) B2 [.int .i64 o.to] [] rfl rfl)
 have HX := Hd X0
 clear hl ha hb B1 B2 X0
 go_enter Tryz.func79, Tryz.ntmps79
 (go_wp2_with (with_reducible refine wl_stop 11 ?_); refine stop_loadAgg (M1.out) rfl Tryz.underlying60 (by kernel_rfl) ?_; simp only [Act.put, Sa, Sz, Ss])
 (go_wp2_with (with_reducible refine wl_stop 13 ?_); refine stop_loadAgg (M2.out) rfl Tryz.underlying60 (by kernel_rfl) ?_; simp only [Act.put, Sa, Sz, Ss])
 go_wp2_with fail
 refine HC.out.mono ?_
 rintro e w1 ⟨rfl, x1⟩
 go_wp2
 go_ret
 exact ⟨rfl, Ext.trans HX.out x1⟩
set_option maxRecDepth 100000 in
set_option maxHeartbeats 4000000 in
theorem c_eqOutS_same (A B : Option Addr) (ca cb : Nat) (ps qs : List OtE) (hpq : ps.map Prod.snd = qs.map Prod.snd) (hs : ∀ p ∈ ps, p.2.msg.log.small) (w : World) (ha : OsR w A ca ps) (hb : OsR w B cb qs) (hn : ps.length ≤ 1048576) :
  Calls Tryz.prog 25 #[.slice A ps.length ca, .slice B qs.length cb] w fun e w' => e = .returned (.bool true) ∧ Ext w w' := by
 have hl : ps.length = qs.length := by simpa using congrArg List.length hpq
 have hat : ∀ (k : Nat) (h : k < ps.length) (h' : k < qs.length), ps[k].2 = qs[k].2 := fun k h h' => by
  have := congrArg (fun l => l[k]?) hpq
  simp [h, h'] at this
  exact this
 rw [← hl]
 have HL := Hd hl
 have HA := Hd hat
 have HS := Hd hs
 have HRa := Hd ha
 have HRb := Hd hb
 clear hl hpq hat hs ha hb
 go_enter Tryz.func25, Tryz.ntmps25
 go_wp2
 go_loopw [5] (fun i wr => ∃ k : Nat, k ≤ ps.length ∧ i = .int .i64 k ∧ Ext w wr) (fun i _ => ps.length - (intOf i).toNat)
 case atStart => exact ⟨0, Nat.zero_le _, rfl, ext_refl _⟩
 case round =>
  obtain ⟨k, hk, rfl, hx⟩ := hrel
  by_cases hlt : k < ps.length
  ·have hltb : k < qs.length := by have := HL.out; omega
   obtain ⟨ab, ao, rfl, hab, ca'⟩ := (HRa.out.1.keep hx).2.2 (by omega)
   obtain ⟨bb, bo, hB, hbb, cb'⟩ := (HRb.out.1.keep hx).2.2 (by omega)
   have hr1 := (HRa.out.keep hx).2 ps[k] (List.getElem_mem hlt)
   have hr2 := (HRb.out.keep hx).2 qs[k] (List.getElem_mem hltb)
   have hsm := HS.out ps[k] (List.getElem_mem hlt)
   have he := HA.out k hlt hltb
   have M1 := Hd (show ∀ j v, (OtE.cells ps[k].1 ps[k].2).toList[j]? = some v → wr.cell? ⟨ab, ao + k * 18 + j, none⟩ = some v from fun j v h => ca' k hlt j v h)
   have M2 := Hd (show ∀ j v, (OtE.cells qs[k].1 ps[k].2).toList[j]? = some v → wr.cell? ⟨bb, bo + k * 18 + j, none⟩ = some v from fun j v h => cb' k hltb j v (by rw [he] at h; exact h))
   rw [← he] at hr2
   have HC := Hd (fun W (h : Ext wr W) => c_eqOut_same ps[k].1 qs[k].1 ps[k].2 hsm W (hr1.keep h) (hr2.keep h))
   have Hab := Hd hab
   have Hbb := Hd hbb
   subst hB
   clear he ca' cb' hr1 hr2 hsm
   go_wp2
   (refine wp_region_mixb (fun _ _ _ _ _ hq => hq) 10 (by kernel_rfl) (by kernel_rfl) (fun hg => ?_); simp only [headOps, Tc, Tz, List.filter_cons, List.filter_nil, isAlloc, Bool.not_false, Bf, if_true, if_false, List.append_nil, Dc, Dz])
   (iterate 3 (refine wpMix_plain rfl rfl ?_; go_big_quiet_step (fail); refine wpQuiet_nil ?_))
   (refine wpMix_loadAgg (Hab.out) (M1.out) rfl rfl rfl Tryz.underlying100 (by kernel_rfl) ?_; simp only [Act.put, Sa, Sz, Ss])
   (iterate 3 (refine wpMix_plain rfl rfl ?_; go_big_quiet_step (fail); refine wpQuiet_nil ?_))
   (refine wpMix_loadAgg (Hbb.out) (M2.out) rfl rfl rfl Tryz.underlying100 (by kernel_rfl) ?_; simp only [Act.put, Sa, Sz, Ss])
   (refine wpMix_det rfl rfl rfl (enters Tryz.func79 (by kernel_rfl) rfl) (fun W hW => HC.out W hW) rfl ?_; simp only [Act.put, Sa, Sz, Ss])
   (iterate 1 (refine wpMix_plain rfl rfl ?_; go_big_quiet_step (fail); refine wpQuiet_nil ?_))
   refine wpMix_nil ?_
   intro w2 hx2
   go_wp2
   go_roundw
   case rel => exact ⟨k + 1, by omega, by go_num, Ext.trans hx hx2⟩
   case measure => simp [intOf]; omega
  ·go_wp2
   go_ret
   exact ⟨rfl, hx⟩
end Go.Proofs.YtkenlhdiehaemaaGreat
