/- Draws of images. -/
import Derived.Test.YtpghedeghoegmaaPk17
import Derived.RegionTactic
import Derived.BigRegion
import Derived.Deep.RegionWith
namespace Go.Proofs.Ytpghedeghoegmaa
open Go.ChangeShapes Go.WideShapes Go.ChangeAt Go.RowKit Go.Sort
set_option linter.unusedVariables false
set_option linter.unusedSimpArgs false
theorem cur_chg {w w' : World} {S : List Nat} {P : Nat} {A : Option Addr} {n c : Nat} (h : Cur w P A n c) (hg : Chg w w' S) (hS : ∀ k ∈ S, P < k) : Cur w' P A n c := by
 obtain ⟨h1, h2, h3, i, h4, hi, hb⟩ := h
 refine ⟨h1, h2, ⟨h3.1, fun h0 => ?_⟩, i, h4, hi, box_out hb hg (fun hm => by have := hS P hm; omega)⟩
 obtain ⟨b, o, e, hbP, hcell⟩ := h3.2 h0
 refine ⟨b, o, e, hbP, fun k hk => ?_⟩
 obtain ⟨y, hy, hy2⟩ := hcell k hk
 refine ⟨y, hy, ?_⟩
 rw [World.cell?_of_block (a := ⟨b, o + k, none⟩) (hg.block b (by have := bx_lt hb; omega) (fun hm => by have := hS b hm; omega))]
 exact hy2
theorem imgP_nil : ImgP ([], []) := imgP_of (by decide)
def DrawnI (N : Nat) (w : World) (P : Nat) (A : Option Addr) (n c : Nat) (e : Ending) (w' : World) : Prop := ∃ (A1 : Option Addr) (c1 : Nat) (A2 : Option Addr) (c2 : Nat) (cs : List Cel) (ss : List Sea), e = .returned (Im.val A1 cs.length c1 A2 ss.length c2) ∧ RdF Cel.enc 101 2 w' w.heap.size A1 c1 cs ∧ RdF Sea.enc 103 3 w' w.heap.size A2 c2 ss ∧ cs.length ≤ 40 + N ∧ ss.length ≤ 10 + N ∧ Cur w' P A n c ∧ w.grownBy w' (some P)
theorem RdF.cur {α : Type} {enc : α → List Value} {e : TypeId} {sz : Nat} (hsz : ∀ x, (enc x).length = sz) {w w' : World} {B P : Nat} {A : Option Addr} {c : Nat} {l : List α} (h : RdF enc e sz w B A c l) (hg : w.grownBy w' (some P)) (hP : P < B) : RdF enc e sz w' B A c l := h.chg hsz (chg_cur hg) (low_out h (fun k hk => by rw [Mi] at hk; omega))
theorem RdF.put {α : Type} {enc : α → List Value} {e T : TypeId} {sz : Nat} (hsz : ∀ x, (enc x).length = sz) {w : World} {B p : Nat} {cs : Array Value} {A : Option Addr} {c : Nat} {l : List α} (h : RdF enc e sz w B A c l) (hb : w.heap[p]? = some (.cells cs T (0, 0))) (hne : T ≠ e) (j : Nat) (u : Value) : RdF enc e sz (w.setCell ⟨p, j, none⟩ u) B A c l := h.boxed hsz hb hne (chg_set (Chg.refl w [p]) (by simp) u)
theorem RdF.low {α : Type} {enc : α → List Value} {e : TypeId} {sz : Nat} (hsz : ∀ x, (enc x).length = sz) {w : World} {B p : Nat} {A : Option Addr} {c : Nat} {l : List α} (h : RdF enc e sz w B A c l) (hp : p < B) (j : Nat) (u : Value) : RdF enc e sz (w.setCell ⟨p, j, none⟩ u) B A c l := h.chg hsz (chg_set (Chg.refl w [p]) (by simp) u) (low_out h (fun k hk => by rw [Mi] at hk; omega))
theorem Ow.put {α : Type} {enc : α → List Value} {e T : TypeId} {sz : Nat} {w : World} {B p : Nat} {cs : Array Value} {A : Option Addr} {n c : Nat} {l : List α} (h : Ow enc e sz w B (.slice A n c) l) (hb : w.heap[p]? = some (.cells cs T (0, 0))) (hne : T ≠ e) (j : Nat) (u : Value) : Ow enc e sz (w.setCell ⟨p, j, none⟩ u) B (.slice A n c) l :=
 h.chg (chg_set (Chg.refl w [p]) (by simp) u) (fun k hk hm => by rw [Mi] at hm; subst hm; exact box_apart hb h hne hk)
theorem own_none {α : Type} (enc : α → List Value) (e : TypeId) (sz : Nat) (w : World) (B : Nat) : Ow enc e sz w B (.slice none 0 0) ([] : List α) := ⟨by simp, .inl ⟨rfl, rfl⟩⟩
set_option maxHeartbeats 8000000 in
set_option maxRecDepth 100000 in
theorem c_l2DrawRight (P : Nat) (A : Option Addr) (n c : Nat) (most : Int) (w : World) (hc : Cur w P A n c) (m0 : 0 ≤ most) (m1 : most ≤ 60) : Calls Try.prog 135 #[.pointer (some ⟨P, 0, none⟩), .int .i64 most] w (DrawnI 0 w P A n c) := by
 obtain ⟨i0, hi, hz0, hz1, hz2⟩ := info_parts Try.infoCel
 obtain ⟨j0, ji, jz0, jz1, jz2⟩ := info_parts Try.infoSea
 have hPl := hc.lt
 have hc0 := hc.ext (ext_alloc w Im.zobj)
 have E0 := hNew (w := w) (o := Im.zobj) rfl
 go_enter Try.func135, Try.ntmps135
 go_wp2_with fail
 refine (c_l2DrawEntries P A n c most _ hc0 m0 m1).mono ?_
 rintro e w1 ⟨v1, l, rfl, h60, hall, o1, hc1, hg1⟩
 have E1 := box_beside E0 hg1 (by simp only [ne_eq, Option.some.injEq]; omega)
 have G1 := grown_trans (gr_alloc (World.grownBy.refl w (some P)) _) hg1
 obtain ⟨Ae, ce, rfl⟩ := o1.form
 have s1 := G1.size
 have s1' : w.heap.size < w1.heap.size := bx_lt E1
 have R1 := (o1.rd Ent.len).2
 clear hc0 E0 hg1
 go_wp2_with fail
 refine (c_sRunAll none 0 [] none 0 [] Ae ce l w1 (RdF.nil _ 101 _ _ 0).1 (RdF.nil _ 103 _ _ 0).1 R1 h60 imgP_nil hall).mono ?_
 rintro e w2 ⟨⟨A1, c1, A2, c2, Z, zn, zc, rfl, r1, r2⟩, x2⟩
 have HI := imgP_nil.all hall
 obtain ⟨cs, ss, hm⟩ : ∃ cs ss, allI ([], []) l = (cs, ss) := ⟨_, _, rfl⟩
 rw [hm] at r1 r2 HI
 have hcl : cs.length ≤ 40 := HI.c.len
 have hsl : ss.length ≤ 10 := HI.s.len
 rw [hm]
 clear hm HI hall o1 R1 h60
 have E2 := x2.box E1
 have hc2 := hc1.ext x2
 have G2 := gr_ext G1 x2
 have s2 := x2.size
 have x3 := ext_alloc w2 (Im.obj A1 cs.length c1 A2 ss.length c2)
 have D3 := Hd (hNew (w := w2) (o := Im.obj A1 cs.length c1 A2 ss.length c2) rfl)
 have E3 := Hd (x3.box E2)
 have hc3 := hc2.ext x3
 have G3 := gr_ext G2 x3
 have R3 := Hd ((r1.keep x3).less (B' := w.heap.size + 1) (by omega))
 have S3 := Hd ((r2.keep x3).less (B' := w.heap.size + 1) (by omega))
 clear x2 x3 E1 E2 hc1 hc2 G1 G2 r1 r2
 obtain ⟨p, hp⟩ : ∃ p, w2.heap.size = p := ⟨_, rfl⟩
 have hpw : w.heap.size < p := by omega
 go_wp2_with fail
 refine (c_l1Once P A n c 12 _ hc3 (by omega)).mono ?_
 rintro e w4 ⟨b4, rfl, hc4, hg4⟩
 rw [hp] at D3
 have D4 := Hd (box_beside D3.out hg4 (by simp only [ne_eq, Option.some.injEq]; omega))
 have E4 := Hd (box_beside E3.out hg4 (by simp only [ne_eq, Option.some.injEq]; omega))
 have G4 := grown_trans G3 hg4
 have R4 := Hd (R3.out.cur Cel.len hg4 (by omega))
 have S4 := Hd (S3.out.cur Sea.len hg4 (by omega))
 clear D3 E3 hc3 G3 R3 S3 hg4
 cases b4
 ·skip
  go_wp2_with fail
  refine (c_l1Once P A n c 12 _ hc4 (by omega)).mono ?_
  rintro e w7 ⟨b7, rfl, hc7, hg7⟩
  have hP7 := hc4.lt
  have D7 := Hd (box_beside D4.out hg7 (by simp only [ne_eq, Option.some.injEq]; omega))
  have E7 := Hd (box_beside E4.out hg7 (by simp only [ne_eq, Option.some.injEq]; omega))
  have G7 := grown_trans G4 hg7
  have R7 := Hd (R4.out.cur Cel.len hg7 (by omega))
  have S7 := Hd (S4.out.cur Sea.len hg7 (by omega))
  clear hg7
  cases b7
  ·skip
   have d9 := bx_cell D7.out
   have f9 := bx_frozen D7.out
   have z9 := bx_lt D7.out
   have y9 := bx_cell E7.out
   have x9 := bx_frozen E7.out
   have v9 := bx_lt E7.out
   have hP9 := hc7.lt
   have s9 := G7.size
   have hG9 := G7
   have hc9 := hc7
   go_wp2
   exact bodyPost_ret (v := .agg #[.slice A1 cs.length c1, .slice A2 ss.length c2]) (by simp [results, Try.results135, go_sem, *]) rfl ⟨A1, c1, A2, c2, cs, ss, rfl, ((R7.out.low Cel.len (by omega) 0 _).low Cel.len (by omega) 1 _).less (by omega), ((S7.out.low Sea.len (by omega) 0 _).low Sea.len (by omega) 1 _).less (by omega), by omega, by omega, by (repeat (first | with_reducible assumption | with_reducible refine cur_set ?_ (by first | (dsimp only; omega) | omega) _ | with_reducible refine Cur.ext ?_ (ext_alloc _ _))), by (repeat (first | with_reducible assumption | with_reducible refine gr_set ?_ (by first | (dsimp only; omega) | omega) _ | with_reducible refine gr_alloc ?_ _))⟩
  ·have d4 := bx_cell D7.out
   have f4 := bx_frozen D7.out
   have z4 := bx_lt D7.out
   have s4 := G7.size
   have D8 := Hd (box_put D7.out 1 (.slice none 0 0))
   have E8 := Hd (box_set_other E7.out (p := ⟨p, 1, none⟩) (by dsimp only; omega) (.slice none 0 0))
   have hc8 := cur_set hc7 (p := ⟨p, 1, none⟩) (by dsimp only; omega) (.slice none 0 0)
   have G8 := gr_set G7 (p := ⟨p, 1, none⟩) (by dsimp only; omega) (.slice none 0 0)
   have R8 := Hd (R7.out.put Cel.len D7.out (by decide) 1 (.slice none 0 0))
   go_wp2
   go_loopw [8] (fun i wr => ∃ (k : Nat) (qz : List Sea) (Az : Option Addr) (cz : Nat), k ≤ 10 ∧ i = .int .i64 k ∧ qz.length = k ∧ Hid (wr.heap[p]? = some (Im.obj A1 cs.length c1 Az k cz)) ∧ Hid (wr.heap[w.heap.size]? = some Im.zobj) ∧ Hid (Ow Sea.enc 103 3 wr (w.heap.size + 1) (.slice Az k cz) qz) ∧ Hid (RdF Cel.enc 101 2 wr (w.heap.size + 1) A1 c1 cs) ∧ Cur wr P A n c ∧ w.grownBy wr (some P)) (fun i _ => (10 - intOf i).toNat)
   case atStart => exact ⟨0, [], none, 0, by omega, rfl, rfl, D8, E8, Hd (own_none _ _ _ _ _), R8, hc8, G8⟩
   case round =>
    clear D7 E7 hc7 G7 R7 S7 D8 E8 hc8 G8 R8 d4 f4 z4 s4 D4 E4 hc4 G4 R4 S4
    rename_i wr2 _
    obtain ⟨k2, qs2, Aq2, cq2, hk2, rfl, hqk2, D4, E4, O4, R4, hc4, G4⟩ := hrel
    have HQ2 := Hd hqk2
    have hq10 : qs2.length ≤ 10 := by omega
    clear hqk2
    by_cases hlt2 : k2 < 10
    ·have d4 := bx_cell D4.out
     have f4 := bx_frozen D4.out
     have z4 := bx_lt D4.out
     have s4 := G4.size
     have hP4 := hc4.lt
     have HO := Hd (ownsRow_ext O4.out (ext_alloc _ (.cells #[.int .i64 (k2 + 2), .int .i64 (1 + k2), .int .i64 (k2 - 1)] 103)))
     go_wp2_with (at_builtin; refine wpList_append_own _ rfl _ _ 39 rfl ((w.heap.size + 1)) 103 j0 (.agg #[.int .i64 0, .int .i64 0, .int .i64 0]) 3 24 Try.underlying39 ji jz0 jz1 jz2 rfl (by decide) _ _ _ rfl (HO.out) _ 1 1 [.int .i64 (k2 + 2), .int .i64 (1 + k2), .int .i64 (k2 - 1)] rfl rfl (alloc_cellB _ _ _ _ (by first | rfl | (simp; done) | (simp; omega))) (by intro u hu; simp at hu; rcases hu with rfl | rfl | rfl <;> rfl) (by unfold maxLen; (try simp) <;> omega) (by (try simp) <;> omega) (by (try simp) <;> omega) ?_)
     intro v w5 h5 g5 _
     have hn : (Value.slice Aq2 k2 cq2).ownBlock ≠ some p := fun he => box_apart (hOld D4.out) HO.out (by decide) ((ownBlock_blk _ _ _ _).1 he)
     have hn2 : (Value.slice Aq2 k2 cq2).ownBlock ≠ some w.heap.size := fun he => by have := (HO.out.lt _ he).1; omega
     have D5 := box_beside (hOld D4.out) g5 hn
     have E5 := box_beside (hOld E4.out) g5 hn2
     have R5 := Hd ((R4.out.keep (ext_alloc _ _)).chg Cel.len (chg_grown g5) (fun h k hk => ((R4.out.keep (ext_alloc _ _)).2 h).apart HO.out (by decide) k hk))
     have hc5 := (hc4.ext (ext_alloc _ _)).grown g5 (fun g hg => by have := HO.out.lt g hg; omega)
     have G5 := gr_own (gr_alloc G4 _) g5 HO.out (by omega)
     have o5 := own_snoc (enc := Sea.enc) (x := ⟨k2 + 2, 1 + k2, k2 - 1⟩) h5 rfl rfl
     obtain ⟨A5, c5, hv⟩ := o5.form
     rw [List.length_append, List.length_singleton, HQ2.out] at hv
     subst hv
     have hP5 := hc5.lt
     have d5 := bx_cell D5
     have f5 := bx_frozen D5
     have z5 := bx_lt D5
     have s5 := G5.size
     have D6 := Hd (box_put D5 1 (.slice A5 (k2 + 1) c5))
     have E6 := Hd (box_set_other E5 (p := ⟨p, 1, none⟩) (by dsimp only; omega) (.slice A5 (k2 + 1) c5))
     have hc6 := cur_set hc5 (p := ⟨p, 1, none⟩) (by dsimp only; omega) (.slice A5 (k2 + 1) c5)
     have G6 := gr_set G5 (p := ⟨p, 1, none⟩) (by dsimp only; omega) (.slice A5 (k2 + 1) c5)
     have R6 := Hd (R5.out.put Cel.len D5 (by decide) 1 (.slice A5 (k2 + 1) c5))
     have O6 := Hd (o5.put D5 (by decide) 1 (.slice A5 (k2 + 1) c5))
     clear h5 g5 hn hn2 d4 f4 z4 HO D4 E4 O4 R4 hc4 G4 o5 D5 E5 R5 hc5 G5
     go_wp2
     go_roundw
     case rel => exact ⟨k2 + 1, qs2 ++ [⟨k2 + 2, 1 + k2, k2 - 1⟩], A5, c5, by omega, by go_num, by rw [List.length_append, HQ2.out]; rfl, D6, E6, O6, R6, hc6, G6⟩
     case measure => simp [intOf] <;> omega
    ·have hq := HQ2.out
     subst hq
     have d9 := bx_cell D4.out
     have f9 := bx_frozen D4.out
     have z9 := bx_lt D4.out
     have y9 := bx_cell E4.out
     have x9 := bx_frozen E4.out
     have v9 := bx_lt E4.out
     have hP9 := hc4.lt
     have s9 := G4.size
     have hG9 := G4
     have hc9 := hc4
     go_wp2
     exact bodyPost_ret (v := .agg #[.slice A1 cs.length c1, .slice Aq2 qs2.length cq2]) (by simp [results, Try.results135, go_sem, *]) rfl ⟨A1, c1, Aq2, cq2, cs, qs2, rfl, ((R4.out.low Cel.len (by omega) 0 _).low Cel.len (by omega) 1 _).less (by omega), (((Hd (Ow.rdF Sea.len O4.out)).out.low Sea.len (by omega) 0 _).low Sea.len (by omega) 1 _).less (by omega), by omega, by omega, by (repeat (first | with_reducible assumption | with_reducible refine cur_set ?_ (by first | (dsimp only; omega) | omega) _ | with_reducible refine Cur.ext ?_ (ext_alloc _ _))), by (repeat (first | with_reducible assumption | with_reducible refine gr_set ?_ (by first | (dsimp only; omega) | omega) _ | with_reducible refine gr_alloc ?_ _))⟩
 ·have d4 := bx_cell D4.out
  have f4 := bx_frozen D4.out
  have z4 := bx_lt D4.out
  have s4 := G4.size
  have D5 := Hd (box_put D4.out 0 (.slice none 0 0))
  have E5 := Hd (box_set_other E4.out (p := ⟨p, 0, none⟩) (by dsimp only; omega) (.slice none 0 0))
  have hP4 := hc4.lt
  have hc5 := cur_set hc4 (p := ⟨p, 0, none⟩) (by dsimp only; omega) (.slice none 0 0)
  have G5 := gr_set G4 (p := ⟨p, 0, none⟩) (by dsimp only; omega) (.slice none 0 0)
  have S5 := Hd (S4.out.put Sea.len D4.out (by decide) 0 (.slice none 0 0))
  go_wp2
  go_loopw [7] (fun i wr => ∃ (k : Nat) (qs : List Cel) (Aq : Option Addr) (cq : Nat), k ≤ 40 ∧ i = .int .i64 k ∧ qs.length = k ∧ Hid (wr.heap[p]? = some (Im.obj Aq k cq A2 ss.length c2)) ∧ Hid (wr.heap[w.heap.size]? = some Im.zobj) ∧ Hid (Ow Cel.enc 101 2 wr (w.heap.size + 1) (.slice Aq k cq) qs) ∧ Hid (RdF Sea.enc 103 3 wr (w.heap.size + 1) A2 c2 ss) ∧ Cur wr P A n c ∧ w.grownBy wr (some P)) (fun i _ => (40 - intOf i).toNat)
  case atStart => exact ⟨0, [], none, 0, by omega, rfl, rfl, D5, E5, Hd (own_none _ _ _ _ _), S5, hc5, G5⟩
  case round =>
   clear D4 E4 hc4 G4 R4 S4 D5 E5 hc5 G5 S5 d4 f4 z4 s4
   obtain ⟨k, qs, Aq, cq, hk, rfl, hqk, D4, E4, O4, S4, hc4, G4⟩ := hrel
   have HQ := Hd hqk
   have hq40 : qs.length ≤ 40 := by omega
   clear hqk
   by_cases hlt : k < 40
   ·have d4 := bx_cell D4.out
    have f4 := bx_frozen D4.out
    have z4 := bx_lt D4.out
    have s4 := G4.size
    have hP4 := hc4.lt
    have HO := Hd (ownsRow_ext O4.out (ext_alloc wr (.cells #[.int .i64 (2 * k), .int .i64 k] 101)))
    go_wp2_with (at_builtin; refine wpList_append_own _ rfl _ _ 38 rfl ((w.heap.size + 1)) 101 i0 (.agg #[.int .i64 0, .int .i64 0]) 2 16 Try.underlying38 hi hz0 hz1 hz2 rfl (by decide) _ _ _ rfl (HO.out) _ 1 1 [.int .i64 (2 * k), .int .i64 k] rfl rfl (alloc_cellB _ _ _ _ (by first | rfl | (simp; done) | (simp; omega))) (by intro u hu; simp at hu; rcases hu with rfl | rfl <;> rfl) (by unfold maxLen; (try simp) <;> omega) (by (try simp) <;> omega) (by (try simp) <;> omega) ?_)
    intro v w5 h5 g5 _
    have hn : (Value.slice Aq k cq).ownBlock ≠ some p := fun he => box_apart (hOld D4.out) HO.out (by decide) ((ownBlock_blk _ _ _ _).1 he)
    have hn2 : (Value.slice Aq k cq).ownBlock ≠ some w.heap.size := fun he => by have := (HO.out.lt _ he).1; omega
    have D5 := box_beside (hOld D4.out) g5 hn
    have E5 := box_beside (hOld E4.out) g5 hn2
    have S5 := Hd ((S4.out.keep (ext_alloc _ _)).chg Sea.len (chg_grown g5) (fun h k hk => ((S4.out.keep (ext_alloc _ _)).2 h).apart HO.out (by decide) k hk))
    have hc5 := (hc4.ext (ext_alloc _ _)).grown g5 (fun g hg => by have := HO.out.lt g hg; omega)
    have G5 := gr_own (gr_alloc G4 _) g5 HO.out (by omega)
    have o5 := own_snoc (enc := Cel.enc) (x := ⟨2 * k, k⟩) h5 rfl rfl
    obtain ⟨A5, c5, hv⟩ := o5.form
    rw [List.length_append, List.length_singleton, HQ.out] at hv
    subst hv
    have hP5 := hc5.lt
    have d5 := bx_cell D5
    have f5 := bx_frozen D5
    have z5 := bx_lt D5
    have s5 := G5.size
    have D6 := Hd (box_put D5 0 (.slice A5 (k + 1) c5))
    have E6 := Hd (box_set_other E5 (p := ⟨p, 0, none⟩) (by dsimp only; omega) (.slice A5 (k + 1) c5))
    have hc6 := cur_set hc5 (p := ⟨p, 0, none⟩) (by dsimp only; omega) (.slice A5 (k + 1) c5)
    have G6 := gr_set G5 (p := ⟨p, 0, none⟩) (by dsimp only; omega) (.slice A5 (k + 1) c5)
    have S6 := Hd (S5.out.put Sea.len D5 (by decide) 0 (.slice A5 (k + 1) c5))
    have O6 := Hd (o5.put D5 (by decide) 0 (.slice A5 (k + 1) c5))
    clear h5 g5 hn hn2 d4 f4 z4 HO D4 E4 O4 S4 hc4 G4 o5 D5 E5 S5 hc5 G5
    go_wp2
    go_roundw
    case rel => exact ⟨k + 1, qs ++ [⟨2 * k, k⟩], A5, c5, by omega, by go_num, by rw [List.length_append, HQ.out]; rfl, D6, E6, O6, S6, hc6, G6⟩
    case measure => simp [intOf] <;> omega
   ·have hq := HQ.out
    subst hq
    go_wp2_with fail
    refine (c_l1Once P A n c 12 _ hc4 (by omega)).mono ?_
    rintro e w7 ⟨b7, rfl, hc7, hg7⟩
    have hP7 := hc4.lt
    have D7 := Hd (box_beside D4.out hg7 (by simp only [ne_eq, Option.some.injEq]; omega))
    have E7 := Hd (box_beside E4.out hg7 (by simp only [ne_eq, Option.some.injEq]; omega))
    have G7 := grown_trans G4 hg7
    have R7 := Hd ((Hd (Ow.rdF Cel.len O4.out)).out.cur Cel.len hg7 (by omega))
    have S7 := Hd (S4.out.cur Sea.len hg7 (by omega))
    clear hg7
    cases b7
    ·skip
     have d9 := bx_cell D7.out
     have f9 := bx_frozen D7.out
     have z9 := bx_lt D7.out
     have y9 := bx_cell E7.out
     have x9 := bx_frozen E7.out
     have v9 := bx_lt E7.out
     have hP9 := hc7.lt
     have s9 := G7.size
     have hG9 := G7
     have hc9 := hc7
     go_wp2
     exact bodyPost_ret (v := .agg #[.slice Aq qs.length cq, .slice A2 ss.length c2]) (by simp [results, Try.results135, go_sem, *]) rfl ⟨Aq, cq, A2, c2, qs, ss, rfl, ((R7.out.low Cel.len (by omega) 0 _).low Cel.len (by omega) 1 _).less (by omega), ((S7.out.low Sea.len (by omega) 0 _).low Sea.len (by omega) 1 _).less (by omega), by omega, by omega, by (repeat (first | with_reducible assumption | with_reducible refine cur_set ?_ (by first | (dsimp only; omega) | omega) _ | with_reducible refine Cur.ext ?_ (ext_alloc _ _))), by (repeat (first | with_reducible assumption | with_reducible refine gr_set ?_ (by first | (dsimp only; omega) | omega) _ | with_reducible refine gr_alloc ?_ _))⟩
    ·have d4 := bx_cell D7.out
     have f4 := bx_frozen D7.out
     have z4 := bx_lt D7.out
     have s4 := G7.size
     have D8 := Hd (box_put D7.out 1 (.slice none 0 0))
     have E8 := Hd (box_set_other E7.out (p := ⟨p, 1, none⟩) (by dsimp only; omega) (.slice none 0 0))
     have hc8 := cur_set hc7 (p := ⟨p, 1, none⟩) (by dsimp only; omega) (.slice none 0 0)
     have G8 := gr_set G7 (p := ⟨p, 1, none⟩) (by dsimp only; omega) (.slice none 0 0)
     have R8 := Hd (R7.out.put Cel.len D7.out (by decide) 1 (.slice none 0 0))
     go_wp2
     go_loopw [8] (fun i wr => ∃ (k : Nat) (qz : List Sea) (Az : Option Addr) (cz : Nat), k ≤ 10 ∧ i = .int .i64 k ∧ qz.length = k ∧ Hid (wr.heap[p]? = some (Im.obj Aq qs.length cq Az k cz)) ∧ Hid (wr.heap[w.heap.size]? = some Im.zobj) ∧ Hid (Ow Sea.enc 103 3 wr (w.heap.size + 1) (.slice Az k cz) qz) ∧ Hid (RdF Cel.enc 101 2 wr (w.heap.size + 1) Aq cq qs) ∧ Cur wr P A n c ∧ w.grownBy wr (some P)) (fun i _ => (10 - intOf i).toNat)
     case atStart => exact ⟨0, [], none, 0, by omega, rfl, rfl, D8, E8, Hd (own_none _ _ _ _ _), R8, hc8, G8⟩
     case round =>
      clear D7 E7 hc7 G7 R7 S7 D8 E8 hc8 G8 R8 d4 f4 z4 s4 D4 E4 hc4 G4 O4 S4
      rename_i wr2 _
      obtain ⟨k2, qs2, Aq2, cq2, hk2, rfl, hqk2, D4, E4, O4, R4, hc4, G4⟩ := hrel
      have HQ2 := Hd hqk2
      have hq10 : qs2.length ≤ 10 := by omega
      clear hqk2
      by_cases hlt2 : k2 < 10
      ·have d4 := bx_cell D4.out
       have f4 := bx_frozen D4.out
       have z4 := bx_lt D4.out
       have s4 := G4.size
       have hP4 := hc4.lt
       have HO := Hd (ownsRow_ext O4.out (ext_alloc _ (.cells #[.int .i64 (k2 + 2), .int .i64 (1 + k2), .int .i64 (k2 - 1)] 103)))
       go_wp2_with (at_builtin; refine wpList_append_own _ rfl _ _ 39 rfl ((w.heap.size + 1)) 103 j0 (.agg #[.int .i64 0, .int .i64 0, .int .i64 0]) 3 24 Try.underlying39 ji jz0 jz1 jz2 rfl (by decide) _ _ _ rfl (HO.out) _ 1 1 [.int .i64 (k2 + 2), .int .i64 (1 + k2), .int .i64 (k2 - 1)] rfl rfl (alloc_cellB _ _ _ _ (by first | rfl | (simp; done) | (simp; omega))) (by intro u hu; simp at hu; rcases hu with rfl | rfl | rfl <;> rfl) (by unfold maxLen; (try simp) <;> omega) (by (try simp) <;> omega) (by (try simp) <;> omega) ?_)
       intro v w5 h5 g5 _
       have hn : (Value.slice Aq2 k2 cq2).ownBlock ≠ some p := fun he => box_apart (hOld D4.out) HO.out (by decide) ((ownBlock_blk _ _ _ _).1 he)
       have hn2 : (Value.slice Aq2 k2 cq2).ownBlock ≠ some w.heap.size := fun he => by have := (HO.out.lt _ he).1; omega
       have D5 := box_beside (hOld D4.out) g5 hn
       have E5 := box_beside (hOld E4.out) g5 hn2
       have R5 := Hd ((R4.out.keep (ext_alloc _ _)).chg Cel.len (chg_grown g5) (fun h k hk => ((R4.out.keep (ext_alloc _ _)).2 h).apart HO.out (by decide) k hk))
       have hc5 := (hc4.ext (ext_alloc _ _)).grown g5 (fun g hg => by have := HO.out.lt g hg; omega)
       have G5 := gr_own (gr_alloc G4 _) g5 HO.out (by omega)
       have o5 := own_snoc (enc := Sea.enc) (x := ⟨k2 + 2, 1 + k2, k2 - 1⟩) h5 rfl rfl
       obtain ⟨A5, c5, hv⟩ := o5.form
       rw [List.length_append, List.length_singleton, HQ2.out] at hv
       subst hv
       have hP5 := hc5.lt
       have d5 := bx_cell D5
       have f5 := bx_frozen D5
       have z5 := bx_lt D5
       have s5 := G5.size
       have D6 := Hd (box_put D5 1 (.slice A5 (k2 + 1) c5))
       have E6 := Hd (box_set_other E5 (p := ⟨p, 1, none⟩) (by dsimp only; omega) (.slice A5 (k2 + 1) c5))
       have hc6 := cur_set hc5 (p := ⟨p, 1, none⟩) (by dsimp only; omega) (.slice A5 (k2 + 1) c5)
       have G6 := gr_set G5 (p := ⟨p, 1, none⟩) (by dsimp only; omega) (.slice A5 (k2 + 1) c5)
       have R6 := Hd (R5.out.put Cel.len D5 (by decide) 1 (.slice A5 (k2 + 1) c5))
       have O6 := Hd (o5.put D5 (by decide) 1 (.slice A5 (k2 + 1) c5))
       clear h5 g5 hn hn2 d4 f4 z4 HO D4 E4 O4 R4 hc4 G4 o5 D5 E5 R5 hc5 G5
       go_wp2
       go_roundw
       case rel => exact ⟨k2 + 1, qs2 ++ [⟨k2 + 2, 1 + k2, k2 - 1⟩], A5, c5, by omega, by go_num, by rw [List.length_append, HQ2.out]; rfl, D6, E6, O6, R6, hc6, G6⟩
       case measure => simp [intOf] <;> omega
      ·have hq := HQ2.out
       subst hq
       have d9 := bx_cell D4.out
       have f9 := bx_frozen D4.out
       have z9 := bx_lt D4.out
       have y9 := bx_cell E4.out
       have x9 := bx_frozen E4.out
       have v9 := bx_lt E4.out
       have hP9 := hc4.lt
       have s9 := G4.size
       have hG9 := G4
       have hc9 := hc4
       go_wp2
       exact bodyPost_ret (v := .agg #[.slice Aq qs.length cq, .slice Aq2 qs2.length cq2]) (by simp [results, Try.results135, go_sem, *]) rfl ⟨Aq, cq, Aq2, cq2, qs, qs2, rfl, ((R4.out.low Cel.len (by omega) 0 _).low Cel.len (by omega) 1 _).less (by omega), (((Hd (Ow.rdF Sea.len O4.out)).out.low Sea.len (by omega) 0 _).low Sea.len (by omega) 1 _).less (by omega), by omega, by omega, by (repeat (first | with_reducible assumption | with_reducible refine cur_set ?_ (by first | (dsimp only; omega) | omega) _ | with_reducible refine Cur.ext ?_ (ext_alloc _ _))), by (repeat (first | with_reducible assumption | with_reducible refine gr_set ?_ (by first | (dsimp only; omega) | omega) _ | with_reducible refine gr_alloc ?_ _))⟩
set_option maxHeartbeats 8000000 in
set_option maxRecDepth 100000 in
theorem c_l2DrawImage (P : Nat) (A : Option Addr) (n c : Nat) (most : Int) (w : World) (hc : Cur w P A n c) (m0 : 0 ≤ most) (m1 : most ≤ 60) : Calls Try.prog 125 #[.pointer (some ⟨P, 0, none⟩), .int .i64 most] w (DrawnI 1 w P A n c) := by
 obtain ⟨i0, hi, hz0, hz1, hz2⟩ := info_parts Try.infoCel
 obtain ⟨j0, ji, jz0, jz1, jz2⟩ := info_parts Try.infoSea
 have hPl := hc.lt
 have hc0 := hc.ext (ext_alloc w Im.zobj)
 have E0 := hNew (w := w) (o := Im.zobj) rfl
 go_enter Try.func125, Try.ntmps125
 go_wp2_with fail
 refine (c_l2DrawRight P A n c most _ hc0 m0 m1).mono ?_
 rintro e w2 ⟨A1, c1, A2, c2, cs, ss, rfl, r1, r2, hcl, hsl, hc2, hg2⟩
 have E2 := box_beside E0 hg2 (by simp only [ne_eq, Option.some.injEq]; omega)
 have G2 := grown_trans (gr_alloc (World.grownBy.refl w (some P)) _) hg2
 have s2 := bx_lt E2
 have x3 := ext_alloc w2 (Im.obj A1 cs.length c1 A2 ss.length c2)
 have D3 := Hd (hNew (w := w2) (o := Im.obj A1 cs.length c1 A2 ss.length c2) rfl)
 have E3 := Hd (x3.box E2)
 have hc3 := hc2.ext x3
 have G3 := gr_ext G2 x3
 have R3 := Hd ((r1.keep x3).less (B' := w.heap.size + 1) (by simp))
 have S3 := Hd ((r2.keep x3).less (B' := w.heap.size + 1) (by simp))
 clear x3 E0 E2 hc0 hc2 hg2 G2 r1 r2
 obtain ⟨p, hp⟩ : ∃ p, w2.heap.size = p := ⟨_, rfl⟩
 have hpw : w.heap.size < p := by omega
 go_wp2_with fail
 refine (c_l1Below P A n c 25 _ hc3 (by omega)).mono ?_
 rintro e w4 ⟨x4, ⟨p4, q4⟩, rfl, hc4, hg4⟩
 rw [hp] at D3
 have D4 := Hd (box_beside D3.out hg4 (by simp only [ne_eq, Option.some.injEq]; omega))
 have E4 := Hd (box_beside E3.out hg4 (by simp only [ne_eq, Option.some.injEq]; omega))
 have G4 := grown_trans G3 hg4
 have R4 := Hd (R3.out.cur Cel.len hg4 (by omega))
 have S4 := Hd (S3.out.cur Sea.len hg4 (by omega))
 clear D3 E3 hc3 G3 R3 S3 hg4
 by_cases h0 : x4 = 0
 ·subst h0
  have d4 := bx_cell D4.out
  have f4 := bx_frozen D4.out
  have z4 := bx_lt D4.out
  have s4 := G4.size
  have hP4 := hc4.lt
  go_wp2
  (refine Rm.wp_region_mix' (R := relC P A n c w4.heap.size hP4) (fun _ _ _ => True) (fun _ _ _ _ _ hq => hq) 7 (by first | exact Nat.le_refl _ | omega | (simp; omega)) (by kernel_rfl) (by kernel_rfl) ?_; simp only [Tc, Tz, Dc, Dz])
  (iterate 1 (refine Rm.wpMix_plain rfl rfl ?_; go_big_quiet_step (fail); refine wpQuiet_nil ?_))
  (refine Rm.wpMix_load1 (fun W h => bx_cell (relC_box h D4.out (by omega)) 0) rfl rfl rfl Try.underlying38 rfl ?_; simp only [Act.put, Sa, Sz, Ss])
  (iterate 1 (refine Rm.wpMix_plain rfl rfl ?_; go_big_quiet_step (fail); refine wpQuiet_nil ?_))
  (refine Rm.wpMix_alloc (.cells #[.int .i64 0, .int .i64 (-1), .int .i64 1000000000, .int .i64 1000000001] 3) rfl (fun W => by kernel_rfl) ?_; intro p1 hp1 hps1 hpi1; simp only [layVal, Act.put, Sa, Sz, Ss])
  (refine Rm.wpMix_call (DrV (OneOf [0, -1, 1000000000, 1000000001])) rfl rfl rfl (enters Try.func67 (by kernel_rfl) rfl) (DrV.mono _ _) (fun W9' h9 => (c_l1PickInt P A n c p1 [0, -1, 1000000000, 1000000001] W9' (h9.1.2 hc4) (by decide) (by decide) h9.2 (by have : w4.heap.size ≤ p1 := hp1; omega)).mono fun e w' ⟨x, hx, he, hc9, hg9⟩ => ⟨_, he, ⟨x, hx, rfl⟩, hg9, fun _ => hc9⟩) rfl (fun v9 hv9 => ?_); obtain ⟨_, _, y1, hy1, rfl⟩ := hv9; simp only [Act.put, Sa, Sz, Ss])
  (iterate 1 (refine Rm.wpMix_plain rfl rfl ?_; go_big_quiet_step (fail); refine wpQuiet_nil ?_))
  (refine Rm.wpMix_alloc (.cells #[.int .i64 y1, .int .i64 0] 101) rfl (fun W => by kernel_rfl) ?_; intro p2 hp2 hps2 hpi2; simp only [layVal, Act.put, Sa, Sz, Ss])
  refine Rm.wpMix_nil ?_
  rintro w5 ⟨⟨⟨⟨hg5, hk5⟩, _⟩, _⟩, e2⟩
  have hc5 := hk5 hc4
  have D5 := Hd (box_beside D4.out hg5 (by simp only [ne_eq, Option.some.injEq]; omega))
  have E5 := Hd (box_beside E4.out hg5 (by simp only [ne_eq, Option.some.injEq]; omega))
  have G5 := grown_trans G4 hg5
  have R5 := Hd (R4.out.cur Cel.len hg5 (by omega))
  have S5 := Hd (S4.out.cur Sea.len hg5 (by omega))
  have HE2 := Hd e2
  have s5 := G5.size
  have hP5 := hc5.lt
  have y5 := bx_lt E5.out
  clear d4 f4 z4 hg5 hk5 e2 D4 E4 G4 R4 S4 hc4 hp1 hps1 hpi1 hp2 hps2 hpi2
  go_wp2_with (at_builtin; refine wl_appF (enc := Cel.enc) rfl _ _ 38 rfl (w.heap.size + 1) 101 i0 _ 2 16 Try.underlying38 hi hz0 hz1 hz2 rfl (by decide) Cel.len cel_one A1 c1 cs _ rfl rfl R5.out _ 1 [⟨y1, 0⟩] 1 rfl Nat.zero_lt_one rfl (Rd.one HE2.out rfl) (by unfold maxLen; (try simp) <;> omega) (by (try simp) <;> omega) (by omega) ?_)
  intro v6 w6 S6 o6 k6 t6
  obtain ⟨l6, hl6⟩ : ∃ l, cs ++ [⟨y1, 0⟩] = l := ⟨_, rfl⟩
  have hl7 : l6.length ≤ cs.length + 1 := by rw [← hl6]; simp
  rw [hl6] at o6
  obtain ⟨A6, c6, rfl⟩ := o6.form
  have D6 := box_out D5.out k6 (t6.box D5.out (by decide))
  have E6 := box_out E5.out k6 (t6.box E5.out (by decide))
  have K6 := Hd (S5.out.chg Sea.len k6 (t6.row S5.out (by decide)))
  have hc6 := cur_chg hc5 k6 (fun k hk => by have := (t6 k hk).1; omega)
  have G6 := t6.gr G5 k6 (by omega)
  have s6 := G6.size
  have d6 := bx_cell D6
  have f6 := bx_frozen D6
  have z6 := bx_lt D6
  have hP6 := hc6.lt
  have D7 := Hd (box_put D6 0 (.slice A6 l6.length c6))
  have E7 := Hd (box_set_other E6 (p := ⟨p, 0, none⟩) (by dsimp only; omega) (.slice A6 l6.length c6))
  have hc7 := cur_set hc6 (p := ⟨p, 0, none⟩) (by dsimp only; omega) (.slice A6 l6.length c6)
  have G7 := gr_set G6 (p := ⟨p, 0, none⟩) (by dsimp only; omega) (.slice A6 l6.length c6)
  have K7 := Hd (K6.out.put Sea.len D6 (by decide) 0 (.slice A6 l6.length c6))
  have O7 := Hd (Ow.rdF Cel.len (o6.put D6 (by decide) 0 (.slice A6 l6.length c6)))
  clear D5 E5 G5 R5 S5 HE2 D6 E6 K6 o6 k6 t6 hc5 hc6 G6 hl6
  have d9 := bx_cell D7.out
  have f9 := bx_frozen D7.out
  have z9 := bx_lt D7.out
  have y9 := bx_cell E7.out
  have x9 := bx_frozen E7.out
  have v9 := bx_lt E7.out
  have hP9 := hc7.lt
  have s9 := G7.size
  have hG9 := G7
  have hc9 := hc7
  go_wp2
  exact bodyPost_ret (v := .agg #[.slice A6 l6.length c6, .slice A2 ss.length c2]) (by simp [results, Try.results125, go_sem, *]) rfl ⟨A6, c6, A2, c2, l6, ss, rfl, ((O7.out.low Cel.len (by omega) 0 _).low Cel.len (by omega) 1 _).less (by omega), ((K7.out.low Sea.len (by omega) 0 _).low Sea.len (by omega) 1 _).less (by omega), by omega, by omega, by (repeat (first | with_reducible assumption | with_reducible refine cur_set ?_ (by first | (dsimp only; omega) | omega) _ | with_reducible refine Cur.ext ?_ (ext_alloc _ _))), by (repeat (first | with_reducible assumption | with_reducible refine gr_set ?_ (by first | (dsimp only; omega) | omega) _ | with_reducible refine gr_alloc ?_ _))⟩
 ·have h0' : (x4 == 0) = false := by simpa using h0
  by_cases h1 : x4 = 1
  ·subst h1
   have d4 := bx_cell D4.out
   have f4 := bx_frozen D4.out
   have z4 := bx_lt D4.out
   have s4 := G4.size
   have hP4 := hc4.lt
   go_wp2
   (refine Rm.wp_region_mix' (R := relC P A n c w4.heap.size hP4) (fun _ _ _ => True) (fun _ _ _ _ _ hq => hq) 12 (by first | exact Nat.le_refl _ | omega | (simp; omega)) (by kernel_rfl) (by kernel_rfl) ?_; simp only [Tc, Tz, Dc, Dz])
   (iterate 1 (refine Rm.wpMix_plain rfl rfl ?_; go_big_quiet_step (fail); refine wpQuiet_nil ?_))
   (refine Rm.wpMix_load1 (fun W h => bx_cell (relC_box h D4.out (by omega)) 1) rfl rfl rfl Try.underlying39 rfl ?_; simp only [Act.put, Sa, Sz, Ss])
   (iterate 1 (refine Rm.wpMix_plain rfl rfl ?_; go_big_quiet_step (fail); refine wpQuiet_nil ?_))
   (refine Rm.wpMix_alloc (.cells #[.int .i64 0, .int .i64 99, .int .i64 1000000001] 3) rfl (fun W => by kernel_rfl) ?_; intro p1 hp1 hps1 hpi1; simp only [layVal, Act.put, Sa, Sz, Ss])
   (refine Rm.wpMix_call (DrV (OneOf [0, 99, 1000000001])) rfl rfl rfl (enters Try.func67 (by kernel_rfl) rfl) (DrV.mono _ _) (fun W9' h9 => (c_l1PickInt P A n c p1 [0, 99, 1000000001] W9' (h9.1.2 hc4) (by decide) (by decide) h9.2 (by have : w4.heap.size ≤ p1 := hp1; omega)).mono fun e w' ⟨x, hx, he, hc9, hg9⟩ => ⟨_, he, ⟨x, hx, rfl⟩, hg9, fun _ => hc9⟩) rfl (fun v9 hv9 => ?_); obtain ⟨_, _, y1, hy1, rfl⟩ := hv9; simp only [Act.put, Sa, Sz, Ss])
   (iterate 1 (refine Rm.wpMix_plain rfl rfl ?_; go_big_quiet_step (fail); refine wpQuiet_nil ?_))
   (refine Rm.wpMix_call (DrV (Less 2)) rfl rfl rfl (enters Try.func66 (by kernel_rfl) rfl) (DrV.mono _ _) (fun W9' h9 => (c_l1Below P A n c 2 W9' (h9.1.1.2 hc4) (by omega)).mono fun e w' ⟨x, hx, he, hc9, hg9⟩ => ⟨_, he, ⟨x, hx, rfl⟩, hg9, fun _ => hc9⟩) rfl (fun v9 hv9 => ?_); obtain ⟨_, _, y2, hy2, rfl⟩ := hv9; simp only [Act.put, Sa, Sz, Ss])
   (iterate 1 (refine Rm.wpMix_plain rfl rfl ?_; go_big_quiet_step (fail); refine wpQuiet_nil ?_))
   (refine Rm.wpMix_call (DrV (Less 3)) rfl rfl rfl (enters Try.func66 (by kernel_rfl) rfl) (DrV.mono _ _) (fun W9' h9 => (c_l1Below P A n c 3 W9' (h9.1.1.1.2 hc4) (by omega)).mono fun e w' ⟨x, hx, he, hc9, hg9⟩ => ⟨_, he, ⟨x, hx, rfl⟩, hg9, fun _ => hc9⟩) rfl (fun v9 hv9 => ?_); obtain ⟨_, _, y3, hy3, rfl⟩ := hv9; simp only [Act.put, Sa, Sz, Ss])
   have hy3' : IntKind.i64.wrap (y3 - 2) = y3 - 2 := by rw [IntKind.wrap_i64]; have h1 := hy3.1; have h2 := hy3.2; omega
   (iterate 2 (refine Rm.wpMix_plain rfl rfl ?_; go_big_quiet_step (fail); refine wpQuiet_nil ?_))
   (refine Rm.wpMix_alloc (.cells #[.int .i64 y1, .int .i64 y2, .int .i64 (y3 - 2)] 103) rfl (fun W => by kernel_rfl) ?_; intro p2 hp2 hps2 hpi2; simp only [layVal, Act.put, Sa, Sz, Ss])
   refine Rm.wpMix_nil ?_
   rintro w5 ⟨⟨⟨⟨⟨⟨hg5, hk5⟩, _⟩, _⟩, _⟩, _⟩, e2⟩
   have hc5 := hk5 hc4
   have D5 := Hd (box_beside D4.out hg5 (by simp only [ne_eq, Option.some.injEq]; omega))
   have E5 := Hd (box_beside E4.out hg5 (by simp only [ne_eq, Option.some.injEq]; omega))
   have G5 := grown_trans G4 hg5
   have R5 := Hd (R4.out.cur Cel.len hg5 (by omega))
   have S5 := Hd (S4.out.cur Sea.len hg5 (by omega))
   have HE2 := Hd e2
   have s5 := G5.size
   have hP5 := hc5.lt
   have y5 := bx_lt E5.out
   clear d4 f4 z4 hg5 hk5 e2 D4 E4 G4 R4 S4 hc4 hp1 hps1 hpi1 hp2 hps2 hpi2
   go_wp2_with (at_builtin; refine wl_appF (enc := Sea.enc) rfl _ _ 39 rfl (w.heap.size + 1) 103 j0 _ 3 24 Try.underlying39 ji jz0 jz1 jz2 rfl (by decide) Sea.len sea_one A2 c2 ss _ rfl rfl S5.out _ 1 [⟨y1, y2, y3 - 2⟩] 1 rfl Nat.zero_lt_one rfl (Rd.one HE2.out rfl) (by unfold maxLen; (try simp) <;> omega) (by (try simp) <;> omega) (by omega) ?_)
   intro v6 w6 S6 o6 k6 t6
   obtain ⟨l6, hl6⟩ : ∃ l, ss ++ [⟨y1, y2, y3 - 2⟩] = l := ⟨_, rfl⟩
   have hl7 : l6.length ≤ ss.length + 1 := by rw [← hl6]; simp
   rw [hl6] at o6
   obtain ⟨A6, c6, rfl⟩ := o6.form
   have D6 := box_out D5.out k6 (t6.box D5.out (by decide))
   have E6 := box_out E5.out k6 (t6.box E5.out (by decide))
   have K6 := Hd (R5.out.chg Cel.len k6 (t6.row R5.out (by decide)))
   have hc6 := cur_chg hc5 k6 (fun k hk => by have := (t6 k hk).1; omega)
   have G6 := t6.gr G5 k6 (by omega)
   have s6 := G6.size
   have d6 := bx_cell D6
   have f6 := bx_frozen D6
   have z6 := bx_lt D6
   have hP6 := hc6.lt
   have D7 := Hd (box_put D6 1 (.slice A6 l6.length c6))
   have E7 := Hd (box_set_other E6 (p := ⟨p, 1, none⟩) (by dsimp only; omega) (.slice A6 l6.length c6))
   have hc7 := cur_set hc6 (p := ⟨p, 1, none⟩) (by dsimp only; omega) (.slice A6 l6.length c6)
   have G7 := gr_set G6 (p := ⟨p, 1, none⟩) (by dsimp only; omega) (.slice A6 l6.length c6)
   have K7 := Hd (K6.out.put Cel.len D6 (by decide) 1 (.slice A6 l6.length c6))
   have O7 := Hd (Ow.rdF Sea.len (o6.put D6 (by decide) 1 (.slice A6 l6.length c6)))
   clear D5 E5 G5 R5 S5 HE2 D6 E6 K6 o6 k6 t6 hc5 hc6 G6 hl6
   have d9 := bx_cell D7.out
   have f9 := bx_frozen D7.out
   have z9 := bx_lt D7.out
   have y9 := bx_cell E7.out
   have x9 := bx_frozen E7.out
   have v9 := bx_lt E7.out
   have hP9 := hc7.lt
   have s9 := G7.size
   have hG9 := G7
   have hc9 := hc7
   go_wp2
   exact bodyPost_ret (v := .agg #[.slice A1 cs.length c1, .slice A6 l6.length c6]) (by simp [results, Try.results125, go_sem, *]) rfl ⟨A1, c1, A6, c6, cs, l6, rfl, ((K7.out.low Cel.len (by omega) 0 _).low Cel.len (by omega) 1 _).less (by omega), ((O7.out.low Sea.len (by omega) 0 _).low Sea.len (by omega) 1 _).less (by omega), by omega, by omega, by (repeat (first | with_reducible assumption | with_reducible refine cur_set ?_ (by first | (dsimp only; omega) | omega) _ | with_reducible refine Cur.ext ?_ (ext_alloc _ _))), by (repeat (first | with_reducible assumption | with_reducible refine gr_set ?_ (by first | (dsimp only; omega) | omega) _ | with_reducible refine gr_alloc ?_ _))⟩
  ·have h1' : (x4 == 1) = false := by simpa using h1
   have d9 := bx_cell D4.out
   have f9 := bx_frozen D4.out
   have z9 := bx_lt D4.out
   have y9 := bx_cell E4.out
   have x9 := bx_frozen E4.out
   have v9 := bx_lt E4.out
   have hP9 := hc4.lt
   have s9 := G4.size
   have hG9 := G4
   have hc9 := hc4
   go_wp2
   exact bodyPost_ret (v := .agg #[.slice A1 cs.length c1, .slice A2 ss.length c2]) (by simp [results, Try.results125, go_sem, *]) rfl ⟨A1, c1, A2, c2, cs, ss, rfl, ((R4.out.low Cel.len (by omega) 0 _).low Cel.len (by omega) 1 _).less (by omega), ((S4.out.low Sea.len (by omega) 0 _).low Sea.len (by omega) 1 _).less (by omega), by omega, by omega, by (repeat (first | with_reducible assumption | with_reducible refine cur_set ?_ (by first | (dsimp only; omega) | omega) _ | with_reducible refine Cur.ext ?_ (ext_alloc _ _))), by (repeat (first | with_reducible assumption | with_reducible refine gr_set ?_ (by first | (dsimp only; omega) | omega) _ | with_reducible refine gr_alloc ?_ _))⟩
end Go.Proofs.Ytpghedeghoegmaa
