/- Draws of commands, entries, images and logs: well typed values, the cursor alone changed. -/
import Derived.Test.YtpghedeghoegmaaPk16
import Derived.Test.YtpghedeghoegmaaPk7
import Derived.Test.YtpghedeghoegmaaPk11
import Derived.Test.YtpghedeghoegmaaPk6
import Derived.Test.YtpghedeghoegmaaPk8
namespace Go.Proofs.Ytpghedeghoegmaa
open Go.ChangeShapes Go.WideShapes Go.ChangeAt Go.RowKit Go.Sort
set_option linter.unusedVariables false
set_option linter.unusedSimpArgs false
theorem gr_set {w w' : World} {row : Option Nat} (h : w.grownBy w' row) {p : Addr} (hp : w.heap.size ≤ p.block) (u : Value) : w.grownBy (w'.setCell p u) row :=
 ⟨h.os, h.tape, h.output, by simpa using h.size, fun k hk hne => (Below.heap_setCell _ _ _ _ (fun e => by omega)).trans (h.block k hk hne)⟩
theorem cur_set {w : World} {P : Nat} {A : Option Addr} {n c : Nat} (h : Cur w P A n c) {p : Addr} (hp : P < p.block) (u : Value) : Cur (w.setCell p u) P A n c :=
 Cur.grown h (row := some p.block) (grown_set (World.grownBy.refl w _) rfl) (fun g he => by simp only [Option.some.injEq] at he; omega)
theorem gr_alloc {w w' : World} {row : Option Nat} (h : w.grownBy w' row) (o : Obj) : w.grownBy (w'.alloc o) row := grown_trans h (grown_of_ext (ext_alloc _ _))
theorem gr_ext {w w' w'' : World} {row : Option Nat} (h : w.grownBy w' row) (k : Ext w' w'') : w.grownBy w'' row := grown_trans h (grown_of_ext k)
theorem gr_own {w w' w'' : World} {row : Option Nat} {v : Value} {B : Nat} {e : TypeId} {sz n : Nat} {xs : List Value} (h : w.grownBy w' row) (k : w'.grownBy w'' v.ownBlock) (ho : w'.ownsRow B e sz v n xs) (hB : w.heap.size ≤ B) : w.grownBy w'' row :=
 ⟨k.os.trans h.os, k.tape.trans h.tape, k.output.trans h.output, Nat.le_trans h.size k.size, fun i hi hne => (k.block i (Nat.lt_of_lt_of_le hi h.size) (fun he => by have := ho.lt i he.symm; omega)).trans (h.block i hi hne)⟩
theorem chg_cur {w w' : World} {P : Nat} (h : w.grownBy w' (some P)) : Chg w w' [P] := ⟨h.os, h.tape, h.output, h.size, fun k hk hn => h.block k hk (fun he => hn (by simp only [Option.some.injEq] at he; simp [he]))⟩
theorem box_set_other {w : World} {k : Nat} {o : Obj} (h : w.heap[k]? = some o) {p : Addr} (hp : k ≠ p.block) (u : Value) : (w.setCell p u).heap[k]? = some o := (Below.heap_setCell _ _ _ _ hp).trans h
def relC (P : Nat) (A : Option Addr) (n c B : Nat) (hP : P < B) : Rm.Rel where
 rel a b := a.grownBy b (some P) ∧ (Cur a P A n c → Cur b P A n c)
 base := B
 refl w := ⟨World.grownBy.refl w _, id⟩
 trans a b c h k := ⟨grown_trans h.1 k.1, fun h9 => k.2 (h.2 h9)⟩
 ext a b h := ⟨gr_ext (World.grownBy.refl a _) h, fun h9 => h9.ext h⟩
 size a b h := h.1.size
 keep a b h p hp hlt := h.1.block p hlt (fun he => by simp only [Option.some.injEq] at he; omega)
def DrV (Q : Int → Prop) (v : Value) (_ : World) : Prop := ∃ x : Int, Q x ∧ v = .int .i64 x
theorem DrV.mono (R : Rm.Rel) (Q : Int → Prop) : Rm.Mono R (DrV Q) := fun _ _ _ h _ => h
theorem relC_box {P : Nat} {A : Option Addr} {n c B : Nat} {hP : P < B} {w W : World} (h : (relC P A n c B hP).rel w W) {p : Nat} {o : Obj} (hb : w.heap[p]? = some o) (hne : p ≠ P) : W.heap[p]? = some o := box_beside hb h.1 (by simp only [ne_eq, Option.some.injEq]; omega)
def DrawnC (w : World) (P : Nat) (A : Option Addr) (n c : Nat) (e : Ending) (w' : World) : Prop := ∃ k x v : Int, cmdOk k x v = true ∧ e = .returned (.agg #[.int .i64 k, .int .i64 x, .int .i64 v]) ∧ Cur w' P A n c ∧ w.grownBy w' (some P)
def DrawnE (w : World) (P : Nat) (A : Option Addr) (n c : Nat) (e : Ending) (w' : World) : Prop := ∃ r : Ent, r.ok = true ∧ e = .returned (.agg #[.int .i64 r.client, .int .i64 r.req, .int .i64 r.kind, .int .i64 r.key, .int .i64 r.value]) ∧ Cur w' P A n c ∧ w.grownBy w' (some P)
def DrawnEs (w : World) (P : Nat) (A : Option Addr) (n c : Nat) (e : Ending) (w' : World) : Prop := ∃ (v : Value) (l : List Ent), e = .returned v ∧ l.length ≤ 60 ∧ (∀ r ∈ l, r.ok = true) ∧ Ow Ent.enc 105 5 w' w.heap.size v l ∧ Cur w' P A n c ∧ w.grownBy w' (some P)
set_option maxHeartbeats 4000000 in
set_option maxRecDepth 100000 in
theorem c_l2DrawCmd (P : Nat) (A : Option Addr) (n c : Nat) (w : World) (hc : Cur w P A n c) : Calls Try.prog 102 #[.pointer (some ⟨P, 0, none⟩)] w (DrawnC w P A n c) := by
 have hPl := hc.lt
 have hc0 := hc.ext (ext_alloc w (.cells #[.int .i64 0, .int .i64 0, .int .i64 0] 37))
 go_enter Try.func102, Try.ntmps102
 go_wp2_with fail
 refine (c_l1Below P A n c 4 _ hc0 (by omega)).mono ?_
 rintro e w1 ⟨x1, ⟨p1, q1⟩, rfl, hc1, hg1⟩
 have B1 := box_beside (hNew (w := w) (o := .cells #[.int .i64 0, .int .i64 0, .int .i64 0] 37) rfl) hg1 (by simp only [ne_eq, Option.some.injEq]; omega)
 have G1 := grown_trans (gr_alloc (World.grownBy.refl w (some P)) _) hg1
 go_wp2_with fail
 refine (c_l1Below P A n c 6 _ hc1 (by omega)).mono ?_
 rintro e w2 ⟨x2, ⟨p2, q2⟩, rfl, hc2, hg2⟩
 have B2 := box_beside B1 hg2 (by simp only [ne_eq, Option.some.injEq]; omega)
 have G2 := grown_trans G1 hg2
 have s2 := G2.size
 have hP2 := hc2.lt
 have hb2 := bx_lt B2
 clear B1 G1 hc0 hc1 hg1 hg2
 have HB2 := Hd B2
 have cb2 := bx_cell B2
 have fb2 := bx_frozen B2
 have HG2 := Hd G2
 clear B2 G2
 obtain h | h | h | h : x1 = 0 ∨ x1 = 1 ∨ x1 = 2 ∨ x1 = 3 := by omega
 ·subst h
  go_wp2
  exact bodyPost_ret (v := .agg #[.int .i64 1, .int .i64 x2, .int .i64 0]) (by simp [results, Try.results102, go_sem, *]) rfl ⟨1, x2, 0, by simp [cmdOk]; omega, rfl, by (repeat (first | with_reducible assumption | with_reducible refine cur_set ?_ (by first | (dsimp only; omega) | omega) _ | with_reducible refine Cur.ext ?_ (ext_alloc _ _))), by have G2 := HG2.out; (repeat (first | with_reducible assumption | with_reducible refine gr_set ?_ (by first | (dsimp only; omega) | omega) _ | with_reducible refine gr_alloc ?_ _))⟩
 ·subst h
  have E3 := hNew (w := w2) (o := .cells #[.int .i64 2, .int .i64 x2, .int .i64 0] 37) rfl
  have G2' := gr_alloc HG2.out (.cells #[.int .i64 2, .int .i64 x2, .int .i64 0] 37)
  go_wp2_with fail
  refine (c_l1Below P A n c 50 _ (hc2.ext (ext_alloc _ _)) (by omega)).mono ?_
  rintro e w3 ⟨x3, ⟨p3, q3⟩, rfl, hc3, hg3⟩
  have C3 := box_beside E3 hg3 (by simp only [ne_eq, Option.some.injEq]; omega)
  have B3 := box_beside (hOld HB2.out) hg3 (by simp only [ne_eq, Option.some.injEq]; omega)
  have G3 := grown_trans G2' hg3
  have c3 := bx_cell C3
  have f3 := bx_frozen C3
  have z3 := bx_lt C3
  have C4 := Hd (box_put C3 2 (.int .i64 x3))
  have B4 := Hd (box_set_other B3 (p := ⟨w2.heap.size, 2, none⟩) (by dsimp only; omega) (.int .i64 x3))
  have hc4 := cur_set hc3 (p := ⟨w2.heap.size, 2, none⟩) (by dsimp only; omega) (.int .i64 x3)
  have G4 := gr_set G3 (p := ⟨w2.heap.size, 2, none⟩) (by dsimp only; omega) (.int .i64 x3)
  clear hc2 hg3 hc3 G2' E3 cb2 fb2 C3 B3 G3 HB2 HG2
  go_wp2_with fail
  refine (c_l1Once P A n c 20 _ hc4 (by omega)).mono ?_
  rintro e w5 ⟨b5, rfl, hc5, hg5⟩
  have C5 := Hd (box_beside C4.out hg5 (by simp only [ne_eq, Option.some.injEq]; omega))
  have B5 := Hd (box_beside B4.out hg5 (by simp only [ne_eq, Option.some.injEq]; omega))
  have G5 := grown_trans G4 hg5
  have s5 := G5.size
  clear c3 f3 z3 C4 B4 hc4 G4 hg5
  cases b5
  ·have c5 := bx_cell C5.out
   have f5 := bx_frozen C5.out
   have z5 := bx_lt C5.out
   have d5 := bx_cell B5.out
   have g5 := bx_frozen B5.out
   have y5 := bx_lt B5.out
   go_wp2
   exact bodyPost_ret (v := .agg #[.int .i64 2, .int .i64 x2, .int .i64 x3]) (by simp [results, Try.results102, go_sem, *]) rfl ⟨2, x2, x3, by simp [cmdOk]; omega, rfl, by (repeat (first | with_reducible assumption | with_reducible refine cur_set ?_ (by first | (dsimp only; omega) | omega) _ | with_reducible refine Cur.ext ?_ (ext_alloc _ _))), by (repeat (first | with_reducible assumption | with_reducible refine gr_set ?_ (by first | (dsimp only; omega) | omega) _ | with_reducible refine gr_alloc ?_ _))⟩
  ·go_wp2_with fail
   refine (c_l1Below P A n c 3 _ hc5 (by omega)).mono ?_
   rintro e w6 ⟨x6, ⟨p6, q6⟩, rfl, hc6, hg6⟩
   have C6 := box_beside C5.out hg6 (by simp only [ne_eq, Option.some.injEq]; omega)
   have B6 := box_beside B5.out hg6 (by simp only [ne_eq, Option.some.injEq]; omega)
   have G6 := grown_trans G5 hg6
   have s6 := G6.size
   have c5 := bx_cell C6
   have f5 := bx_frozen C6
   have z5 := bx_lt C6
   have d5 := bx_cell B6
   have g5 := bx_frozen B6
   have y5 := bx_lt B6
   clear C5 B5 C6 B6 hg6 hc5 G5
   go_wp2
   exact bodyPost_ret (v := .agg #[.int .i64 2, .int .i64 x2, .int .i64 (1000000000 - x6)]) (by simp [results, Try.results102, go_sem, *]) rfl ⟨2, x2, 1000000000 - x6, by simp [cmdOk]; omega, rfl, by (repeat (first | with_reducible assumption | with_reducible refine cur_set ?_ (by first | (dsimp only; omega) | omega) _ | with_reducible refine Cur.ext ?_ (ext_alloc _ _))), by (repeat (first | with_reducible assumption | with_reducible refine gr_set ?_ (by first | (dsimp only; omega) | omega) _ | with_reducible refine gr_alloc ?_ _))⟩
 ·subst h
  have E3 := hNew (w := w2) (o := .cells #[.int .i64 3, .int .i64 x2, .int .i64 0] 37) rfl
  have G2' := gr_alloc HG2.out (.cells #[.int .i64 3, .int .i64 x2, .int .i64 0] 37)
  go_wp2_with fail
  refine (c_l1Below P A n c 50 _ (hc2.ext (ext_alloc _ _)) (by omega)).mono ?_
  rintro e w3 ⟨x3, ⟨p3, q3⟩, rfl, hc3, hg3⟩
  have C3 := box_beside E3 hg3 (by simp only [ne_eq, Option.some.injEq]; omega)
  have B3 := box_beside (hOld HB2.out) hg3 (by simp only [ne_eq, Option.some.injEq]; omega)
  have G3 := grown_trans G2' hg3
  have c3 := bx_cell C3
  have f3 := bx_frozen C3
  have z3 := bx_lt C3
  have C4 := Hd (box_put C3 2 (.int .i64 x3))
  have B4 := Hd (box_set_other B3 (p := ⟨w2.heap.size, 2, none⟩) (by dsimp only; omega) (.int .i64 x3))
  have hc4 := cur_set hc3 (p := ⟨w2.heap.size, 2, none⟩) (by dsimp only; omega) (.int .i64 x3)
  have G4 := gr_set G3 (p := ⟨w2.heap.size, 2, none⟩) (by dsimp only; omega) (.int .i64 x3)
  clear hc2 hg3 hc3 G2' E3 cb2 fb2 C3 B3 G3 HB2 HG2
  go_wp2_with fail
  refine (c_l1Once P A n c 20 _ hc4 (by omega)).mono ?_
  rintro e w5 ⟨b5, rfl, hc5, hg5⟩
  have C5 := Hd (box_beside C4.out hg5 (by simp only [ne_eq, Option.some.injEq]; omega))
  have B5 := Hd (box_beside B4.out hg5 (by simp only [ne_eq, Option.some.injEq]; omega))
  have G5 := grown_trans G4 hg5
  have s5 := G5.size
  clear c3 f3 z3 C4 B4 hc4 G4 hg5
  cases b5
  ·have c5 := bx_cell C5.out
   have f5 := bx_frozen C5.out
   have z5 := bx_lt C5.out
   have d5 := bx_cell B5.out
   have g5 := bx_frozen B5.out
   have y5 := bx_lt B5.out
   go_wp2
   exact bodyPost_ret (v := .agg #[.int .i64 3, .int .i64 x2, .int .i64 x3]) (by simp [results, Try.results102, go_sem, *]) rfl ⟨3, x2, x3, by simp [cmdOk]; omega, rfl, by (repeat (first | with_reducible assumption | with_reducible refine cur_set ?_ (by first | (dsimp only; omega) | omega) _ | with_reducible refine Cur.ext ?_ (ext_alloc _ _))), by (repeat (first | with_reducible assumption | with_reducible refine gr_set ?_ (by first | (dsimp only; omega) | omega) _ | with_reducible refine gr_alloc ?_ _))⟩
  ·go_wp2_with fail
   refine (c_l1Below P A n c 3 _ hc5 (by omega)).mono ?_
   rintro e w6 ⟨x6, ⟨p6, q6⟩, rfl, hc6, hg6⟩
   have C6 := box_beside C5.out hg6 (by simp only [ne_eq, Option.some.injEq]; omega)
   have B6 := box_beside B5.out hg6 (by simp only [ne_eq, Option.some.injEq]; omega)
   have G6 := grown_trans G5 hg6
   have s6 := G6.size
   have c5 := bx_cell C6
   have f5 := bx_frozen C6
   have z5 := bx_lt C6
   have d5 := bx_cell B6
   have g5 := bx_frozen B6
   have y5 := bx_lt B6
   clear C5 B5 C6 B6 hg6 hc5 G5
   go_wp2
   exact bodyPost_ret (v := .agg #[.int .i64 3, .int .i64 x2, .int .i64 (1000000000 - x6)]) (by simp [results, Try.results102, go_sem, *]) rfl ⟨3, x2, 1000000000 - x6, by simp [cmdOk]; omega, rfl, by (repeat (first | with_reducible assumption | with_reducible refine cur_set ?_ (by first | (dsimp only; omega) | omega) _ | with_reducible refine Cur.ext ?_ (ext_alloc _ _))), by (repeat (first | with_reducible assumption | with_reducible refine gr_set ?_ (by first | (dsimp only; omega) | omega) _ | with_reducible refine gr_alloc ?_ _))⟩
 ·subst h
  go_wp2
  exact bodyPost_ret (v := .agg #[.int .i64 4, .int .i64 x2, .int .i64 0]) (by simp [results, Try.results102, go_sem, *]) rfl ⟨4, x2, 0, by simp [cmdOk]; omega, rfl, by (repeat (first | with_reducible assumption | with_reducible refine cur_set ?_ (by first | (dsimp only; omega) | omega) _ | with_reducible refine Cur.ext ?_ (ext_alloc _ _))), by have G2 := HG2.out; (repeat (first | with_reducible assumption | with_reducible refine gr_set ?_ (by first | (dsimp only; omega) | omega) _ | with_reducible refine gr_alloc ?_ _))⟩
set_option maxHeartbeats 4000000 in
set_option maxRecDepth 100000 in
theorem c_l2DrawEntry (P : Nat) (A : Option Addr) (n c : Nat) (w : World) (hc : Cur w P A n c) : Calls Try.prog 136 #[.pointer (some ⟨P, 0, none⟩)] w (DrawnE w P A n c) := by
 have hPl := hc.lt
 have hc0 := hc.ext (ext_alloc w Ent.zobj)
 go_enter Try.func136, Try.ntmps136
 go_wp2_with fail
 refine (c_l1Below P A n c 4 _ hc0 (by omega)).mono ?_
 rintro e w1 ⟨x1, ⟨p1, q1⟩, rfl, hc1, hg1⟩
 have B1 := box_beside (hNew (w := w) (o := Ent.zobj) rfl) hg1 (by simp only [ne_eq, Option.some.injEq]; omega)
 have G1 := grown_trans (gr_alloc (World.grownBy.refl w (some P)) _) hg1
 go_wp2_with fail
 refine (c_l1Below P A n c 6 _ hc1 (by omega)).mono ?_
 rintro e w2 ⟨x2, ⟨p2, q2⟩, rfl, hc2, hg2⟩
 have B2 := box_beside B1 hg2 (by simp only [ne_eq, Option.some.injEq]; omega)
 have G2 := grown_trans G1 hg2
 clear B1 G1 hc0 hc1 hg1 hg2
 go_wp2_with fail
 refine (c_l2DrawCmd P A n c _ hc2).mono ?_
 rintro e w3 ⟨k, x, v, hok, rfl, hc3, hg3⟩
 have B3 := box_beside B2 hg3 (by simp only [ne_eq, Option.some.injEq]; omega)
 have G3 := grown_trans G2 hg3
 have s3 := G3.size
 have c3 := bx_cell B3
 have f3 := bx_frozen B3
 have z3 := bx_lt B3
 have HOk := Hd (show (⟨x1, 1 + x2, k, x, v⟩ : Ent).ok = true by rw [entOk_mk, hok, Bool.and_true, Bool.and_eq_true, inB_yes, inB_yes]; omega)
 clear B2 B3 G2 hc2 hg3 hok
 go_wp2
 exact bodyPost_ret (v := .agg #[.int .i64 x1, .int .i64 (1 + x2), .int .i64 k, .int .i64 x, .int .i64 v]) (by simp [results, Try.results136, go_sem, *]) rfl ⟨⟨x1, 1 + x2, k, x, v⟩, HOk.out, rfl, by (repeat (first | with_reducible assumption | with_reducible refine cur_set ?_ (by first | (dsimp only; omega) | omega) _ | with_reducible refine Cur.ext ?_ (ext_alloc _ _))), by (repeat (first | with_reducible assumption | with_reducible refine gr_set ?_ (by first | (dsimp only; omega) | omega) _ | with_reducible refine gr_alloc ?_ _))⟩
set_option maxHeartbeats 4000000 in
set_option maxRecDepth 100000 in
theorem c_l2DrawEntries (P : Nat) (A : Option Addr) (n c : Nat) (most : Int) (w : World) (hc : Cur w P A n c) (m0 : 0 ≤ most) (m1 : most ≤ 60) : Calls Try.prog 128 #[.pointer (some ⟨P, 0, none⟩), .int .i64 most] w (DrawnEs w P A n c) := by
 obtain ⟨i0, hi, hz0, hz1, hz2⟩ := info_parts Try.infoEnt
 have hPl := hc.lt
 have hc0 := hc.ext (ext_alloc w (.cells #[] 105))
 go_enter Try.func128, Try.ntmps128
 go_wp2_with fail
 refine (c_l1Below P A n c (most + 1) _ hc0 (by omega)).mono ?_
 rintro e w1 ⟨x1, ⟨p1, q1⟩, rfl, hc1, hg1⟩
 have o1 := (show Ow Ent.enc 105 5 (w.alloc (.cells #[] 105)) w.heap.size (.slice (some ⟨w.heap.size, 0, none⟩) 0 0) [] from own_empty (hNew rfl) (Nat.le_refl _)).beside hg1 (fun k hk => by (have h : w.heap.size = k := (by simpa [Value.ownBlock] using hk)); simp only [ne_eq, Option.some.injEq]; omega)
 have G1 := grown_trans (gr_alloc (World.grownBy.refl w (some P)) _) hg1
 clear hc0 hg1
 go_wp2_with fail
 refine (c_l1Once P A n c 30 _ hc1 (by omega)).mono ?_
 rintro e w2 ⟨b2, rfl, hc2, hg2⟩
 have o2 := o1.beside hg2 (fun k hk => by (have h : w.heap.size = k := (by simpa [Value.ownBlock] using hk)); simp only [ne_eq, Option.some.injEq]; omega)
 have G2 := grown_trans G1 hg2
 clear o1 G1 hc1 hg2
 cases b2
 ·skip
  go_wp2
  go_loopw [5, 7] (fun o i wr => ∃ (k : Nat) (l : List Ent), (k : Int) ≤ x1 ∧ i = .int .i64 k ∧ l.length = k ∧ (∀ r ∈ l, r.ok = true) ∧ Ow Ent.enc 105 5 wr w.heap.size o l ∧ Cur wr P A n c ∧ w.grownBy wr (some P)) (fun _ i _ => (x1 - intOf i).toNat)
  case atStart => exact ⟨0, [], by omega, rfl, rfl, by simp, o2, hc2, G2⟩
  case round =>
   clear o2 hc2 G2
   obtain ⟨k, l, hk, rfl, hlk, hall, ho, hcr, hgr⟩ := hrel
   obtain ⟨Ao, co, rfl⟩ := ho.form
   have HLK := Hd hlk
   have HAll := Hd hall
   have hll : l.length ≤ 60 := by omega
   clear hlk hall
   by_cases hlt : (k : Int) < x1
   ·go_wp2_with fail
    refine (c_l2DrawEntry P A n c _ hcr).mono ?_
    rintro e w4 ⟨r, hr, rfl, hc4, hg4⟩
    have o4 := ho.beside hg4 (fun k hk => by have := ho.lt k hk; simp only [ne_eq, Option.some.injEq]; omega)
    have G4 := grown_trans hgr hg4
    have s4 := G4.size
    have HR4 := Hd hr
    clear ho hcr hgr hg4 hr
    go_wp2_with (at_builtin; refine wpList_append_own _ rfl _ _ 42 rfl (w.heap.size) 105 i0 (.agg #[.int .i64 0, .int .i64 0, .int .i64 0, .int .i64 0, .int .i64 0]) 5 40 Try.underlying42 hi hz0 hz1 hz2 rfl (by decide) _ _ _ rfl (ownsRow_ext o4 (ext_alloc _ _)) _ 1 1 [.int .i64 r.client, .int .i64 r.req, .int .i64 r.kind, .int .i64 r.key, .int .i64 r.value] rfl rfl (alloc_cellB _ _ _ _ (by first | rfl | (simp; done) | (simp; omega))) (by intro u hu; simp at hu; rcases hu with rfl | rfl | rfl | rfl | rfl <;> rfl) (by unfold maxLen; (try simp) <;> omega) (by (try simp) <;> omega) (by (try simp) <;> omega) ?_)
    intro v w5 h5 g5 _
    have G5 := gr_own (gr_alloc G4 _) g5 (ownsRow_ext o4 (ext_alloc _ _)) (Nat.le_refl _)
    have hc5 := (hc4.ext (ext_alloc _ _)).grown g5 (fun g hg => by have := o4.lt g hg; omega)
    have o5 := own_snoc (enc := Ent.enc) (x := r) h5 rfl rfl
    clear h5 g5 o4
    go_wp2
    go_roundw
    case rel => exact ⟨k + 1, l ++ [r], by omega, by go_num, by rw [List.length_append, HLK.out]; rfl, fun q hq => by rcases List.mem_append.1 hq with h | h; exact HAll.out q h; rw [Mi] at h; subst h; exact HR4.out, o5, hc5, G5⟩
    case measure => simp [intOf] <;> omega
   ·go_wp2
    go_ret
    exact ⟨_, l, rfl, by omega, HAll.out, ho, hcr, hgr⟩
 ·skip
  go_wp2
  go_loopw [5, 7] (fun o i wr => ∃ (k : Nat) (l : List Ent), (k : Int) ≤ 60 ∧ i = .int .i64 k ∧ l.length = k ∧ (∀ r ∈ l, r.ok = true) ∧ Ow Ent.enc 105 5 wr w.heap.size o l ∧ Cur wr P A n c ∧ w.grownBy wr (some P)) (fun _ i _ => (60 - intOf i).toNat)
  case atStart => exact ⟨0, [], by omega, rfl, rfl, by simp, o2, hc2, G2⟩
  case round =>
   clear o2 hc2 G2
   obtain ⟨k, l, hk, rfl, hlk, hall, ho, hcr, hgr⟩ := hrel
   obtain ⟨Ao, co, rfl⟩ := ho.form
   have HLK := Hd hlk
   have HAll := Hd hall
   have hll : l.length ≤ 60 := by omega
   clear hlk hall
   by_cases hlt : (k : Int) < 60
   ·go_wp2_with fail
    refine (c_l2DrawEntry P A n c _ hcr).mono ?_
    rintro e w4 ⟨r, hr, rfl, hc4, hg4⟩
    have o4 := ho.beside hg4 (fun k hk => by have := ho.lt k hk; simp only [ne_eq, Option.some.injEq]; omega)
    have G4 := grown_trans hgr hg4
    have s4 := G4.size
    have HR4 := Hd hr
    clear ho hcr hgr hg4 hr
    go_wp2_with (at_builtin; refine wpList_append_own _ rfl _ _ 42 rfl (w.heap.size) 105 i0 (.agg #[.int .i64 0, .int .i64 0, .int .i64 0, .int .i64 0, .int .i64 0]) 5 40 Try.underlying42 hi hz0 hz1 hz2 rfl (by decide) _ _ _ rfl (ownsRow_ext o4 (ext_alloc _ _)) _ 1 1 [.int .i64 r.client, .int .i64 r.req, .int .i64 r.kind, .int .i64 r.key, .int .i64 r.value] rfl rfl (alloc_cellB _ _ _ _ (by first | rfl | (simp; done) | (simp; omega))) (by intro u hu; simp at hu; rcases hu with rfl | rfl | rfl | rfl | rfl <;> rfl) (by unfold maxLen; (try simp) <;> omega) (by (try simp) <;> omega) (by (try simp) <;> omega) ?_)
    intro v w5 h5 g5 _
    have G5 := gr_own (gr_alloc G4 _) g5 (ownsRow_ext o4 (ext_alloc _ _)) (Nat.le_refl _)
    have hc5 := (hc4.ext (ext_alloc _ _)).grown g5 (fun g hg => by have := o4.lt g hg; omega)
    have o5 := own_snoc (enc := Ent.enc) (x := r) h5 rfl rfl
    clear h5 g5 o4
    go_wp2
    go_roundw
    case rel => exact ⟨k + 1, l ++ [r], by omega, by go_num, by rw [List.length_append, HLK.out]; rfl, fun q hq => by rcases List.mem_append.1 hq with h | h; exact HAll.out q h; rw [Mi] at h; subst h; exact HR4.out, o5, hc5, G5⟩
    case measure => simp [intOf] <;> omega
   ·go_wp2
    go_ret
    exact ⟨_, l, rfl, by omega, HAll.out, ho, hcr, hgr⟩
def Typd (w : World) (S : List Nat) (base : Nat) (e : TypeId) : Prop := ∀ k ∈ S, base ≤ k ∧ ∃ cur, w.heap[k]? = some (.cells cur e (0, 0))
theorem Typd.box {w : World} {S : List Nat} {base : Nat} {e T : TypeId} (h : Typd w S base e) {p : Nat} {cs : Array Value} (hb : w.heap[p]? = some (.cells cs T (0, 0))) (hne : T ≠ e) : p ∉ S := fun hm => by
 obtain ⟨_, cur, h2⟩ := h p hm
 rw [h2] at hb
 simp only [Option.some.injEq, Obj.cells.injEq] at hb
 exact hne hb.2.1.symm
theorem Typd.row {w : World} {S : List Nat} {base : Nat} {e e' : TypeId} (h : Typd w S base e) {α : Type} {enc : α → List Value} {sz : Nat} {B : Nat} {A : Option Addr} {c : Nat} {l : List α} (hr : RdF enc e' sz w B A c l) (hne : e' ≠ e) : 0 < c → ∀ k ∈ blk A, k ∉ S := fun h0 k hk hm => by
 obtain ⟨_, cur, h2⟩ := h k hm
 exact box_apart h2 (hr.2 h0) (Ne.symm hne) hk
theorem Typd.gr {w0 w w' : World} {S : List Nat} {base : Nat} {e : TypeId} {row : Option Nat} (h : Typd w S base e) (hg : w0.grownBy w row) (hc : Chg w w' S) (hb : w0.heap.size ≤ base) : w0.grownBy w' row :=
 ⟨hc.os.trans hg.os, hc.tape.trans hg.tape, hc.output.trans hg.output, Nat.le_trans hg.size hc.size, fun k hk hne => (hc.block k (Nat.lt_of_lt_of_le hk hg.size) (fun hm => by have := (h k hm).1; omega)).trans (hg.block k hk hne)⟩
theorem box_out {w w' : World} {S : List Nat} {p : Nat} {o : Obj} (h : w.heap[p]? = some o) (hg : Chg w w' S) (hn : p ∉ S) : w'.heap[p]? = some o := (hg.block p (bx_lt h) hn).trans h
theorem cel_one (r : Cel) : ∀ u ∈ Cel.enc r, u.oneCell' = true := by
 intro u hu
 simp only [Cel.enc, List.mem_cons, List.not_mem_nil, or_false] at hu
 rcases hu with rfl | rfl <;> rfl
theorem sea_one (r : Sea) : ∀ u ∈ Sea.enc r, u.oneCell' = true := by
 intro u hu
 simp only [Sea.enc, List.mem_cons, List.not_mem_nil, or_false] at hu
 rcases hu with rfl | rfl | rfl <;> rfl
theorem ent_one (r : Ent) : ∀ u ∈ Ent.enc r, u.oneCell' = true := by
 intro u hu
 simp only [Ent.enc, List.mem_cons, List.not_mem_nil, or_false] at hu
 rcases hu with rfl | rfl | rfl | rfl | rfl <;> rfl
theorem wl_appC {P : Program} {α : Type} {enc : α → List Value} {ops : Array Oper} {rest : List Oper} {o : Oper} {a : Act} {w : World} {Q : Exit → Act → World → Prop} (hgd : o.guard = none) (s x : Operand) (t : TypeId)
  (ho : o.op = .call { callee := .builtin .append, args := #[s, x], argTypes := #[t, t] })
  (base : Nat) (e : TypeId) (i : TypeInfo) (z : Value) (size bytes : Nat) (ht : P.underlying t = some (.slice e)) (hi : P.info? e = some i) (hz : i.zero = some z)
  (hsize : i.size = size) (hby : i.bytes = bytes) (hzs : z.cells.size = size) (hsz : 0 < size) (hlen : ∀ x, (enc x).length = size)
  (ad : Addr) (hs : a.eval s = .slice (some ad) 0 0) (A : Option Addr) (c : Nat) (l : List α) (n : Nat) (hn : n = l.length) (hpos : 0 < l.length) (hx : a.eval x = .slice A n c) (hr : Rd enc size w A c l)
  (h63 : l.length ≤ maxLen) (hbytes : l.length * bytes ≤ 140737488355328) (hbase : base ≤ w.heap.size)
  (h : ∀ v' w', Ow enc e size w' base v' l → Ext w w' → wpList P ops Q rest (a.put o.dst v') w') : wpList P ops Q (o :: rest) a w := by
 subst hn
 subst hsize
 subst hby
 refine wpList_plain hgd fun _ hK => ?_
 have hsmall : l.length ≤ 9223372036854775807 := by simp only [maxLen] at h63; omega
 obtain ⟨ad2, rfl⟩ := hr.base hpos
 have hf := flat_length hlen l
 have hrun := run_append_grow (P := P) (w := w) t o.type e i z ht hi hz ad 0 0 [] (by simp) (by simp) ad2 l.length c (l.flatMap enc) hf (hr.flat hsz hlen) (by omega) (by omega) (growslice_fits (by omega) (by simpa using hbytes))
 have hge := grownCap_ge w (0 + l.length) 0 e
 have hcm : grownCap w (0 + l.length) 0 e ≤ maxLen := grownCap_le_maxLen w (0 + l.length) 0 e (by simpa using h63)
 generalize grownCap w (0 + l.length) 0 e = G at hrun hge hcm
 have hown : Ow enc e i.size (w.drew.alloc (.cells (([] : List Value).toArray ++ (l.flatMap enc).toArray ++ Builtin.zeroCells z.cells (G - (0 + l.length))) e)) base (.slice (some ⟨w.heap.size, 0, none⟩) l.length G) l := by
  refine ⟨hf, .inr ⟨w.heap.size, _, _, rfl, hbase, heap_alloc_new w.drew _, by omega, hcm, ?_, ?_⟩⟩
  ·simp only [Array.size_append, List.size_toArray, List.length_nil, size_zeroCells, hzs, hf, Nat.zero_add]
   rw [← Nat.add_mul]
   congr 1
   omega
  ·simp only [Array.toList_append, List.append_assoc, List.nil_append]
   rw [← hf]
   exact List.take_left
 unfold Oper.wp execOp
 simp only [ho, resolve, invoke, builtin, Sem.run_bind, Sem.run_pure, Result.andThen_ok, List.map_toArray, List.map_cons, List.map_nil, hs, hx, hrun, Nat.zero_add]
 rw [Nat.zero_add] at hown
 exact hK _ _ (h _ _ hown ((ext_drew (ext_refl w)).trans (ext_alloc _ _)))
theorem wl_appF {P : Program} {α : Type} {enc : α → List Value} {ops : Array Oper} {rest : List Oper} {o : Oper} {a : Act} {w : World} {Q : Exit → Act → World → Prop} (hgd : o.guard = none) (s x : Operand) (t : TypeId)
  (ho : o.op = .call { callee := .builtin .append, args := #[s, x], argTypes := #[t, t] })
  (base : Nat) (e : TypeId) (i : TypeInfo) (z : Value) (size bytes : Nat) (ht : P.underlying t = some (.slice e)) (hi : P.info? e = some i) (hz : i.zero = some z)
  (hsize : i.size = size) (hby : i.bytes = bytes) (hzs : z.cells.size = size) (hsz : 0 < size) (hlen : ∀ x, (enc x).length = size) (hone : ∀ x, ∀ u ∈ enc x, u.oneCell' = true)
  (A0 : Option Addr) (c0 : Nat) (l0 : List α) (m0 : Nat) (hm0 : m0 = l0.length) (hs : a.eval s = .slice A0 m0 c0) (hr0 : RdF enc e size w base A0 c0 l0) (A : Option Addr) (c : Nat) (l : List α) (n : Nat) (hn : n = l.length) (hpos : 0 < l.length) (hx : a.eval x = .slice A n c) (hr : Rd enc size w A c l)
  (h63 : l0.length + l.length ≤ maxLen) (hbytes : (l0.length + l.length) * bytes ≤ 140737488355328) (hbase : base ≤ w.heap.size)
  (h : ∀ v' w' S, Ow enc e size w' base v' (l0 ++ l) → Chg w w' S → Typd w S base e → wpList P ops Q rest (a.put o.dst v') w') : wpList P ops Q (o :: rest) a w := by
 subst hm0
 by_cases h0 : c0 = 0
 ·subst h0
  have hl := hr0.1.1
  obtain rfl : l0 = [] := List.eq_nil_of_length_eq_zero (by omega)
  cases A0 with
  | none =>
   refine wl_app hgd s x t ho base e i z size bytes ht hi hz hsize hby hzs hsz hlen hone _ [] hs ⟨by simp, .inl ⟨rfl, rfl⟩⟩ A c l n hn hx hr h63 hbytes hbase fun v' w' h2 h3 => h v' w' [] h2 ⟨h3.os, h3.tape, h3.output, h3.size, fun k hk _ => h3.block k hk (by simp [Value.ownBlock])⟩ (fun k hk => by simp at hk)
  | some ad =>
   refine wl_appC hgd s x t ho base e i z size bytes ht hi hz hsize hby hzs hsz hlen ad hs A c l n hn hpos hx hr (by simpa using h63) (by simpa using hbytes) hbase fun v' w' h2 h3 => h v' w' [] h2 (chg_ext _ h3) (fun k hk => by simp at hk)
 ·have hown := hr0.2 (by omega)
  refine wl_app hgd s x t ho base e i z size bytes ht hi hz hsize hby hzs hsz hlen hone _ l0 hs hown A c l n hn hx hr h63 hbytes hbase fun v' w' h2 h3 => h v' w' (blk A0) h2 (chg_grown h3) (fun k hk => ?_)
  refine ⟨(hown.inB k hk).1, ?_⟩
  rcases hown.2 with ⟨hv, _⟩ | ⟨g, cap, cur, hv, hb, hh, _⟩
  ·simp only [Value.slice.injEq] at hv
   rw [hv.1] at hk
   simp [blk] at hk
  ·simp only [Value.slice.injEq] at hv
   rw [hv.1] at hk
   simp only [blk, Mi] at hk
   subst hk
   exact ⟨cur, hh⟩
end Go.Proofs.Ytpghedeghoegmaa
