/- The laws' own functions on images, logs, votes: how great they are, and made anew. -/
import Derived.Test.YtmphedkbdlckhaaGreatPk4
namespace Go.Proofs.YtmphedkbdlckhaaGreat
open Go.ChangeShapes Go.WideShapes Go.ChangeAt Go.RowKit Go.Sort
set_option linter.unusedVariables false
set_option linter.unusedSimpArgs false
def szV (n : Nat) (left : Int) : Int := if (n : Int) ≤ left then left - n else -1
theorem szV_le {n : Nat} {left : Int} (h : (n : Int) ≤ left) : szV n left = left - n := by unfold szV; rw [if_pos h]
theorem szV_gt {n : Nat} {left : Int} (h : ¬ (n : Int) ≤ left) : szV n left = -1 := by unfold szV; rw [if_neg h]
theorem c_szC (A : Option Addr) (n c : Nat) (left : Int) (h0 : 0 ≤ left) (h1 : left ≤ 1048576) (hn : (n : Int) ≤ 9223372036854775807) (w : World) : Calls Tryz.prog 125 #[.slice A n c, .int .i64 left] w fun e w' => e = .returned (.int .i64 (szV n left)) ∧ Ext w w' := by
 by_cases h : (n : Int) ≤ left
 ·rw [szV_le h]; exact c_szCellS_le A n c left h0 h1 hn h w
 ·rw [szV_gt h]; exact c_szCellS_gt A n c left h0 h1 hn (by omega) w
theorem c_szS (A : Option Addr) (n c : Nat) (left : Int) (h0 : 0 ≤ left) (h1 : left ≤ 1048576) (hn : (n : Int) ≤ 9223372036854775807) (w : World) : Calls Tryz.prog 126 #[.slice A n c, .int .i64 left] w fun e w' => e = .returned (.int .i64 (szV n left)) ∧ Ext w w' := by
 by_cases h : (n : Int) ≤ left
 ·rw [szV_le h]; exact c_szSeatS_le A n c left h0 h1 hn h w
 ·rw [szV_gt h]; exact c_szSeatS_gt A n c left h0 h1 hn (by omega) w
theorem c_szE (A : Option Addr) (n c : Nat) (left : Int) (h0 : 0 ≤ left) (h1 : left ≤ 1048576) (hn : (n : Int) ≤ 9223372036854775807) (w : World) : Calls Tryz.prog 102 #[.slice A n c, .int .i64 left] w fun e w' => e = .returned (.int .i64 (szV n left)) ∧ Ext w w' := by
 by_cases h : (n : Int) ≤ left
 ·rw [szV_le h]; exact c_szEntryS_le A n c left h0 h1 hn h w
 ·rw [szV_gt h]; exact c_szEntryS_gt A n c left h0 h1 hn (by omega) w
theorem c_szImage (cA : Option Addr) (cn cc : Nat) (sA : Option Addr) (sn sc : Nat) (left : Int) (h0 : 0 ≤ left) (h1 : left ≤ 1048576) (hc : (cn : Int) ≤ 9223372036854775807) (hs : (sn : Int) ≤ 9223372036854775807) (w : World) :
  Calls Tryz.prog 101 #[.agg #[.slice cA cn cc, .slice sA sn sc], .int .i64 left] w fun e w' => e = .returned (.int .i64 (szV (cn + sn) left)) ∧ Ext w w' := by
 by_cases ha : (cn : Int) ≤ left
 ·have hcon := c_szC cA cn cc left h0 h1 hc
  rw [szV_le ha] at hcon
  by_cases hb : (sn : Int) ≤ left - cn
  ·have hcon2 := c_szS sA sn sc (left - cn) (by omega) (by omega) hs
   rw [szV_le hb] at hcon2
   have HV := Hd (show left - cn - sn = szV (cn + sn) left by rw [szV_le (by omega)]; omega)
   go_enter Tryz.func101, Tryz.ntmps101
   go_wp2_with fail
   refine (hcon _).mono ?_
   rintro e w1 ⟨rfl, x1⟩
   have b1 := bx_cell (x1.box (hNew (w := w) (o := .cells #[.slice cA cn cc, .slice sA sn sc] 82) rfl))
   go_wp2_with fail
   refine (hcon2 _).mono ?_
   rintro e w2 ⟨rfl, x2⟩
   go_wp2
   go_ret
   exact ⟨ret_int HV.out, Ext.trans (ext_alloc _ _) (Ext.trans x1 x2)⟩
  ·have hcon2 := c_szS sA sn sc (left - cn) (by omega) (by omega) hs
   rw [szV_gt hb] at hcon2
   have HV := Hd (show -1 = szV (cn + sn) left by rw [szV_gt (by omega)])
   go_enter Tryz.func101, Tryz.ntmps101
   go_wp2_with fail
   refine (hcon _).mono ?_
   rintro e w1 ⟨rfl, x1⟩
   have b1 := bx_cell (x1.box (hNew (w := w) (o := .cells #[.slice cA cn cc, .slice sA sn sc] 82) rfl))
   go_wp2_with fail
   refine (hcon2 _).mono ?_
   rintro e w2 ⟨rfl, x2⟩
   go_wp2
   go_ret
   exact ⟨ret_int HV.out, Ext.trans (ext_alloc _ _) (Ext.trans x1 x2)⟩
 ·have hcon := c_szC cA cn cc left h0 h1 hc
  rw [szV_gt ha] at hcon
  have HV := Hd (show -1 = szV (cn + sn) left by rw [szV_gt (by omega)])
  go_enter Tryz.func101, Tryz.ntmps101
  go_wp2_with fail
  refine (hcon _).mono ?_
  rintro e w1 ⟨rfl, x1⟩
  go_wp2
  go_ret
  exact ⟨ret_int HV.out, Ext.trans (ext_alloc _ _) x1⟩
theorem c_szLog (b : Int) (cA : Option Addr) (cn cc : Nat) (sA : Option Addr) (sn sc : Nat) (eA : Option Addr) (en ec : Nat) (left : Int) (h0 : 0 ≤ left) (h1 : left ≤ 1048576) (hc : (cn : Int) ≤ 9223372036854775807) (hs : (sn : Int) ≤ 9223372036854775807) (he : (en : Int) ≤ 9223372036854775807) (w : World) :
  Calls Tryz.prog 82 #[.agg #[.int .i64 b, .slice cA cn cc, .slice sA sn sc, .slice eA en ec], .int .i64 left] w fun e w' => e = .returned (.int .i64 (szV (cn + sn + en) left)) ∧ Ext w w' := by
 have hcon := c_szImage cA cn cc sA sn sc left h0 h1 hc hs
 by_cases ha : ((cn + sn : Nat) : Int) ≤ left
 ·rw [szV_le ha] at hcon
  obtain ⟨m, hm, hm0, hm1⟩ : ∃ m, left - ((cn + sn : Nat) : Int) = m ∧ 0 ≤ m ∧ m ≤ 1048576 := ⟨_, rfl, by omega, by omega⟩
  rw [hm] at hcon
  have hcon2 := c_szE eA en ec m hm0 hm1 he
  by_cases hb : (en : Int) ≤ m
  ·rw [szV_le hb] at hcon2
   have HV := Hd (show m - en = szV (cn + sn + en) left by rw [szV_le (by omega)]; omega)
   clear hm
   go_enter Tryz.func82, Tryz.ntmps82
   go_wp2_with fail
   refine (hcon _).mono ?_
   rintro e w1 ⟨rfl, x1⟩
   have b1 := bx_cell (x1.box (hNew (w := w) (o := .cells #[.int .i64 b, .slice cA cn cc, .slice sA sn sc, .slice eA en ec] 85) rfl))
   go_wp2_with fail
   refine (hcon2 _).mono ?_
   rintro e w2 ⟨rfl, x2⟩
   go_wp2
   go_ret
   exact ⟨ret_int HV.out, Ext.trans (ext_alloc _ _) (Ext.trans x1 x2)⟩
  ·rw [szV_gt hb] at hcon2
   have HV := Hd (show -1 = szV (cn + sn + en) left by rw [szV_gt (by omega)])
   clear hm
   go_enter Tryz.func82, Tryz.ntmps82
   go_wp2_with fail
   refine (hcon _).mono ?_
   rintro e w1 ⟨rfl, x1⟩
   have b1 := bx_cell (x1.box (hNew (w := w) (o := .cells #[.int .i64 b, .slice cA cn cc, .slice sA sn sc, .slice eA en ec] 85) rfl))
   go_wp2_with fail
   refine (hcon2 _).mono ?_
   rintro e w2 ⟨rfl, x2⟩
   go_wp2
   go_ret
   exact ⟨ret_int HV.out, Ext.trans (ext_alloc _ _) (Ext.trans x1 x2)⟩
 ·rw [szV_gt ha] at hcon
  have HV := Hd (show -1 = szV (cn + sn + en) left by rw [szV_gt (by omega)])
  go_enter Tryz.func82, Tryz.ntmps82
  go_wp2_with fail
  refine (hcon _).mono ?_
  rintro e w1 ⟨rfl, x1⟩
  go_wp2
  go_ret
  exact ⟨ret_int HV.out, Ext.trans (ext_alloc _ _) x1⟩
theorem c_szVote (k f v n o m b : Int) (cA : Option Addr) (cn cc : Nat) (sA : Option Addr) (sn sc : Nat) (eA : Option Addr) (en ec : Nat) (left : Int) (h0 : 0 ≤ left) (h1 : left ≤ 1048576) (hc : (cn : Int) ≤ 9223372036854775807) (hs : (sn : Int) ≤ 9223372036854775807) (he : (en : Int) ≤ 9223372036854775807) (w : World) :
  Calls Tryz.prog 103 #[.agg #[.int .i64 k, .int .i64 f, .int .i64 v, .int .i64 n, .int .i64 o, .int .i64 m, .int .i64 b, .slice cA cn cc, .slice sA sn sc, .slice eA en ec], .int .i64 left] w fun e w' => e = .returned (.int .i64 (szV (cn + sn + en) left)) ∧ Ext w w' := by
 have hcon := c_szLog b cA cn cc sA sn sc eA en ec left h0 h1 hc hs he
 by_cases ha : ((cn + sn + en : Nat) : Int) ≤ left
 ·rw [szV_le ha] at hcon ⊢
  obtain ⟨q, hq, hq0, hq1⟩ : ∃ m, left - ((cn + sn + en : Nat) : Int) = m ∧ 0 ≤ m ∧ m ≤ 1048576 := ⟨_, rfl, by omega, by omega⟩
  rw [hq] at hcon ⊢
  clear hq ha
  go_enter Tryz.func103, Tryz.ntmps103
  go_wp2_with fail
  refine (hcon _).mono ?_
  rintro e w1 ⟨rfl, x1⟩
  go_wp2
  go_ret
  exact ⟨rfl, Ext.trans (ext_alloc _ _) x1⟩
 ·rw [szV_gt ha] at hcon ⊢
  clear ha
  go_enter Tryz.func103, Tryz.ntmps103
  go_wp2_with fail
  refine (hcon _).mono ?_
  rintro e w1 ⟨rfl, x1⟩
  go_wp2
  go_ret
  exact ⟨rfl, Ext.trans (ext_alloc _ _) x1⟩
theorem c_toImage (cA : Option Addr) (cc : Nat) (cs : List Cel) (sA : Option Addr) (sc : Nat) (ss : List Sea) (w : World) (hc : Rd Cel.enc 2 w cA cc cs) (hs : Rd Sea.enc 3 w sA sc ss) (hn : cs.length ≤ 1048576) (hm : ss.length ≤ 1048576) :
  Calls Tryz.prog 106 #[.agg #[.slice cA cs.length cc, .slice sA ss.length sc]] w fun e w' => ∃ g h, e = .returned (.agg #[.slice (some ⟨g, 0, none⟩) cs.length cs.length, .slice (some ⟨h, 0, none⟩) ss.length ss.length]) ∧ g < h ∧
   Ow Cel.enc 112 2 w' w.heap.size (.slice (some ⟨g, 0, none⟩) cs.length cs.length) cs ∧ Ow Sea.enc 113 3 w' w.heap.size (.slice (some ⟨h, 0, none⟩) ss.length ss.length) ss ∧ Ext w w' := by
 have X0 : Ext w (((w.alloc (.cells #[.slice cA cs.length cc, .slice sA ss.length sc] 82)).alloc (.cells #[.slice none 0 0, .slice none 0 0] 50)).alloc (.cells #[.slice none 0 0, .slice none 0 0] 50)) := ext_to (ext_to (ext_alloc _ _) _) _
 go_enter Tryz.func106, Tryz.ntmps106
 go_wp2_with fail
 refine (c_toCellS cA cc cs _ (hc.keep X0) hn).mono ?_
 rintro e w1 ⟨g, rfl, o1, x1⟩
 have B0 := x1.box (hOld (o := .cells #[.slice none 0 0, .slice none 0 0] 50) (hOld (o := .cells #[.slice none 0 0, .slice none 0 0] 50) (hNew (w := w) (o := .cells #[.slice cA cs.length cc, .slice sA ss.length sc] 82) rfl)))
 have B1 := x1.box (hOld (o := .cells #[.slice none 0 0, .slice none 0 0] 50) (hNew (w := w.alloc (.cells #[.slice cA cs.length cc, .slice sA ss.length sc] 82)) (o := .cells #[.slice none 0 0, .slice none 0 0] 50) rfl))
 have B2 := x1.box (hNew (w := (w.alloc (.cells #[.slice cA cs.length cc, .slice sA ss.length sc] 82)).alloc (.cells #[.slice none 0 0, .slice none 0 0] 50)) (o := .cells #[.slice none 0 0, .slice none 0 0] 50) rfl)
 rw [sz_alloc] at B1
 rw [sz_alloc, sz_alloc] at B2
 have X1 := Ext.trans X0 x1
 have b0 := bx_cell B0
 have b2 := bx_cell B2
 have f2 := bx_frozen B2
 have z0 := bx_lt B0
 have z2 := bx_lt B2
 have s1 := X1.size
 go_wp2_with fail
 have x1s : Ext w (w1.setCell ⟨w.heap.size + 1 + 1, 0, none⟩ (.slice (some ⟨g, 0, none⟩) cs.length cs.length)) := ext_set X1 (show w.heap.size ≤ w.heap.size + 1 + 1 by omega) _
 refine (c_toSeatS sA sc ss _ (hs.keep x1s) hm).mono ?_
 rintro e w2 ⟨h, rfl, o2, x2⟩
 rw [sz_set] at o2
 have C2 : (w1.setCell ⟨w.heap.size + 1 + 1, 0, none⟩ (.slice (some ⟨g, 0, none⟩) cs.length cs.length)).heap[w.heap.size + 1 + 1]? = some (.cells #[.slice (some ⟨g, 0, none⟩) cs.length cs.length, .slice none 0 0] 50 (0, 0)) := box_put B2 0 _
 have D2 := x2.box C2
 have D1 := x2.box (box_set (p := ⟨w.heap.size + 1 + 1, 0, none⟩) (u := .slice (some ⟨g, 0, none⟩) cs.length cs.length) B1 (show w.heap.size + 1 + 1 ≠ w.heap.size + 1 by omega))
 have X2 := Ext.trans x1s x2
 have lg := o1.lt g rfl
 have lh := o2.lt h rfl
 simp only [sz_alloc] at lg
 have p1 := (show Ow Cel.enc 112 2 (w1.setCell ⟨w.heap.size + 1 + 1, 0, none⟩ (.slice (some ⟨g, 0, none⟩) cs.length cs.length)) _ (.slice (some ⟨g, 0, none⟩) cs.length cs.length) cs from ownsRow_setCell o1 _ (fun k hk => by simp only [Value.ownBlock, Option.some.injEq] at hk; show k ≠ w.heap.size + 1 + 1; omega)).kept x2
 clear b0 b2 f2 z0 z2 x1s
 have d1 := bx_cell D1
 have d2 := bx_cell D2
 have g1 := bx_frozen D1
 have g2 := bx_frozen D2
 have z1 := bx_lt D1
 have z2 := bx_lt D2
 simp only [sz_alloc] at p1
 have P1 := Hd (show w2.ownsRow _ _ _ _ _ _ from p1)
 have O2 := Hd (show w2.ownsRow _ _ _ _ _ _ from o2)
 clear p1 o2 o1
 go_wp2
 refine bodyPost_ret (v := .agg #[.slice (some ⟨g, 0, none⟩) cs.length cs.length, .slice (some ⟨h, 0, none⟩) ss.length ss.length]) (by simp [results, Tryz.results106, go_sem, *]) rfl ⟨g, h, rfl, by omega, ?_, ?_, ?_⟩
 ·unfold Ow
  (refine own_less_any (P1).out (fun h0 => ?_) (by omega); repeat (first | with_reducible exact h0 | refine ownsRow_setCell ?_ _ (fun k hk => by (simp only [Value.ownBlock, Option.some.injEq] at hk); dsimp only; omega) | refine ownsRow_ext ?_ (ext_alloc _ _)))
 ·unfold Ow
  (refine own_less_any (O2).out (fun h0 => ?_) (by omega); repeat (first | with_reducible exact h0 | refine ownsRow_setCell ?_ _ (fun k hk => by (simp only [Value.ownBlock, Option.some.injEq] at hk); dsimp only; omega) | refine ownsRow_ext ?_ (ext_alloc _ _)))
 ·(repeat (first | with_reducible exact ext_refl _ | with_reducible refine ext_to ?_ _ | with_reducible refine ext_set ?_ (by first | (simp; done) | (simp; omega) | omega) _ | with_reducible refine ext_drew ?_ | with_reducible refine Ext.trans ?_ (by assumption)))
set_option maxHeartbeats 1000000 in
theorem c_toLog (a : LAd) (l : Lg) (w : World) (hr : LgR w a l) (hn : l.cells.length ≤ 1048576) (hm : l.seats.length ≤ 1048576) (ho : l.ents.length ≤ 1048576) :
  Calls Tryz.prog 87 #[.agg #[.int .i64 l.base, .slice a.cA l.cells.length a.cc, .slice a.sA l.seats.length a.sc, .slice a.eA l.ents.length a.ec]] w fun e w' => ∃ a' : LAd, e = .returned (.agg #[.int .i64 l.base, .slice a'.cA l.cells.length a'.cc, .slice a'.sA l.seats.length a'.sc, .slice a'.eA l.ents.length a'.ec]) ∧
   LgO w' w.heap.size w'.heap.size a' l ∧ Ext w w' := by
 obtain ⟨hc, hs, he⟩ := hr
 have X0 : Ext w (((w.alloc (.cells #[.int .i64 l.base, .slice a.cA l.cells.length a.cc, .slice a.sA l.seats.length a.sc, .slice a.eA l.ents.length a.ec] 85)).alloc (.cells #[.int .i64 0, .slice none 0 0, .slice none 0 0, .slice none 0 0] 53)).alloc (.cells #[.int .i64 l.base, .slice none 0 0, .slice none 0 0, .slice none 0 0] 53)) := ext_to (ext_to (ext_alloc _ _) _) _
 go_enter Tryz.func87, Tryz.ntmps87
 go_wp2_with fail
 refine (c_toImage a.cA a.cc l.cells a.sA a.sc l.seats _ (hc.keep X0) (hs.keep X0) hn hm).mono ?_
 rintro e w1 ⟨g, h, rfl, hgh, o1, o2, x1⟩
 simp only [sz_alloc] at o1 o2
 have B0 := x1.box (hOld (o := .cells #[.int .i64 l.base, .slice none 0 0, .slice none 0 0, .slice none 0 0] 53) (hOld (o := .cells #[.int .i64 0, .slice none 0 0, .slice none 0 0, .slice none 0 0] 53) (hNew (w := w) (o := .cells #[.int .i64 l.base, .slice a.cA l.cells.length a.cc, .slice a.sA l.seats.length a.sc, .slice a.eA l.ents.length a.ec] 85) rfl)))
 have B1 := x1.box (hOld (o := .cells #[.int .i64 l.base, .slice none 0 0, .slice none 0 0, .slice none 0 0] 53) (hNew (w := w.alloc (.cells #[.int .i64 l.base, .slice a.cA l.cells.length a.cc, .slice a.sA l.seats.length a.sc, .slice a.eA l.ents.length a.ec] 85)) (o := .cells #[.int .i64 0, .slice none 0 0, .slice none 0 0, .slice none 0 0] 53) rfl))
 have B2 := x1.box (hNew (w := (w.alloc (.cells #[.int .i64 l.base, .slice a.cA l.cells.length a.cc, .slice a.sA l.seats.length a.sc, .slice a.eA l.ents.length a.ec] 85)).alloc (.cells #[.int .i64 0, .slice none 0 0, .slice none 0 0, .slice none 0 0] 53)) (o := .cells #[.int .i64 l.base, .slice none 0 0, .slice none 0 0, .slice none 0 0] 53) rfl)
 rw [sz_alloc] at B1
 rw [sz_alloc, sz_alloc] at B2
 have X1 := Ext.trans X0 x1
 have s1 := X1.size
 have b0 := bx_cell B0
 have b2 := bx_cell B2
 have f2 := bx_frozen B2
 have z0 := bx_lt B0
 have z2 := bx_lt B2
 have lg := o1.lt g rfl
 have lh := o2.lt h rfl
 go_wp2_with fail
 have C2 := box_put (box_put B2 1 (.slice (some ⟨g, 0, none⟩) l.cells.length l.cells.length)) 2 (.slice (some ⟨h, 0, none⟩) l.seats.length l.seats.length)
 have C1 := box_set (p := ⟨w.heap.size + 1 + 1, 2, none⟩) (u := .slice (some ⟨h, 0, none⟩) l.seats.length l.seats.length) (box_set (p := ⟨w.heap.size + 1 + 1, 1, none⟩) (u := .slice (some ⟨g, 0, none⟩) l.cells.length l.cells.length) B1 (show w.heap.size + 1 + 1 ≠ w.heap.size + 1 by omega)) (show w.heap.size + 1 + 1 ≠ w.heap.size + 1 by omega)
 have x1s := ext_set (ext_set X1 (p := ⟨w.heap.size + 1 + 1, 1, none⟩) (show w.heap.size ≤ w.heap.size + 1 + 1 by omega) (.slice (some ⟨g, 0, none⟩) l.cells.length l.cells.length)) (p := ⟨w.heap.size + 1 + 1, 2, none⟩) (show w.heap.size ≤ w.heap.size + 1 + 1 by omega) (.slice (some ⟨h, 0, none⟩) l.seats.length l.seats.length)
 have p1 := ownsRow_setCell (p := ⟨w.heap.size + 1 + 1, 2, none⟩) (ownsRow_setCell (p := ⟨w.heap.size + 1 + 1, 1, none⟩) o1 (.slice (some ⟨g, 0, none⟩) l.cells.length l.cells.length) (fun k hk => by (simp only [Value.ownBlock, Option.some.injEq] at hk); dsimp only; omega)) (.slice (some ⟨h, 0, none⟩) l.seats.length l.seats.length) (fun k hk => by (simp only [Value.ownBlock, Option.some.injEq] at hk); dsimp only; omega)
 have p2 := ownsRow_setCell (p := ⟨w.heap.size + 1 + 1, 2, none⟩) (ownsRow_setCell (p := ⟨w.heap.size + 1 + 1, 1, none⟩) o2 (.slice (some ⟨g, 0, none⟩) l.cells.length l.cells.length) (fun k hk => by (simp only [Value.ownBlock, Option.some.injEq] at hk); dsimp only; omega)) (.slice (some ⟨h, 0, none⟩) l.seats.length l.seats.length) (fun k hk => by (simp only [Value.ownBlock, Option.some.injEq] at hk); dsimp only; omega)
 refine (c_toEntryS a.eA a.ec l.ents _ (he.keep x1s) ho).mono ?_
 rintro e w2 ⟨q, rfl, o3, x2⟩
 simp only [sz_set] at o3
 have D2 := x2.box C2
 have D1 := x2.box C1
 have X2 := Ext.trans x1s x2
 have lq := o3.lt q rfl
 have P1 := Hd (ownsRow_ext p1 x2)
 have P2 := Hd (ownsRow_ext p2 x2)
 have P3 := Hd (show w2.ownsRow _ _ _ _ _ _ from o3)
 have s2 := x2.size
 simp only [sz_set] at s2
 clear b0 b2 f2 z0 z2 x1s o1 o2 o3 p1 p2 C1 C2 B0 B1 B2
 have d1 := bx_cell D1
 have d2 := bx_cell D2
 have g1 := bx_frozen D1
 have g2 := bx_frozen D2
 have z1 := bx_lt D1
 have z2 := bx_lt D2
 clear D1 D2
 go_wp2
 refine bodyPost_ret (v := .agg #[.int .i64 l.base, .slice (some ⟨g, 0, none⟩) l.cells.length l.cells.length, .slice (some ⟨h, 0, none⟩) l.seats.length l.seats.length, .slice (some ⟨q, 0, none⟩) l.ents.length l.ents.length]) (by simp [results, Tryz.results87, go_sem, *]) rfl ⟨⟨some ⟨g, 0, none⟩, l.cells.length, some ⟨h, 0, none⟩, l.seats.length, some ⟨q, 0, none⟩, l.ents.length⟩, rfl, ⟨?_, ?_, ?_, ?_, ?_⟩, ?_⟩
 ·unfold Ow
  (refine own_less_any (P1).out (fun h0 => ?_) (by omega); repeat (first | with_reducible exact h0 | refine ownsRow_setCell ?_ _ (fun k hk => by (simp only [Value.ownBlock, Option.some.injEq] at hk); dsimp only; omega) | refine ownsRow_ext ?_ (ext_alloc _ _)))
 ·unfold Ow
  (refine own_less_any (P2).out (fun h0 => ?_) (by omega); repeat (first | with_reducible exact h0 | refine ownsRow_setCell ?_ _ (fun k hk => by (simp only [Value.ownBlock, Option.some.injEq] at hk); dsimp only; omega) | refine ownsRow_ext ?_ (ext_alloc _ _)))
 ·unfold Ow
  (refine own_less_any (P3).out (fun h0 => ?_) (by omega); repeat (first | with_reducible exact h0 | refine ownsRow_setCell ?_ _ (fun k hk => by (simp only [Value.ownBlock, Option.some.injEq] at hk); dsimp only; omega) | refine ownsRow_ext ?_ (ext_alloc _ _)))
 ·simp [LAd.fp, blk]
  omega
 ·intro k hk
  simp [LAd.fp, blk] at hk
  simp
  omega
 ·(repeat (first | with_reducible exact ext_refl _ | with_reducible refine ext_to ?_ _ | with_reducible refine ext_set ?_ (by first | (simp; done) | (simp; omega) | omega) _ | with_reducible refine ext_drew ?_ | with_reducible refine Ext.trans ?_ (by assumption)))
set_option maxHeartbeats 1000000 in
theorem c_toVote (a : LAd) (v : Vt) (w : World) (hr : LgR w a v.log) (hn : v.log.cells.length ≤ 1048576) (hm : v.log.seats.length ≤ 1048576) (ho : v.log.ents.length ≤ 1048576) :
  Calls Tryz.prog 108 #[.agg #[.int .i64 v.kind, .int .i64 v.frm, .int .i64 v.view, .int .i64 v.normal, .int .i64 v.op, .int .i64 v.commit, .int .i64 v.log.base, .slice a.cA v.log.cells.length a.cc, .slice a.sA v.log.seats.length a.sc, .slice a.eA v.log.ents.length a.ec]] w fun e w' => ∃ a' : LAd, e = .returned (.agg #[.int .i64 v.kind, .int .i64 v.frm, .int .i64 v.view, .int .i64 v.normal, .int .i64 v.op, .int .i64 v.commit, .int .i64 v.log.base, .slice a'.cA v.log.cells.length a'.cc, .slice a'.sA v.log.seats.length a'.sc, .slice a'.eA v.log.ents.length a'.ec]) ∧
   LgO w' w.heap.size w'.heap.size a' v.log ∧ Ext w w' := by
 have X0 : Ext w (((w.alloc (.cells #[.int .i64 v.kind, .int .i64 v.frm, .int .i64 v.view, .int .i64 v.normal, .int .i64 v.op, .int .i64 v.commit, .int .i64 v.log.base, .slice a.cA v.log.cells.length a.cc, .slice a.sA v.log.seats.length a.sc, .slice a.eA v.log.ents.length a.ec] 138)).alloc (.cells #[.int .i64 0, .int .i64 0, .int .i64 0, .int .i64 0, .int .i64 0, .int .i64 0, .int .i64 0, .slice none 0 0, .slice none 0 0, .slice none 0 0] 93)).alloc (.cells #[.int .i64 v.kind, .int .i64 v.frm, .int .i64 v.view, .int .i64 v.normal, .int .i64 v.op, .int .i64 v.commit, .int .i64 0, .slice none 0 0, .slice none 0 0, .slice none 0 0] 93)) := ext_to (ext_to (ext_alloc _ _) _) _
 go_enter Tryz.func108, Tryz.ntmps108
 go_wp2_with fail
 refine (c_toLog a v.log _ (hr.keep X0) hn hm ho).mono ?_
 rintro e w1 ⟨a', rfl, o1, x1⟩
 simp only [sz_alloc] at o1
 have B1 := x1.box (hOld (o := .cells #[.int .i64 v.kind, .int .i64 v.frm, .int .i64 v.view, .int .i64 v.normal, .int .i64 v.op, .int .i64 v.commit, .int .i64 0, .slice none 0 0, .slice none 0 0, .slice none 0 0] 93) (hNew (w := w.alloc (.cells #[.int .i64 v.kind, .int .i64 v.frm, .int .i64 v.view, .int .i64 v.normal, .int .i64 v.op, .int .i64 v.commit, .int .i64 v.log.base, .slice a.cA v.log.cells.length a.cc, .slice a.sA v.log.seats.length a.sc, .slice a.eA v.log.ents.length a.ec] 138)) (o := .cells #[.int .i64 0, .int .i64 0, .int .i64 0, .int .i64 0, .int .i64 0, .int .i64 0, .int .i64 0, .slice none 0 0, .slice none 0 0, .slice none 0 0] 93) rfl))
 have B2 := x1.box (hNew (w := (w.alloc (.cells #[.int .i64 v.kind, .int .i64 v.frm, .int .i64 v.view, .int .i64 v.normal, .int .i64 v.op, .int .i64 v.commit, .int .i64 v.log.base, .slice a.cA v.log.cells.length a.cc, .slice a.sA v.log.seats.length a.sc, .slice a.eA v.log.ents.length a.ec] 138)).alloc (.cells #[.int .i64 0, .int .i64 0, .int .i64 0, .int .i64 0, .int .i64 0, .int .i64 0, .int .i64 0, .slice none 0 0, .slice none 0 0, .slice none 0 0] 93)) (o := .cells #[.int .i64 v.kind, .int .i64 v.frm, .int .i64 v.view, .int .i64 v.normal, .int .i64 v.op, .int .i64 v.commit, .int .i64 0, .slice none 0 0, .slice none 0 0, .slice none 0 0] 93) rfl)
 rw [sz_alloc] at B1
 rw [sz_alloc, sz_alloc] at B2
 have X1 := Ext.trans X0 x1
 have b1 := bx_cell B1
 have b2 := bx_cell B2
 have f1 := bx_frozen B1
 have f2 := bx_frozen B2
 have z1 := bx_lt B1
 have z2 := bx_lt B2
 have O1 := Hd o1
 clear B1 B2 o1
 go_wp2
 refine bodyPost_ret (v := .agg #[.int .i64 v.kind, .int .i64 v.frm, .int .i64 v.view, .int .i64 v.normal, .int .i64 v.op, .int .i64 v.commit, .int .i64 v.log.base, .slice a'.cA v.log.cells.length a'.cc, .slice a'.sA v.log.seats.length a'.sc, .slice a'.eA v.log.ents.length a'.ec]) (by simp [results, Tryz.results108, go_sem, *]) rfl ⟨a', rfl, ?_, ?_⟩
 ·refine LgO.wide (B := w.heap.size + 1 + 1 + 1) (T := w1.heap.size) ?_ (by omega) (by simp)
  repeat (first | with_reducible exact O1.out | refine LgO.set ?_ (by dsimp only; omega) _)
 ·(repeat (first | with_reducible exact ext_refl _ | with_reducible refine ext_to ?_ _ | with_reducible refine ext_set ?_ (by first | (simp; done) | (simp; omega) | omega) _ | with_reducible refine ext_drew ?_ | with_reducible refine Ext.trans ?_ (by assumption)))
theorem Rd.atVtE {w : World} {A : Option Addr} {c : Nat} {l : List VtE} (h : Rd VtE.enc 10 w A c l) {k : Nat} (hk : k < l.length) : ∃ b o, A = some ⟨b, o, none⟩ ∧ b < w.heap.size ∧
  w.cell? ⟨b, o + k * 10, none⟩ = some (.int .i64 l[k].2.kind) ∧ w.cell? ⟨b, o + k * 10 + 1, none⟩ = some (.int .i64 l[k].2.frm) ∧ w.cell? ⟨b, o + k * 10 + 2, none⟩ = some (.int .i64 l[k].2.view) ∧ w.cell? ⟨b, o + k * 10 + 3, none⟩ = some (.int .i64 l[k].2.normal) ∧ w.cell? ⟨b, o + k * 10 + 4, none⟩ = some (.int .i64 l[k].2.op) ∧ w.cell? ⟨b, o + k * 10 + 5, none⟩ = some (.int .i64 l[k].2.commit) ∧ w.cell? ⟨b, o + k * 10 + 6, none⟩ = some (.int .i64 l[k].2.log.base) ∧
  w.cell? ⟨b, o + k * 10 + 7, none⟩ = some (.slice l[k].1.cA l[k].2.log.cells.length l[k].1.cc) ∧ w.cell? ⟨b, o + k * 10 + 8, none⟩ = some (.slice l[k].1.sA l[k].2.log.seats.length l[k].1.sc) ∧ w.cell? ⟨b, o + k * 10 + 9, none⟩ = some (.slice l[k].1.eA l[k].2.log.ents.length l[k].1.ec) := by
 obtain ⟨b, o, e, hlt, hc⟩ := h.2.2 (by omega)
 exact ⟨b, o, e, hlt, hc k hk 0 _ rfl, hc k hk 1 _ rfl, hc k hk 2 _ rfl, hc k hk 3 _ rfl, hc k hk 4 _ rfl, hc k hk 5 _ rfl, hc k hk 6 _ rfl, hc k hk 7 _ rfl, hc k hk 8 _ rfl, hc k hk 9 _ rfl⟩
def lgN (l : Lg) : Nat := l.cells.length + l.seats.length + l.ents.length
def vsN (ps : List VtE) : Nat → Nat
 | 0 => 0
 | k + 1 => vsN ps k + match ps[k]? with | some p => lgN p.2.log | none => 0
theorem vsN_next {ps : List VtE} {k : Nat} (h : k < ps.length) : vsN ps (k + 1) = vsN ps k + lgN ps[k].2.log := by
 simp [vsN, h]
theorem vsN_up (ps : List VtE) (k : Nat) : ∀ d, vsN ps k ≤ vsN ps (k + d)
 | 0 => Nat.le_refl _
 | d + 1 => by
  have ih := vsN_up ps k d
  show _ ≤ vsN ps (k + d) + _
  omega
theorem lgR_le {w : World} {a : LAd} {l : Lg} (h : LgR w a l) : (l.cells.length : Int) ≤ 9223372036854775807 ∧ (l.seats.length : Int) ≤ 9223372036854775807 ∧ (l.ents.length : Int) ≤ 9223372036854775807 := ⟨rd_len h.1, rd_len h.2.1, rd_len h.2.2⟩
set_option maxHeartbeats 1000000 in
theorem c_szVoteS (A : Option Addr) (c : Nat) (ps : List VtE) (left : Int) (h0 : 0 ≤ left) (h1 : left ≤ 1048576) (w : World) (hr : VsR w A c ps) :
  Calls Tryz.prog 83 #[.slice A ps.length c, .int .i64 left] w fun e w' => e = .returned (.int .i64 (szV (ps.length + vsN ps ps.length) left)) ∧ Ext w w' := by
 have hL := rd_len hr.1
 by_cases ha : (ps.length : Int) ≤ left
 ·go_enter Tryz.func83, Tryz.ntmps83
  go_wp2
  go_loopw [1, 5] (fun q i wr => ∃ k : Nat, k ≤ ps.length ∧ i = .int .i64 k ∧ q = .int .i64 (left - ps.length - vsN ps k) ∧ (ps.length : Int) + vsN ps k ≤ left ∧ Ext w wr) (fun _ i _ => ps.length - (intOf i).toNat)
  case atStart => exact ⟨0, Nat.zero_le _, rfl, by simp [vsN], by simpa [vsN] using ha, ext_refl _⟩
  case round =>
   obtain ⟨k, hk, rfl, rfl, hle, X⟩ := hrel
   by_cases hlt : k < ps.length
   ·obtain ⟨ab, ao, rfl, hab, a0, a1, a2, a3, a4, a5, a6, a7, a8, a9⟩ := (hr.1.keep X).atVtE hlt
    have hll := lgR_le (hr.2 ps[k] (List.getElem_mem hlt))
    have hnx := vsN_next hlt
    have hup := vsN_up ps (k + 1) (ps.length - (k + 1))
    rw [show k + 1 + (ps.length - (k + 1)) = ps.length by omega] at hup
    obtain ⟨q, hq, q0, q1⟩ : ∃ q, left - (ps.length : Int) - vsN ps k = q ∧ 0 ≤ q ∧ q ≤ 1048576 := ⟨_, rfl, by omega, by omega⟩
    have hcon := c_szVote ps[k].2.kind ps[k].2.frm ps[k].2.view ps[k].2.normal ps[k].2.op ps[k].2.commit ps[k].2.log.base ps[k].1.cA ps[k].2.log.cells.length ps[k].1.cc ps[k].1.sA ps[k].2.log.seats.length ps[k].1.sc ps[k].1.eA ps[k].2.log.ents.length ps[k].1.ec q q0 q1 hll.1 hll.2.1 hll.2.2 wr
    rw [hq]
    have hlg : ps[k].2.log.cells.length + ps[k].2.log.seats.length + ps[k].2.log.ents.length = lgN ps[k].2.log := rfl
    rw [hlg] at hcon
    by_cases hb : ((lgN ps[k].2.log : Nat) : Int) ≤ q
    ·rw [szV_le hb] at hcon
     have HV := Hd (show q - lgN ps[k].2.log = left - ps.length - vsN ps (k + 1) by omega)
     have HL := Hd (show (ps.length : Int) + vsN ps (k + 1) ≤ left by omega)
     clear hq hnx hup hlg hle
     go_wp2_with fail
     refine hcon.mono ?_
     rintro e w1 ⟨rfl, x1⟩
     clear hcon
     go_wp2
     go_roundw
     case rel => exact ⟨k + 1, by omega, by go_num, by rw [HV.out], HL.out, Ext.trans X x1⟩
     case measure => simp [intOf] <;> omega
    ·rw [szV_gt hb] at hcon
     have HV := Hd (show -1 = szV (ps.length + vsN ps ps.length) left by rw [szV_gt (by omega)])
     clear hq hnx hup hlg hle
     go_wp2_with fail
     refine hcon.mono ?_
     rintro e w1 ⟨rfl, x1⟩
     clear hcon
     go_wp2
     go_ret
     exact ⟨ret_int HV.out, Ext.trans X x1⟩
   ·obtain rfl : k = ps.length := by omega
    have HV := Hd (show left - ps.length - vsN ps ps.length = szV (ps.length + vsN ps ps.length) left by rw [szV_le (by omega)]; omega)
    go_wp2
    go_ret
    exact ⟨ret_int HV.out, X⟩
 ·have HV := Hd (show -1 = szV (ps.length + vsN ps ps.length) left by rw [szV_gt (by omega)])
  go_enter Tryz.func83, Tryz.ntmps83
  go_wp2
  go_ret
  exact ⟨ret_int HV.out, ext_refl _⟩
end Go.Proofs.YtmphedkbdlckhaaGreat
