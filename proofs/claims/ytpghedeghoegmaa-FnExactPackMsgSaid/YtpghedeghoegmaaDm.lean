/- The laws' own functions on images, logs, votes: how great they are, and made anew. -/
import Derived.Test.YtpghedeghoegmaaDl
namespace Go.Proofs.Ytpghedeghoegmaa
open Go.ChangeShapes Go.WideShapes Go.ChangeAt Go.RowKit Go.Sort
set_option linter.unusedVariables false
set_option linter.unusedSimpArgs false

def szV (n : Nat) (left : Int) : Int := if (n : Int) ≤ left then left - n else -1
theorem szV_le {n : Nat} {left : Int} (h : (n : Int) ≤ left) : szV n left = left - n := by unfold szV; rw [if_pos h]
theorem szV_gt {n : Nat} {left : Int} (h : ¬ (n : Int) ≤ left) : szV n left = -1 := by unfold szV; rw [if_neg h]
theorem c_szC (A : Option Addr) (n c : Nat) (left : Int) (h0 : 0 ≤ left) (h1 : left ≤ 1048576) (hn : (n : Int) ≤ 9223372036854775807) (w : World) : Calls Try.prog 105 #[.slice A n c, .int .i64 left] w fun e w' => e = .returned (.int .i64 (szV n left)) ∧ Ext w w' := by
  by_cases h : (n : Int) ≤ left
  · rw [szV_le h]; exact c_szCellS_le A n c left h0 h1 hn h w
  · rw [szV_gt h]; exact c_szCellS_gt A n c left h0 h1 hn (by omega) w
theorem c_szS (A : Option Addr) (n c : Nat) (left : Int) (h0 : 0 ≤ left) (h1 : left ≤ 1048576) (hn : (n : Int) ≤ 9223372036854775807) (w : World) : Calls Try.prog 106 #[.slice A n c, .int .i64 left] w fun e w' => e = .returned (.int .i64 (szV n left)) ∧ Ext w w' := by
  by_cases h : (n : Int) ≤ left
  · rw [szV_le h]; exact c_szSeatS_le A n c left h0 h1 hn h w
  · rw [szV_gt h]; exact c_szSeatS_gt A n c left h0 h1 hn (by omega) w
theorem c_szE (A : Option Addr) (n c : Nat) (left : Int) (h0 : 0 ≤ left) (h1 : left ≤ 1048576) (hn : (n : Int) ≤ 9223372036854775807) (w : World) : Calls Try.prog 70 #[.slice A n c, .int .i64 left] w fun e w' => e = .returned (.int .i64 (szV n left)) ∧ Ext w w' := by
  by_cases h : (n : Int) ≤ left
  · rw [szV_le h]; exact c_szEntryS_le A n c left h0 h1 hn h w
  · rw [szV_gt h]; exact c_szEntryS_gt A n c left h0 h1 hn (by omega) w

theorem c_szImage (cA : Option Addr) (cn cc : Nat) (sA : Option Addr) (sn sc : Nat) (left : Int) (h0 : 0 ≤ left) (h1 : left ≤ 1048576) (hc : (cn : Int) ≤ 9223372036854775807) (hs : (sn : Int) ≤ 9223372036854775807) (w : World) :
    Calls Try.prog 69 #[.agg #[.slice cA cn cc, .slice sA sn sc], .int .i64 left] w fun e w' => e = .returned (.int .i64 (szV (cn + sn) left)) ∧ Ext w w' := by
  by_cases ha : (cn : Int) ≤ left
  · have hcon := c_szC cA cn cc left h0 h1 hc
    rw [szV_le ha] at hcon
    by_cases hb : (sn : Int) ≤ left - cn
    · have hcon2 := c_szS sA sn sc (left - cn) (by omega) (by omega) hs
      rw [szV_le hb] at hcon2
      have HV := Lib.hid (show left - cn - sn = szV (cn + sn) left by rw [szV_le (by omega)]; omega)
      go_enter Try.func69, Try.ntmps69
      go_wp2_with fail
      refine (hcon _).mono ?_
      rintro e w1 ⟨rfl, x1⟩
      have b1 := bx_cell (x1.box (hNew (w := w) (o := .cells #[.slice cA cn cc, .slice sA sn sc] 27) rfl))
      go_wp2_with fail
      refine (hcon2 _).mono ?_
      rintro e w2 ⟨rfl, x2⟩
      go_wp2
      go_ret
      exact ⟨ret_int HV.out, Ext.trans (ext_alloc _ _) (Ext.trans x1 x2)⟩
    · have hcon2 := c_szS sA sn sc (left - cn) (by omega) (by omega) hs
      rw [szV_gt hb] at hcon2
      have HV := Lib.hid (show -1 = szV (cn + sn) left by rw [szV_gt (by omega)])
      go_enter Try.func69, Try.ntmps69
      go_wp2_with fail
      refine (hcon _).mono ?_
      rintro e w1 ⟨rfl, x1⟩
      have b1 := bx_cell (x1.box (hNew (w := w) (o := .cells #[.slice cA cn cc, .slice sA sn sc] 27) rfl))
      go_wp2_with fail
      refine (hcon2 _).mono ?_
      rintro e w2 ⟨rfl, x2⟩
      go_wp2
      go_ret
      exact ⟨ret_int HV.out, Ext.trans (ext_alloc _ _) (Ext.trans x1 x2)⟩
  · have hcon := c_szC cA cn cc left h0 h1 hc
    rw [szV_gt ha] at hcon
    have HV := Lib.hid (show -1 = szV (cn + sn) left by rw [szV_gt (by omega)])
    go_enter Try.func69, Try.ntmps69
    go_wp2_with fail
    refine (hcon _).mono ?_
    rintro e w1 ⟨rfl, x1⟩
    go_wp2
    go_ret
    exact ⟨ret_int HV.out, Ext.trans (ext_alloc _ _) x1⟩

theorem c_szLog (b : Int) (cA : Option Addr) (cn cc : Nat) (sA : Option Addr) (sn sc : Nat) (eA : Option Addr) (en ec : Nat) (left : Int) (h0 : 0 ≤ left) (h1 : left ≤ 1048576) (hc : (cn : Int) ≤ 9223372036854775807) (hs : (sn : Int) ≤ 9223372036854775807) (he : (en : Int) ≤ 9223372036854775807) (w : World) :
    Calls Try.prog 27 #[.agg #[.int .i64 b, .slice cA cn cc, .slice sA sn sc, .slice eA en ec], .int .i64 left] w fun e w' => e = .returned (.int .i64 (szV (cn + sn + en) left)) ∧ Ext w w' := by
  have hcon := c_szImage cA cn cc sA sn sc left h0 h1 hc hs
  by_cases ha : ((cn + sn : Nat) : Int) ≤ left
  · rw [szV_le ha] at hcon
    obtain ⟨m, hm, hm0, hm1⟩ : ∃ m, left - ((cn + sn : Nat) : Int) = m ∧ 0 ≤ m ∧ m ≤ 1048576 := ⟨_, rfl, by omega, by omega⟩
    rw [hm] at hcon
    have hcon2 := c_szE eA en ec m hm0 hm1 he
    by_cases hb : (en : Int) ≤ m
    · rw [szV_le hb] at hcon2
      have HV := Lib.hid (show m - en = szV (cn + sn + en) left by rw [szV_le (by omega)]; omega)
      clear hm
      go_enter Try.func27, Try.ntmps27
      go_wp2_with fail
      refine (hcon _).mono ?_
      rintro e w1 ⟨rfl, x1⟩
      have b1 := bx_cell (x1.box (hNew (w := w) (o := .cells #[.int .i64 b, .slice cA cn cc, .slice sA sn sc, .slice eA en ec] 30) rfl))
      go_wp2_with fail
      refine (hcon2 _).mono ?_
      rintro e w2 ⟨rfl, x2⟩
      go_wp2
      go_ret
      exact ⟨ret_int HV.out, Ext.trans (ext_alloc _ _) (Ext.trans x1 x2)⟩
    · rw [szV_gt hb] at hcon2
      have HV := Lib.hid (show -1 = szV (cn + sn + en) left by rw [szV_gt (by omega)])
      clear hm
      go_enter Try.func27, Try.ntmps27
      go_wp2_with fail
      refine (hcon _).mono ?_
      rintro e w1 ⟨rfl, x1⟩
      have b1 := bx_cell (x1.box (hNew (w := w) (o := .cells #[.int .i64 b, .slice cA cn cc, .slice sA sn sc, .slice eA en ec] 30) rfl))
      go_wp2_with fail
      refine (hcon2 _).mono ?_
      rintro e w2 ⟨rfl, x2⟩
      go_wp2
      go_ret
      exact ⟨ret_int HV.out, Ext.trans (ext_alloc _ _) (Ext.trans x1 x2)⟩
  · rw [szV_gt ha] at hcon
    have HV := Lib.hid (show -1 = szV (cn + sn + en) left by rw [szV_gt (by omega)])
    go_enter Try.func27, Try.ntmps27
    go_wp2_with fail
    refine (hcon _).mono ?_
    rintro e w1 ⟨rfl, x1⟩
    go_wp2
    go_ret
    exact ⟨ret_int HV.out, Ext.trans (ext_alloc _ _) x1⟩

/-! ### made anew -/
theorem c_toImage (cA : Option Addr) (cc : Nat) (cs : List Cel) (sA : Option Addr) (sc : Nat) (ss : List Sea) (w : World) (hc : Rd Cel.enc 2 w cA cc cs) (hs : Rd Sea.enc 3 w sA sc ss) (hn : cs.length ≤ 1048576) (hm : ss.length ≤ 1048576) :
    Calls Try.prog 72 #[.agg #[.slice cA cs.length cc, .slice sA ss.length sc]] w fun e w' => ∃ g h, e = .returned (.agg #[.slice (some ⟨g, 0, none⟩) cs.length cs.length, .slice (some ⟨h, 0, none⟩) ss.length ss.length]) ∧ g < h ∧
      Ow Cel.enc 101 2 w' w.heap.size (.slice (some ⟨g, 0, none⟩) cs.length cs.length) cs ∧ Ow Sea.enc 103 3 w' w.heap.size (.slice (some ⟨h, 0, none⟩) ss.length ss.length) ss ∧ Ext w w' := by
  have X0 : Ext w (((w.alloc (.cells #[.slice cA cs.length cc, .slice sA ss.length sc] 27)).alloc (.cells #[.slice none 0 0, .slice none 0 0] 41)).alloc (.cells #[.slice none 0 0, .slice none 0 0] 41)) := ext_to (ext_to (ext_alloc _ _) _) _
  go_enter Try.func72, Try.ntmps72
  go_wp2_with fail
  refine (c_toCellS cA cc cs _ (hc.keep X0) hn).mono ?_
  rintro e w1 ⟨g, rfl, o1, x1⟩
  have B0 := x1.box (hOld (o := .cells #[.slice none 0 0, .slice none 0 0] 41) (hOld (o := .cells #[.slice none 0 0, .slice none 0 0] 41) (hNew (w := w) (o := .cells #[.slice cA cs.length cc, .slice sA ss.length sc] 27) rfl)))
  have B1 := x1.box (hOld (o := .cells #[.slice none 0 0, .slice none 0 0] 41) (hNew (w := w.alloc (.cells #[.slice cA cs.length cc, .slice sA ss.length sc] 27)) (o := .cells #[.slice none 0 0, .slice none 0 0] 41) rfl))
  have B2 := x1.box (hNew (w := (w.alloc (.cells #[.slice cA cs.length cc, .slice sA ss.length sc] 27)).alloc (.cells #[.slice none 0 0, .slice none 0 0] 41)) (o := .cells #[.slice none 0 0, .slice none 0 0] 41) rfl)
  rw [sz_alloc] at B1
  rw [sz_alloc, sz_alloc] at B2
  have X1 := Ext.trans X0 x1
  have b0 := bx_cell B0
  have b2 := bx_cell B2
  have f2 := bx_frozen B2
  have z0 := bx_lt B0
  have z2 := bx_lt B2
  have s1 := X1.size
  go_wp2_with fail
  have x1s : Ext w (w1.setCell ⟨w.heap.size + 1 + 1, 0, none⟩ (.slice (some ⟨g, 0, none⟩) cs.length cs.length)) := ext_set X1 (show w.heap.size ≤ w.heap.size + 1 + 1 by omega) _
  refine (c_toSeatS sA sc ss _ (hs.keep x1s) hm).mono ?_
  rintro e w2 ⟨h, rfl, o2, x2⟩
  rw [sz_set] at o2
  have C2 : (w1.setCell ⟨w.heap.size + 1 + 1, 0, none⟩ (.slice (some ⟨g, 0, none⟩) cs.length cs.length)).heap[w.heap.size + 1 + 1]? = some (.cells #[.slice (some ⟨g, 0, none⟩) cs.length cs.length, .slice none 0 0] 41 (0, 0)) := box_put B2 0 _
  have D2 := x2.box C2
  have D1 := x2.box (box_set (p := ⟨w.heap.size + 1 + 1, 0, none⟩) (u := .slice (some ⟨g, 0, none⟩) cs.length cs.length) B1 (show w.heap.size + 1 + 1 ≠ w.heap.size + 1 by omega))
  have X2 := Ext.trans x1s x2
  have lg := o1.lt g rfl
  have lh := o2.lt h rfl
  simp only [sz_alloc] at lg
  have p1 := (show Ow Cel.enc 101 2 (w1.setCell ⟨w.heap.size + 1 + 1, 0, none⟩ (.slice (some ⟨g, 0, none⟩) cs.length cs.length)) _ (.slice (some ⟨g, 0, none⟩) cs.length cs.length) cs from ownsRow_setCell o1 _ (fun k hk => by simp only [Value.ownBlock, Option.some.injEq] at hk; show k ≠ w.heap.size + 1 + 1; omega)).kept x2
  clear b0 b2 f2 z0 z2 x1s
  have d1 := bx_cell D1
  have d2 := bx_cell D2
  have g1 := bx_frozen D1
  have g2 := bx_frozen D2
  have z1 := bx_lt D1
  have z2 := bx_lt D2
  simp only [sz_alloc] at p1
  have P1 := Lib.hid (show w2.ownsRow _ _ _ _ _ _ from p1)
  have O2 := Lib.hid (show w2.ownsRow _ _ _ _ _ _ from o2)
  clear p1 o2 o1
  go_wp2
  refine bodyPost_ret (v := .agg #[.slice (some ⟨g, 0, none⟩) cs.length cs.length, .slice (some ⟨h, 0, none⟩) ss.length ss.length]) (by simp [results, Try.results72, go_sem, *]) rfl ⟨g, h, rfl, by omega, ?_, ?_, ?_⟩
  · unfold Ow
    (refine own_less_any (P1).out (fun h0 => ?_) (by omega); repeat (first | with_reducible exact h0 | refine ownsRow_setCell ?_ _ (fun k hk => by (simp only [Value.ownBlock, Option.some.injEq] at hk); dsimp only; omega) | refine ownsRow_ext ?_ (ext_alloc _ _)))
  · unfold Ow
    (refine own_less_any (O2).out (fun h0 => ?_) (by omega); repeat (first | with_reducible exact h0 | refine ownsRow_setCell ?_ _ (fun k hk => by (simp only [Value.ownBlock, Option.some.injEq] at hk); dsimp only; omega) | refine ownsRow_ext ?_ (ext_alloc _ _)))
  · (repeat (first | with_reducible exact ext_refl _ | with_reducible refine ext_to ?_ _ | with_reducible refine ext_set ?_ (by first | (simp; done) | (simp; omega) | omega) _ | with_reducible refine ext_drew ?_ | with_reducible refine Ext.trans ?_ (by assumption)))

set_option maxHeartbeats 1000000 in
theorem c_toLog (a : LAd) (l : Lg) (w : World) (hr : LgR w a l) (hn : l.cells.length ≤ 1048576) (hm : l.seats.length ≤ 1048576) (ho : l.ents.length ≤ 1048576) :
    Calls Try.prog 34 #[.agg #[.int .i64 l.base, .slice a.cA l.cells.length a.cc, .slice a.sA l.seats.length a.sc, .slice a.eA l.ents.length a.ec]] w fun e w' => ∃ a' : LAd, e = .returned (.agg #[.int .i64 l.base, .slice a'.cA l.cells.length a'.cc, .slice a'.sA l.seats.length a'.sc, .slice a'.eA l.ents.length a'.ec]) ∧
      LgO w' w.heap.size w'.heap.size a' l ∧ Ext w w' := by
  obtain ⟨hc, hs, he⟩ := hr
  have X0 : Ext w (((w.alloc (.cells #[.int .i64 l.base, .slice a.cA l.cells.length a.cc, .slice a.sA l.seats.length a.sc, .slice a.eA l.ents.length a.ec] 30)).alloc (.cells #[.int .i64 0, .slice none 0 0, .slice none 0 0, .slice none 0 0] 44)).alloc (.cells #[.int .i64 l.base, .slice none 0 0, .slice none 0 0, .slice none 0 0] 44)) := ext_to (ext_to (ext_alloc _ _) _) _
  go_enter Try.func34, Try.ntmps34
  go_wp2_with fail
  refine (c_toImage a.cA a.cc l.cells a.sA a.sc l.seats _ (hc.keep X0) (hs.keep X0) hn hm).mono ?_
  rintro e w1 ⟨g, h, rfl, hgh, o1, o2, x1⟩
  simp only [sz_alloc] at o1 o2
  have B0 := x1.box (hOld (o := .cells #[.int .i64 l.base, .slice none 0 0, .slice none 0 0, .slice none 0 0] 44) (hOld (o := .cells #[.int .i64 0, .slice none 0 0, .slice none 0 0, .slice none 0 0] 44) (hNew (w := w) (o := .cells #[.int .i64 l.base, .slice a.cA l.cells.length a.cc, .slice a.sA l.seats.length a.sc, .slice a.eA l.ents.length a.ec] 30) rfl)))
  have B1 := x1.box (hOld (o := .cells #[.int .i64 l.base, .slice none 0 0, .slice none 0 0, .slice none 0 0] 44) (hNew (w := w.alloc (.cells #[.int .i64 l.base, .slice a.cA l.cells.length a.cc, .slice a.sA l.seats.length a.sc, .slice a.eA l.ents.length a.ec] 30)) (o := .cells #[.int .i64 0, .slice none 0 0, .slice none 0 0, .slice none 0 0] 44) rfl))
  have B2 := x1.box (hNew (w := (w.alloc (.cells #[.int .i64 l.base, .slice a.cA l.cells.length a.cc, .slice a.sA l.seats.length a.sc, .slice a.eA l.ents.length a.ec] 30)).alloc (.cells #[.int .i64 0, .slice none 0 0, .slice none 0 0, .slice none 0 0] 44)) (o := .cells #[.int .i64 l.base, .slice none 0 0, .slice none 0 0, .slice none 0 0] 44) rfl)
  rw [sz_alloc] at B1
  rw [sz_alloc, sz_alloc] at B2
  have X1 := Ext.trans X0 x1
  have s1 := X1.size
  have b0 := bx_cell B0
  have b2 := bx_cell B2
  have f2 := bx_frozen B2
  have z0 := bx_lt B0
  have z2 := bx_lt B2
  have lg := o1.lt g rfl
  have lh := o2.lt h rfl
  go_wp2_with fail
  have C2 := box_put (box_put B2 1 (.slice (some ⟨g, 0, none⟩) l.cells.length l.cells.length)) 2 (.slice (some ⟨h, 0, none⟩) l.seats.length l.seats.length)
  have C1 := box_set (p := ⟨w.heap.size + 1 + 1, 2, none⟩) (u := .slice (some ⟨h, 0, none⟩) l.seats.length l.seats.length) (box_set (p := ⟨w.heap.size + 1 + 1, 1, none⟩) (u := .slice (some ⟨g, 0, none⟩) l.cells.length l.cells.length) B1 (show w.heap.size + 1 + 1 ≠ w.heap.size + 1 by omega)) (show w.heap.size + 1 + 1 ≠ w.heap.size + 1 by omega)
  have x1s := ext_set (ext_set X1 (p := ⟨w.heap.size + 1 + 1, 1, none⟩) (show w.heap.size ≤ w.heap.size + 1 + 1 by omega) (.slice (some ⟨g, 0, none⟩) l.cells.length l.cells.length)) (p := ⟨w.heap.size + 1 + 1, 2, none⟩) (show w.heap.size ≤ w.heap.size + 1 + 1 by omega) (.slice (some ⟨h, 0, none⟩) l.seats.length l.seats.length)
  have p1 := ownsRow_setCell (p := ⟨w.heap.size + 1 + 1, 2, none⟩) (ownsRow_setCell (p := ⟨w.heap.size + 1 + 1, 1, none⟩) o1 (.slice (some ⟨g, 0, none⟩) l.cells.length l.cells.length) (fun k hk => by (simp only [Value.ownBlock, Option.some.injEq] at hk); dsimp only; omega)) (.slice (some ⟨h, 0, none⟩) l.seats.length l.seats.length) (fun k hk => by (simp only [Value.ownBlock, Option.some.injEq] at hk); dsimp only; omega)
  have p2 := ownsRow_setCell (p := ⟨w.heap.size + 1 + 1, 2, none⟩) (ownsRow_setCell (p := ⟨w.heap.size + 1 + 1, 1, none⟩) o2 (.slice (some ⟨g, 0, none⟩) l.cells.length l.cells.length) (fun k hk => by (simp only [Value.ownBlock, Option.some.injEq] at hk); dsimp only; omega)) (.slice (some ⟨h, 0, none⟩) l.seats.length l.seats.length) (fun k hk => by (simp only [Value.ownBlock, Option.some.injEq] at hk); dsimp only; omega)
  refine (c_toEntryS a.eA a.ec l.ents _ (he.keep x1s) ho).mono ?_
  rintro e w2 ⟨q, rfl, o3, x2⟩
  simp only [sz_set] at o3
  have D2 := x2.box C2
  have D1 := x2.box C1
  have X2 := Ext.trans x1s x2
  have lq := o3.lt q rfl
  have P1 := Lib.hid (ownsRow_ext p1 x2)
  have P2 := Lib.hid (ownsRow_ext p2 x2)
  have P3 := Lib.hid (show w2.ownsRow _ _ _ _ _ _ from o3)
  have s2 := x2.size
  simp only [sz_set] at s2
  clear b0 b2 f2 z0 z2 x1s o1 o2 o3 p1 p2 C1 C2 B0 B1 B2
  have d1 := bx_cell D1
  have d2 := bx_cell D2
  have g1 := bx_frozen D1
  have g2 := bx_frozen D2
  have z1 := bx_lt D1
  have z2 := bx_lt D2
  clear D1 D2
  go_wp2
  refine bodyPost_ret (v := .agg #[.int .i64 l.base, .slice (some ⟨g, 0, none⟩) l.cells.length l.cells.length, .slice (some ⟨h, 0, none⟩) l.seats.length l.seats.length, .slice (some ⟨q, 0, none⟩) l.ents.length l.ents.length]) (by simp [results, Try.results34, go_sem, *]) rfl ⟨⟨some ⟨g, 0, none⟩, l.cells.length, some ⟨h, 0, none⟩, l.seats.length, some ⟨q, 0, none⟩, l.ents.length⟩, rfl, ⟨?_, ?_, ?_, ?_, ?_⟩, ?_⟩
  · unfold Ow
    (refine own_less_any (P1).out (fun h0 => ?_) (by omega); repeat (first | with_reducible exact h0 | refine ownsRow_setCell ?_ _ (fun k hk => by (simp only [Value.ownBlock, Option.some.injEq] at hk); dsimp only; omega) | refine ownsRow_ext ?_ (ext_alloc _ _)))
  · unfold Ow
    (refine own_less_any (P2).out (fun h0 => ?_) (by omega); repeat (first | with_reducible exact h0 | refine ownsRow_setCell ?_ _ (fun k hk => by (simp only [Value.ownBlock, Option.some.injEq] at hk); dsimp only; omega) | refine ownsRow_ext ?_ (ext_alloc _ _)))
  · unfold Ow
    (refine own_less_any (P3).out (fun h0 => ?_) (by omega); repeat (first | with_reducible exact h0 | refine ownsRow_setCell ?_ _ (fun k hk => by (simp only [Value.ownBlock, Option.some.injEq] at hk); dsimp only; omega) | refine ownsRow_ext ?_ (ext_alloc _ _)))
  · simp [LAd.fp, blk]
    omega
  · intro k hk
    simp [LAd.fp, blk] at hk
    simp
    omega
  · (repeat (first | with_reducible exact ext_refl _ | with_reducible refine ext_to ?_ _ | with_reducible refine ext_set ?_ (by first | (simp; done) | (simp; omega) | omega) _ | with_reducible refine ext_drew ?_ | with_reducible refine Ext.trans ?_ (by assumption)))
end Go.Proofs.Ytpghedeghoegmaa
