/- GroupTold of the reference and of the program. -/
import Derived.Test.YtmphedkbdlckhaaGreatWg
import Derived.RegionTactic
import Derived.BigRegion
namespace Go.Proofs.YtmphedkbdlckhaaGreat
open Go.ChangeShapes Go.WideShapes Go.ChangeAt Go.RowKit Go.Sort
set_option linter.unusedVariables false
set_option linter.unusedSimpArgs false

/-- the same request, answered otherwise -/
def clash (x y : Ry) : Bool := x.client == y.client && (x.req == y.req && x.answer != y.answer)
def ClTo (l : List Ry) (k : Nat) : Prop := ∀ i (h : i < l.length), i < k → (l.take i).any (clash l[i]) = false
theorem ClTo.zero (l : List Ry) : ClTo l 0 := fun i _ h => absurd h (by omega)
theorem ClTo.next {l : List Ry} {k : Nat} (h : ClTo l k) (hk : k < l.length) (h1 : (l.take k).any (clash l[k]) = false) : ClTo l (k + 1) := fun j hj hjk => by
  by_cases he : j = k
  · subst he; exact h1
  · exact h j hj (by omega)
def gpTold (g : Gp) : Bool := gpOk g && decide (∀ i (h : i < g.rys.length), (g.rys.take i).any (clash g.rys[i]) = false)
theorem gpTold_no {g : Gp} (h : gpOk g = false) : gpTold g = false := by simp [gpTold, h]
theorem gpTold_bad {g : Gp} {k : Nat} (hk : k < g.rys.length) (h : (g.rys.take k).any (clash g.rys[k]) = true) : gpTold g = false := by
  unfold gpTold
  rw [Bool.and_eq_false_iff]
  exact .inr (decide_eq_false fun hp => by have := hp k hk; rw [h] at this; cases this)
theorem gpTold_yes {g : Gp} (h : gpOk g = true) (h2 : ClTo g.rys g.rys.length) : gpTold g = true := by
  unfold gpTold
  rw [h, Bool.true_and]
  exact decide_eq_true fun i hi => h2 i hi hi
theorem any_hit_t {α : Type} {l : List α} {p : α → Bool} {k i : Nat} (hk : k < l.length) (hi : k < i) (hs : p l[k] = true) : (l.take i).any p = true := by
  rw [List.any_eq_true]
  exact ⟨l[k], by rw [List.mem_take_iff_getElem]; exact ⟨k, by omega, rfl⟩, hs⟩

set_option maxRecDepth 100000 in
set_option maxHeartbeats 8000000 in
theorem c_sGroupTold (a : GAd) (qs : List RpE) (g : Gp) (w : World) (hr : GpR w a qs g) (hs : RpsS qs) (hm : FlsM g.fls) (hn : qs.length ≤ 1048576) (hf : g.fls.length ≤ 1048576) (hy : g.rys.length ≤ 1048576) :
    Calls Tryz.prog 13 #[Gp.val a qs.length g] w fun e w' => e = .returned (.bool (gpTold g)) ∧ Ext w w' := by
  have X0 := ext_alloc w (Gp.obj a qs.length g)
  have hcon := c_sGroupOk a qs g _ (hr.keep X0) hs hm hn hf hy
  have HR := Lib.hid hr.y
  clear hr hs hm
  cases q : gpOk g
  · rw [q] at hcon
    have HC := Lib.hid hcon
    have HN := Lib.hid (gpTold_no q)
    clear hcon q
    go_enter Tryz.func13, Tryz.ntmps13
    go_wp2_with fail
    refine HC.out.mono ?_
    rintro e w1 ⟨rfl, x1⟩
    go_wp2
    go_ret
    exact ⟨ret_bool HN.out.symm, Ext.trans X0 x1⟩
  · rw [q] at hcon
    have HC := Lib.hid hcon
    have HY := Lib.hid (fun h => gpTold_yes q h)
    clear hcon q
    go_enter Tryz.func13, Tryz.ntmps13
    go_wp2_with fail
    refine HC.out.mono ?_
    rintro e w1 ⟨rfl, x1⟩
    have b1 := bx_cell (x1.box (hNew (w := w) (o := Gp.obj a qs.length g) rfl))
    go_wp2
    clear b1
    go_loopw [3] (fun i wr => ∃ k : Nat, k ≤ g.rys.length ∧ i = .int .i64 k ∧ ClTo g.rys k ∧ Ext (w.alloc (Gp.obj a qs.length g)) wr) (fun i _ => g.rys.length - (intOf i).toNat)
    case atStart => exact ⟨0, Nat.zero_le _, rfl, ClTo.zero _, x1⟩
    case round =>
      obtain ⟨k, hk, rfl, ht, hx3⟩ := hrel
      have HT := Lib.hid ht
      clear ht
      have B3 := hx3.box (hNew (w := w) (o := Gp.obj a qs.length g) rfl)
      have b3 := bx_cell B3
      have z3 := bx_lt B3
      have X3 := Ext.trans X0 hx3
      by_cases hlt : k < g.rys.length
      · have HX3 := Lib.hid hx3
        clear z3 B3 X3
        go_wp2
        clear b3 hx3
        obtain ⟨wo, hwo⟩ : ∃ wo : World, wo = wr := ⟨_, rfl⟩
        go_loopw [4] (fun i wr2 => ∃ j : Nat, j ≤ k ∧ i = .int .i64 j ∧ (g.rys.take j).any (clash g.rys[k]) = false ∧ Ext (w.alloc (Gp.obj a qs.length g)) wr2) (fun i _ => k - (intOf i).toNat)
        case atStart => exact ⟨0, Nat.zero_le _, rfl, rfl, HX3.out⟩
        case round =>
          obtain ⟨j, hj, rfl, ht, hx3⟩ := hrel
          have HJ := Lib.hid ht
          clear ht
          have B3 := hx3.box (hNew (w := w) (o := Gp.obj a qs.length g) rfl)
          have b3 := bx_cell B3
          have z3 := bx_lt B3
          have X3 := Ext.trans X0 hx3
          by_cases hjl : j < k
          · have hjl2 : j < g.rys.length := by omega
            obtain ⟨ab, ao, hA, hab, a0, a1, a2⟩ := (HR.out.keep X3).atRy hlt
            obtain ⟨bb, bo, hB, hbb, c0, c1, c2⟩ := (HR.out.keep X3).atRy hjl2
            rw [hA] at hB
            obtain ⟨rfl, rfl⟩ : ab = bb ∧ ao = bo := by simpa using hB
            dsimp only [Gp.cs] at b3
            rw [hA] at b3
            have HA := Lib.hid hA
            clear hA hB
            cases p1 : (g.rys[k].client == g.rys[j].client)
            · have HN := Lib.hid (any_next hjl2 HJ.out (show clash g.rys[k] g.rys[j] = false by simp [clash, *]))
              have HX4 := Lib.hid hx3
              have hz3 := hx3.size
              simp only [sz_alloc] at hz3
              go_wp2
              go_region
              all_goals
                go_wp2
                go_roundw
                case rel =>
                  refine ⟨j + 1, by omega, by go_num, HN.out, ?_⟩
                  have hE := HX4.out
                  (repeat (first | with_reducible exact ext_refl _ | with_reducible refine ext_to ?_ _ | with_reducible refine ext_set ?_ (by first | (simp; done) | (simp; omega) | omega) _ | with_reducible refine ext_drew ?_ | with_reducible refine Ext.trans ?_ (by assumption)))
                case measure => simp [intOf] <;> omega
            · cases p2 : (g.rys[k].req == g.rys[j].req)
              · have HN := Lib.hid (any_next hjl2 HJ.out (show clash g.rys[k] g.rys[j] = false by simp [clash, *]))
                have HX4 := Lib.hid hx3
                have hz3 := hx3.size
                simp only [sz_alloc] at hz3
                go_wp2
                go_region
                all_goals
                  go_wp2
                  go_roundw
                  case rel =>
                    refine ⟨j + 1, by omega, by go_num, HN.out, ?_⟩
                    have hE := HX4.out
                    (repeat (first | with_reducible exact ext_refl _ | with_reducible refine ext_to ?_ _ | with_reducible refine ext_set ?_ (by first | (simp; done) | (simp; omega) | omega) _ | with_reducible refine ext_drew ?_ | with_reducible refine Ext.trans ?_ (by assumption)))
                  case measure => simp [intOf] <;> omega
              · cases p3 : (g.rys[k].answer != g.rys[j].answer)
                · have HN := Lib.hid (any_next hjl2 HJ.out (show clash g.rys[k] g.rys[j] = false by simp [clash, *]))
                  have HX4 := Lib.hid hx3
                  have hz3 := hx3.size
                  simp only [sz_alloc] at hz3
                  go_wp2
                  go_region
                  all_goals
                    go_wp2
                    go_roundw
                    case rel =>
                      refine ⟨j + 1, by omega, by go_num, HN.out, ?_⟩
                      have hE := HX4.out
                      (repeat (first | with_reducible exact ext_refl _ | with_reducible refine ext_to ?_ _ | with_reducible refine ext_set ?_ (by first | (simp; done) | (simp; omega) | omega) _ | with_reducible refine ext_drew ?_ | with_reducible refine Ext.trans ?_ (by assumption)))
                    case measure => simp [intOf] <;> omega
                · have HN := Lib.hid (gpTold_bad hlt (any_hit_t hjl2 hjl (show clash g.rys[k] g.rys[j] = true by simp [clash, *])))
                  have HX4 := Lib.hid hx3
                  have hz3 := hx3.size
                  simp only [sz_alloc] at hz3
                  go_wp2
                  go_region
                  all_goals
                    go_wp2
                    go_ret
                    refine ⟨ret_bool HN.out.symm, Ext.trans X0 ?_⟩
                    have hE := HX4.out
                    (repeat (first | with_reducible exact ext_refl _ | with_reducible refine ext_to ?_ _ | with_reducible refine ext_set ?_ (by first | (simp; done) | (simp; omega) | omega) _ | with_reducible refine ext_drew ?_ | with_reducible refine Ext.trans ?_ (by assumption)))
          · obtain rfl : j = k := by omega
            have HN := Lib.hid (HT.out.next hlt HJ.out)
            go_wp2
            go_roundw
            case rel => exact ⟨j + 1, by omega, by go_num, HN.out, hx3⟩
            case measure => simp [intOf] <;> omega
      · obtain rfl : k = g.rys.length := by omega
        have HV := Lib.hid (HY.out HT.out)
        go_wp2
        go_ret
        exact ⟨ret_bool HV.out.symm, X3⟩

theorem c_clash (P : Nat) (x y : Ry) (w : World) (hb : w.heap[P]? = some (.cells #[.int .i64 x.client, .int .i64 x.req, .int .i64 x.answer] 61 (0, 0))) :
    Calls Tryz.prog 45 #[.agg #[.int .i64 y.client, .int .i64 y.req, .int .i64 y.answer], .pointer (some ⟨P, 0, none⟩)] w fun e w' => e = .returned (.bool (clash x y)) ∧ Ext w w' := by
  have X0 := ext_alloc w (.cells #[.int .i64 y.client, .int .i64 y.req, .int .i64 y.answer] 61)
  have b1 := bx_cell (hOld (o := .cells #[.int .i64 y.client, .int .i64 y.req, .int .i64 y.answer] 61) hb)
  have z1 := bx_lt hb
  have hne : ¬ P = w.heap.size := by omega
  clear hb
  obtain ⟨b, hB⟩ : ∃ b, clash x y = b := ⟨_, rfl⟩
  rw [hB]
  cases p1 : (y.client == x.client)
  · have HV := Lib.hid (show false = b by rw [← hB]; simp [clash] at p1 ⊢; intro h; exact absurd h.symm p1)
    clear hB
    go_enter Tryz.func45, Tryz.ntmps45
    go_wp2
    go_ret
    exact ⟨ret_bool HV.out, X0⟩
  · cases p2 : (y.req == x.req)
    · have HV := Lib.hid (show false = b by rw [← hB]; simp [clash] at p2 ⊢; intro _ h; exact absurd h.symm p2)
      clear hB
      go_enter Tryz.func45, Tryz.ntmps45
      go_wp2
      go_ret
      exact ⟨ret_bool HV.out, X0⟩
    · have HV := Lib.hid (show (y.answer != x.answer) = b by rw [← hB]; simp at p1 p2; rw [Bool.eq_iff_iff]; simp [clash, p1, p2]; constructor <;> (intro h e; exact h e.symm))
      clear hB
      go_enter Tryz.func45, Tryz.ntmps45
      go_wp2
      go_ret
      exact ⟨ret_bool HV.out, X0⟩

set_option maxRecDepth 100000 in
set_option maxHeartbeats 8000000 in
theorem c_iGroupTold (a : GAd) (qs : List RpE) (g : Gp) (w : World) (hr : GpR w a qs g) (hs : RpsS qs) (hm : FlsM g.fls) (hn : qs.length ≤ 1048576) (hf : g.fls.length ≤ 1048576) (hy : g.rys.length ≤ 1048576) :
    Calls Tryz.prog 14 #[Gp.val a qs.length g] w fun e w' => e = .returned (.bool (gpTold g)) ∧ Ext w w' := by
  have X0 := ext_alloc w (Gp.obj a qs.length g)
  have hcon := c_iGroupOk a qs g _ (hr.keep X0) hs hm hn hf hy
  have HR := Lib.hid hr.y
  clear hr hs hm
  cases q : gpOk g
  · rw [q] at hcon
    have HC := Lib.hid hcon
    have HN := Lib.hid (gpTold_no q)
    clear hcon q
    go_enter Tryz.func14, Tryz.ntmps14
    go_wp2_with fail
    refine HC.out.mono ?_
    rintro e w1 ⟨rfl, x1⟩
    go_wp2
    go_ret
    exact ⟨ret_bool HN.out.symm, Ext.trans X0 x1⟩
  · rw [q] at hcon
    have HC := Lib.hid hcon
    have HY := Lib.hid (fun h => gpTold_yes q h)
    clear hcon q
    go_enter Tryz.func14, Tryz.ntmps14
    go_wp2_with fail
    refine HC.out.mono ?_
    rintro e w1 ⟨rfl, x1⟩
    have b1 := bx_cell (x1.box (hNew (w := w) (o := Gp.obj a qs.length g) rfl))
    go_wp2
    clear b1
    go_loopw [11] (fun i wr => ∃ k : Nat, k ≤ g.rys.length ∧ i = .int .i64 k ∧ ClTo g.rys k ∧ Ext (w.alloc (Gp.obj a qs.length g)) wr) (fun i _ => g.rys.length - (intOf i).toNat)
    case atStart => exact ⟨0, Nat.zero_le _, rfl, ClTo.zero _, x1⟩
    case round =>
      obtain ⟨k, hk, rfl, ht, hx3⟩ := hrel
      have HT := Lib.hid ht
      clear ht
      have B3 := hx3.box (hNew (w := w) (o := Gp.obj a qs.length g) rfl)
      have b3 := bx_cell B3
      have z3 := bx_lt B3
      have X3 := Ext.trans X0 hx3
      by_cases hlt : k < g.rys.length
      · obtain ⟨ab, ao, hA, hab, a0, a1, a2⟩ := (HR.out.keep X3).atRy hlt
        have hcc := HR.out.1
        have hcm := HR.out.2.1
        unfold maxLen at hcm
        have hab1 : ¬ ab = wr.heap.size := by omega
        have hab2 : ab < wr.heap.size + 1 := by omega
        have hcon := fun W (h : Ext (wr.alloc (.cells #[.int .i64 g.rys[k].client, .int .i64 g.rys[k].req, .int .i64 g.rys[k].answer] 61)) W) => c_anyRy 45 #[.pointer (some ⟨wr.heap.size, 0, none⟩)] (clash g.rys[k]) (enters Tryz.func45 (by kernel_rfl) rfl) a.YA a.Yc (g.rys.take k) W ((HR.out.keep (Ext.trans X3 (Ext.trans (ext_alloc _ _) h))).take k) (by rw [List.length_take]; omega) (fun W2 h2 j hj => c_clash wr.heap.size g.rys[k] (g.rys.take k)[j] W2 ((Ext.trans h h2).box (hNew (w := wr) rfl)))
        have htl : (g.rys.take k).length = k := by rw [List.length_take]; omega
        rw [htl] at hcon
        clear htl
        dsimp only [Gp.cs] at b3
        rw [hA] at b3 hcon
        try rw [hA]
        have HA := Lib.hid hA
        clear hA
        cases q : (g.rys.take k).any (clash g.rys[k])
        · have HN := Lib.hid (HT.out.next hlt q)
          rw [q] at hcon
          have HC := Lib.hid hcon
          clear hcon q
          go_wp2_with fail
          refine (HC.out _ (ext_refl _)).mono ?_
          rintro e w4 ⟨rfl, x4⟩
          go_wp2
          go_roundw
          case rel => exact ⟨k + 1, by omega, by go_num, HN.out, Ext.trans hx3 (Ext.trans (ext_alloc _ _) x4)⟩
          case measure => simp [intOf] <;> omega
        · have HN := Lib.hid (gpTold_bad hlt q)
          rw [q] at hcon
          have HC := Lib.hid hcon
          clear hcon q
          go_wp2_with fail
          refine (HC.out _ (ext_refl _)).mono ?_
          rintro e w4 ⟨rfl, x4⟩
          go_wp2
          go_ret
          exact ⟨ret_bool HN.out.symm, Ext.trans X3 (Ext.trans (ext_alloc _ _) x4)⟩
      · obtain rfl : k = g.rys.length := by omega
        have HV := Lib.hid (HY.out HT.out)
        go_wp2
        go_ret
        exact ⟨ret_bool HV.out.symm, X3⟩

end Go.Proofs.YtmphedkbdlckhaaGreat
