/- GroupUp and GroupAhead of the reference and of the program. -/
import Derived.Test.YtmphedkbdlckhaaGreatWg
namespace Go.Proofs.YtmphedkbdlckhaaGreat
open Go.ChangeShapes Go.WideShapes Go.ChangeAt Go.RowKit Go.Sort
set_option linter.unusedVariables false
set_option linter.unusedSimpArgs false

def upB (r : Rp) : Bool := r.mode == 1 || r.mode == 2
/-- how many of the first k are up -/
def upN (l : List RpE) : Nat → Nat
  | 0 => 0
  | k + 1 => upN l k + match l[k]? with | some q => (if upB q.r = true then 1 else 0) | none => 0
theorem upN_yes {l : List RpE} {k : Nat} (h : k < l.length) (hu : upB l[k].r = true) : upN l (k + 1) = upN l k + 1 := by simp [upN, h, hu]
theorem upN_no {l : List RpE} {k : Nat} (h : k < l.length) (hu : upB l[k].r = false) : upN l (k + 1) = upN l k := by simp [upN, h, hu]
theorem upN_le (l : List RpE) : ∀ k, upN l k ≤ k
  | 0 => Nat.le_refl _
  | k + 1 => by
    have := upN_le l k
    unfold upN
    split
    · split <;> omega
    · omega
def betterB (l : List RpE) (b : Int) (q : RpE) : Bool := upB q.r && (decide (b < 0) || (match l[b.toNat]? with | some x => decide (x.r.commit < q.r.commit) | none => false))
/-- the place of the one that is furthest ahead among the first k; -1: none is up -/
def aheadN (l : List RpE) : Nat → Int
  | 0 => -1
  | k + 1 => match l[k]? with
    | none => aheadN l k
    | some q => if betterB l (aheadN l k) q = true then (k : Int) else aheadN l k
theorem aheadN_b (l : List RpE) : ∀ k, aheadN l k = -1 ∨ ∃ j : Nat, j < k ∧ aheadN l k = j
  | 0 => .inl rfl
  | k + 1 => by
    have ih := aheadN_b l k
    have ih' : aheadN l k = -1 ∨ ∃ j : Nat, j < k + 1 ∧ aheadN l k = j := ih.imp id (fun ⟨j, h, e⟩ => ⟨j, by omega, e⟩)
    unfold aheadN
    split
    · exact ih'
    · split
      · exact .inr ⟨k, by omega, rfl⟩
      · exact ih'
theorem aheadN_down {l : List RpE} {k : Nat} (h : k < l.length) (hu : upB l[k].r = false) : aheadN l (k + 1) = aheadN l k := by simp [aheadN, betterB, h, hu]
theorem aheadN_first {l : List RpE} {k : Nat} (h : k < l.length) (hu : upB l[k].r = true) (hb : aheadN l k = -1) : aheadN l (k + 1) = k := by simp [aheadN, betterB, h, hu, hb]
theorem aheadN_cmp {l : List RpE} {k j : Nat} (h : k < l.length) (hj : j < l.length) (hu : upB l[k].r = true) (hb : aheadN l k = (j : Int)) : aheadN l (k + 1) = if decide (l[j].r.commit < l[k].r.commit) = true then (k : Int) else (j : Int) := by
  simp only [aheadN, betterB, h, List.getElem?_eq_getElem, hu, hb, Int.toNat_natCast, hj, Bool.true_and]
  have h0 : decide ((j : Int) < 0) = false := by simp
  rw [h0, Bool.false_or]
/-- the model's answers depend on the replicas alone -/
theorem upN_congr {ps qs : List RpE} (h : ps.map RpE.r = qs.map RpE.r) : ∀ k, upN ps k = upN qs k
  | 0 => rfl
  | k + 1 => by
    have ih := upN_congr h k
    have hat : ps[k]?.map RpE.r = qs[k]?.map RpE.r := by
      have := congrArg (fun l => l[k]?) h
      simpa using this
    unfold upN
    rw [ih]
    congr 1
    revert hat
    cases ps[k]? <;> cases qs[k]? <;> intro hat <;> simp at hat ⊢
    rw [hat]
theorem aheadN_congr {ps qs : List RpE} (h : ps.map RpE.r = qs.map RpE.r) : ∀ k, aheadN ps k = aheadN qs k
  | 0 => rfl
  | k + 1 => by
    have ih := aheadN_congr h k
    have hat : ∀ i : Nat, ps[i]?.map RpE.r = qs[i]?.map RpE.r := fun i => by
      have := congrArg (fun l => l[i]?) h
      simpa using this
    have h1 := hat k
    have h2 := hat (aheadN qs k).toNat
    unfold aheadN betterB
    rw [ih]
    revert h1 h2
    cases ps[k]? <;> cases qs[k]? <;> intro h1 h2 <;> simp at h1 ⊢
    rw [h1]
    revert h2
    cases ps[(aheadN qs k).toNat]? <;> cases qs[(aheadN qs k).toNat]? <;> intro h2 <;> simp at h2 ⊢
    rw [h2]
/-- a row whose replicas are these, wherever they lie -/
def asE (l : List Rp) : List RpE := l.map (fun r => ⟨LAd.none, none, 0, [], r⟩)
theorem asE_r (l : List Rp) : (asE l).map RpE.r = l := by simp [asE, Function.comp_def]
def gpUp (g : Gp) : Int := if gpOk g = true then (upN (asE g.reps) g.reps.length : Int) else -1
def gpAhead (g : Gp) : Int := if gpOk g = true then aheadN (asE g.reps) g.reps.length else -1
theorem gpUp_no {g : Gp} (h : gpOk g = false) : gpUp g = -1 := by simp [gpUp, h]
theorem gpAhead_no {g : Gp} (h : gpOk g = false) : gpAhead g = -1 := by simp [gpAhead, h]
theorem gpUp_yes {qs : List RpE} {g : Gp} (he : qs.map RpE.r = g.reps) (h : gpOk g = true) : gpUp g = (upN qs qs.length : Int) := by
  have hl : g.reps.length = qs.length := by rw [← he, List.length_map]
  simp only [gpUp, h, if_true, hl]
  rw [upN_congr (asE_r g.reps |>.trans he.symm)]
theorem gpAhead_yes {qs : List RpE} {g : Gp} (he : qs.map RpE.r = g.reps) (h : gpOk g = true) : gpAhead g = aheadN qs qs.length := by
  have hl : g.reps.length = qs.length := by rw [← he, List.length_map]
  simp only [gpAhead, h, if_true, hl]
  rw [aheadN_congr (asE_r g.reps |>.trans he.symm)]
theorem gpOk_len {qs : List RpE} {g : Gp} (he : qs.map RpE.r = g.reps) (h : gpOk g = true) : g.of = (qs.length : Int) ∧ qs.length ≤ 5 := by
  have hl : g.reps.length = qs.length := by rw [← he, List.length_map]
  obtain ⟨h1, h2, _⟩ := gpOk_p h
  have := ofB_b h1
  omega

theorem c_sLive (a : LAd) (A : Option Addr) (n c : Nat) (r : Rp) (w : World) : Calls Tryz.prog 46 #[Rp.val a A n c r] w fun e w' => e = .returned (.bool (upB r)) ∧ Ext w w' := by
  go_enter Tryz.func46, Tryz.ntmps46
  go_wp2
  all_goals
    go_ret
    exact ⟨ret_bool (by simp [upB, *]), ext_alloc _ _⟩
theorem c_isUp (a : LAd) (A : Option Addr) (n c : Nat) (r : Rp) (w : World) : Calls Tryz.prog 47 #[Rp.val a A n c r] w fun e w' => e = .returned (.bool (upB r)) ∧ Ext w w' := by
  go_enter Tryz.func47, Tryz.ntmps47
  go_wp2
  all_goals
    go_ret
    exact ⟨ret_bool (by simp [upB, *]), ext_alloc _ _⟩

set_option maxRecDepth 100000 in
set_option maxHeartbeats 4000000 in
theorem c_sUps (a : GAd) (qs : List RpE) (g : Gp) (w : World) (hr : GpR w a qs g) (hn : qs.length ≤ 1048576) : Calls Tryz.prog 48 #[Gp.val a qs.length g] w fun e w' => e = .returned (.int .i64 (upN qs qs.length : Int)) ∧ Ext w w' := by
  have X0 := ext_alloc w (Gp.obj a qs.length g)
  have HR := Lib.hid hr
  clear hr
  go_enter Tryz.func48, Tryz.ntmps48
  go_wp2
  go_loopw [3, 4] (fun n i wr => ∃ k : Nat, k ≤ qs.length ∧ i = .int .i64 k ∧ n = .int .i64 (upN qs k : Int) ∧ Ext (w.alloc (Gp.obj a qs.length g)) wr) (fun _ i _ => qs.length - (intOf i).toNat)
  case atStart => exact ⟨0, Nat.zero_le _, rfl, rfl, ext_refl _⟩
  case round =>
    obtain ⟨k, hk, rfl, rfl, hx3⟩ := hrel
    have hub := upN_le qs k
    have B3 := hx3.box (hNew (w := w) (o := Gp.obj a qs.length g) rfl)
    have b3 := bx_cell B3
    have z3 := bx_lt B3
    have X3 := Ext.trans X0 hx3
    by_cases hlt : k < qs.length
    · obtain ⟨ab, ao, hA, hab, a0, a1, a2, a3, a4, a5, a6, a7, a8, a9, a10, a11, a12⟩ := (HR.out.r.1.keep X3).atRpE hlt
      have hab1 : ¬ ab = wr.heap.size := by omega
      have hab2 : ab < wr.heap.size + 1 := by omega
      dsimp only [Gp.cs] at b3
      rw [hA] at b3
      try rw [hA]
      have HA := Lib.hid hA
      clear hA
      have hcon := c_sLive qs[k].a qs[k].A qs[k].ps.length qs[k].c qs[k].r
      cases q : upB qs[k].r
      · have HN := Lib.hid (upN_no hlt q)
        rw [q] at hcon
        have HC := Lib.hid hcon
        clear hcon q
        go_wp2_with fail
        refine (HC.out _).mono ?_
        rintro e w4 ⟨rfl, x4⟩
        go_wp2
        go_roundw
        case rel => exact ⟨k + 1, by omega, by go_num, by rw [HN.out], Ext.trans hx3 x4⟩
        case measure => simp [intOf] <;> omega
      · have HN := Lib.hid (upN_yes hlt q)
        rw [q] at hcon
        have HC := Lib.hid hcon
        clear hcon q
        go_wp2_with fail
        refine (HC.out _).mono ?_
        rintro e w4 ⟨rfl, x4⟩
        go_wp2
        go_roundw
        case rel => exact ⟨k + 1, by omega, by go_num, by rw [HN.out]; go_num, Ext.trans hx3 x4⟩
        case measure => simp [intOf] <;> omega
    · obtain rfl : k = qs.length := by omega
      go_wp2
      go_ret
      exact ⟨rfl, X3⟩

set_option maxRecDepth 100000 in
set_option maxHeartbeats 4000000 in
theorem c_iUps (a : GAd) (qs : List RpE) (g : Gp) (w : World) (hr : GpR w a qs g) (hn : qs.length ≤ 1048576) : Calls Tryz.prog 49 #[Gp.val a qs.length g] w fun e w' => e = .returned (.int .i64 (upN qs qs.length : Int)) ∧ Ext w w' := by
  have X0 := ext_alloc w (Gp.obj a qs.length g)
  have HR := Lib.hid hr
  clear hr
  go_enter Tryz.func49, Tryz.ntmps49
  go_wp2
  go_loopw [3, 9] (fun n i wr => ∃ k : Nat, k ≤ qs.length ∧ i = .int .i64 k ∧ n = .int .i64 (upN qs k : Int) ∧ Ext (w.alloc (Gp.obj a qs.length g)) wr) (fun _ i _ => qs.length - (intOf i).toNat)
  case atStart => exact ⟨0, Nat.zero_le _, rfl, rfl, ext_refl _⟩
  case round =>
    obtain ⟨k, hk, rfl, rfl, hx3⟩ := hrel
    have hub := upN_le qs k
    have B3 := hx3.box (hNew (w := w) (o := Gp.obj a qs.length g) rfl)
    have b3 := bx_cell B3
    have z3 := bx_lt B3
    have X3 := Ext.trans X0 hx3
    by_cases hlt : k < qs.length
    · obtain ⟨ab, ao, hA, hab, a0, a1, a2, a3, a4, a5, a6, a7, a8, a9, a10, a11, a12⟩ := (HR.out.r.1.keep X3).atRpE hlt
      have hab1 : ¬ ab = wr.heap.size := by omega
      have hab2 : ab < wr.heap.size + 1 := by omega
      dsimp only [Gp.cs] at b3
      rw [hA] at b3
      try rw [hA]
      have HA := Lib.hid hA
      clear hA
      have hcon := c_isUp qs[k].a qs[k].A qs[k].ps.length qs[k].c qs[k].r
      cases q : upB qs[k].r
      · have HN := Lib.hid (upN_no hlt q)
        rw [q] at hcon
        have HC := Lib.hid hcon
        clear hcon q
        go_wp2_with fail
        refine (HC.out _).mono ?_
        rintro e w4 ⟨rfl, x4⟩
        go_wp2
        go_roundw
        case rel => exact ⟨k + 1, by omega, by go_num, by rw [HN.out], Ext.trans hx3 (Ext.trans (ext_alloc _ _) x4)⟩
        case measure => simp [intOf] <;> omega
      · have HN := Lib.hid (upN_yes hlt q)
        rw [q] at hcon
        have HC := Lib.hid hcon
        clear hcon q
        go_wp2_with fail
        refine (HC.out _).mono ?_
        rintro e w4 ⟨rfl, x4⟩
        go_wp2
        go_roundw
        case rel => exact ⟨k + 1, by omega, by go_num, by rw [HN.out]; go_num, Ext.trans hx3 (Ext.trans (ext_alloc _ _) x4)⟩
        case measure => simp [intOf] <;> omega
    · obtain rfl : k = qs.length := by omega
      go_wp2
      go_ret
      exact ⟨rfl, X3⟩

set_option maxRecDepth 100000 in
set_option maxHeartbeats 4000000 in
theorem c_sGroupUp (a : GAd) (qs : List RpE) (g : Gp) (w : World) (hr : GpR w a qs g) (hs : RpsS qs) (hm : FlsM g.fls) (hn : qs.length ≤ 1048576) (hf : g.fls.length ≤ 1048576) (hy : g.rys.length ≤ 1048576) :
    Calls Tryz.prog 17 #[Gp.val a qs.length g] w fun e w' => e = .returned (.int .i64 (gpUp g)) ∧ Ext w w' := by
  have X0 := ext_alloc w (Gp.obj a qs.length g)
  have hcon := c_sGroupOk a qs g _ (hr.keep X0) hs hm hn hf hy
  have HE := Lib.hid hr.e
  have HU := Lib.hid (fun W (h : Ext w W) => c_sUps a qs g W (hr.keep h) hn)
  clear hr hs hm
  cases q : gpOk g
  · rw [q] at hcon
    have HC := Lib.hid hcon
    have HN := Lib.hid (gpUp_no q)
    clear hcon q
    go_enter Tryz.func17, Tryz.ntmps17
    go_wp2_with fail
    refine HC.out.mono ?_
    rintro e w1 ⟨rfl, x1⟩
    go_wp2
    go_ret
    exact ⟨ret_int HN.out.symm, Ext.trans X0 x1⟩
  · rw [q] at hcon
    have HC := Lib.hid hcon
    have HN := Lib.hid (gpUp_yes HE.out q)
    clear hcon q
    go_enter Tryz.func17, Tryz.ntmps17
    go_wp2_with fail
    refine HC.out.mono ?_
    rintro e w1 ⟨rfl, x1⟩
    have b1 := bx_cell (x1.box (hNew (w := w) (o := Gp.obj a qs.length g) rfl))
    go_wp2_with fail
    refine (HU.out _ (Ext.trans X0 x1)).mono ?_
    rintro e w2 ⟨rfl, x2⟩
    go_wp2
    go_ret
    exact ⟨ret_int HN.out.symm, Ext.trans X0 (Ext.trans x1 x2)⟩

set_option maxRecDepth 100000 in
set_option maxHeartbeats 4000000 in
theorem c_iGroupUp (a : GAd) (qs : List RpE) (g : Gp) (w : World) (hr : GpR w a qs g) (hs : RpsS qs) (hm : FlsM g.fls) (hn : qs.length ≤ 1048576) (hf : g.fls.length ≤ 1048576) (hy : g.rys.length ≤ 1048576) :
    Calls Tryz.prog 18 #[Gp.val a qs.length g] w fun e w' => e = .returned (.int .i64 (gpUp g)) ∧ Ext w w' := by
  have X0 := ext_alloc w (Gp.obj a qs.length g)
  have hcon := c_iGroupOk a qs g _ (hr.keep X0) hs hm hn hf hy
  have HE := Lib.hid hr.e
  have HU := Lib.hid (fun W (h : Ext w W) => c_iUps a qs g W (hr.keep h) hn)
  clear hr hs hm
  cases q : gpOk g
  · rw [q] at hcon
    have HC := Lib.hid hcon
    have HN := Lib.hid (gpUp_no q)
    clear hcon q
    go_enter Tryz.func18, Tryz.ntmps18
    go_wp2_with fail
    refine HC.out.mono ?_
    rintro e w1 ⟨rfl, x1⟩
    go_wp2
    go_ret
    exact ⟨ret_int HN.out.symm, Ext.trans X0 x1⟩
  · rw [q] at hcon
    have HC := Lib.hid hcon
    have HN := Lib.hid (gpUp_yes HE.out q)
    clear hcon q
    go_enter Tryz.func18, Tryz.ntmps18
    go_wp2_with fail
    refine HC.out.mono ?_
    rintro e w1 ⟨rfl, x1⟩
    have b1 := bx_cell (x1.box (hNew (w := w) (o := Gp.obj a qs.length g) rfl))
    go_wp2_with fail
    refine (HU.out _ (Ext.trans X0 x1)).mono ?_
    rintro e w2 ⟨rfl, x2⟩
    go_wp2
    go_ret
    exact ⟨ret_int HN.out.symm, Ext.trans X0 (Ext.trans x1 x2)⟩

set_option maxRecDepth 100000 in
set_option maxHeartbeats 8000000 in
theorem c_sGroupAhead (a : GAd) (qs : List RpE) (g : Gp) (w : World) (hr : GpR w a qs g) (hs : RpsS qs) (hm : FlsM g.fls) (hn : qs.length ≤ 1048576) (hf : g.fls.length ≤ 1048576) (hy : g.rys.length ≤ 1048576) :
    Calls Tryz.prog 15 #[Gp.val a qs.length g] w fun e w' => e = .returned (.int .i64 (gpAhead g)) ∧ Ext w w' := by
  have X0 := ext_alloc w (Gp.obj a qs.length g)
  have hcon := c_sGroupOk a qs g _ (hr.keep X0) hs hm hn hf hy
  have HE := Lib.hid hr.e
  have HR := Lib.hid hr
  clear hr hs hm
  cases q : gpOk g
  · rw [q] at hcon
    have HC := Lib.hid hcon
    have HN := Lib.hid (gpAhead_no q)
    clear hcon q
    go_enter Tryz.func15, Tryz.ntmps15
    go_wp2_with fail
    refine HC.out.mono ?_
    rintro e w1 ⟨rfl, x1⟩
    go_wp2
    go_ret
    exact ⟨ret_int HN.out.symm, Ext.trans X0 x1⟩
  · rw [q] at hcon
    have HC := Lib.hid hcon
    have HN := Lib.hid (gpAhead_yes HE.out q)
    have HOf := Lib.hid (gpOk_len HE.out q)
    clear hcon q
    go_enter Tryz.func15, Tryz.ntmps15
    go_wp2_with fail
    refine HC.out.mono ?_
    rintro e w1 ⟨rfl, x1⟩
    have b1 := bx_cell (x1.box (hNew (w := w) (o := Gp.obj a qs.length g) rfl))
    go_wp2
    clear b1
    go_loopw [3, 4] (fun n i wr => ∃ k : Nat, k ≤ qs.length ∧ i = .int .i64 k ∧ n = .int .i64 (aheadN qs k) ∧ Ext (w.alloc (Gp.obj a qs.length g)) wr) (fun _ i _ => qs.length - (intOf i).toNat)
    case atStart => exact ⟨0, Nat.zero_le _, rfl, rfl, x1⟩
    case round =>
      obtain ⟨k, hk, rfl, rfl, hx3⟩ := hrel
      have B3 := hx3.box (hNew (w := w) (o := Gp.obj a qs.length g) rfl)
      have b3 := bx_cell B3
      have z3 := bx_lt B3
      have X3 := Ext.trans X0 hx3
      have hof := HOf.out.1
      by_cases hlt : k < qs.length
      · obtain ⟨ab, ao, hA, hab, a0, a1, a2, a3, a4, a5, a6, a7, a8, a9, a10, a11, a12⟩ := (HR.out.r.1.keep X3).atRpE hlt
        have hab1 : ¬ ab = wr.heap.size := by omega
        have hab2 : ab < wr.heap.size + 1 := by omega
        have g4 : decide ((k : Int) < g.of) = true := by rw [hof]; simp; omega
        dsimp only [Gp.cs] at b3
        rw [hA] at b3
        try rw [hA]
        have HA := Lib.hid hA
        clear hof
        have hcon := c_sLive qs[k].a qs[k].A qs[k].ps.length qs[k].c qs[k].r
        obtain ⟨z, hz⟩ : ∃ z, aheadN qs k = z := ⟨_, rfl⟩
        have hzb := aheadN_b qs k
        rw [hz] at hzb
        rw [hz]
        cases q : upB qs[k].r
        · have HN2 := Lib.hid ((aheadN_down hlt q).trans hz)
          rw [q] at hcon
          have HC := Lib.hid hcon
          clear hcon q hz hzb hA
          go_wp2
          (refine wp_region_mix' (fun _ _ _ _ _ hq => hq) 25 (by kernel_rfl) (by kernel_rfl) (fun hg => ?_); simp only [headOps, List.take_succ_cons, List.take_zero, List.filter_cons, List.filter_nil, isAlloc, Bool.not_false, Bool.false_eq_true, if_true, if_false, List.append_nil, List.drop_succ_cons, List.drop_zero])
          (repeat (first | (refine wpMix_plain rfl rfl ?_; go_big_quiet_step (fail); refine wpQuiet_nil ?_) | (refine wpMix_skip rfl rfl ?_; simp only [Act.put, List.setIfInBounds_toArray, List.set_cons_zero, List.set_cons_succ]) | (refine wpMix_det rfl rfl rfl (enters Tryz.func46 (by kernel_rfl) rfl) (fun W hW => HC.out W) rfl ?_; simp only [Act.put, List.setIfInBounds_toArray, List.set_cons_zero, List.set_cons_succ])))
          (refine wpMix_nil ?_; intro w4 hw4)
          go_wp2
          go_roundw
          case rel => exact ⟨k + 1, by omega, by go_num, by rw [HN2.out], (Ext.trans hx3 hw4)⟩
          case measure => simp [intOf] <;> omega
        · rw [q] at hcon
          have HC := Lib.hid hcon
          rcases hzb with rfl | ⟨j, hj, rfl⟩
          · have HN2 := Lib.hid (aheadN_first hlt q hz)
            clear hcon q hz hA
            go_wp2
            (refine wp_region_mix' (fun _ _ _ _ _ hq => hq) 25 (by kernel_rfl) (by kernel_rfl) (fun hg => ?_); simp only [headOps, List.take_succ_cons, List.take_zero, List.filter_cons, List.filter_nil, isAlloc, Bool.not_false, Bool.false_eq_true, if_true, if_false, List.append_nil, List.drop_succ_cons, List.drop_zero])
            (repeat (first | (refine wpMix_plain rfl rfl ?_; go_big_quiet_step (fail); refine wpQuiet_nil ?_) | (refine wpMix_skip rfl rfl ?_; simp only [Act.put, List.setIfInBounds_toArray, List.set_cons_zero, List.set_cons_succ]) | (refine wpMix_det rfl rfl rfl (enters Tryz.func46 (by kernel_rfl) rfl) (fun W hW => HC.out W) rfl ?_; simp only [Act.put, List.setIfInBounds_toArray, List.set_cons_zero, List.set_cons_succ])))
            (refine wpMix_nil ?_; intro w4 hw4)
            go_wp2
            go_roundw
            case rel => exact ⟨k + 1, by omega, by go_num, by rw [HN2.out], (Ext.trans hx3 hw4)⟩
            case measure => simp [intOf] <;> omega
          · have hjl : j < qs.length := by omega
            obtain ⟨bb, bo, hB, hbb, d0, d1, d2, d3, d4, d5, d6, d7, d8, d9, d10, d11, d12⟩ := (HR.out.r.1.keep X3).atRpE hjl
            rw [hA] at hB
            obtain ⟨rfl, rfl⟩ : ab = bb ∧ ao = bo := by simpa using hB
            have h5 := aheadN_cmp hlt hjl q hz
            clear hcon q hz hA hB d0 d1 d2 d3 d4 d6 d7 d8 d9 d10 d11 d12
            have hj0 : decide ((j : Int) < 0) = false := by simp
            cases q9 : decide (qs[j].r.commit < qs[k].r.commit)
            · rw [q9] at h5
              have HN2 := Lib.hid (show aheadN qs (k + 1) = (j : Int) by rw [h5]; rfl)
              clear h5
              go_wp2
              (refine wp_region_mix' (fun _ _ _ _ _ hq => hq) 25 (by kernel_rfl) (by kernel_rfl) (fun hg => ?_); simp only [headOps, List.take_succ_cons, List.take_zero, List.filter_cons, List.filter_nil, isAlloc, Bool.not_false, Bool.false_eq_true, if_true, if_false, List.append_nil, List.drop_succ_cons, List.drop_zero])
              (repeat (first | (refine wpMix_plain rfl rfl ?_; go_big_quiet_step (fail); refine wpQuiet_nil ?_) | (refine wpMix_skip rfl rfl ?_; simp only [Act.put, List.setIfInBounds_toArray, List.set_cons_zero, List.set_cons_succ]) | (refine wpMix_det rfl rfl rfl (enters Tryz.func46 (by kernel_rfl) rfl) (fun W hW => HC.out W) rfl ?_; simp only [Act.put, List.setIfInBounds_toArray, List.set_cons_zero, List.set_cons_succ])))
              (refine wpMix_nil ?_; intro w4 hw4)
              go_wp2
              go_roundw
              case rel => exact ⟨k + 1, by omega, by go_num, by rw [HN2.out], (Ext.trans hx3 hw4)⟩
              case measure => simp [intOf] <;> omega
            · rw [q9] at h5
              have HN2 := Lib.hid (show aheadN qs (k + 1) = (k : Int) by rw [h5]; rfl)
              clear h5
              go_wp2
              (refine wp_region_mix' (fun _ _ _ _ _ hq => hq) 25 (by kernel_rfl) (by kernel_rfl) (fun hg => ?_); simp only [headOps, List.take_succ_cons, List.take_zero, List.filter_cons, List.filter_nil, isAlloc, Bool.not_false, Bool.false_eq_true, if_true, if_false, List.append_nil, List.drop_succ_cons, List.drop_zero])
              (repeat (first | (refine wpMix_plain rfl rfl ?_; go_big_quiet_step (fail); refine wpQuiet_nil ?_) | (refine wpMix_skip rfl rfl ?_; simp only [Act.put, List.setIfInBounds_toArray, List.set_cons_zero, List.set_cons_succ]) | (refine wpMix_det rfl rfl rfl (enters Tryz.func46 (by kernel_rfl) rfl) (fun W hW => HC.out W) rfl ?_; simp only [Act.put, List.setIfInBounds_toArray, List.set_cons_zero, List.set_cons_succ])))
              (refine wpMix_nil ?_; intro w4 hw4)
              go_wp2
              go_roundw
              case rel => exact ⟨k + 1, by omega, by go_num, by rw [HN2.out], (Ext.trans hx3 hw4)⟩
              case measure => simp [intOf] <;> omega
      · obtain rfl : k = qs.length := by omega
        have g4 : decide ((qs.length : Int) < g.of) = false := by rw [hof]; simp
        clear hof
        go_wp2
        go_ret
        exact ⟨ret_int HN.out.symm, X3⟩

set_option maxRecDepth 100000 in
set_option maxHeartbeats 8000000 in
theorem c_iGroupAhead (a : GAd) (qs : List RpE) (g : Gp) (w : World) (hr : GpR w a qs g) (hs : RpsS qs) (hm : FlsM g.fls) (hn : qs.length ≤ 1048576) (hf : g.fls.length ≤ 1048576) (hy : g.rys.length ≤ 1048576) :
    Calls Tryz.prog 16 #[Gp.val a qs.length g] w fun e w' => e = .returned (.int .i64 (gpAhead g)) ∧ Ext w w' := by
  have X0 := ext_alloc w (Gp.obj a qs.length g)
  have hcon := c_iGroupOk a qs g _ (hr.keep X0) hs hm hn hf hy
  have HE := Lib.hid hr.e
  have HR := Lib.hid hr
  clear hr hs hm
  cases q : gpOk g
  · rw [q] at hcon
    have HC := Lib.hid hcon
    have HN := Lib.hid (gpAhead_no q)
    clear hcon q
    go_enter Tryz.func16, Tryz.ntmps16
    go_wp2_with fail
    refine HC.out.mono ?_
    rintro e w1 ⟨rfl, x1⟩
    go_wp2
    go_ret
    exact ⟨ret_int HN.out.symm, Ext.trans X0 x1⟩
  · rw [q] at hcon
    have HC := Lib.hid hcon
    have HN := Lib.hid (gpAhead_yes HE.out q)
    have HOf := Lib.hid (gpOk_len HE.out q)
    clear hcon q
    go_enter Tryz.func16, Tryz.ntmps16
    go_wp2_with fail
    refine HC.out.mono ?_
    rintro e w1 ⟨rfl, x1⟩
    have b1 := bx_cell (x1.box (hNew (w := w) (o := Gp.obj a qs.length g) rfl))
    go_wp2
    clear b1
    go_loopw [3, 13] (fun n i wr => ∃ k : Nat, k ≤ qs.length ∧ i = .int .i64 k ∧ n = .int .i64 (aheadN qs k) ∧ Ext (w.alloc (Gp.obj a qs.length g)) wr) (fun _ i _ => qs.length - (intOf i).toNat)
    case atStart => exact ⟨0, Nat.zero_le _, rfl, rfl, x1⟩
    case round =>
      obtain ⟨k, hk, rfl, rfl, hx3⟩ := hrel
      have B3 := hx3.box (hNew (w := w) (o := Gp.obj a qs.length g) rfl)
      have b3 := bx_cell B3
      have z3 := bx_lt B3
      have X3 := Ext.trans X0 hx3
      have hof := HOf.out.1
      by_cases hlt : k < qs.length
      · obtain ⟨ab, ao, hA, hab, a0, a1, a2, a3, a4, a5, a6, a7, a8, a9, a10, a11, a12⟩ := (HR.out.r.1.keep X3).atRpE hlt
        have hab1 : ¬ ab = wr.heap.size := by omega
        have hab2 : ab < wr.heap.size + 1 := by omega
        have g4 : decide ((k : Int) < g.of) = true := by rw [hof]; simp; omega
        dsimp only [Gp.cs] at b3
        rw [hA] at b3
        try rw [hA]
        have HA := Lib.hid hA
        clear hof
        have hcon := c_isUp qs[k].a qs[k].A qs[k].ps.length qs[k].c qs[k].r
        obtain ⟨z, hz⟩ : ∃ z, aheadN qs k = z := ⟨_, rfl⟩
        have hzb := aheadN_b qs k
        rw [hz] at hzb
        rw [hz]
        cases q : upB qs[k].r
        · have HN2 := Lib.hid ((aheadN_down hlt q).trans hz)
          rw [q] at hcon
          have HC := Lib.hid hcon
          clear hcon q hz hzb hA
          go_wp2
          (refine wp_region_mix' (fun _ _ _ _ _ hq => hq) 17 (by kernel_rfl) (by kernel_rfl) (fun hg => ?_); simp only [headOps, List.take_succ_cons, List.take_zero, List.filter_cons, List.filter_nil, isAlloc, Bool.not_false, Bool.false_eq_true, if_true, if_false, List.append_nil, List.drop_succ_cons, List.drop_zero])
          (repeat (first | (refine wpMix_plain rfl rfl ?_; go_big_quiet_step (fail); refine wpQuiet_nil ?_) | (refine wpMix_skip rfl rfl ?_; simp only [Act.put, List.setIfInBounds_toArray, List.set_cons_zero, List.set_cons_succ]) | (refine wpMix_det rfl rfl rfl (enters Tryz.func47 (by kernel_rfl) rfl) (fun W hW => HC.out W) rfl ?_; simp only [Act.put, List.setIfInBounds_toArray, List.set_cons_zero, List.set_cons_succ])))
          (refine wpMix_nil ?_; intro w4 hw4)
          go_wp2
          go_roundw
          case rel => exact ⟨k + 1, by omega, by go_num, by rw [HN2.out], (Ext.trans hx3 (Ext.trans (ext_alloc _ _) hw4))⟩
          case measure => simp [intOf] <;> omega
        · rw [q] at hcon
          have HC := Lib.hid hcon
          rcases hzb with rfl | ⟨j, hj, rfl⟩
          · have HN2 := Lib.hid (aheadN_first hlt q hz)
            clear hcon q hz hA
            go_wp2
            (refine wp_region_mix' (fun _ _ _ _ _ hq => hq) 17 (by kernel_rfl) (by kernel_rfl) (fun hg => ?_); simp only [headOps, List.take_succ_cons, List.take_zero, List.filter_cons, List.filter_nil, isAlloc, Bool.not_false, Bool.false_eq_true, if_true, if_false, List.append_nil, List.drop_succ_cons, List.drop_zero])
            (repeat (first | (refine wpMix_plain rfl rfl ?_; go_big_quiet_step (fail); refine wpQuiet_nil ?_) | (refine wpMix_skip rfl rfl ?_; simp only [Act.put, List.setIfInBounds_toArray, List.set_cons_zero, List.set_cons_succ]) | (refine wpMix_det rfl rfl rfl (enters Tryz.func47 (by kernel_rfl) rfl) (fun W hW => HC.out W) rfl ?_; simp only [Act.put, List.setIfInBounds_toArray, List.set_cons_zero, List.set_cons_succ])))
            (refine wpMix_nil ?_; intro w4 hw4)
            go_wp2
            go_roundw
            case rel => exact ⟨k + 1, by omega, by go_num, by rw [HN2.out], (Ext.trans hx3 (Ext.trans (ext_alloc _ _) hw4))⟩
            case measure => simp [intOf] <;> omega
          · have hjl : j < qs.length := by omega
            obtain ⟨bb, bo, hB, hbb, d0, d1, d2, d3, d4, d5, d6, d7, d8, d9, d10, d11, d12⟩ := (HR.out.r.1.keep X3).atRpE hjl
            rw [hA] at hB
            obtain ⟨rfl, rfl⟩ : ab = bb ∧ ao = bo := by simpa using hB
            have h5 := aheadN_cmp hlt hjl q hz
            clear hcon q hz hA hB d0 d1 d2 d3 d4 d6 d7 d8 d9 d10 d11 d12
            have hj0 : decide ((j : Int) < 0) = false := by simp
            cases q9 : decide (qs[j].r.commit < qs[k].r.commit)
            · rw [q9] at h5
              have HN2 := Lib.hid (show aheadN qs (k + 1) = (j : Int) by rw [h5]; rfl)
              clear h5
              go_wp2
              (refine wp_region_mix' (fun _ _ _ _ _ hq => hq) 17 (by kernel_rfl) (by kernel_rfl) (fun hg => ?_); simp only [headOps, List.take_succ_cons, List.take_zero, List.filter_cons, List.filter_nil, isAlloc, Bool.not_false, Bool.false_eq_true, if_true, if_false, List.append_nil, List.drop_succ_cons, List.drop_zero])
              (repeat (first | (refine wpMix_plain rfl rfl ?_; go_big_quiet_step (fail); refine wpQuiet_nil ?_) | (refine wpMix_skip rfl rfl ?_; simp only [Act.put, List.setIfInBounds_toArray, List.set_cons_zero, List.set_cons_succ]) | (refine wpMix_det rfl rfl rfl (enters Tryz.func47 (by kernel_rfl) rfl) (fun W hW => HC.out W) rfl ?_; simp only [Act.put, List.setIfInBounds_toArray, List.set_cons_zero, List.set_cons_succ])))
              (refine wpMix_nil ?_; intro w4 hw4)
              go_wp2
              go_roundw
              case rel => exact ⟨k + 1, by omega, by go_num, by rw [HN2.out], (Ext.trans hx3 (Ext.trans (ext_alloc _ _) hw4))⟩
              case measure => simp [intOf] <;> omega
            · rw [q9] at h5
              have HN2 := Lib.hid (show aheadN qs (k + 1) = (k : Int) by rw [h5]; rfl)
              clear h5
              go_wp2
              (refine wp_region_mix' (fun _ _ _ _ _ hq => hq) 17 (by kernel_rfl) (by kernel_rfl) (fun hg => ?_); simp only [headOps, List.take_succ_cons, List.take_zero, List.filter_cons, List.filter_nil, isAlloc, Bool.not_false, Bool.false_eq_true, if_true, if_false, List.append_nil, List.drop_succ_cons, List.drop_zero])
              (repeat (first | (refine wpMix_plain rfl rfl ?_; go_big_quiet_step (fail); refine wpQuiet_nil ?_) | (refine wpMix_skip rfl rfl ?_; simp only [Act.put, List.setIfInBounds_toArray, List.set_cons_zero, List.set_cons_succ]) | (refine wpMix_det rfl rfl rfl (enters Tryz.func47 (by kernel_rfl) rfl) (fun W hW => HC.out W) rfl ?_; simp only [Act.put, List.setIfInBounds_toArray, List.set_cons_zero, List.set_cons_succ])))
              (refine wpMix_nil ?_; intro w4 hw4)
              go_wp2
              go_roundw
              case rel => exact ⟨k + 1, by omega, by go_num, by rw [HN2.out], (Ext.trans hx3 (Ext.trans (ext_alloc _ _) hw4))⟩
              case measure => simp [intOf] <;> omega
      · obtain rfl : k = qs.length := by omega
        have g4 : decide ((qs.length : Int) < g.of) = false := by rw [hof]; simp
        clear hof
        go_wp2
        go_ret
        exact ⟨ret_int HN.out.symm, X3⟩

end Go.Proofs.YtmphedkbdlckhaaGreat
