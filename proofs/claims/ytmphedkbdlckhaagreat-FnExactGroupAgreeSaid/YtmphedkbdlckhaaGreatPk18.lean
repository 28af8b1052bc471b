/- GroupOk of the reference and of the program. -/
import Derived.Test.YtmphedkbdlckhaaGreatPk17
namespace Go.Proofs.YtmphedkbdlckhaaGreat
open Go.ChangeShapes Go.WideShapes Go.ChangeAt Go.RowKit Go.Sort
set_option linter.unusedVariables false
set_option linter.unusedSimpArgs false
set_option maxHeartbeats 2000000 in
theorem c_idxRy (g : Nat) (lb : Array Value) (p : Ry → Bool) (eg : ∀ args w, (callFunc g args).run Tryz.prog w = .ok (.enter g args) w) (A : Option Addr) (c : Nat) (l : List Ry) (w : World) (ha : Rd Ry.enc 3 w A c l) (hn : l.length ≤ 1099511627776)
  (hp : ∀ W, Ext w W → ∀ k (hk : k < l.length), Calls Tryz.prog g (#[.agg #[.int .i64 l[k].client, .int .i64 l[k].req, .int .i64 l[k].answer]] ++ lb) W fun e w' => e = .returned (.bool (p l[k])) ∧ Ext W w') :
  Calls Tryz.prog 73 #[.slice A l.length c, .func (.func g) #[] lb] w fun e w' => e = .returned (.int .i64 (idxOf p l)) ∧ Ext w w' := by
 have HP := Hd hp
 clear hp
 go_enter Tryz.func73, Tryz.ntmps73
 go_wp2
 go_loopw [8] (fun i wr => ∃ k : Nat, k ≤ l.length ∧ i = .int .i64 k ∧ (∀ j (hj : j < l.length), j < k → p l[j] = false) ∧ Ext w wr) (fun i _ => l.length - (intOf i).toNat)
 case atStart => exact ⟨0, Nat.zero_le _, rfl, fun j hj h => absurd h (by omega), ext_refl _⟩
 case round =>
  obtain ⟨k, hk, rfl, ht, hx0⟩ := hrel
  have HT := Hd ht
  clear ht
  by_cases hlt : k < l.length
  ·have hcall := HP.out wr hx0 k hlt
   obtain ⟨ab, ao, rfl, hab, a0, a1, a2⟩ := (ha.keep hx0).atRy hlt
   cases hq : p l[k]
   ·rw [hq] at hcall
    have HQ := Hd hq
    clear hq HP
    go_wp2_with fail
    refine hcall.mono ?_
    rintro e w1 ⟨rfl, hx⟩
    clear hcall
    go_wp2
    go_roundw
    case rel => exact ⟨k + 1, by omega, by go_num, no_next HT.out (fun _ => HQ.out), Ext.trans hx0 hx⟩
    case measure => simp [intOf] <;> omega
   ·rw [hq] at hcall
    have HQ := Hd hq
    clear hq HP
    go_wp2_with fail
    refine hcall.mono ?_
    rintro e w1 ⟨rfl, hx⟩
    clear hcall
    go_wp2
    go_ret
    exact ⟨ret_int (idx_hit hlt HQ.out HT.out).symm, Ext.trans hx0 hx⟩
  ·have HV := Hd (idx_miss (p := p) (l := l) (fun j hj => HT.out j hj (by omega)))
   go_wp2
   go_ret
   exact ⟨ret_int HV.out.symm, hx0⟩
theorem c_anyRy (g : Nat) (lb : Array Value) (p : Ry → Bool) (eg : ∀ args w, (callFunc g args).run Tryz.prog w = .ok (.enter g args) w) (A : Option Addr) (c : Nat) (l : List Ry) (w : World) (ha : Rd Ry.enc 3 w A c l) (hn : l.length ≤ 1099511627776)
  (hp : ∀ W, Ext w W → ∀ k (hk : k < l.length), Calls Tryz.prog g (#[.agg #[.int .i64 l[k].client, .int .i64 l[k].req, .int .i64 l[k].answer]] ++ lb) W fun e w' => e = .returned (.bool (p l[k])) ∧ Ext W w') :
  Calls Tryz.prog 37 #[.slice A l.length c, .func (.func g) #[] lb] w fun e w' => e = .returned (.bool (l.any p)) ∧ Ext w w' := by
 have hcon := c_idxRy g lb p eg A c l w ha hn hp
 rw [← idxOf_any]
 obtain ⟨z, hz⟩ : ∃ z, idxOf p l = z := ⟨_, rfl⟩
 rw [hz] at hcon ⊢
 clear hz hp
 go_enter Tryz.func37, Tryz.ntmps37
 go_wp2_with fail
 refine hcon.mono ?_
 rintro e w1 ⟨rfl, x1⟩
 go_wp2
 go_ret
 exact ⟨rfl, x1⟩
def farB (of : Int) (f : Fl) : Bool := decide (of ≤ f.to)
def badRy (y : Ry) : Bool := !(inB y.client 0 1000000000 && inB y.req 1 1000000000 && inB y.answer (-1) 1000000000)
def GpOkP (g : Gp) : Prop := ofB g.of = true ∧ (g.reps.length : Int) = g.of ∧ netOk g.next g.fls = true ∧ g.rys.length ≤ 200 ∧ (∀ i (h : i < g.reps.length), rpOk g.reps[i] = true ∧ g.reps[i].me = (i : Int) ∧ g.reps[i].of = g.of) ∧ g.fls.any (farB g.of) = false ∧ g.rys.any badRy = false
instance (g : Gp) : Decidable (GpOkP g) := inferInstanceAs (Decidable (_ ∧ _))
def gpOk (g : Gp) : Bool := decide (GpOkP g)
theorem gpOk_p {g : Gp} (h : gpOk g = true) : GpOkP g := of_decide_eq_true h
theorem gpNo_1 {g : Gp} (h : ofB g.of = false) : gpOk g = false := decide_eq_false fun hp => by have := hp.1; rw [h] at this; cases this
theorem gpNo_2 {g : Gp} (h : ¬ (g.reps.length : Int) = g.of) : gpOk g = false := decide_eq_false fun hp => h hp.2.1
theorem gpNo_3 {g : Gp} (h : netOk g.next g.fls = false) : gpOk g = false := decide_eq_false fun hp => by have := hp.2.2.1; rw [h] at this; cases this
theorem gpNo_4 {g : Gp} (h : ¬ g.rys.length ≤ 200) : gpOk g = false := decide_eq_false fun hp => h hp.2.2.2.1
theorem gp_at {qs : List RpE} {g : Gp} (he : qs.map RpE.r = g.reps) {k : Nat} (hk : k < qs.length) : ∃ h : k < g.reps.length, g.reps[k] = qs[k].r := by
 have hl : g.reps.length = qs.length := by rw [← he, List.length_map]
 exact ⟨by omega, by simp [← he]⟩
theorem gpNo_r1 {qs : List RpE} {g : Gp} (he : qs.map RpE.r = g.reps) {k : Nat} (hk : k < qs.length) (h : rpOk qs[k].r = false) : gpOk g = false := decide_eq_false fun hp => by
 obtain ⟨h1, h2⟩ := gp_at he hk
 have := (hp.2.2.2.2.1 k h1).1
 rw [h2, h] at this
 cases this
theorem gpNo_r2 {qs : List RpE} {g : Gp} (he : qs.map RpE.r = g.reps) {k : Nat} (hk : k < qs.length) (h : (qs[k].r.me != (k : Int)) = true) : gpOk g = false := decide_eq_false fun hp => by
 obtain ⟨h1, h2⟩ := gp_at he hk
 have := (hp.2.2.2.2.1 k h1).2.1
 rw [h2] at this
 simp at h
 exact h this
theorem gpNo_r3 {qs : List RpE} {g : Gp} (he : qs.map RpE.r = g.reps) {k : Nat} (hk : k < qs.length) (h : (qs[k].r.of != g.of) = true) : gpOk g = false := decide_eq_false fun hp => by
 obtain ⟨h1, h2⟩ := gp_at he hk
 have := (hp.2.2.2.2.1 k h1).2.2
 rw [h2] at this
 simp at h
 exact h this
theorem gpNo_f {g : Gp} (h : g.fls.any (farB g.of) = true) : gpOk g = false := decide_eq_false fun hp => by have := hp.2.2.2.2.2.1; rw [h] at this; cases this
theorem gpNo_y {g : Gp} (h : g.rys.any badRy = true) : gpOk g = false := decide_eq_false fun hp => by have := hp.2.2.2.2.2.2; rw [h] at this; cases this
def RpTo (of : Int) (qs : List RpE) (k : Nat) : Prop := ∀ i (h : i < qs.length), i < k → rpOk qs[i].r = true ∧ qs[i].r.me = (i : Int) ∧ qs[i].r.of = of
theorem RpTo.zero (of : Int) (qs : List RpE) : RpTo of qs 0 := fun i _ h => absurd h (by omega)
theorem RpTo.next {of : Int} {qs : List RpE} {k : Nat} (h : RpTo of qs k) (hk : k < qs.length) (h1 : rpOk qs[k].r = true) (h2 : (qs[k].r.me != (k : Int)) = false) (h3 : (qs[k].r.of != of) = false) : RpTo of qs (k + 1) := fun j hj hjk => by
 by_cases he : j = k
 ·subst he; exact ⟨h1, by simpa using h2, by simpa using h3⟩
 ·exact h j hj (by omega)
theorem gpYes {qs : List RpE} {g : Gp} (he : qs.map RpE.r = g.reps) (h1 : ofB g.of = true) (h2 : g.of = (qs.length : Int)) (h3 : netOk g.next g.fls = true) (h4 : g.rys.length ≤ 200) (h5 : RpTo g.of qs qs.length) (h6 : g.fls.any (farB g.of) = false) : gpOk g = !g.rys.any badRy := by
 have hl : g.reps.length = qs.length := by rw [← he, List.length_map]
 cases q : g.rys.any badRy
 ·refine decide_eq_true ⟨h1, by rw [hl, h2], h3, h4, fun i hi => ?_, h6, q⟩
  obtain ⟨h7, h8⟩ := gp_at he (show i < qs.length by omega)
  rw [h8]
  exact h5 i (by omega) (by omega)
 ·exact gpNo_y q
theorem any_next {α : Type} {l : List α} {p : α → Bool} {k : Nat} (hk : k < l.length) (h : (l.take k).any p = false) (hs : p l[k] = false) : (l.take (k + 1)).any p = false := by
 rw [List.take_succ_eq_append_getElem hk, List.any_append, h]
 simp [hs]
theorem any_hit {α : Type} {l : List α} {p : α → Bool} {k : Nat} (hk : k < l.length) (hs : p l[k] = true) : l.any p = true := by
 rw [List.any_eq_true]
 exact ⟨l[k], List.getElem_mem hk, hs⟩
theorem any_full {α : Type} {l : List α} {p : α → Bool} (h : (l.take l.length).any p = false) : l.any p = false := by
 rwa [List.take_length] at h
theorem bne_int {a b : Int} (h : a = b) : (a != b) = false := by simp [h]
theorem bne_int' {a b : Int} (h : ¬ a = b) : (a != b) = true := by simp [h]
set_option maxRecDepth 100000 in
set_option maxHeartbeats 16000000 in
theorem c_sGroupOk (a : GAd) (qs : List RpE) (g : Gp) (w : World) (hr : GpR w a qs g) (hs : RpsS qs) (hm : FlsM g.fls) (hn : qs.length ≤ 1048576) (hf : g.fls.length ≤ 1048576) (hy : g.rys.length ≤ 1048576) :
  Calls Tryz.prog 9 #[Gp.val a qs.length g] w fun e w' => e = .returned (.bool (gpOk g)) ∧ Ext w w' := by
 have X0 := ext_alloc w (Gp.obj a qs.length g)
 have HR := Hd hr
 have HS := Hd hs
 have HE := Hd hr.e
 have hlen := hr.len
 have HLen := Hd hlen
 have ho := c_l6Of g.of (w.alloc (Gp.obj a qs.length g))
 have hnt := fun W (h : Ext (w.alloc (Gp.obj a qs.length g)) W) => c_sNetOk g.next a.FA a.Fc g.fls W (hr.f.keep (Ext.trans X0 h)) hf hm
 clear hr hs hm
 cases q0 : ofB g.of
 ·have HN := Hd (gpNo_1 q0)
  rw [q0] at ho
  have HO := Hd ho
  clear ho hnt q0 hlen
  go_enter Tryz.func9, Tryz.ntmps9
  go_wp2_with fail
  refine HO.out.mono ?_
  rintro e w1 ⟨rfl, x1⟩
  have b1 := bx_cell (x1.box (hNew (w := w) (o := Gp.obj a qs.length g) rfl))
  go_wp2
  go_ret
  exact ⟨ret_bool HN.out.symm, Ext.trans X0 x1⟩
 ·rw [q0] at ho
  have HO := Hd ho
  have Q0 := Hd q0
  clear ho q0
  by_cases hof : (qs.length : Int) = g.of
  ·have hd : ((qs.length : Int) != g.of) = false := bne_int hof
   have HOf := Hd hof.symm
   clear hof
   cases q2 : netOk g.next g.fls
   ·rw [q2] at hnt
    have HN := Hd (gpNo_3 q2)
    have HNt := Hd hnt
    clear hnt q2 hlen
    go_enter Tryz.func9, Tryz.ntmps9
    go_wp2_with fail
    refine HO.out.mono ?_
    rintro e w1 ⟨rfl, x1⟩
    have b1 := bx_cell (x1.box (hNew (w := w) (o := Gp.obj a qs.length g) rfl))
    go_wp2_with fail
    refine (HNt.out _ x1).mono ?_
    rintro e w2 ⟨rfl, x2⟩
    have b2 := bx_cell ((Ext.trans x1 x2).box (hNew (w := w) (o := Gp.obj a qs.length g) rfl))
    clear b1
    go_wp2
    go_ret
    exact ⟨ret_bool HN.out.symm, Ext.trans X0 (Ext.trans x1 x2)⟩
   ·rw [q2] at hnt
    have Q2 := Hd q2
    have HNt := Hd hnt
    clear hnt q2
    by_cases h3 : g.rys.length ≤ 200
    ·have g3 : decide ((200 : Int) < (g.rys.length : Int)) = false := by simp; omega
     have H3 := Hd h3
     clear h3 hlen
     go_enter Tryz.func9, Tryz.ntmps9
     go_wp2_with fail
     refine HO.out.mono ?_
     rintro e w1 ⟨rfl, x1⟩
     have b1 := bx_cell (x1.box (hNew (w := w) (o := Gp.obj a qs.length g) rfl))
     go_wp2_with fail
     refine (HNt.out _ x1).mono ?_
     rintro e w2 ⟨rfl, x2⟩
     have b2 := bx_cell ((Ext.trans x1 x2).box (hNew (w := w) (o := Gp.obj a qs.length g) rfl))
     clear b1
     go_wp2
     have HX := Hd (Ext.trans x1 x2)
     go_loopw [3] (fun i wr => ∃ k : Nat, k ≤ qs.length ∧ i = .int .i64 k ∧ RpTo g.of qs k ∧ Ext (w.alloc (Gp.obj a qs.length g)) wr) (fun i _ => qs.length - (intOf i).toNat)
     case atStart => exact ⟨0, Nat.zero_le _, rfl, RpTo.zero _ _, HX.out⟩
     case round =>
      obtain ⟨k, hk, rfl, ht, hx3⟩ := hrel
      have HT := Hd ht
      clear ht
      have B3 := hx3.box (hNew (w := w) (o := Gp.obj a qs.length g) rfl)
      have b3 := bx_cell B3
      have z3 := bx_lt B3
      have X3 := Ext.trans X0 hx3
      have hof := HOf.out
      by_cases hlt : k < qs.length
      ·obtain ⟨ab, ao, hA, hab, a0, a1, a2, a3, a4, a5, a6, a7, a8, a9, a10, a11, a12⟩ := (HR.out.r.1.keep X3).atRpE hlt
       have hab1 : ¬ ab = wr.heap.size := by omega
       have hab2 : ab < wr.heap.size + 1 := by omega
       have g4 : decide ((k : Int) < g.of) = true := by rw [hof]; simp; omega
       dsimp only [Gp.cs] at b3
       rw [hA] at b3
       try rw [hA]
       have HA := Hd hA
       clear hA hof
       have hq := (HR.out.r.keep X3).2 qs[k] (List.getElem_mem hlt)
       have hsm := HS.out qs[k] (List.getElem_mem hlt)
       have X4 := ext_alloc wr (Rp.obj qs[k].a qs[k].A qs[k].ps.length qs[k].c qs[k].r)
       have hcon := c_sReplicaOk qs[k].a qs[k].A qs[k].c qs[k].ps qs[k].r _ (RpR.keep hq X4) hsm.1 hsm.2.1 hsm.2.2
       clear hq hsm
       cases q5 : rpOk qs[k].r
       ·have HN := Hd (gpNo_r1 HE.out hlt q5)
        rw [q5] at hcon
        have HC := Hd hcon
        clear hcon q5
        go_wp2_with fail
        refine HC.out.mono ?_
        rintro e w4 ⟨rfl, x4⟩
        go_wp2
        go_ret
        exact ⟨ret_bool HN.out.symm, Ext.trans X3 (Ext.trans X4 x4)⟩
       ·rw [q5] at hcon
        have HC := Hd hcon
        have Q5 := Hd q5
        clear hcon q5
        cases q6 : (qs[k].r.me != (k : Int))
        ·cases q7 : (qs[k].r.of != g.of)
         ·have HN := Hd (HT.out.next hlt Q5.out q6 q7)
          go_wp2_with fail
          refine HC.out.mono ?_
          rintro e w4 ⟨rfl, x4⟩
          have c3 := bx_cell (x4.box (hOld (o := Rp.obj qs[k].a qs[k].A qs[k].ps.length qs[k].c qs[k].r) B3))
          have c4 := bx_cell (x4.box (hNew (w := wr) (o := Rp.obj qs[k].a qs[k].A qs[k].ps.length qs[k].c qs[k].r) rfl))
          have zz := x4.size
          simp only [sz_alloc] at zz
          go_wp2
          go_roundw
          case rel => exact ⟨k + 1, by omega, by go_num, HN.out, Ext.trans hx3 (Ext.trans X4 x4)⟩
          case measure => simp [intOf] <;> omega
         ·have HN := Hd (gpNo_r3 HE.out hlt q7)
          go_wp2_with fail
          refine HC.out.mono ?_
          rintro e w4 ⟨rfl, x4⟩
          have c3 := bx_cell (x4.box (hOld (o := Rp.obj qs[k].a qs[k].A qs[k].ps.length qs[k].c qs[k].r) B3))
          have c4 := bx_cell (x4.box (hNew (w := wr) (o := Rp.obj qs[k].a qs[k].A qs[k].ps.length qs[k].c qs[k].r) rfl))
          have zz := x4.size
          simp only [sz_alloc] at zz
          go_wp2
          go_ret
          exact ⟨ret_bool HN.out.symm, Ext.trans X3 (Ext.trans X4 x4)⟩
        ·have HN := Hd (gpNo_r2 HE.out hlt q6)
         go_wp2_with fail
         refine HC.out.mono ?_
         rintro e w4 ⟨rfl, x4⟩
         have c3 := bx_cell (x4.box (hOld (o := Rp.obj qs[k].a qs[k].A qs[k].ps.length qs[k].c qs[k].r) B3))
         have c4 := bx_cell (x4.box (hNew (w := wr) (o := Rp.obj qs[k].a qs[k].A qs[k].ps.length qs[k].c qs[k].r) rfl))
         have zz := x4.size
         simp only [sz_alloc] at zz
         go_wp2
         go_ret
         exact ⟨ret_bool HN.out.symm, Ext.trans X3 (Ext.trans X4 x4)⟩
      ·obtain rfl : k = qs.length := by omega
       have g4 : decide ((qs.length : Int) < g.of) = false := by rw [hof]; simp
       have HT1 := HT
       have HX3 := Hd hx3
       clear hof b3 z3 B3 X3 hx3 HT
       obtain ⟨wo, hwo⟩ : ∃ wo : World, wo = wr := ⟨_, rfl⟩
       have b4 := bx_cell (HX3.out.box (hNew (w := w) (o := Gp.obj a qs.length g) rfl))
       go_wp2
       clear b4
       go_loopw [5] (fun i wr2 => ∃ k : Nat, k ≤ g.fls.length ∧ i = .int .i64 k ∧ (g.fls.take k).any (farB g.of) = false ∧ Ext (w.alloc (Gp.obj a qs.length g)) wr2) (fun i _ => g.fls.length - (intOf i).toNat)
       case atStart => exact ⟨0, Nat.zero_le _, rfl, rfl, HX3.out⟩
       case round =>
        obtain ⟨k, hk, rfl, ht, hx3⟩ := hrel
        have HF := Hd ht
        clear ht
        have B3 := hx3.box (hNew (w := w) (o := Gp.obj a qs.length g) rfl)
        have b3 := bx_cell B3
        have z3 := bx_lt B3
        have X3 := Ext.trans X0 hx3
        by_cases hlt : k < g.fls.length
        ·obtain ⟨ab, ao, hA, hab, a0, a1, a2⟩ := (HR.out.f.keep X3).atFl hlt
         dsimp only [Gp.cs] at b3
         rw [hA] at b3
         have HA := Hd hA
         clear hA
         cases q8 : decide (g.of ≤ g.fls[k].to)
         ·have HN := Hd (any_next hlt HF.out q8)
          go_wp2
          (refine wp_region_mix' (fun _ _ _ _ _ hq => hq) 10 (by kernel_rfl) (by kernel_rfl) (fun hg => ?_); simp only [headOps, Tc, Tz, List.filter_cons, List.filter_nil, isAlloc, Bool.not_false, Bf, if_true, if_false, List.append_nil, Dc, Dz])
          (repeat (refine wpMix_plain rfl rfl ?_; go_big_quiet_step (fail); refine wpQuiet_nil ?_))
          (refine wpMix_nil ?_; intro w4 hw4)
          go_wp2
          go_roundw
          case rel => exact ⟨k + 1, by omega, by go_num, HN.out, Ext.trans hx3 hw4⟩
          case measure => simp [intOf] <;> omega
         ·have HN := Hd (gpNo_f (any_hit hlt q8))
          go_wp2
          (refine wp_region_mix' (fun _ _ _ _ _ hq => hq) 10 (by kernel_rfl) (by kernel_rfl) (fun hg => ?_); simp only [headOps, Tc, Tz, List.filter_cons, List.filter_nil, isAlloc, Bool.not_false, Bf, if_true, if_false, List.append_nil, Dc, Dz])
          (repeat (refine wpMix_plain rfl rfl ?_; go_big_quiet_step (fail); refine wpQuiet_nil ?_))
          (refine wpMix_nil ?_; intro w4 hw4)
          go_wp2
          go_ret
          exact ⟨ret_bool HN.out.symm, Ext.trans X3 hw4⟩
        ·obtain rfl : k = g.fls.length := by omega
         have HF1 := Hd (any_full HF.out)
         have HX4 := Hd hx3
         have b4 := bx_cell (HX4.out.box (hNew (w := w) (o := Gp.obj a qs.length g) rfl))
         clear b3 z3 B3 X3 hx3 HF
         go_wp2
         clear b4
         go_loopw [6] (fun i wr3 => ∃ k : Nat, k ≤ g.rys.length ∧ i = .int .i64 k ∧ (g.rys.take k).any badRy = false ∧ Ext (w.alloc (Gp.obj a qs.length g)) wr3) (fun i _ => g.rys.length - (intOf i).toNat)
         case atStart => exact ⟨0, Nat.zero_le _, rfl, rfl, HX4.out⟩
         case round =>
          obtain ⟨k, hk, rfl, ht, hx3⟩ := hrel
          have HY := Hd ht
          clear ht
          have B3 := hx3.box (hNew (w := w) (o := Gp.obj a qs.length g) rfl)
          have b3 := bx_cell B3
          have z3 := bx_lt B3
          have X3 := Ext.trans X0 hx3
          by_cases hlt : k < g.rys.length
          ·obtain ⟨ab, ao, hA, hab, a0, a1, a2⟩ := (HR.out.y.keep X3).atRy hlt
           have hab1 : ¬ ab = wr.heap.size := by omega
           have hab2 : ab < wr.heap.size + 1 := by omega
           dsimp only [Gp.cs] at b3
           rw [hA] at b3
           have HA := Hd hA
           clear hA
           have X4 := ext_alloc wr (.cells #[.int .i64 g.rys[k].client, .int .i64 g.rys[k].req, .int .i64 g.rys[k].answer] 61)
           have ha := c_l1Whole g.rys[k].client (wr.alloc (.cells #[.int .i64 g.rys[k].client, .int .i64 g.rys[k].req, .int .i64 g.rys[k].answer] 61))
           have hb := c_l1In g.rys[k].req 1 1000000000
           have hc := c_l1In g.rys[k].answer (-1) 1000000000
           cases p1 : inB g.rys[k].client 0 1000000000
           ·rw [p1] at ha
            have HN := Hd (gpNo_y (any_hit hlt (show badRy g.rys[k] = true by simp [badRy, *])))
            have Ha := Hd ha
            have Hb := Hd hb
            have Hc := Hd hc
            clear ha hb hc p1
            go_wp2_with fail
            refine Ha.out.mono ?_
            rintro e w4 ⟨rfl, x4⟩
            have c4 := bx_cell (x4.box (hNew (w := wr) (o := .cells #[.int .i64 g.rys[k].client, .int .i64 g.rys[k].req, .int .i64 g.rys[k].answer] 61) rfl))
            go_wp2
            go_ret
            exact ⟨ret_bool HN.out.symm, Ext.trans X3 (Ext.trans X4 x4)⟩
           ·rw [p1] at ha
            cases p2 : inB g.rys[k].req 1 1000000000
            ·rw [p2] at hb
             have HN := Hd (gpNo_y (any_hit hlt (show badRy g.rys[k] = true by simp [badRy, *])))
             have Ha := Hd ha
             have Hb := Hd hb
             have Hc := Hd hc
             clear ha hb hc p1 p2
             go_wp2_with fail
             refine Ha.out.mono ?_
             rintro e w4 ⟨rfl, x4⟩
             have c4 := bx_cell (x4.box (hNew (w := wr) (o := .cells #[.int .i64 g.rys[k].client, .int .i64 g.rys[k].req, .int .i64 g.rys[k].answer] 61) rfl))
             go_wp2_with fail
             refine (Hb.out _).mono ?_
             rintro e w5 ⟨rfl, x5⟩
             have c5 := bx_cell ((Ext.trans x4 x5).box (hNew (w := wr) (o := .cells #[.int .i64 g.rys[k].client, .int .i64 g.rys[k].req, .int .i64 g.rys[k].answer] 61) rfl))
             clear c4
             go_wp2
             go_ret
             exact ⟨ret_bool HN.out.symm, Ext.trans X3 (Ext.trans X4 (Ext.trans x4 x5))⟩
            ·rw [p2] at hb
             cases p3 : inB g.rys[k].answer (-1) 1000000000
             ·rw [p3] at hc
              have HN := Hd (gpNo_y (any_hit hlt (show badRy g.rys[k] = true by simp [badRy, *])))
              have Ha := Hd ha
              have Hb := Hd hb
              have Hc := Hd hc
              clear ha hb hc p1 p2 p3
              go_wp2_with fail
              refine Ha.out.mono ?_
              rintro e w4 ⟨rfl, x4⟩
              have c4 := bx_cell (x4.box (hNew (w := wr) (o := .cells #[.int .i64 g.rys[k].client, .int .i64 g.rys[k].req, .int .i64 g.rys[k].answer] 61) rfl))
              go_wp2_with fail
              refine (Hb.out _).mono ?_
              rintro e w5 ⟨rfl, x5⟩
              have c5 := bx_cell ((Ext.trans x4 x5).box (hNew (w := wr) (o := .cells #[.int .i64 g.rys[k].client, .int .i64 g.rys[k].req, .int .i64 g.rys[k].answer] 61) rfl))
              clear c4
              go_wp2_with fail
              refine (Hc.out _).mono ?_
              rintro e w6 ⟨rfl, x6⟩
              go_wp2
              go_ret
              exact ⟨ret_bool HN.out.symm, Ext.trans X3 (Ext.trans X4 (Ext.trans x4 (Ext.trans x5 x6)))⟩
             ·rw [p3] at hc
              have HN := Hd (any_next hlt HY.out (show badRy g.rys[k] = false by simp [badRy, *]))
              have Ha := Hd ha
              have Hb := Hd hb
              have Hc := Hd hc
              clear ha hb hc p1 p2 p3
              go_wp2_with fail
              refine Ha.out.mono ?_
              rintro e w4 ⟨rfl, x4⟩
              have c4 := bx_cell (x4.box (hNew (w := wr) (o := .cells #[.int .i64 g.rys[k].client, .int .i64 g.rys[k].req, .int .i64 g.rys[k].answer] 61) rfl))
              go_wp2_with fail
              refine (Hb.out _).mono ?_
              rintro e w5 ⟨rfl, x5⟩
              have c5 := bx_cell ((Ext.trans x4 x5).box (hNew (w := wr) (o := .cells #[.int .i64 g.rys[k].client, .int .i64 g.rys[k].req, .int .i64 g.rys[k].answer] 61) rfl))
              clear c4
              go_wp2_with fail
              refine (Hc.out _).mono ?_
              rintro e w6 ⟨rfl, x6⟩
              go_wp2
              go_roundw
              case rel => exact ⟨k + 1, by omega, by go_num, HN.out, Ext.trans hx3 (Ext.trans X4 (Ext.trans x4 (Ext.trans x5 x6)))⟩
              case measure => simp [intOf] <;> omega
          ·obtain rfl : k = g.rys.length := by omega
           have HV := Hd (show gpOk g = true by rw [gpYes HE.out Q0.out HOf.out Q2.out H3.out HT1.out HF1.out, any_full HY.out]; rfl)
           go_wp2
           go_ret
           exact ⟨ret_bool HV.out.symm, X3⟩
    ·have g3 : decide ((200 : Int) < (g.rys.length : Int)) = true := by simp; omega
     have HN := Hd (gpNo_4 h3)
     clear h3 hlen
     go_enter Tryz.func9, Tryz.ntmps9
     go_wp2_with fail
     refine HO.out.mono ?_
     rintro e w1 ⟨rfl, x1⟩
     have b1 := bx_cell (x1.box (hNew (w := w) (o := Gp.obj a qs.length g) rfl))
     go_wp2_with fail
     refine (HNt.out _ x1).mono ?_
     rintro e w2 ⟨rfl, x2⟩
     have b2 := bx_cell ((Ext.trans x1 x2).box (hNew (w := w) (o := Gp.obj a qs.length g) rfl))
     clear b1
     go_wp2
     go_ret
     exact ⟨ret_bool HN.out.symm, Ext.trans X0 (Ext.trans x1 x2)⟩
  ·have hd : ((qs.length : Int) != g.of) = true := bne_int' hof
   have HN := Hd (gpNo_2 (g := g) (by rw [← hlen]; exact hof))
   clear hof hlen hnt
   go_enter Tryz.func9, Tryz.ntmps9
   go_wp2_with fail
   refine HO.out.mono ?_
   rintro e w1 ⟨rfl, x1⟩
   have b1 := bx_cell (x1.box (hNew (w := w) (o := Gp.obj a qs.length g) rfl))
   go_wp2
   go_ret
   exact ⟨ret_bool HN.out.symm, Ext.trans X0 x1⟩
theorem c_far (P : Nat) (a : GAd) (n : Nat) (g : Gp) (f : Fl) (w : World) (hb : w.heap[P]? = some (Gp.obj a n g)) :
  Calls Tryz.prog 36 #[.agg #[.int .i64 f.id, .int .i64 f.to, .string f.bytes], .pointer (some ⟨P, 0, none⟩)] w fun e w' => e = .returned (.bool (farB g.of f)) ∧ Ext w w' := by
 have X0 := ext_alloc w (.cells #[.int .i64 f.id, .int .i64 f.to, .string f.bytes] 59)
 have b1 := bx_cell (hOld (o := .cells #[.int .i64 f.id, .int .i64 f.to, .string f.bytes] 59) hb)
 have z1 := bx_lt hb
 have hne : ¬ P = w.heap.size := by omega
 clear hb
 go_enter Tryz.func36, Tryz.ntmps36
 go_wp2
 go_ret
 exact ⟨rfl, X0⟩
theorem c_badRy (y : Ry) (w : World) :
  Calls Tryz.prog 38 #[.agg #[.int .i64 y.client, .int .i64 y.req, .int .i64 y.answer]] w fun e w' => e = .returned (.bool (badRy y)) ∧ Ext w w' := by
 go_enter Tryz.func38, Tryz.ntmps38
 go_wp2_with (first | (go_at_call 39; refine (c_isWhole _ _).mono ?_; rintro e w1 ⟨rfl, hx⟩; obtain ⟨hc1, hf1, hs1⟩ := hx.rules; (try simp at hs1); have z0 : w.heap.size < w1.heap.size := (by omega)) | (go_at_call 40; refine (c_isReq _ _).mono ?_; rintro e w1 ⟨rfl, hx⟩; obtain ⟨hc1, hf1, hs1⟩ := hx.rules; (try simp at hs1); have z0 : w.heap.size < w1.heap.size := (by omega)) | (go_at_call 41; refine (c_isAnswer _ _).mono ?_; rintro e w1 ⟨rfl, hx⟩; obtain ⟨hc1, hf1, hs1⟩ := hx.rules; (try simp at hs1); have z0 : w.heap.size < w1.heap.size := (by omega)))
 all_goals
  go_ret
  refine ⟨ret_bool ?_, ?_⟩
  ·(first | (simp [badRy, *]; done) | (simp_all [badRy]; done))
  ·(repeat (first | with_reducible exact ext_refl _ | with_reducible refine ext_to ?_ _ | with_reducible refine ext_set ?_ (by first | (simp; done) | (simp; omega) | omega) _ | with_reducible refine ext_drew ?_ | with_reducible refine Ext.trans ?_ (by assumption)))
set_option maxRecDepth 100000 in
set_option maxHeartbeats 16000000 in
theorem c_iGroupOk (a : GAd) (qs : List RpE) (g : Gp) (w : World) (hr : GpR w a qs g) (hs : RpsS qs) (hm : FlsM g.fls) (hn : qs.length ≤ 1048576) (hf : g.fls.length ≤ 1048576) (hy : g.rys.length ≤ 1048576) :
  Calls Tryz.prog 11 #[Gp.val a qs.length g] w fun e w' => e = .returned (.bool (gpOk g)) ∧ Ext w w' := by
 have X0 := ext_alloc w (Gp.obj a qs.length g)
 have HR := Hd hr
 have HS := Hd hs
 have HE := Hd hr.e
 have hlen := hr.len
 have HLen := Hd hlen
 have ho := c_isOf g.of (w.alloc (Gp.obj a qs.length g))
 have hnt := fun W (h : Ext (w.alloc (Gp.obj a qs.length g)) W) => c_iNetOk g.next a.FA a.Fc g.fls W (hr.f.keep (Ext.trans X0 h)) hf hm
 clear hr hs hm
 cases q0 : ofB g.of
 ·have HN := Hd (gpNo_1 q0)
  rw [q0] at ho
  have HO := Hd ho
  clear ho hnt q0 hlen
  go_enter Tryz.func11, Tryz.ntmps11
  go_wp2_with fail
  refine HO.out.mono ?_
  rintro e w1 ⟨rfl, x1⟩
  have b1 := bx_cell (x1.box (hNew (w := w) (o := Gp.obj a qs.length g) rfl))
  go_wp2
  go_ret
  exact ⟨ret_bool HN.out.symm, Ext.trans X0 x1⟩
 ·rw [q0] at ho
  have HO := Hd ho
  have Q0 := Hd q0
  clear ho q0
  by_cases hof : (qs.length : Int) = g.of
  ·have hd : ((qs.length : Int) != g.of) = false := bne_int hof
   have HOf := Hd hof.symm
   clear hof
   cases q2 : netOk g.next g.fls
   ·rw [q2] at hnt
    have HN := Hd (gpNo_3 q2)
    have HNt := Hd hnt
    clear hnt q2 hlen
    go_enter Tryz.func11, Tryz.ntmps11
    go_wp2_with fail
    refine HO.out.mono ?_
    rintro e w1 ⟨rfl, x1⟩
    have b1 := bx_cell (x1.box (hNew (w := w) (o := Gp.obj a qs.length g) rfl))
    go_wp2_with fail
    refine (HNt.out _ x1).mono ?_
    rintro e w2 ⟨rfl, x2⟩
    have b2 := bx_cell ((Ext.trans x1 x2).box (hNew (w := w) (o := Gp.obj a qs.length g) rfl))
    clear b1
    go_wp2
    go_ret
    exact ⟨ret_bool HN.out.symm, Ext.trans X0 (Ext.trans x1 x2)⟩
   ·rw [q2] at hnt
    have Q2 := Hd q2
    have HNt := Hd hnt
    clear hnt q2
    by_cases h3 : g.rys.length ≤ 200
    ·have g3 : decide ((200 : Int) < (g.rys.length : Int)) = false := by simp; omega
     have H3 := Hd h3
     clear h3 hlen
     go_enter Tryz.func11, Tryz.ntmps11
     go_wp2_with fail
     refine HO.out.mono ?_
     rintro e w1 ⟨rfl, x1⟩
     have b1 := bx_cell (x1.box (hNew (w := w) (o := Gp.obj a qs.length g) rfl))
     go_wp2_with fail
     refine (HNt.out _ x1).mono ?_
     rintro e w2 ⟨rfl, x2⟩
     have b2 := bx_cell ((Ext.trans x1 x2).box (hNew (w := w) (o := Gp.obj a qs.length g) rfl))
     clear b1
     go_wp2
     have HX := Hd (Ext.trans x1 x2)
     go_loopw [32] (fun i wr => ∃ k : Nat, k ≤ qs.length ∧ i = .int .i64 k ∧ RpTo g.of qs k ∧ Ext (w.alloc (Gp.obj a qs.length g)) wr) (fun i _ => qs.length - (intOf i).toNat)
     case atStart => exact ⟨0, Nat.zero_le _, rfl, RpTo.zero _ _, HX.out⟩
     case round =>
      obtain ⟨k, hk, rfl, ht, hx3⟩ := hrel
      have HT := Hd ht
      clear ht
      have B3 := hx3.box (hNew (w := w) (o := Gp.obj a qs.length g) rfl)
      have b3 := bx_cell B3
      have z3 := bx_lt B3
      have X3 := Ext.trans X0 hx3
      have hof := HOf.out
      by_cases hlt : k < qs.length
      ·obtain ⟨ab, ao, hA, hab, a0, a1, a2, a3, a4, a5, a6, a7, a8, a9, a10, a11, a12⟩ := (HR.out.r.1.keep X3).atRpE hlt
       have hab1 : ¬ ab = wr.heap.size := by omega
       have hab2 : ab < wr.heap.size + 1 := by omega
       dsimp only [Gp.cs] at b3
       rw [hA] at b3
       try rw [hA]
       have HA := Hd hA
       clear hA hof
       have hq := (HR.out.r.keep X3).2 qs[k] (List.getElem_mem hlt)
       have hsm := HS.out qs[k] (List.getElem_mem hlt)
       have X4 := ext_alloc wr (Rp.obj qs[k].a qs[k].A qs[k].ps.length qs[k].c qs[k].r)
       have hcon := c_iReplicaOk qs[k].a qs[k].A qs[k].c qs[k].ps qs[k].r _ (RpR.keep hq X4) hsm.1 hsm.2.1 hsm.2.2
       clear hq hsm
       cases q5 : rpOk qs[k].r
       ·have HN := Hd (gpNo_r1 HE.out hlt q5)
        rw [q5] at hcon
        have HC := Hd hcon
        clear hcon q5
        go_wp2_with fail
        refine HC.out.mono ?_
        rintro e w4 ⟨rfl, x4⟩
        go_wp2
        go_ret
        exact ⟨ret_bool HN.out.symm, Ext.trans X3 (Ext.trans X4 x4)⟩
       ·rw [q5] at hcon
        have HC := Hd hcon
        have Q5 := Hd q5
        clear hcon q5
        cases q6 : (qs[k].r.me != (k : Int))
        ·cases q7 : (qs[k].r.of != g.of)
         ·have HN := Hd (HT.out.next hlt Q5.out q6 q7)
          go_wp2_with fail
          refine HC.out.mono ?_
          rintro e w4 ⟨rfl, x4⟩
          have c3 := bx_cell (x4.box (hOld (o := Rp.obj qs[k].a qs[k].A qs[k].ps.length qs[k].c qs[k].r) B3))
          have c4 := bx_cell (x4.box (hNew (w := wr) (o := Rp.obj qs[k].a qs[k].A qs[k].ps.length qs[k].c qs[k].r) rfl))
          have zz := x4.size
          simp only [sz_alloc] at zz
          go_wp2
          go_roundw
          case rel => exact ⟨k + 1, by omega, by go_num, HN.out, Ext.trans hx3 (Ext.trans X4 x4)⟩
          case measure => simp [intOf] <;> omega
         ·have HN := Hd (gpNo_r3 HE.out hlt q7)
          go_wp2_with fail
          refine HC.out.mono ?_
          rintro e w4 ⟨rfl, x4⟩
          have c3 := bx_cell (x4.box (hOld (o := Rp.obj qs[k].a qs[k].A qs[k].ps.length qs[k].c qs[k].r) B3))
          have c4 := bx_cell (x4.box (hNew (w := wr) (o := Rp.obj qs[k].a qs[k].A qs[k].ps.length qs[k].c qs[k].r) rfl))
          have zz := x4.size
          simp only [sz_alloc] at zz
          go_wp2
          go_ret
          exact ⟨ret_bool HN.out.symm, Ext.trans X3 (Ext.trans X4 x4)⟩
        ·have HN := Hd (gpNo_r2 HE.out hlt q6)
         go_wp2_with fail
         refine HC.out.mono ?_
         rintro e w4 ⟨rfl, x4⟩
         have c3 := bx_cell (x4.box (hOld (o := Rp.obj qs[k].a qs[k].A qs[k].ps.length qs[k].c qs[k].r) B3))
         have c4 := bx_cell (x4.box (hNew (w := wr) (o := Rp.obj qs[k].a qs[k].A qs[k].ps.length qs[k].c qs[k].r) rfl))
         have zz := x4.size
         simp only [sz_alloc] at zz
         go_wp2
         go_ret
         exact ⟨ret_bool HN.out.symm, Ext.trans X3 (Ext.trans X4 x4)⟩
      ·obtain rfl : k = qs.length := by omega
       clear hof
       have hF := fun W (h : Ext wr W) => c_anyFl 36 #[.pointer (some ⟨w.heap.size, 0, none⟩)] (farB g.of) (enters Tryz.func36 (by kernel_rfl) rfl) a.FA a.Fc g.fls W (HR.out.f.keep (Ext.trans X3 h)) (by omega) (fun W2 h2 j hj => c_far w.heap.size a qs.length g g.fls[j] W2 ((Ext.trans h h2).box B3))
       have hY := fun W (h : Ext wr W) => c_anyRy 38 #[] badRy (enters Tryz.func38 (by kernel_rfl) rfl) a.YA a.Yc g.rys W (HR.out.y.keep (Ext.trans X3 h)) (by omega) (fun W2 h2 j hj => c_badRy g.rys[j] W2)
       cases q8 : g.fls.any (farB g.of)
       ·have HV := Hd (gpYes HE.out Q0.out HOf.out Q2.out H3.out HT.out q8)
        rw [q8] at hF
        have HF := Hd hF
        have HY := Hd hY
        clear hF hY q8
        go_wp2_with fail
        refine (HF.out _ (ext_refl _)).mono ?_
        rintro e w4 ⟨rfl, x4⟩
        have c4 := bx_cell (x4.box B3)
        go_wp2_with fail
        refine (HY.out _ x4).mono ?_
        rintro e w5 ⟨rfl, x5⟩
        go_wp2
        go_ret
        exact ⟨ret_bool HV.out.symm, Ext.trans X3 (Ext.trans x4 x5)⟩
       ·have HN := Hd (gpNo_f q8)
        rw [q8] at hF
        have HF := Hd hF
        clear hF hY q8
        go_wp2_with fail
        refine (HF.out _ (ext_refl _)).mono ?_
        rintro e w4 ⟨rfl, x4⟩
        go_wp2
        go_ret
        exact ⟨ret_bool HN.out.symm, Ext.trans X3 x4⟩
    ·have g3 : decide ((200 : Int) < (g.rys.length : Int)) = true := by simp; omega
     have HN := Hd (gpNo_4 h3)
     clear h3 hlen
     go_enter Tryz.func11, Tryz.ntmps11
     go_wp2_with fail
     refine HO.out.mono ?_
     rintro e w1 ⟨rfl, x1⟩
     have b1 := bx_cell (x1.box (hNew (w := w) (o := Gp.obj a qs.length g) rfl))
     go_wp2_with fail
     refine (HNt.out _ x1).mono ?_
     rintro e w2 ⟨rfl, x2⟩
     have b2 := bx_cell ((Ext.trans x1 x2).box (hNew (w := w) (o := Gp.obj a qs.length g) rfl))
     clear b1
     go_wp2
     go_ret
     exact ⟨ret_bool HN.out.symm, Ext.trans X0 (Ext.trans x1 x2)⟩
  ·have hd : ((qs.length : Int) != g.of) = true := bne_int' hof
   have HN := Hd (gpNo_2 (g := g) (by rw [← hlen]; exact hof))
   clear hof hlen hnt
   go_enter Tryz.func11, Tryz.ntmps11
   go_wp2_with fail
   refine HO.out.mono ?_
   rintro e w1 ⟨rfl, x1⟩
   have b1 := bx_cell (x1.box (hNew (w := w) (o := Gp.obj a qs.length g) rfl))
   go_wp2
   go_ret
   exact ⟨ret_bool HN.out.symm, Ext.trans X0 x1⟩
end Go.Proofs.YtmphedkbdlckhaaGreat
