/- NetOk of the reference and of the program. -/
import Derived.Test.YtmphedkbdlckhaaGreatPk16
namespace Go.Proofs.YtmphedkbdlckhaaGreat
open Go.ChangeShapes Go.WideShapes Go.ChangeAt Go.RowKit Go.Sort
set_option linter.unusedVariables false
set_option linter.unusedSimpArgs false
set_option maxHeartbeats 2000000 in
theorem c_idxFl (g : Nat) (lb : Array Value) (p : Fl → Bool) (eg : ∀ args w, (callFunc g args).run Tryz.prog w = .ok (.enter g args) w) (A : Option Addr) (c : Nat) (l : List Fl) (w : World) (ha : Rd Fl.enc 3 w A c l) (hn : l.length ≤ 1099511627776)
  (hp : ∀ W, Ext w W → ∀ k (hk : k < l.length), Calls Tryz.prog g (#[.agg #[.int .i64 l[k].id, .int .i64 l[k].to, .string l[k].bytes]] ++ lb) W fun e w' => e = .returned (.bool (p l[k])) ∧ Ext W w') :
  Calls Tryz.prog 72 #[.slice A l.length c, .func (.func g) #[] lb] w fun e w' => e = .returned (.int .i64 (idxOf p l)) ∧ Ext w w' := by
 have HP := Hd hp
 clear hp
 go_enter Tryz.func72, Tryz.ntmps72
 go_wp2
 go_loopw [8] (fun i wr => ∃ k : Nat, k ≤ l.length ∧ i = .int .i64 k ∧ (∀ j (hj : j < l.length), j < k → p l[j] = false) ∧ Ext w wr) (fun i _ => l.length - (intOf i).toNat)
 case atStart => exact ⟨0, Nat.zero_le _, rfl, fun j hj h => absurd h (by omega), ext_refl _⟩
 case round =>
  obtain ⟨k, hk, rfl, ht, hx0⟩ := hrel
  have HT := Hd ht
  clear ht
  by_cases hlt : k < l.length
  ·have hcall := HP.out wr hx0 k hlt
   obtain ⟨ab, ao, rfl, hab, a0, a1, a2⟩ := (ha.keep hx0).atFl hlt
   cases hq : p l[k]
   ·rw [hq] at hcall
    have HQ := Hd hq
    clear hq HP
    go_wp2_with fail
    refine hcall.mono ?_
    rintro e w1 ⟨rfl, hx⟩
    clear hcall
    go_wp2
    go_roundw
    case rel => exact ⟨k + 1, by omega, by go_num, no_next HT.out (fun _ => HQ.out), Ext.trans hx0 hx⟩
    case measure => simp [intOf] <;> omega
   ·rw [hq] at hcall
    have HQ := Hd hq
    clear hq HP
    go_wp2_with fail
    refine hcall.mono ?_
    rintro e w1 ⟨rfl, hx⟩
    clear hcall
    go_wp2
    go_ret
    exact ⟨ret_int (idx_hit hlt HQ.out HT.out).symm, Ext.trans hx0 hx⟩
  ·have HV := Hd (idx_miss (p := p) (l := l) (fun j hj => HT.out j hj (by omega)))
   go_wp2
   go_ret
   exact ⟨ret_int HV.out.symm, hx0⟩
theorem c_anyFl (g : Nat) (lb : Array Value) (p : Fl → Bool) (eg : ∀ args w, (callFunc g args).run Tryz.prog w = .ok (.enter g args) w) (A : Option Addr) (c : Nat) (l : List Fl) (w : World) (ha : Rd Fl.enc 3 w A c l) (hn : l.length ≤ 1099511627776)
  (hp : ∀ W, Ext w W → ∀ k (hk : k < l.length), Calls Tryz.prog g (#[.agg #[.int .i64 l[k].id, .int .i64 l[k].to, .string l[k].bytes]] ++ lb) W fun e w' => e = .returned (.bool (p l[k])) ∧ Ext W w') :
  Calls Tryz.prog 35 #[.slice A l.length c, .func (.func g) #[] lb] w fun e w' => e = .returned (.bool (l.any p)) ∧ Ext w w' := by
 have hcon := c_idxFl g lb p eg A c l w ha hn hp
 rw [← idxOf_any]
 obtain ⟨z, hz⟩ : ∃ z, idxOf p l = z := ⟨_, rfl⟩
 rw [hz] at hcon ⊢
 clear hz hp
 go_enter Tryz.func35, Tryz.ntmps35
 go_wp2_with fail
 refine hcon.mono ?_
 rintro e w1 ⟨rfl, x1⟩
 go_wp2
 go_ret
 exact ⟨rfl, x1⟩
def flB (f : Fl) : Bool := inB f.to 0 4 && decide (f.bytes.size ≤ 4100)
def sameId (x : Int) (f : Fl) : Bool := f.id == x
def FlTo (z : Int) (l : List Fl) (k : Nat) : Prop := ∀ i (h : i < l.length), i < k → flB l[i] = true ∧ inB l[i].id 0 z = true ∧ (l.take i).any (sameId l[i].id) = false
def NetOkP (next : Int) (l : List Fl) : Prop := inB next 0 1000000000 = true ∧ l.length ≤ 60 ∧ ∀ i (h : i < l.length), flB l[i] = true ∧ inB l[i].id 0 (next - 1) = true ∧ (l.take i).any (sameId l[i].id) = false
instance (next : Int) (l : List Fl) : Decidable (NetOkP next l) := inferInstanceAs (Decidable (_ ∧ _))
def netOk (next : Int) (l : List Fl) : Bool := decide (NetOkP next l)
theorem netNo_1 {next : Int} {l : List Fl} (h : inB next 0 1000000000 = false) : netOk next l = false := decide_eq_false fun hp => by have := hp.1; rw [h] at this; cases this
theorem netNo_2 {next : Int} {l : List Fl} (h : ¬ l.length ≤ 60) : netOk next l = false := decide_eq_false fun hp => h hp.2.1
theorem netNo_3 {next : Int} {l : List Fl} {k : Nat} (hk : k < l.length) (h : flB l[k] = false) : netOk next l = false := decide_eq_false fun hp => by have := (hp.2.2 k hk).1; rw [h] at this; cases this
theorem netNo_4 {next : Int} {l : List Fl} {k : Nat} (hk : k < l.length) (h : inB l[k].id 0 (next - 1) = false) : netOk next l = false := decide_eq_false fun hp => by have := (hp.2.2 k hk).2.1; rw [h] at this; cases this
theorem netNo_5 {next : Int} {l : List Fl} {k : Nat} (hk : k < l.length) (h : (l.take k).any (sameId l[k].id) = true) : netOk next l = false := decide_eq_false fun hp => by have := (hp.2.2 k hk).2.2; rw [h] at this; cases this
theorem FlTo.zero (z : Int) (l : List Fl) : FlTo z l 0 := fun i _ h => absurd h (by omega)
theorem FlTo.next {z : Int} {l : List Fl} {k : Nat} (h : FlTo z l k) (hk : k < l.length) (h1 : flB l[k] = true) (h2 : inB l[k].id 0 z = true) (h3 : (l.take k).any (sameId l[k].id) = false) : FlTo z l (k + 1) := fun j hj hjk => by
 by_cases he : j = k
 ·subst he; exact ⟨h1, h2, h3⟩
 ·exact h j hj (by omega)
theorem netYes {next : Int} {l : List Fl} (h1 : inB next 0 1000000000 = true) (h2 : l.length ≤ 60) (h3 : FlTo (next - 1) l l.length) : netOk next l = true := decide_eq_true ⟨h1, h2, fun i hi => h3 i hi hi⟩
theorem take_any_next {l : List Fl} {k : Nat} {x : Int} (hk : k < l.length) (h : (l.take k).any (sameId x) = false) (hs : (l[k].id == x) = false) : (l.take (k + 1)).any (sameId x) = false := by
 rw [List.take_succ_eq_append_getElem hk, List.any_append, h]
 simp [sameId] at hs ⊢
 exact hs
theorem take_any_hit {l : List Fl} {k i : Nat} {x : Int} (hk : k < l.length) (hi : k < i) (hs : (l[k].id == x) = true) : (l.take i).any (sameId x) = true := by
 rw [List.any_eq_true]
 exact ⟨l[k], by rw [List.mem_take_iff_getElem]; exact ⟨k, by omega, rfl⟩, hs⟩
set_option maxHeartbeats 1000000 in
theorem c_l5Flight (id to : Int) (bytes : ByteArray) (hb : bytes.size ≤ 9223372036854775807) (w : World) :
  Calls Tryz.prog 57 #[.agg #[.int .i64 id, .int .i64 to, .string bytes]] w fun e w' => e = .returned (.bool (flB ⟨id, to, bytes⟩)) ∧ Ext w w' := by
 go_enter Tryz.func57, Tryz.ntmps57
 go_wp2_with (first | (go_at_call 28; refine (c_l1In _ _ _ _).mono ?_; rintro e w1 ⟨rfl, hx⟩; obtain ⟨hc1, hf1, hs1⟩ := hx.rules; (try simp at hs1); have z0 : w.heap.size < w1.heap.size := (by omega)))
 all_goals
  go_ret
  refine ⟨ret_bool ?_, ?_⟩
  ·(first | (simp [flB, *]; done) | (simp_all [flB]; done) | (simp_all [flB]; omega))
  ·(repeat (first | with_reducible exact ext_refl _ | with_reducible refine ext_to ?_ _ | with_reducible refine ext_set ?_ (by first | (simp; done) | (simp; omega) | omega) _ | with_reducible refine ext_drew ?_ | with_reducible refine Ext.trans ?_ (by assumption)))
set_option maxHeartbeats 1000000 in
theorem c_flightOk (id to : Int) (bytes : ByteArray) (hb : bytes.size ≤ 9223372036854775807) (w : World) :
  Calls Tryz.prog 64 #[.int .i64 to, .string bytes] w fun e w' => e = .returned (.bool (flB ⟨id, to, bytes⟩)) ∧ Ext w w' := by
 go_enter Tryz.func64, Tryz.ntmps64
 go_wp2_with (first | (go_at_call 65; refine (c_from _ _ _ _).mono ?_; rintro e w1 ⟨rfl, hx⟩; obtain ⟨hc1, hf1, hs1⟩ := hx.rules; (try simp at hs1)))
 all_goals
  go_ret
  refine ⟨ret_bool ?_, ?_⟩
  ·(first | (simp [flB, *]; done) | (simp_all [flB]; done) | (simp_all [flB]; omega))
  ·(repeat (first | with_reducible exact ext_refl _ | with_reducible refine ext_to ?_ _ | with_reducible refine ext_set ?_ (by first | (simp; done) | (simp; omega) | omega) _ | with_reducible refine ext_drew ?_ | with_reducible refine Ext.trans ?_ (by assumption)))
theorem wrap_next {next : Int} (h : inB next 0 1000000000 = true) : wrap64 (next - 1) = next - 1 := by
 rw [inB_yes] at h
 unfold wrap64
 omega
theorem netNo_4w {next : Int} {l : List Fl} {k : Nat} (hk : k < l.length) (h : inB l[k].id 0 (wrap64 (next - 1)) = false) : netOk next l = false := by
 cases q : inB next 0 1000000000
 ·exact netNo_1 q
 ·rw [wrap_next q] at h
  exact netNo_4 hk h
theorem netYes_w {next : Int} {l : List Fl} (h3 : FlTo (wrap64 (next - 1)) l l.length) (h1 : inB next 0 1000000000 = true) : netOk next l = decide ((l.length : Int) ≤ 60) := by
 rw [wrap_next h1] at h3
 by_cases h : l.length ≤ 60
 ·rw [netYes h1 h h3]; simp; omega
 ·rw [netNo_2 h]; simp; omega
abbrev Nt.obj (next : Int) (A : Option Addr) (n c : Nat) : Obj := .cells #[.int .i64 next, .slice A n c] 34
set_option maxRecDepth 100000 in
set_option maxHeartbeats 8000000 in
theorem c_sNetOk (next : Int) (A : Option Addr) (c : Nat) (l : List Fl) (w : World) (ha : Rd Fl.enc 3 w A c l) (hn : l.length ≤ 1048576) (hm : FlsM l) :
  Calls Tryz.prog 25 #[.agg #[.int .i64 next, .slice A l.length c]] w fun e w' => e = .returned (.bool (netOk next l)) ∧ Ext w w' := by
 have X0 := ext_alloc w (Nt.obj next A l.length c)
 have HM := Hd hm
 have HA := Hd ha
 clear ha hm
 cases q1 : inB next 0 1000000000
 ·have HN := Hd (netNo_1 (l := l) q1)
  have hc := c_l1Whole next (w.alloc (Nt.obj next A l.length c))
  rw [q1] at hc
  clear q1
  go_enter Tryz.func25, Tryz.ntmps25
  go_wp2_with fail
  refine hc.mono ?_
  rintro e w1 ⟨rfl, x1⟩
  clear hc
  go_wp2
  go_ret
  exact ⟨ret_bool HN.out.symm, Ext.trans X0 x1⟩
 have hc := c_l1Whole next (w.alloc (Nt.obj next A l.length c))
 rw [q1] at hc
 have Q1 := Hd q1
 obtain ⟨hb0, hb1⟩ := (inB_yes _ _ _).1 q1
 clear q1
 by_cases h3 : l.length ≤ 60
 ·have g3 : decide ((60 : Int) < (l.length : Int)) = false := by simp; omega
  go_enter Tryz.func25, Tryz.ntmps25
  go_wp2_with fail
  refine hc.mono ?_
  rintro e w1 ⟨rfl, x1⟩
  clear hc
  have b1 := bx_cell (x1.box (hNew (w := w) (o := Nt.obj next A l.length c) rfl))
  go_wp2
  clear b1
  go_loopw [3] (fun i wr => ∃ k : Nat, k ≤ l.length ∧ i = .int .i64 k ∧ FlTo (next - 1) l k ∧ Ext (w.alloc (Nt.obj next A l.length c)) wr) (fun i _ => l.length - (intOf i).toNat)
  case atStart => exact ⟨0, Nat.zero_le _, rfl, FlTo.zero _ _, x1⟩
  case round =>
   obtain ⟨k, hk, rfl, ht, hx0⟩ := hrel
   have HT := Hd ht
   clear ht
   have B1 := hx0.box (hNew (w := w) (o := Nt.obj next A l.length c) rfl)
   have b1 := bx_cell B1
   have z1 := bx_lt B1
   have X1 := Ext.trans X0 hx0
   by_cases hlt : k < l.length
   ·obtain ⟨ab, ao, hA, hab, a0, a1, a2⟩ := (HA.out.keep X1).atFl hlt
    subst hA
    have hcon := c_l5Flight l[k].id l[k].to l[k].bytes (HM.out _ (List.getElem_mem hlt))
    have hcon2 := c_l1In l[k].id 0 (next - 1)
    cases q2 : flB l[k]
    ·have HN := Hd (netNo_3 (next := next) hlt q2)
     have q2' : flB ⟨l[k].id, l[k].to, l[k].bytes⟩ = false := q2
     rw [q2'] at hcon
     have HC := Hd hcon
     clear hcon hcon2 q2 q2'
     go_wp2
     (refine wp_region_mix' (fun _ _ _ _ _ hq => hq) 20 (by kernel_rfl) (by kernel_rfl) (fun hg => ?_); simp only [headOps, Tc, Tz, List.filter_cons, List.filter_nil, isAlloc, Bool.not_false, Bf, if_true, if_false, List.append_nil, Dc, Dz])
     (repeat (first | (refine wpMix_plain rfl rfl ?_; go_big_quiet_step (fail); refine wpQuiet_nil ?_) | (refine wpMix_skip rfl rfl ?_; simp only [Act.put, Sa, Sz, Ss]) | (refine wpMix_det rfl rfl rfl (enters Tryz.func57 (by kernel_rfl) rfl) (fun W hW => HC.out W) rfl ?_; simp only [Act.put, Sa, Sz, Ss])))
     (refine wpMix_nil ?_; intro w2 hw2)
     go_wp2
     go_ret
     exact ⟨ret_bool HN.out.symm, Ext.trans X1 hw2⟩
    ·have q2' : flB ⟨l[k].id, l[k].to, l[k].bytes⟩ = true := q2
     rw [q2'] at hcon
     have HC := Hd hcon
     cases q3 : inB l[k].id 0 (next - 1)
     ·have HN := Hd (netNo_4 hlt q3)
      rw [q3] at hcon2
      have HC2 := Hd hcon2
      clear hcon hcon2 q2 q2' q3
      go_wp2
      (refine wp_region_mix' (fun _ _ _ _ _ hq => hq) 20 (by kernel_rfl) (by kernel_rfl) (fun hg => ?_); simp only [headOps, Tc, Tz, List.filter_cons, List.filter_nil, isAlloc, Bool.not_false, Bf, if_true, if_false, List.append_nil, Dc, Dz])
      (repeat (first | (refine wpMix_plain rfl rfl ?_; go_big_quiet_step (fail); refine wpQuiet_nil ?_) | (refine wpMix_skip rfl rfl ?_; simp only [Act.put, Sa, Sz, Ss]) | (refine wpMix_det rfl rfl rfl (enters Tryz.func57 (by kernel_rfl) rfl) (fun W hW => HC.out W) rfl ?_; simp only [Act.put, Sa, Sz, Ss]) | (refine wpMix_det rfl rfl rfl (enters Tryz.func28 (by kernel_rfl) rfl) (fun W hW => HC2.out W) rfl ?_; simp only [Act.put, Sa, Sz, Ss])))
      (refine wpMix_nil ?_; intro w2 hw2)
      go_wp2
      go_ret
      exact ⟨ret_bool HN.out.symm, Ext.trans X1 hw2⟩
     ·rw [q3] at hcon2
      have HC2 := Hd hcon2
      have Q2 := Hd q2
      have Q3 := Hd q3
      clear hcon hcon2 q2 q2' q3
      go_wp2
      (refine wp_region_mix' (fun _ _ _ _ _ hq => hq) 20 (by kernel_rfl) (by kernel_rfl) (fun hg => ?_); simp only [headOps, Tc, Tz, List.filter_cons, List.filter_nil, isAlloc, Bool.not_false, Bf, if_true, if_false, List.append_nil, Dc, Dz])
      (repeat (first | (refine wpMix_plain rfl rfl ?_; go_big_quiet_step (fail); refine wpQuiet_nil ?_) | (refine wpMix_skip rfl rfl ?_; simp only [Act.put, Sa, Sz, Ss]) | (refine wpMix_det rfl rfl rfl (enters Tryz.func57 (by kernel_rfl) rfl) (fun W hW => HC.out W) rfl ?_; simp only [Act.put, Sa, Sz, Ss]) | (refine wpMix_det rfl rfl rfl (enters Tryz.func28 (by kernel_rfl) rfl) (fun W hW => HC2.out W) rfl ?_; simp only [Act.put, Sa, Sz, Ss])))
      (refine wpMix_nil ?_; intro w2 hw2)
      have HX2 := Hd (Ext.trans hx0 hw2)
      clear b1 a0 a1 a2 z1 B1 hw2
      go_wp2
      go_loopw [4] (fun i wr2 => ∃ j : Nat, j ≤ k ∧ i = .int .i64 j ∧ (l.take j).any (sameId l[k].id) = false ∧ Ext (w.alloc (Nt.obj next (some ⟨ab, ao, none⟩) l.length c)) wr2) (fun i _ => k - (intOf i).toNat)
      case atStart => exact ⟨0, Nat.zero_le _, rfl, rfl, HX2.out⟩
      case round =>
       obtain ⟨j, hj, rfl, ht, hx3⟩ := hrel
       have HJ := Hd ht
       clear ht
       have B3 := hx3.box (hNew (w := w) (o := Nt.obj next (some ⟨ab, ao, none⟩) l.length c) rfl)
       have b3 := bx_cell B3
       have z3 := bx_lt B3
       have X3 := Ext.trans X0 hx3
       by_cases hjl : j < k
       ·obtain ⟨_, _, e1, hab', a0, a1, a2⟩ := (HA.out.keep X3).atFl hlt
        obtain ⟨rfl, rfl⟩ : ab = _ ∧ ao = _ := by simpa using e1
        obtain ⟨_, _, e2, _, c0, c1, c2⟩ := (HA.out.keep X3).atFl (show j < l.length by omega)
        obtain ⟨rfl, rfl⟩ : ab = _ ∧ ao = _ := by simpa using e2
        clear e1 e2
        cases q4 : (l[j].id == l[k].id)
        ·have HN := Hd (take_any_next (show j < l.length by omega) HJ.out q4)
         go_wp2
         (refine wp_region_mix' (fun _ _ _ _ _ hq => hq) 13 (by kernel_rfl) (by kernel_rfl) (fun hg => ?_); simp only [headOps, Tc, Tz, List.filter_cons, List.filter_nil, isAlloc, Bool.not_false, Bf, if_true, if_false, List.append_nil, Dc, Dz])
         (repeat (refine wpMix_plain rfl rfl ?_; go_big_quiet_step (fail); refine wpQuiet_nil ?_))
         (refine wpMix_nil ?_; intro w4 hw4)
         go_wp2
         go_roundw
         case rel => exact ⟨j + 1, by omega, by go_num, HN.out, Ext.trans hx3 hw4⟩
         case measure => simp [intOf] <;> omega
        ·have HN := Hd (netNo_5 (next := next) hlt (take_any_hit (show j < l.length by omega) hjl q4))
         go_wp2
         (refine wp_region_mix' (fun _ _ _ _ _ hq => hq) 13 (by kernel_rfl) (by kernel_rfl) (fun hg => ?_); simp only [headOps, Tc, Tz, List.filter_cons, List.filter_nil, isAlloc, Bool.not_false, Bf, if_true, if_false, List.append_nil, Dc, Dz])
         (repeat (refine wpMix_plain rfl rfl ?_; go_big_quiet_step (fail); refine wpQuiet_nil ?_))
         (refine wpMix_nil ?_; intro w4 hw4)
         go_wp2
         go_ret
         exact ⟨ret_bool HN.out.symm, Ext.trans X3 hw4⟩
       ·obtain rfl : j = k := by omega
        have HN := Hd (HT.out.next hlt Q2.out Q3.out HJ.out)
        go_wp2
        go_roundw
        case rel => exact ⟨j + 1, by omega, by go_num, HN.out, hx3⟩
        case measure => simp [intOf] <;> omega
   ·obtain rfl : k = l.length := by omega
    have HV := Hd (netYes Q1.out h3 HT.out)
    go_wp2
    go_ret
    exact ⟨ret_bool HV.out.symm, X1⟩
 ·have g3 : decide ((60 : Int) < (l.length : Int)) = true := by simp; omega
  have HN := Hd (netNo_2 (next := next) h3)
  clear h3
  go_enter Tryz.func25, Tryz.ntmps25
  go_wp2_with fail
  refine hc.mono ?_
  rintro e w1 ⟨rfl, x1⟩
  clear hc
  have b1 := bx_cell (x1.box (hNew (w := w) (o := Nt.obj next A l.length c) rfl))
  go_wp2
  go_ret
  exact ⟨ret_bool HN.out.symm, Ext.trans X0 x1⟩
theorem c_sameId (P : Nat) (x to : Int) (bytes : ByteArray) (f : Fl) (w : World) (hb : w.heap[P]? = some (.cells #[.int .i64 x, .int .i64 to, .string bytes] 59 (0, 0))) :
  Calls Tryz.prog 66 #[.agg #[.int .i64 f.id, .int .i64 f.to, .string f.bytes], .pointer (some ⟨P, 0, none⟩)] w fun e w' => e = .returned (.bool (sameId x f)) ∧ Ext w w' := by
 have X0 := ext_alloc w (.cells #[.int .i64 f.id, .int .i64 f.to, .string f.bytes] 59)
 have b1 := bx_cell (hOld (o := .cells #[.int .i64 f.id, .int .i64 f.to, .string f.bytes] 59) hb)
 have z1 := bx_lt hb
 have hne : ¬ P = w.heap.size := by omega
 clear hb
 go_enter Tryz.func66, Tryz.ntmps66
 go_wp2
 go_ret
 exact ⟨rfl, X0⟩
set_option maxRecDepth 100000 in
set_option maxHeartbeats 8000000 in
theorem c_iNetOk (next : Int) (A : Option Addr) (c : Nat) (l : List Fl) (w : World) (ha : Rd Fl.enc 3 w A c l) (hn : l.length ≤ 1048576) (hm : FlsM l) :
  Calls Tryz.prog 33 #[.agg #[.int .i64 next, .slice A l.length c]] w fun e w' => e = .returned (.bool (netOk next l)) ∧ Ext w w' := by
 have X0 := ext_alloc w (Nt.obj next A l.length c)
 have HM := Hd hm
 have HA := Hd ha
 have hcc := ha.1
 have hcm := ha.2.1
 unfold maxLen at hcm
 clear ha hm
 go_enter Tryz.func33, Tryz.ntmps33
 go_wp2
 go_loopw [8] (fun i wr => ∃ k : Nat, k ≤ l.length ∧ i = .int .i64 k ∧ FlTo (wrap64 (next - 1)) l k ∧ Ext (w.alloc (Nt.obj next A l.length c)) wr) (fun i _ => l.length - (intOf i).toNat)
 case atStart => exact ⟨0, Nat.zero_le _, rfl, FlTo.zero _ _, ext_refl _⟩
 case round =>
  obtain ⟨k, hk, rfl, ht, hx0⟩ := hrel
  have HT := Hd ht
  clear ht
  have B1 := hx0.box (hNew (w := w) (o := Nt.obj next A l.length c) rfl)
  have b1 := bx_cell B1
  have z1 := bx_lt B1
  have X1 := Ext.trans X0 hx0
  by_cases hlt : k < l.length
  ·obtain ⟨ab, ao, hA, hab, a0, a1, a2⟩ := (HA.out.keep X1).atFl hlt
   subst hA
   have hab1 : ¬ ab = wr.heap.size := by omega
   have hab2 : ab < wr.heap.size + 1 := by omega
   have X2 : Ext w (wr.alloc (.cells #[.int .i64 l[k].id, .int .i64 l[k].to, .string l[k].bytes] 59)) := ext_to X1 _
   have hcon := c_flightOk l[k].id l[k].to l[k].bytes (HM.out _ (List.getElem_mem hlt))
   have hcon2 := c_from l[k].id 0 (wrap64 (next - 1))
   have hcon3 := fun W (h : Ext (wr.alloc (.cells #[.int .i64 l[k].id, .int .i64 l[k].to, .string l[k].bytes] 59)) W) => c_anyFl 66 #[.pointer (some ⟨wr.heap.size, 0, none⟩)] (sameId l[k].id) (enters Tryz.func66 (by kernel_rfl) rfl) (some ⟨ab, ao, none⟩) c (l.take k) W (((HA.out.keep (Ext.trans X2 h))).take k) (by rw [List.length_take]; omega) (fun W2 h2 j hj => c_sameId wr.heap.size l[k].id l[k].to l[k].bytes (l.take k)[j] W2 ((Ext.trans h h2).box (hNew (w := wr) rfl)))
   have htl : (l.take k).length = k := by rw [List.length_take]; omega
   rw [htl] at hcon3
   clear htl
   cases q2 : flB l[k]
   ·have HN := Hd (netNo_3 (next := next) hlt q2)
    have q2' : flB ⟨l[k].id, l[k].to, l[k].bytes⟩ = false := q2
    rw [q2'] at hcon
    have HC := Hd hcon
    clear hcon hcon2 hcon3 q2 q2'
    go_wp2_with fail
    refine (HC.out _).mono ?_
    rintro e w3 ⟨rfl, x3⟩
    go_wp2
    go_ret
    exact ⟨ret_bool HN.out.symm, Ext.trans X2 x3⟩
   ·have q2' : flB ⟨l[k].id, l[k].to, l[k].bytes⟩ = true := q2
    rw [q2'] at hcon
    have HC := Hd hcon
    have Q2 := Hd q2
    clear hcon q2 q2'
    cases q3 : inB l[k].id 0 (wrap64 (next - 1))
    ·have HN := Hd (netNo_4w hlt q3)
     rw [q3] at hcon2
     have HC2 := Hd hcon2
     clear hcon2 hcon3 q3
     go_wp2_with fail
     refine (HC.out _).mono ?_
     rintro e w3 ⟨rfl, x3⟩
     have C1 := bx_cell (x3.box (hOld (o := .cells #[.int .i64 l[k].id, .int .i64 l[k].to, .string l[k].bytes] 59) B1))
     have C2 := bx_cell (x3.box (hNew (w := wr) (o := .cells #[.int .i64 l[k].id, .int .i64 l[k].to, .string l[k].bytes] 59) rfl))
     go_wp2_with fail
     refine (HC2.out _).mono ?_
     rintro e w4 ⟨rfl, x4⟩
     go_wp2
     go_ret
     exact ⟨ret_bool HN.out.symm, Ext.trans X2 (Ext.trans x3 x4)⟩
    ·rw [q3] at hcon2
     have HC2 := Hd hcon2
     have Q3 := Hd q3
     clear hcon2 q3
     cases q4 : (l.take k).any (sameId l[k].id)
     ·have HN := Hd (HT.out.next hlt Q2.out Q3.out q4)
      rw [q4] at hcon3
      have HC3 := Hd hcon3
      clear hcon3 q4
      go_wp2_with fail
      refine (HC.out _).mono ?_
      rintro e w3 ⟨rfl, x3⟩
      have C1 := bx_cell (x3.box (hOld (o := .cells #[.int .i64 l[k].id, .int .i64 l[k].to, .string l[k].bytes] 59) B1))
      have C2 := bx_cell (x3.box (hNew (w := wr) (o := .cells #[.int .i64 l[k].id, .int .i64 l[k].to, .string l[k].bytes] 59) rfl))
      go_wp2_with fail
      refine (HC2.out _).mono ?_
      rintro e w4 ⟨rfl, x4⟩
      have D1 := bx_cell ((Ext.trans x3 x4).box (hOld (o := .cells #[.int .i64 l[k].id, .int .i64 l[k].to, .string l[k].bytes] 59) B1))
      clear C1 C2
      go_wp2_with fail
      refine (HC3.out _ (Ext.trans x3 x4)).mono ?_
      rintro e w5 ⟨rfl, x5⟩
      go_wp2
      go_roundw
      case rel => exact ⟨k + 1, by omega, by go_num, HN.out, Ext.trans (ext_to hx0 _) (Ext.trans x3 (Ext.trans x4 x5))⟩
      case measure => simp [intOf] <;> omega
     ·have HN := Hd (netNo_5 (next := next) hlt q4)
      rw [q4] at hcon3
      have HC3 := Hd hcon3
      clear hcon3 q4
      go_wp2_with fail
      refine (HC.out _).mono ?_
      rintro e w3 ⟨rfl, x3⟩
      have C1 := bx_cell (x3.box (hOld (o := .cells #[.int .i64 l[k].id, .int .i64 l[k].to, .string l[k].bytes] 59) B1))
      have C2 := bx_cell (x3.box (hNew (w := wr) (o := .cells #[.int .i64 l[k].id, .int .i64 l[k].to, .string l[k].bytes] 59) rfl))
      go_wp2_with fail
      refine (HC2.out _).mono ?_
      rintro e w4 ⟨rfl, x4⟩
      have D1 := bx_cell ((Ext.trans x3 x4).box (hOld (o := .cells #[.int .i64 l[k].id, .int .i64 l[k].to, .string l[k].bytes] 59) B1))
      clear C1 C2
      go_wp2_with fail
      refine (HC3.out _ (Ext.trans x3 x4)).mono ?_
      rintro e w5 ⟨rfl, x5⟩
      go_wp2
      go_ret
      exact ⟨ret_bool HN.out.symm, Ext.trans X2 (Ext.trans x3 (Ext.trans x4 x5))⟩
  ·obtain rfl : k = l.length := by omega
   have hw := c_isWhole next wr
   cases q1 : inB next 0 1000000000
   ·have HN := Hd (netNo_1 (l := l) q1)
    rw [q1] at hw
    have HW := Hd hw
    clear hw q1
    go_wp2_with fail
    refine HW.out.mono ?_
    rintro e w3 ⟨rfl, x3⟩
    go_wp2
    go_ret
    exact ⟨ret_bool HN.out.symm, Ext.trans X1 x3⟩
   ·have HN := Hd (netYes_w HT.out q1)
    rw [q1] at hw
    have HW := Hd hw
    clear hw q1
    go_wp2_with fail
    refine HW.out.mono ?_
    rintro e w3 ⟨rfl, x3⟩
    have C1 := bx_cell (x3.box B1)
    go_wp2
    go_ret
    exact ⟨ret_bool HN.out.symm, Ext.trans X1 x3⟩
end Go.Proofs.YtmphedkbdlckhaaGreat
