/- SplitAt of the program and of the reference. -/
import Derived.Test.YtgebfcmkcggdmaaGt
import Derived.Test.YtgebfcmkcggdmaaIns
namespace Go.Proofs.Ytgebfcmkcggdmaa
open Go.ChangeShapes Go.WideShapes Go.ChangeAt Go.RowKit Go.Sort
set_option linter.unusedVariables false
set_option linter.unusedSimpArgs false

def spB (l : List Prt) (key : Int) : Bool := decide (0 ≤ partAtV l key) && !decide ((l.getD (partAtV l key).toNat Prt.z).lo = key) && !decide (l.length = 16)
def spL (l : List Prt) (k : Nat) (key : Int) : List Prt := l.take k ++ ⟨(l.getD k Prt.z).lo, key, (l.getD k Prt.z).owner⟩ :: ⟨key, (l.getD k Prt.z).hi, (l.getD k Prt.z).owner⟩ :: l.drop (k + 1)
def spV (l : List Prt) (key : Int) : List Prt := if spB l key = true then spL l (partAtV l key).toNat key else []
theorem sp_no {l : List Prt} {key : Int} (h : spB l key = false) : false = spB l key ∧ spV l key = [] := by
  unfold spV; rw [h]; simp
theorem sp_yes {l : List Prt} {key : Int} {k : Nat} (hk : partAtV l key = k) (hkl : k < l.length) (h1 : ¬ l[k].lo = key) (h2 : ¬ l.length = 16) : true = spB l key ∧ spV l key = spL l k key := by
  have hb : spB l key = true := by unfold spB; rw [hk]; simp [hkl, h1, h2]
  unfold spV; rw [hb, hk]; simp
theorem spL_set (l : List Prt) (k : Nat) (key : Int) (hk : k < l.length) : (l.take (k + 1) ++ ⟨key, l[k].hi, l[k].owner⟩ :: l.drop (k + 1)).set k ⟨l[k].lo, key, l[k].owner⟩ = spL l k key := by
  unfold spL
  rw [List.take_succ_eq_append_getElem hk, List.append_assoc, List.set_append_right _ _ (by simp; omega)]
  have e : k - (l.take k).length = 0 := by simp; omega
  rw [e]
  simp [hk]
theorem spV_len (l : List Prt) (key : Int) : (spV l key).length ≤ l.length + 1 := by
  unfold spV
  split
  · rename_i h
    unfold spB at h
    simp only [Bool.and_eq_true, decide_eq_true_eq] at h
    obtain ⟨k, hk, hkl, _⟩ := partAtV_lt h.1.1
    rw [hk]
    simp [spL]
    omega
  · simp
/-- the hi's cell written: the row -/
theorem hi_rowP (l : List Prt) (m : Nat) (hm : m < l.length) (y : Int) : (l.flatMap Prt.enc).set (m * 3 + 1) (.int .i64 y) = (l.set m ⟨l[m].lo, y, l[m].owner⟩).flatMap Prt.enc := by
  have h := setAll_one Prt.enc_len l m hm ⟨l[m].lo, y, l[m].owner⟩
  rw [← h]
  have g0 := flat_get Prt.enc_len l m hm 0 (by omega)
  have g2 := flat_get Prt.enc_len l m hm 2 (by omega)
  have e0 : (l.flatMap Prt.enc).set (m * 3) (.int .i64 l[m].lo) = l.flatMap Prt.enc := list_set_self (by simpa [Prt.enc] using g0)
  have e2 : ((l.flatMap Prt.enc).set (m * 3 + 1) (.int .i64 y)).set (m * 3 + 1 + 1) (.int .i64 l[m].owner) = (l.flatMap Prt.enc).set (m * 3 + 1) (.int .i64 y) := list_set_self (by rw [List.getElem?_set_ne (by omega)]; simpa [Prt.enc] using g2)
  simp only [Prt.enc, setAll]
  rw [e0]
  exact e2.symm

def isOwP (l : List Prt) (B : Nat) (v : Value) (W : World) : Prop := ∃ g c, v = .slice (some ⟨g, 0, none⟩) l.length c ∧ Ow Prt.enc 37 3 W B v l
theorem isOwP.mono {l : List Prt} {B : Nat} : Mono (isOwP l B) := fun v _ _ ⟨g, c, h, o⟩ hx => ⟨g, c, h, o.kept hx⟩
theorem isOwP.ow {l : List Prt} {B : Nat} {v : Value} {W : World} (h : isOwP l B v W) : Ow Prt.enc 37 3 W B v l := h.choose_spec.choose_spec.2
theorem c_cloneOw (A : Option Addr) (c : Nat) (l : List Prt) (W w1 : World) (ha : Rd Prt.enc 3 W A c l) (hn : l.length ≤ 1048576) (hW : Ext w1 W) (h0 : 0 < l.length) :
    Calls Try.prog 20 #[.slice A l.length c] W fun e w' => ∃ v, e = .returned v ∧ isOwP l w1.heap.size v w' ∧ Ext W w' :=
  (c_clonePartS A c l W ha hn).mono fun e w' ⟨v, he, o, x⟩ => by
    obtain ⟨g, c', rfl, _, _⟩ := o.base h0
    exact ⟨_, he, ⟨g, c', rfl, o.less hW.size⟩, x⟩
set_option maxHeartbeats 2000000 in
theorem c_iSplitAt (A : Option Addr) (c : Nat) (l : List Prt) (key : Int) (w : World) (ha : Rd Prt.enc 3 w A c l) (hn : l.length ≤ 1048576) :
    Calls Try.prog 6 #[.slice A l.length c, .int .i64 key] w fun e w' => ∃ v, e = .returned (.tuple #[v, .bool (spB l key)]) ∧ Ow Prt.enc 37 3 w' w.heap.size v (spV l key) ∧ Ext w w' := by
  have hcon := c_iPartAt A c l key w ha (by omega)
  by_cases hp : 0 ≤ partAtV l key
  · obtain ⟨k, hk, hkl, hok⟩ := partAtV_lt hp
    rw [hk] at hcon
    have h16 := (partsOk_le hok).2
    have HK := Lib.hid hk
    have hk0 : decide ((k : Int) < 0) = false := by simp
    clear hp hk hok
    by_cases hlo : l[k].lo = key
    · have HB := Lib.hid (sp_no (l := l) (key := key) (by unfold spB; rw [HK.out]; simp [hkl, hlo]))
      have hlo' : (l[k].lo == key) = true := by simpa using hlo
      clear hlo
      go_enter Try.func6, Try.ntmps6
      go_wp2_with fail
      refine hcon.mono ?_
      rintro e w1 ⟨rfl, x1⟩
      clear hcon
      obtain ⟨ab, ao, rfl, hab, a0, a1, a2⟩ := (ha.keep x1).atPrt hkl
      go_wp2
      go_ret2
      exact ⟨_, ret_vb HB.out.1, by rw [HB.out.2]; exact World.ownsRow_nil _ _ _ _, x1⟩
    · have hlo' : (l[k].lo == key) = false := by simpa using hlo
      by_cases hl16 : l.length = 16
      · have HB := Lib.hid (sp_no (l := l) (key := key) (by unfold spB; simp [hl16]))
        have hl' : ((l.length : Int) == 16) = true := by simp; omega
        clear hlo hl16
        go_enter Try.func6, Try.ntmps6
        go_wp2_with fail
        refine hcon.mono ?_
        rintro e w1 ⟨rfl, x1⟩
        clear hcon
        obtain ⟨ab, ao, rfl, hab, a0, a1, a2⟩ := (ha.keep x1).atPrt hkl
        go_wp2
        go_ret2
        exact ⟨_, ret_vb HB.out.1, by rw [HB.out.2]; exact World.ownsRow_nil _ _ _ _, x1⟩
      · have HB := Lib.hid (sp_yes HK.out hkl hlo hl16)
        have hl' : ((l.length : Int) == 16) = false := by simp; omega
        clear hlo hl16
        go_enter Try.func6, Try.ntmps6
        go_wp2_with fail
        refine hcon.mono ?_
        rintro e w1 ⟨rfl, x1⟩
        clear hcon
        obtain ⟨ab, ao, rfl, hab, a0, a1, a2⟩ := (ha.keep x1).atPrt hkl
        go_wp2
        have X1 := Lib.hid x1
        clear x1
        (refine wp_region_mix' (fun _ _ _ _ _ hq => hq) 17 (by kernel_rfl) (by kernel_rfl) (fun hg => ?_); simp only [headOps, List.take_succ_cons, List.take_zero, List.filter_cons, List.filter_nil, isAlloc, Bool.not_true, Bool.not_false, Bool.false_eq_true, if_true, if_false, List.cons_append, List.nil_append, List.drop_succ_cons, List.drop_zero])
        (repeat (refine wpMix_plain rfl rfl ?_; go_big_quiet_step (fail); refine wpQuiet_nil ?_))
        refine wpMix_call (isOwP l w1.heap.size) rfl rfl rfl (enters Try.func20 (by kernel_rfl) rfl) isOwP.mono (fun W hW => c_cloneOw _ c l W w1 (ha.keep (Ext.trans X1.out hW)) hn hW (by omega)) rfl ?_
        rintro v ⟨W0, _, g, cg, rfl, _⟩
        simp only [Act.put, List.setIfInBounds_toArray, List.set_cons_zero, List.set_cons_succ]
        (repeat (refine wpMix_plain rfl rfl ?_; go_big_quiet_step (fail); refine wpQuiet_nil ?_))
        (refine wpMix_alloc (.cells #[.int .i64 key, .int .i64 l[k].hi, .int .i64 l[k].owner] 37) rfl (fun W => by kernel_rfl) ?_; intro p hp hps hpi; simp only [layVal, Act.put, List.setIfInBounds_toArray, List.set_cons_zero, List.set_cons_succ])
        (refine wpMix_nil ?_; intro w2 hw2)
        obtain ⟨⟨x2, q2⟩, B2⟩ := hw2
        have o2 := q2.ow
        have hpg : p ≠ g := by
          rintro rfl
          obtain ⟨cur, hcur, hsz⟩ := own_heap o2
          rw [B2] at hcur
          simp only [Option.some.injEq, Obj.cells.injEq] at hcur
          have h3 : cur.size = 3 := by rw [← hcur.1]; rfl
          have hcg := own_cap o2
          have hk0' : k = 0 := by omega
          subst hk0'
          obtain ⟨bb, oo, hbo, _, c0, _, _⟩ := (o2.rd Prt.enc_len).2.atPrt hkl
          simp only [Option.some.injEq, Addr.mk.injEq] at hbo
          obtain ⟨rfl, rfl, _⟩ := hbo
          rw [bx_cell B2] at c0
          simp at c0
          simp [c0] at hlo'
        have X2 := Ext.trans X1.out x2
        have hgl := o2.lt g rfl
        obtain ⟨M, hM⟩ : ∃ M, l.take (k + 1) ++ (⟨key, l[k].hi, l[k].owner⟩ : Prt) :: l.drop (k + 1) = M := ⟨_, rfl⟩
        have hkM : k < M.length := by rw [← hM]; simp; omega
        have hM0 : M.length ≤ 1048577 := by rw [← hM]; simp; omega
        have HM1 := Lib.hid (show M[k] = l[k] by
          simp only [← hM]
          rw [List.getElem_append_left (by simp; omega)]
          simp)
        have HM2 := Lib.hid (show M.set k ⟨l[k].lo, key, l[k].owner⟩ = spL l k key by rw [← hM]; exact spL_set l k key hkl)
        have HC := Lib.hid (show Calls Try.prog 19 #[.slice (some ⟨g, 0, none⟩) l.length cg, .int .i64 (k + 1 : Nat), .slice (some ⟨p, 0, none⟩) 1 1] w2 fun e w' => ∃ v', e = .returned v' ∧ Ow Prt.enc 37 3 w' w1.heap.size v' M ∧ w2.grownBy w' (some g) by rw [← hM]; exact c_insPrt g cg l (k + 1) key l[k].hi l[k].owner p w1.heap.size w2 o2 B2 hpg (by omega) hn x2.size)
        clear hM q2 o2 B2
        go_wp2_with fail
        refine HC.out.mono ?_
        rintro e w3 ⟨v3, rfl, o3, g3⟩
        obtain ⟨gv, cv, rfl, hgv1, hgv2⟩ := o3.base (by omega)
        have X3 : Ext w w3 := ext_grown X2 g3 (fun q hq => by simp only [Option.some.injEq] at hq; have := X1.out.size; omega)
        obtain ⟨x, ex⟩ : ∃ x, w3.cell? ⟨gv, k * 3 + 1, none⟩ = some x := ⟨_, (World.ownsRow.cellAt o3 (k * 3 + 1) (by omega)).trans (List.getElem?_eq_getElem (by rw [flat_length Prt.enc_len]; omega))⟩
        have hfz := World.ownsRow.frozenAt o3
        have HO3 := Lib.hid o3
        clear o3 g3 a0 a1 a2
        go_wp2
        have st := World.ownsRow.stored HO3.out (k * 3 + 1) (.int .i64 key)
        go_ret2
        refine ⟨_, ret_vb HB.out.1, ?_, ext_set X3 (by have := X1.out.size; show _ ≤ gv; omega) _⟩
        rw [HB.out.2, ← HM2.out]
        have h1 := st.1
        rw [hi_rowP M k hkM, HM1.out] at h1
        exact (own_of h1 (by simp)).less X1.out.size
  · have hb : spB l key = false := by unfold spB; simp [hp]
    have HB := Lib.hid (sp_no hb)
    obtain ⟨z, hz⟩ : ∃ z, partAtV l key = z := ⟨_, rfl⟩
    rw [hz] at hp hcon
    have hz0 : decide (z < 0) = true := by simp; omega
    clear hz hb hp
    go_enter Try.func6, Try.ntmps6
    go_wp2_with fail
    refine hcon.mono ?_
    rintro e w1 ⟨rfl, x1⟩
    go_wp2
    go_ret2
    exact ⟨_, ret_vb HB.out.1, by rw [HB.out.2]; exact World.ownsRow_nil _ _ _ _, x1⟩
end Go.Proofs.Ytgebfcmkcggdmaa
