/- SplitAt of the reference. -/
import Derived.Test.YtgebfcmkcggdmaaSpl
namespace Go.Proofs.Ytgebfcmkcggdmaa
open Go.ChangeShapes Go.WideShapes Go.ChangeAt Go.RowKit Go.Sort
set_option linter.unusedVariables false
set_option linter.unusedSimpArgs false

/-- what is out behind i parts -/
def spTo (l : List Prt) (k : Nat) (key : Int) (i : Nat) : List Prt := if i ≤ k then l.take i else l.take k ++ ⟨(l.getD k Prt.z).lo, key, (l.getD k Prt.z).owner⟩ :: ⟨key, (l.getD k Prt.z).hi, (l.getD k Prt.z).owner⟩ :: (l.take i).drop (k + 1)
theorem spTo_len (l : List Prt) (k : Nat) (key : Int) (i : Nat) : (spTo l k key i).length ≤ i + 2 := by
  unfold spTo
  split
  · simp; omega
  · simp; omega
theorem spTo_other {l : List Prt} {k i : Nat} (key : Int) (hi : i < l.length) (h : ¬ i = k) : spTo l k key (i + 1) = spTo l k key i ++ [l[i]] := by
  unfold spTo
  by_cases h1 : i < k
  · rw [if_pos (by omega), if_pos (by omega), List.take_succ_eq_append_getElem hi]
  · rw [if_neg (by omega), if_neg (by omega), List.take_succ_eq_append_getElem hi, List.drop_append_of_le_length (by simp; omega)]
    simp
theorem spTo_here {l : List Prt} {k : Nat} (key : Int) (hi : k < l.length) : spTo l k key (k + 1) = spTo l k key k ++ [⟨l[k].lo, key, l[k].owner⟩] ++ [⟨key, l[k].hi, l[k].owner⟩] := by
  unfold spTo
  rw [if_neg (by omega), if_pos (Nat.le_refl _), List.drop_of_length_le (by simp; omega)]
  simp [hi]
theorem spTo_all {l : List Prt} {k : Nat} (key : Int) (hi : k < l.length) : spTo l k key l.length = spL l k key := by
  unfold spTo spL
  rw [if_neg (by omega), List.take_length]

set_option maxHeartbeats 4000000 in
set_option maxRecDepth 100000 in
theorem c_sSplitAt (A : Option Addr) (c : Nat) (l : List Prt) (key : Int) (w : World) (ha : Rd Prt.enc 3 w A c l) (hn : l.length ≤ 1048576) :
    Calls Try.prog 8 #[.slice A l.length c, .int .i64 key] w fun e w' => ∃ v, e = .returned (.tuple #[v, .bool (spB l key)]) ∧ Ow Prt.enc 37 3 w' w.heap.size v (spV l key) ∧ Ext w w' := by
  have hcon := c_sPartAt A c l key w ha (by omega)
  by_cases hp : 0 ≤ partAtV l key
  · obtain ⟨k, hk, hkl, hok⟩ := partAtV_lt hp
    rw [hk] at hcon
    have h16 := (partsOk_le hok).2
    have HK := Lib.hid hk
    have hk0 : decide ((k : Int) < 0) = false := by simp
    clear hp hk hok
    by_cases hlo : l[k].lo = key
    · have HB := Lib.hid (sp_no (l := l) (key := key) (by unfold spB; rw [HK.out]; simp [hkl, hlo]))
      have hlo' : (l[k].lo == key) = true := by simpa using hlo
      clear hlo
      go_enter Try.func8, Try.ntmps8
      go_wp2_with fail
      refine hcon.mono ?_
      rintro e w1 ⟨rfl, x1⟩
      clear hcon
      obtain ⟨ab, ao, rfl, hab, a0, a1, a2⟩ := (ha.keep x1).atPrt hkl
      go_wp2
      go_ret2
      exact ⟨_, ret_vb HB.out.1, by rw [HB.out.2]; exact (World.ownsRow_made _ #[] 0 x1.size (Nat.zero_le _) (by simp)), ext_to x1 _⟩
    · have hlo' : (l[k].lo == key) = false := by simpa using hlo
      by_cases hl16 : l.length = 16
      · have HB := Lib.hid (sp_no (l := l) (key := key) (by unfold spB; simp [hl16]))
        have hl' : ((l.length : Int) == 16) = true := by simp; omega
        clear hlo hl16
        go_enter Try.func8, Try.ntmps8
        go_wp2_with fail
        refine hcon.mono ?_
        rintro e w1 ⟨rfl, x1⟩
        clear hcon
        obtain ⟨ab, ao, rfl, hab, a0, a1, a2⟩ := (ha.keep x1).atPrt hkl
        go_wp2
        go_ret2
        exact ⟨_, ret_vb HB.out.1, by rw [HB.out.2]; exact (World.ownsRow_made _ #[] 0 x1.size (Nat.zero_le _) (by simp)), ext_to x1 _⟩
      · have HB := Lib.hid (sp_yes HK.out hkl hlo hl16)
        have hl' : ((l.length : Int) == 16) = false := by simp; omega
        clear hlo hl16
        obtain ⟨i0, hi, hz0, hz1, hz2⟩ := info_parts Try.infoPrt
        go_enter Try.func8, Try.ntmps8
        go_wp2_with fail
        refine hcon.mono ?_
        rintro e w1 ⟨rfl, x1⟩
        clear hcon
        obtain ⟨ab, ao, rfl, hab, a0, a1, a2⟩ := (ha.keep x1).atPrt hkl
        go_wp2
        clear a0 a1 a2
        go_loopw [7, 8] (fun o i wr => ∃ (n : Nat) (out : List Prt), n ≤ l.length ∧ i = .int .i64 n ∧ spTo l k key n = out ∧ Ow Prt.enc 37 3 wr w.heap.size o out ∧ Ext w wr) (fun _ i _ => l.length - (intOf i).toNat)
        case atStart => exact ⟨0, [], by omega, rfl, by simp [spTo], World.ownsRow_made _ #[] 0 x1.size (Nat.zero_le _) (by simp), ext_to x1 _⟩
        case round =>
          obtain ⟨n, out, hnl, rfl, hm, ho, X0⟩ := hrel
          have hol : out.length ≤ n + 2 := by rw [← hm]; exact spTo_len l k key n
          obtain ⟨Ao, co, rfl⟩ := ho.form
          have s0 := X0.size
          by_cases hlt : n < l.length
          · obtain ⟨_, _, e1, hab2, a0, a1, a2⟩ := (ha.keep X0).atPrt hlt
            simp only [Option.some.injEq, Addr.mk.injEq] at e1
            obtain ⟨rfl, rfl, _⟩ := e1
            by_cases hnk : n = k
            · subst hnk
              have hnk' : ((n : Int) == (n : Int)) = true := by simp
              have HM := Lib.hid (show spTo l n key (n + 1) = out ++ [⟨l[n].lo, key, l[n].owner⟩] ++ [⟨key, l[n].hi, l[n].owner⟩] by rw [spTo_here key hlt, hm])
              clear hm
              have HO := Lib.hid ho
              clear ho
              go_wp2_with (at_builtin; refine wpList_app rfl _ _ 24 rfl (w.heap.size) 37 i0 (.agg #[.int .i64 0, .int .i64 0, .int .i64 0]) 3 24 Try.underlying24 hi hz0 hz1 hz2 rfl (by decide) _ _ _ rfl (ownsRow_ext HO.out (ext_to (ext_alloc _ _) _)) _ 1 1 [.int .i64 l[n].lo, .int .i64 key, .int .i64 l[n].owner] rfl rfl (alloc_cellB _ _ _ _ (by first | rfl | (simp; done) | (simp; omega))) (by intro u hu; simp at hu; rcases hu with rfl | rfl | rfl <;> rfl) (by unfold maxLen; (try simp) <;> omega) (by (try simp) <;> omega) (by (try simp) <;> omega) ?_)
              intro v2 w2 o2 g2 hb2
              have Bp := box_beside (hOld (hNew (w := wr) (o := .cells #[.int .i64 l[n].lo, .int .i64 l[n].hi, .int .i64 l[n].owner] 37) rfl)) g2 (fun h => by have := HO.out.lt _ h; omega)
              have x2 := ext_app (ext_to (ext_to X0 _) _) g2 (ownsRow_ext HO.out (ext_to (ext_alloc _ _) _)) (Nat.le_refl _)
              have hv2 : ∀ q, v2.ownBlock = some q → q ≠ wr.heap.size := fun q hq => by
                rcases hb2 with h | h
                · rw [h] at hq; have := HO.out.lt q hq; omega
                · rw [h] at hq; simp at hq; omega
              have o3 := own_snoc (enc := Prt.enc) (x := ⟨l[n].lo, key, l[n].owner⟩) o2 rfl rfl
              have hol2 : (out ++ [(⟨l[n].lo, key, l[n].owner⟩ : Prt)]).length ≤ n + 3 := by simp; omega
              generalize hout2 : out ++ [(⟨l[n].lo, key, l[n].owner⟩ : Prt)] = out2 at o3 hol2
              rw [hout2] at HM
              have O2 := Lib.hid o3
              obtain ⟨A2, c2, rfl⟩ := o3.form
              have HBp := Lib.hid Bp
              have HV2 := Lib.hid (show ∀ k, (Value.slice A2 out2.length c2).ownBlock = some k → k ≠ (⟨wr.heap.size, 0, none⟩ : Addr).block from hv2)
              have e0 := bx_cell Bp 0
              have e1 := bx_cell Bp 1
              have e2 := bx_cell Bp 2
              have f0 := bx_frozen Bp
              have zl := bx_lt Bp
              simp only [List.getElem?_toArray, List.getElem?_cons_zero, List.getElem?_cons_succ] at e0 e1 e2
              clear o2 o3 g2 hb2 hv2 Bp hout2
              have s2 := x2.size
              go_wp2_with (at_builtin; refine wpList_append_own _ rfl _ _ 24 rfl (w.heap.size) 37 i0 (.agg #[.int .i64 0, .int .i64 0, .int .i64 0]) 3 24 Try.underlying24 hi hz0 hz1 hz2 rfl (by decide) _ _ _ rfl (ownsRow_ext (ownsRow_setCell (p := ⟨wr.heap.size, 0, none⟩) O2.out _ HV2.out) (ext_alloc _ _)) _ 1 1 [.int .i64 key, .int .i64 l[n].hi, .int .i64 l[n].owner] rfl rfl (alloc_cellB _ _ _ _ (by first | rfl | (simp; done) | (simp; omega))) (by intro u hu; simp at hu; rcases hu with rfl | rfl | rfl <;> rfl) (by unfold maxLen; (try simp) <;> omega) (by (try simp) <;> omega) (by (try simp) <;> omega) ?_)
              intro v4 w4 h4 g4 _
              have x4 := ext_app (ext_to (ext_set x2 (show w.heap.size ≤ wr.heap.size by omega) _) _) g4 (ownsRow_ext (ownsRow_setCell (p := ⟨wr.heap.size, 0, none⟩) O2.out _ HV2.out) (ext_alloc _ _)) (Nat.le_refl _)
              clear g4
              go_wp2
              go_roundw
              case rel => exact ⟨n + 1, out2 ++ [⟨key, l[n].hi, l[n].owner⟩], by omega, by go_num, HM.out, own_snoc h4 rfl rfl, x4⟩
              case measure => simp [intOf] <;> omega
            · have hnk' : ((n : Int) == (k : Int)) = false := by simp; omega
              have HM := Lib.hid (show spTo l k key (n + 1) = out ++ [l[n]] by rw [spTo_other key hlt hnk, hm])
              clear hm hnk
              have HO := Lib.hid ho
              clear ho
              go_wp2_with (at_builtin; refine wpList_append_own _ rfl _ _ 24 rfl (w.heap.size) 37 i0 (.agg #[.int .i64 0, .int .i64 0, .int .i64 0]) 3 24 Try.underlying24 hi hz0 hz1 hz2 rfl (by decide) _ _ _ rfl (ownsRow_ext HO.out (ext_to (ext_alloc _ _) _)) _ 1 1 [.int .i64 l[n].lo, .int .i64 l[n].hi, .int .i64 l[n].owner] rfl rfl (alloc_cellB _ _ _ _ (by first | rfl | (simp; done) | (simp; omega))) (by intro u hu; simp at hu; rcases hu with rfl | rfl | rfl <;> rfl) (by unfold maxLen; (try simp) <;> omega) (by (try simp) <;> omega) (by (try simp) <;> omega) ?_)
              intro v2 w2 h2 g2 _
              have x2 := ext_app (ext_to (ext_to X0 _) _) g2 (ownsRow_ext HO.out (ext_to (ext_alloc _ _) _)) (Nat.le_refl _)
              clear g2
              go_wp2
              go_roundw
              case rel => exact ⟨n + 1, out ++ [l[n]], by omega, by go_num, HM.out, own_snoc h2 rfl rfl, x2⟩
              case measure => simp [intOf] <;> omega
          · obtain rfl : n = l.length := by omega
            have HM := Lib.hid (show spL l k key = out by rw [← hm, spTo_all key hkl])
            clear hm
            go_wp2
            go_ret2
            exact ⟨_, ret_vb HB.out.1, by rw [HB.out.2, HM.out]; exact ho, X0⟩
  · have hb : spB l key = false := by unfold spB; simp [hp]
    have HB := Lib.hid (sp_no hb)
    obtain ⟨z, hz⟩ : ∃ z, partAtV l key = z := ⟨_, rfl⟩
    rw [hz] at hp hcon
    have hz0 : decide (z < 0) = true := by simp; omega
    clear hz hb hp
    go_enter Try.func8, Try.ntmps8
    go_wp2_with fail
    refine hcon.mono ?_
    rintro e w1 ⟨rfl, x1⟩
    go_wp2
    go_ret2
    exact ⟨_, ret_vb HB.out.1, by rw [HB.out.2]; exact (World.ownsRow_made _ #[] 0 x1.size (Nat.zero_le _) (by simp)), ext_to x1 _⟩
end Go.Proofs.Ytgebfcmkcggdmaa
