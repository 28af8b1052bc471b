/- slices.Insert at any own row; the program's put. -/
import Derived.Test.YtgpbdpmdlkdjcaaIa
import Derived.Test.YtgpbdpmdlkdjcaaIm
namespace Go.Proofs.Ytgpbdpmdlkdjcaa
open Go.ChangeShapes Go.WideShapes Go.ChangeAt Go.RowKit Go.Sort
set_option linter.unusedVariables false
set_option linter.unusedSimpArgs false

set_option maxRecDepth 100000 in
set_option maxHeartbeats 4000000 in
theorem c_insNilCel (x0 x1 : Int) (p B : Nat) (w : World) (hv : w.heap[p]? = some (.cells #[.int .i64 x0, .int .i64 x1] 136 (0, 0))) (hB : B ≤ w.heap.size) :
    Calls Try.prog 149 #[.slice none 0 0, .int .i64 0, .slice (some ⟨p, 0, none⟩) 1 1] w fun e w' => ∃ v', e = .returned v' ∧ Ow Cel.enc 136 2 w' B v' [⟨x0, x1⟩] ∧ Ext w w' := by
  obtain ⟨i0, hi, hz0, hz1, hz2⟩ := info_parts Try.infoCel
  have HV := Lib.hid hv
  clear hv
  go_enter Try.func149, Try.ntmps149
  go_wp2_with (at_builtin; refine wl_app (enc := Cel.enc) rfl _ _ 43 rfl B 136 i0 (.agg #[.int .i64 0, .int .i64 0]) 2 16 Try.underlying43 hi hz0 hz1 hz2 rfl (by decide) Cel.enc_len Cel.one (.slice none 0 0) [] rfl (World.ownsRow_nil _ _ _ _) (some ⟨p, 0, none⟩) 1 [⟨x0, x1⟩] 1 rfl rfl (Rd.one HV.out rfl) ?c1 ?c2 ?c3 ?_)
  case c1 => unfold maxLen; simp
  case c2 => simp
  case c3 => exact hB
  intro v' w7 ho7 hg7
  have HO := Lib.hid ho7
  have HX := Lib.hid (show Ext w w7 from ext_chg (ext_refl w) (S := []) ⟨hg7.os, hg7.tape, hg7.output, hg7.size, fun k hk _ => hg7.block k hk (by simp [Value.ownBlock])⟩ (fun g hg => (List.not_mem_nil hg).elim))
  clear ho7 hg7
  go_wp2
  go_ret
  exact ⟨_, rfl, HO.out, HX.out⟩
theorem c_insAnyCel (A : Option Addr) (c : Nat) (l : List Cel) (i : Nat) (x0 x1 : Int) (p B : Nat) (w : World) (ho : Ow Cel.enc 136 2 w B (.slice A l.length c) l) (hv : w.heap[p]? = some (.cells #[.int .i64 x0, .int .i64 x1] 136 (0, 0))) (hp : p ∉ blk A) (hil : i ≤ l.length) (hn : l.length ≤ 1048576) (hB : B ≤ w.heap.size) :
    Calls Try.prog 149 #[.slice A l.length c, .int .i64 i, .slice (some ⟨p, 0, none⟩) 1 1] w fun e w' => ∃ A' c', e = .returned (.slice A' (l.take i ++ ([(⟨x0, x1⟩ : Cel)] ++ l.drop i)).length c') ∧ Ow Cel.enc 136 2 w' B (.slice A' (l.take i ++ ([(⟨x0, x1⟩ : Cel)] ++ l.drop i)).length c') (l.take i ++ ([(⟨x0, x1⟩ : Cel)] ++ l.drop i)) ∧ Chg w w' (blk A) := by
  rcases ho.2 with ⟨he, hl⟩ | ⟨g, cap, cur, he, hk⟩
  · simp only [Value.slice.injEq] at he
    obtain ⟨rfl, _, rfl⟩ := he
    obtain rfl : l = [] := List.eq_nil_of_length_eq_zero hl
    obtain rfl : i = 0 := by simpa using hil
    refine (c_insNilCel x0 x1 p B w hv hB).mono fun e w' ⟨v', h1, h2, h3⟩ => ?_
    obtain ⟨A', c', rfl⟩ := h2.form
    exact ⟨A', c', h1, h2, chg_ext _ h3⟩
  · simp only [Value.slice.injEq] at he
    obtain ⟨rfl, _, rfl⟩ := he
    refine (c_insCel g c l i x0 x1 p B w ho hv (fun e => hp (by simp [blk, e])) hil hn hB).mono fun e w' ⟨v', h1, h2, h3⟩ => ?_
    obtain ⟨A', c', rfl⟩ := h2.form
    exact ⟨A', c', h1, h2, chg_grown (A := some ⟨g, 0, none⟩) (n := l.length) (c := c) h3⟩
set_option maxRecDepth 100000 in
set_option maxHeartbeats 4000000 in
theorem c_insNilSea (x0 x1 x2 : Int) (p B : Nat) (w : World) (hv : w.heap[p]? = some (.cells #[.int .i64 x0, .int .i64 x1, .int .i64 x2] 138 (0, 0))) (hB : B ≤ w.heap.size) :
    Calls Try.prog 137 #[.slice none 0 0, .int .i64 0, .slice (some ⟨p, 0, none⟩) 1 1] w fun e w' => ∃ v', e = .returned v' ∧ Ow Sea.enc 138 3 w' B v' [⟨x0, x1, x2⟩] ∧ Ext w w' := by
  obtain ⟨i0, hi, hz0, hz1, hz2⟩ := info_parts Try.infoSea
  have HV := Lib.hid hv
  clear hv
  go_enter Try.func137, Try.ntmps137
  go_wp2_with (at_builtin; refine wl_app (enc := Sea.enc) rfl _ _ 44 rfl B 138 i0 (.agg #[.int .i64 0, .int .i64 0, .int .i64 0]) 3 24 Try.underlying44 hi hz0 hz1 hz2 rfl (by decide) Sea.enc_len Sea.one (.slice none 0 0) [] rfl (World.ownsRow_nil _ _ _ _) (some ⟨p, 0, none⟩) 1 [⟨x0, x1, x2⟩] 1 rfl rfl (Rd.one HV.out rfl) ?c1 ?c2 ?c3 ?_)
  case c1 => unfold maxLen; simp
  case c2 => simp
  case c3 => exact hB
  intro v' w7 ho7 hg7
  have HO := Lib.hid ho7
  have HX := Lib.hid (show Ext w w7 from ext_chg (ext_refl w) (S := []) ⟨hg7.os, hg7.tape, hg7.output, hg7.size, fun k hk _ => hg7.block k hk (by simp [Value.ownBlock])⟩ (fun g hg => (List.not_mem_nil hg).elim))
  clear ho7 hg7
  go_wp2
  go_ret
  exact ⟨_, rfl, HO.out, HX.out⟩
theorem c_insAnySea (A : Option Addr) (c : Nat) (l : List Sea) (i : Nat) (x0 x1 x2 : Int) (p B : Nat) (w : World) (ho : Ow Sea.enc 138 3 w B (.slice A l.length c) l) (hv : w.heap[p]? = some (.cells #[.int .i64 x0, .int .i64 x1, .int .i64 x2] 138 (0, 0))) (hp : p ∉ blk A) (hil : i ≤ l.length) (hn : l.length ≤ 1048576) (hB : B ≤ w.heap.size) :
    Calls Try.prog 137 #[.slice A l.length c, .int .i64 i, .slice (some ⟨p, 0, none⟩) 1 1] w fun e w' => ∃ A' c', e = .returned (.slice A' (l.take i ++ ([(⟨x0, x1, x2⟩ : Sea)] ++ l.drop i)).length c') ∧ Ow Sea.enc 138 3 w' B (.slice A' (l.take i ++ ([(⟨x0, x1, x2⟩ : Sea)] ++ l.drop i)).length c') (l.take i ++ ([(⟨x0, x1, x2⟩ : Sea)] ++ l.drop i)) ∧ Chg w w' (blk A) := by
  rcases ho.2 with ⟨he, hl⟩ | ⟨g, cap, cur, he, hk⟩
  · simp only [Value.slice.injEq] at he
    obtain ⟨rfl, _, rfl⟩ := he
    obtain rfl : l = [] := List.eq_nil_of_length_eq_zero hl
    obtain rfl : i = 0 := by simpa using hil
    refine (c_insNilSea x0 x1 x2 p B w hv hB).mono fun e w' ⟨v', h1, h2, h3⟩ => ?_
    obtain ⟨A', c', rfl⟩ := h2.form
    exact ⟨A', c', h1, h2, chg_ext _ h3⟩
  · simp only [Value.slice.injEq] at he
    obtain ⟨rfl, _, rfl⟩ := he
    refine (c_insSea g c l i x0 x1 x2 p B w ho hv (fun e => hp (by simp [blk, e])) hil hn hB).mono fun e w' ⟨v', h1, h2, h3⟩ => ?_
    obtain ⟨A', c', rfl⟩ := h2.form
    exact ⟨A', c', h1, h2, chg_grown (A := some ⟨g, 0, none⟩) (n := l.length) (c := c) h3⟩
theorem put_set {l : List Cel} {t v : Int} (h : hasC l t = true) : ∃ h : lbC l t < l.length, l[lbC l t].key = t ∧ putC l t v = l.set (lbC l t) ⟨t, v⟩ := by
  have hl : lbC l t < l.length := by
    rcases Nat.lt_or_ge (lbC l t) l.length with h3 | h3
    · exact h3
    · unfold hasC at h; rw [List.getElem?_eq_none h3] at h; simp at h
  refine ⟨hl, ?_, ?_⟩
  · unfold hasC at h
    rw [List.getElem?_eq_getElem hl] at h
    simp only [beq_iff_eq] at h
    omega
  · unfold putC
    rw [if_pos h, List.set_eq_take_append_cons_drop, if_pos hl]
    rfl
theorem val_row (l : List Cel) (k : Nat) (hk : k < l.length) (t v : Int) (ht : l[k].key = t) : (l.flatMap Cel.enc).set (k * 2 + 1) (.int .i64 v) = (l.set k ⟨t, v⟩).flatMap Cel.enc := by
  have h := setAll_one Cel.enc_len l k hk ⟨t, v⟩
  rw [← h]
  have g0 := flat_get Cel.enc_len l k hk 0 (by omega)
  have e0 : (l.flatMap Cel.enc).set (k * 2) (.int .i64 t) = l.flatMap Cel.enc := list_set_self (by simpa [hk, Cel.enc, ht] using g0)
  simp only [Cel.enc, setAll]
  rw [e0]
set_option maxRecDepth 100000 in
set_option maxHeartbeats 4000000 in
theorem c_putDel (A : Option Addr) (c : Nat) (l : List Cel) (t : Int) (w : World) (ha : Rd Cel.enc 2 w A c l) (hok : CsOk l) (h2 : 0 ≤ t) (h3 : t ≤ 1000000000) :
    Calls Try.prog 144 #[.slice A l.length c, .int .i64 t, .int .i64 (-1)] w fun e w' => ∃ A' c', e = .returned (.slice A' (delC l t).length c') ∧ Ow Cel.enc 136 2 w' w.heap.size (.slice A' (delC l t).length c') (delC l t) ∧ Ext w w' := by
  have hl := hok.len
  have hcon := c_cellFor A c l t w ha hok h2 h3
  have hle := lbC_le l t
  obtain ⟨n, hn⟩ : ∃ n, lbC l t = n := ⟨_, rfl⟩
  obtain ⟨b, hb⟩ : ∃ b, hasC l t = b := ⟨_, rfl⟩
  have hin : b = true → n < l.length := fun h => by rw [← hn]; exact (put_set (v := 0) (hb.trans h)).1
  have HD := Lib.hid (show delC l t = if b = true then l.take n ++ l.drop (n + 1) else l by unfold delC; rw [hb, hn])
  rw [hn, hb] at hcon
  rw [hn] at hle
  have HA := Lib.hid ha
  have HC := Lib.hid hcon
  clear ha hok hcon hn hb
  cases b
  · have HD2 := Lib.hid (HD.out.trans (if_neg (by simp)))
    clear hin
    go_enter Try.func144, Try.ntmps144
    go_wp2_with fail
    refine HC.out.mono ?_
    rintro e w1 ⟨rfl, x1⟩
    have HX := Lib.hid x1
    clear x1
    go_wp2_with fail
    refine (c_cloneCellS A c l w1 (HA.out.keep HX.out) (by omega)).mono ?_
    rintro e w2 ⟨v, rfl, o2, x2⟩
    obtain ⟨A2, c2, rfl⟩ := o2.form
    have HO := Lib.hid (o2.less HX.out.size)
    have HX2 := Lib.hid (Ext.trans HX.out x2)
    clear o2 x2
    go_wp2
    go_ret
    rw [HD2.out]
    exact ⟨A2, c2, rfl, HO.out, HX2.out⟩
  · have HD2 := Lib.hid (HD.out.trans (if_pos rfl))
    have hnl := hin rfl
    clear hin
    go_enter Try.func144, Try.ntmps144
    go_wp2_with fail
    refine HC.out.mono ?_
    rintro e w1 ⟨rfl, x1⟩
    have HX := Lib.hid x1
    clear x1
    go_wp2_with fail
    refine (c_cloneCellS A c l w1 (HA.out.keep HX.out) (by omega)).mono ?_
    rintro e w2 ⟨v, rfl, o2, x2⟩
    obtain ⟨g, c2, rfl, hgB, hgl⟩ := o2.base (by omega)
    have HO := Lib.hid o2
    have HX2 := Lib.hid (Ext.trans HX.out x2)
    have hsz := HX.out.size
    clear o2 x2
    go_wp2_with fail
    refine (c_delCell g c2 l n w1.heap.size w2 HO.out hnl (by omega)).mono ?_
    rintro e w3 ⟨rfl, o3, c3⟩
    have HO3 := Lib.hid (o3.less hsz)
    have HX3 := Lib.hid (ext_chg HX2.out c3 (fun k hk => by rw [List.mem_singleton] at hk; omega))
    obtain ⟨L, hL⟩ : ∃ L, l.take n ++ l.drop (n + 1) = L := ⟨_, rfl⟩
    rw [hL] at HO3 HD2
    rw [hL]
    clear o3 c3 hL
    go_wp2
    go_ret
    rw [HD2.out]
    exact ⟨_, _, rfl, HO3.out, HX3.out⟩
set_option maxRecDepth 100000 in
set_option maxHeartbeats 4000000 in
theorem c_putSet (A : Option Addr) (c : Nat) (l : List Cel) (t v : Int) (w : World) (ha : Rd Cel.enc 2 w A c l) (hok : CsOk l) (h2 : 0 ≤ t) (h3 : t ≤ 1000000000) (hv : 0 ≤ v) :
    Calls Try.prog 144 #[.slice A l.length c, .int .i64 t, .int .i64 v] w fun e w' => ∃ A' c', e = .returned (.slice A' (putC l t v).length c') ∧ Ow Cel.enc 136 2 w' w.heap.size (.slice A' (putC l t v).length c') (putC l t v) ∧ Ext w w' := by
  have hl := hok.len
  have hcon := c_cellFor A c l t w ha hok h2 h3
  have hle := lbC_le l t
  have q1 : (v == (-1 : Int)) = false := by simp; omega
  obtain ⟨n, hn⟩ : ∃ n, lbC l t = n := ⟨_, rfl⟩
  cases hb : hasC l t
  · have HD := Lib.hid (show putC l t v = l.take n ++ ([⟨t, v⟩] ++ l.drop n) by unfold putC; rw [hb, hn]; rfl)
    rw [hn, hb] at hcon
    rw [hn] at hle
    have HA := Lib.hid ha
    have HC := Lib.hid hcon
    clear ha hok hcon hn hb
    go_enter Try.func144, Try.ntmps144
    go_wp2_with fail
    refine HC.out.mono ?_
    rintro e w1 ⟨rfl, x1⟩
    have HX := Lib.hid x1
    clear x1
    go_wp2_with fail
    refine (c_cloneCellS A c l w1 (HA.out.keep HX.out) (by omega)).mono ?_
    rintro e w2 ⟨u, rfl, o2, x2⟩
    obtain ⟨A2, c2, rfl⟩ := o2.form
    have XA := ext_alloc w2 (.cells #[.int .i64 t, .int .i64 v] 136)
    have HP := Lib.hid (hNew (w := w2) (o := .cells #[.int .i64 t, .int .i64 v] 136) rfl)
    have hnp : w2.heap.size ∉ blk A2 := fun hm => by have := (o2.inB _ hm).2; omega
    have HB := Lib.hid (fun k (hk : k ∈ blk A2) => (o2.inB k hk).1)
    have HO := Lib.hid (o2.kept XA)
    have HX2 := Lib.hid (Ext.trans HX.out (Ext.trans x2 XA))
    have hsz := HX.out.size
    have hsz2 := x2.size
    have HIns := Lib.hid (c_insAnyCel A2 c2 l n t v w2.heap.size w1.heap.size _ HO.out HP.out hnp hle (by omega) (by simp; omega))
    clear o2 x2 XA hnp HP
    go_wp2_with fail
    refine HIns.out.mono ?_
    rintro e w3 ⟨A3, c3, rfl, o3, k3⟩
    have HO3 := Lib.hid (o3.less hsz)
    have HX3 := Lib.hid (ext_chg HX2.out k3 (fun k hk => by have := HB.out k hk; omega))
    obtain ⟨L, hL⟩ : ∃ L, l.take n ++ ([(⟨t, v⟩ : Cel)] ++ l.drop n) = L := ⟨_, rfl⟩
    rw [hL] at HO3 HD
    rw [hL]
    clear o3 k3 hL HIns
    go_wp2
    go_ret
    rw [HD.out]
    exact ⟨_, _, rfl, HO3.out, HX3.out⟩
  · obtain ⟨hin, hkey, hset⟩ := put_set (v := v) hb
    have HD := Lib.hid (show putC l t v = l.set n ⟨t, v⟩ by rw [hset, hn])
    have hnl : n < l.length := by rw [← hn]; exact hin
    have HK := Lib.hid (show l[n].key = t by simp only [hn] at hkey; exact hkey)
    rw [hn, hb] at hcon
    have HA := Lib.hid ha
    have HC := Lib.hid hcon
    clear ha hok hcon hb hin hkey hset
    clear hn
    go_enter Try.func144, Try.ntmps144
    go_wp2_with fail
    refine HC.out.mono ?_
    rintro e w1 ⟨rfl, x1⟩
    have HX := Lib.hid x1
    clear x1
    go_wp2_with fail
    refine (c_cloneCellS A c l w1 (HA.out.keep HX.out) (by omega)).mono ?_
    rintro e w2 ⟨u, rfl, o2, x2⟩
    obtain ⟨g, c2, rfl, hgB, hgl⟩ := o2.base (by omega)
    obtain ⟨x, e2⟩ : ∃ x, w2.cell? ⟨g, n * 2 + 1, none⟩ = some x := ⟨_, (World.ownsRow.cellAt o2 (n * 2 + 1) (by omega)).trans (List.getElem?_eq_getElem (by rw [flat_length Cel.enc_len]; omega))⟩
    have hfz := World.ownsRow.frozenAt o2
    have HO := Lib.hid o2
    have HX2 := Lib.hid (Ext.trans HX.out x2)
    have hsz := HX.out.size
    clear o2 x2
    go_wp2
    have s2 := World.ownsRow.stored HO.out (n * 2 + 1) (.int .i64 v)
    go_ret
    rw [HD.out]
    refine ⟨some ⟨g, 0, none⟩, c2, by rw [List.length_set]; rfl, ?_, ext_set HX2.out (by show w.heap.size ≤ g; omega) _⟩
    refine Ow.less ?_ hsz
    have h5 := s2.1
    rw [val_row l n hnl t v HK.out] at h5
    unfold Ow
    rw [List.length_set]
    exact h5
end Go.Proofs.Ytgpbdpmdlkdjcaa
