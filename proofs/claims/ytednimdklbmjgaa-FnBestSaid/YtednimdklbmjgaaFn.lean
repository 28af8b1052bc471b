/- LogFold for any number: of the reference and of the program. -/
import Derived.Test.YtednimdklbmjgaaFd
namespace Go.Proofs.Ytednimdklbmjgaa
open Go.ChangeShapes Go.WideShapes Go.ChangeAt Go.RowKit Go.Sort
set_option linter.unusedVariables false
set_option linter.unusedSimpArgs false

/-- what LogFold hands back -/
def foldR (l : Lg) (n : Int) : Lg × Bool := if hasNum l n = true then (foldL l (n - l.base).toNat, true) else (Lg.none, false)
theorem foldR_no {l : Lg} {n : Int} (h : hasNum l n = false) : foldR l n = (Lg.none, false) := by unfold foldR; rw [h]; rfl
theorem foldR_yes {l : Lg} {n : Int} (h : hasNum l n = true) : ∃ j : Nat, n = l.base + (j : Int) ∧ j ≤ l.ents.length ∧ logOk l = true ∧ foldR l n = (foldL l j, true) := by
  have h2 := hasNum_ok h
  unfold Lg.fin at h2
  refine ⟨(n - l.base).toNat, by omega, by omega, h2.1, ?_⟩
  unfold foldR
  rw [if_pos h]
theorem foldR_small (l : Lg) (n : Int) : (foldR l n).1.small := by
  cases h : hasNum l n
  · rw [foldR_no h]
    exact ⟨by show 0 ≤ 1048576; omega, by show 0 ≤ 1048576; omega, by show 0 ≤ 1048576; omega⟩
  · obtain ⟨j, _, _, hok, e⟩ := foldR_yes h
    rw [e]
    obtain ⟨_, _, h60, hI, hA⟩ := log_b hok
    have h5 := hI.all (l := l.ents.take j) (fun e he => hA e (List.mem_of_mem_take he))
    have h6 := h5.c.len
    have h7 := h5.s.len
    refine ⟨?_, ?_, ?_⟩
    · show (allI (l.cells, l.seats) (l.ents.take j)).1.length ≤ 1048576
      omega
    · show (allI (l.cells, l.seats) (l.ents.take j)).2.length ≤ 1048576
      omega
    · show (l.ents.drop j).length ≤ 1048576
      rw [List.length_drop]; omega
theorem lgF_none (w : World) (B : Nat) : LgF w B LAd.none Lg.none := ⟨RdF.nil _ _ _ _ _, RdF.nil _ _ _ _ _, RdF.nil _ _ _ _ _⟩
theorem lgO_none (w : World) (B : Nat) : LgO w B w.heap.size LAd.none Lg.none := lgO_of ⟨rfl, .inl ⟨rfl, rfl⟩⟩ ⟨rfl, .inl ⟨rfl, rfl⟩⟩ ⟨rfl, .inl ⟨rfl, rfl⟩⟩
set_option maxRecDepth 100000 in
set_option maxHeartbeats 8000000 in
theorem c_sLogImageNo (a : LAd) (l : Lg) (n : Int) (w : World) (hr : LgR w a l) (hs : l.small) (hn : hasNum l n = false) :
    Calls Try.prog 42 #[Lg.val a l, .int .i64 n] w fun e9 w' => e9 = .returned (.tuple #[.agg #[.slice none 0 0, .slice none 0 0], .bool false]) ∧ Ext w w' := by
  obtain ⟨w1, hw1⟩ : ∃ w1, ((w.alloc (Lg.obj a l)).alloc Im.zobj) = w1 := ⟨_, rfl⟩
  have X0 : Ext w w1 := by rw [← hw1]; exact ext_to (ext_alloc _ _) _
  have E1 := Lib.hid (show w1.heap[w.heap.size]? = some (Lg.obj a l) by rw [← hw1]; exact hOld (o := Im.zobj) (hNew (w := w) (o := Lg.obj a l) rfl))
  have E2 := Lib.hid (show w1.heap[w.heap.size + 1]? = some Im.zobj by rw [← hw1]; exact hNew (w := w.alloc (Lg.obj a l)) (o := Im.zobj) (k := w.heap.size + 1) (by simp))
  have X := Lib.hid X0
  have hz1_ := bx_lt E2.out
  have HW0 := Lib.hid hw1
  have hcon := c_l3Among a l n hs w1 (hr.keep X0)
  rw [hn] at hcon
  have HCon := Lib.hid hcon
  clear hcon
  clear hr hw1 X0
  go_enter Try.func42, Try.ntmps42
  go_wp2_with (with_reducible refine wl_stop 8 ?_)
  refine stop_go (F := fun W => W = w1) HW0.out ?_
  intro W1 hW1
  subst hW1
  clear HW0
  (go_wp2_with (with_reducible refine wl_stop 8 ?_); refine stop_load (E1.out) rfl Try.underlying33 (by kernel_rfl) ?_; simp only [Act.put, List.setIfInBounds_toArray, List.set_cons_zero, List.set_cons_succ])
  go_wp2_with fail
  refine HCon.out.mono ?_
  rintro e9 w2 ⟨rfl, x⟩
  obtain ⟨E1, E2, X⟩ : Hid _ ∧ Hid _ ∧ Hid _ := ⟨Lib.hid (x.box E1.out), Lib.hid (x.box E2.out), Lib.hid (Ext.trans X.out x)⟩
  have hz_w2 := x.size
  clear x
  clear HCon
  (go_wp2_with (with_reducible refine wl_stopS 30 ?_); refine stop_store ((w.heap.size + 1)) #[.slice none 0 0, .slice none 0 0] rfl rfl (E2.out) (by kernel_rfl) rfl (by simp [Value.oneCell']) ?_)
  intro W9 e8 k9
  have HE9 := Lib.hid e8
  have HX9 := Lib.hid (chg_new X.out k9 (by omega))
  clear e8 k9
  go_wp2
  exact bodyPost_ret (results_two Try.results42 rfl rfl Try.underlying30 (by kernel_rfl) HE9.out) rfl ⟨rfl, HX9.out⟩
set_option maxRecDepth 100000 in
set_option maxHeartbeats 8000000 in
theorem c_sLogFoldNo (a : LAd) (l : Lg) (n : Int) (w : World) (hr : LgR w a l) (hs : l.small) (hn : hasNum l n = false) :
    Calls Try.prog 32 #[Lg.val a l, .int .i64 n] w fun e9 w' => e9 = .returned (.tuple #[.agg #[.int .i64 0, .slice none 0 0, .slice none 0 0, .slice none 0 0], .bool false]) ∧ Ext w w' := by
  obtain ⟨w1, hw1⟩ : ∃ w1, ((w.alloc (Lg.obj a l)).alloc Lg.zobj) = w1 := ⟨_, rfl⟩
  have X0 : Ext w w1 := by rw [← hw1]; exact ext_to (ext_alloc _ _) _
  have E1 := Lib.hid (show w1.heap[w.heap.size]? = some (Lg.obj a l) by rw [← hw1]; exact hOld (o := Lg.zobj) (hNew (w := w) (o := Lg.obj a l) rfl))
  have E2 := Lib.hid (show w1.heap[w.heap.size + 1]? = some Lg.zobj by rw [← hw1]; exact hNew (w := w.alloc (Lg.obj a l)) (o := Lg.zobj) (k := w.heap.size + 1) (by simp))
  have X := Lib.hid X0
  have hz1_ := bx_lt E2.out
  have HW0 := Lib.hid hw1
  have HCon := Lib.hid (c_sLogImageNo a l n w1 (hr.keep X0) hs hn)
  clear hr hw1 X0
  go_enter Try.func32, Try.ntmps32
  go_wp2_with (with_reducible refine wl_stop 9 ?_)
  refine stop_go (F := fun W => W = w1) HW0.out ?_
  intro W1 hW1
  subst hW1
  clear HW0
  (go_wp2_with (with_reducible refine wl_stop 9 ?_); refine stop_load (E1.out) rfl Try.underlying33 (by kernel_rfl) ?_; simp only [Act.put, List.setIfInBounds_toArray, List.set_cons_zero, List.set_cons_succ])
  go_wp2_with fail
  refine HCon.out.mono ?_
  rintro e9 w2 ⟨rfl, x⟩
  obtain ⟨E1, E2, X⟩ : Hid _ ∧ Hid _ ∧ Hid _ := ⟨Lib.hid (x.box E1.out), Lib.hid (x.box E2.out), Lib.hid (Ext.trans X.out x)⟩
  have hz_w2 := x.size
  clear x
  clear HCon
  have hz_w2 := X.out.size
  have EQ := Lib.hid (hNew (w := w2) (o := Im.zobj) rfl)
  (go_wp2_with (with_reducible refine wl_stopS 30 ?_); refine stop_store (w2.heap.size) #[.slice none 0 0, .slice none 0 0] rfl rfl (EQ.out) (by kernel_rfl) rfl (by simp [Value.oneCell']) ?_)
  intro w3 e3 k3
  have x3 := chg_new (ext_alloc w2 Im.zobj) k3 (Nat.le_refl _)
  obtain ⟨E1, E2, X⟩ : Hid _ ∧ Hid _ ∧ Hid _ := ⟨Lib.hid (x3.box E1.out), Lib.hid (x3.box E2.out), Lib.hid (Ext.trans X.out x3)⟩
  clear e3 k3 x3 EQ
  (go_wp2_with (with_reducible refine wl_stopS 33 ?_); refine stop_store ((w.heap.size + 1)) #[.int .i64 0, .slice none 0 0, .slice none 0 0, .slice none 0 0] rfl rfl (E2.out) (by kernel_rfl) rfl (by simp [Value.oneCell']) ?_)
  intro W9 e8 k9
  have HE9 := Lib.hid e8
  have HX9 := Lib.hid (chg_new X.out k9 (by omega))
  clear e8 k9
  go_wp2
  exact bodyPost_ret (results_two Try.results32 rfl rfl Try.underlying33 (by kernel_rfl) HE9.out) rfl ⟨rfl, HX9.out⟩
theorem c_sFold (a : LAd) (l : Lg) (n : Int) (w : World) (hr : LgR w a l) (hs : l.small) :
    Calls Try.prog 32 #[Lg.val a l, .int .i64 n] w fun e9 w' => (∃ a', e9 = .returned (.tuple #[Lg.val a' (foldR l n).1, .bool (foldR l n).2]) ∧ LgF w' w.heap.size a' (foldR l n).1) ∧ Ext w w' := by
  cases h : hasNum l n
  · rw [foldR_no h]
    exact (c_sLogFoldNo a l n w hr hs h).mono fun e w' ⟨h1, hx⟩ => ⟨⟨LAd.none, h1, lgF_none _ _⟩, hx⟩
  · obtain ⟨j, rfl, hj, hok, e⟩ := foldR_yes h
    rw [e]
    exact c_sLogFold a l j w hr hok hj
end Go.Proofs.Ytednimdklbmjgaa
