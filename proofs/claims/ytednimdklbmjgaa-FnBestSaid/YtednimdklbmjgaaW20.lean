/- FnBest: the best vote is the best one; the walk of the law. -/
import Derived.Test.YtednimdklbmjgaaBv
import Derived.Test.YtednimdklbmjgaaDf
import Derived.Test.YtednimdklbmjgaaCode
namespace Go.Proofs.Ytednimdklbmjgaa.l20
open Go.ChangeShapes Go.WideShapes Go.ChangeAt Go.RowKit Go.Joins Go.Deep Go.Sort
set_option linter.unusedVariables false
set_option linter.unusedSimpArgs false

theorem btr_iff (u v : Vt) : btr u v = true ↔ v.normal < u.normal ∨ (u.normal = v.normal ∧ v.log.fin < u.log.fin) := by simp [btr]
theorem btr_no (u v : Vt) : btr u v = false ↔ ¬ (v.normal < u.normal ∨ (u.normal = v.normal ∧ v.log.fin < u.log.fin)) := by rw [← btr_iff]; simp
def Max (ps : List VtE) (k : Nat) : Prop := match bTo ps k with
  | none => ∀ i (hi : i < ps.length), i < k → (ps[i].2.kind == 6) = false
  | some j => ∃ hj : j < ps.length, (ps[j].2.kind == 6) = true ∧ ∀ i (hi : i < ps.length), i < k → (ps[i].2.kind == 6) = true → btr ps[i].2 ps[j].2 = false
theorem max_all (ps : List VtE) : ∀ k, k ≤ ps.length → Max ps k
  | 0, _ => by
    show Max ps 0
    unfold Max
    rw [show bTo ps 0 = none from rfl]
    exact fun i hi h => absurd h (Nat.not_lt_zero _)
  | k + 1, hk => by
    have ih := max_all ps k (by omega)
    have hlt : k < ps.length := by omega
    have lastc : ∀ i, i < k + 1 → i < k ∨ i = k := fun i h => by omega
    unfold Max at ih ⊢
    cases q : (ps[k].2.kind == 6)
    · rw [bTo_kind hlt q]
      cases hb : bTo ps k with
      | none =>
        rw [hb] at ih
        intro i hi h
        rcases lastc i h with h | h
        · exact ih i hi h
        · subst h; exact q
      | some j =>
        rw [hb] at ih
        obtain ⟨hj, h1, h2⟩ := ih
        refine ⟨hj, h1, fun i hi h h6 => ?_⟩
        rcases lastc i h with h | h
        · exact h2 i hi h h6
        · subst h; rw [q] at h6; cases h6
    · cases hb : bTo ps k with
      | none =>
        rw [hb] at ih
        rw [bTo_none hlt q hb]
        refine ⟨hlt, q, fun i hi h h6 => ?_⟩
        rcases lastc i h with h | h
        · rw [ih i hi h] at h6; cases h6
        · subst h
          rw [btr_no]
          omega
      | some j =>
        rw [hb] at ih
        obtain ⟨hj, h1, h2⟩ := ih
        rw [bTo_some hlt q hb hj]
        cases hbt : btr ps[k].2 ps[j].2
        · rw [if_neg (by simp)]
          refine ⟨hj, h1, fun i hi h h6 => ?_⟩
          rcases lastc i h with h | h
          · exact h2 i hi h h6
          · subst h; exact hbt
        · rw [if_pos rfl]
          refine ⟨hlt, q, fun i hi h h6 => ?_⟩
          rcases lastc i h with h | h
          · have h3 := h2 i hi h h6
            rw [btr_iff] at hbt
            rw [btr_no] at h3 ⊢
            omega
          · subst h
            rw [btr_no]
            omega
theorem best_cases (ps : List VtE) : bestV ps = -1 ∨ ∃ j, ∃ hj : j < ps.length, bestV ps = (j : Int) ∧ VsOk ps ∧ (ps[j].2.kind == 6) = true ∧ ∀ i (hi : i < ps.length), (ps[i].2.kind == 6) = true → btr ps[i].2 ps[j].2 = false := by
  by_cases h : ps.length ≤ 20 ∧ VsOk ps
  · rw [bestV_ok h.1 h.2]
    have hm := max_all ps ps.length (Nat.le_refl _)
    unfold Max at hm
    cases hb : bTo ps ps.length with
    | none => exact .inl rfl
    | some j =>
      rw [hb] at hm
      obtain ⟨hj, h1, h2⟩ := hm
      exact .inr ⟨j, hj, rfl, h.2, h1, fun i hi h6 => h2 i hi hi h6⟩
  · left
    unfold bestV
    rw [if_neg h]

theorem c_iLogEnd (a : LAd) (l : Lg) (s1 : l.cells.length ≤ 1048576) (s2 : l.seats.length ≤ 1048576) (s3 : l.ents.length ≤ 1048576) (w : World) (hr : LgR w a l) (hok : logOk l = true) :
    Calls Try.prog 8 #[Lg.val a l] w fun e w' => e = .returned (.int .i64 l.fin) ∧ Ext w w' := by
  have X0 := ext_alloc w (Lg.obj a l)
  have hb := (inB_yes _ _ _).1 (of_decide_eq_true hok).1
  obtain ⟨hb0, hb1⟩ := hb
  have hcon := c_iLogOk a l s1 s2 s3 _ (hr.keep X0)
  rw [hok] at hcon
  go_enter Try.func8, Try.ntmps8
  go_wp2_with fail
  refine hcon.mono ?_
  rintro e w1 ⟨rfl, x1⟩
  have b1 := bx_cell (x1.box (hNew (w := w) (o := Lg.obj a l) rfl))
  clear hcon
  go_wp2_with fail
  refine (c_end a l w1 (by omega) (by omega) s3).mono ?_
  rintro e w2 ⟨rfl, x2⟩
  go_wp2
  go_ret
  exact ⟨rfl, Ext.trans X0 (Ext.trans x1 x2)⟩
theorem best_one : bestV [(LAd.none, (⟨6, 0, 0, 0, 0, 0, Lg.none⟩ : Vt))] = 0 := by decide

set_option maxHeartbeats 8000000 in
set_option maxRecDepth 100000 in
theorem walk (A : Option Addr) (n c : Nat) (w : World) (hb : BytesR w A n) (hnc : n ≤ c) (hcm : c ≤ 9223372036854775807) : Calls Try.prog 3 #[.slice A n c] w fun e w' => e = .returned (.bool true) ∧ Ext w w' := by
  by_cases hn : n ≤ 1048576
  · go_enter Try.func3, Try.ntmps3
    go_wp2_with fail
    refine (c_big_no A n c w hn).mono ?_
    rintro e w0 ⟨rfl, x0⟩
    have hc : CodeOk w0 A n w0.heap.size := ⟨hn, fun h0 => by
      obtain ⟨b, o, e, hbl, hcell⟩ := hb h0
      exact ⟨b, o, e, Nat.lt_of_lt_of_le hbl x0.size, fun k hk => by
        obtain ⟨y, hy, hy2⟩ := hcell k hk
        exact ⟨y, hy, (old_cell x0 hbl).trans hy2⟩⟩⟩
    go_wp2_with fail
    refine (c_DrawBestVote A n c w0 hc hnc hcm).mono ?_
    rintro e w1 ⟨⟨Av, cv, ps, rfl, hl, hr, hB⟩, x1⟩
    have HX1 := Lib.hid (Ext.trans x0 x1)
    have HR := Lib.hid hr
    have HS := Lib.hid (show LgS ps from fun p hp => by obtain ⟨b1, b2, b3⟩ := hB p hp; exact ⟨by omega, by omega, by omega⟩)
    clear hc hb x0 x1 hB hr
    have HCI := Lib.hid (c_iBestVote Av cv ps w1 HR.out HS.out (by omega))
    obtain ⟨nb, hnb⟩ : ∃ x, bestV ps = x := ⟨_, rfl⟩
    rw [hnb] at HCI
    go_wp2_with fail
    refine HCI.out.mono ?_
    rintro e w2 ⟨rfl, x2⟩
    have HX2 := Lib.hid x2
    have HCS := Lib.hid (c_sBestVote Av cv ps w2 (HR.out.keep x2) HS.out (by omega))
    rw [hnb] at HCS
    clear HCI x2
    have hne : (nb != nb) = false := by simp
    go_wp2_with fail
    refine HCS.out.mono ?_
    rintro e w3 ⟨rfl, x3⟩
    have HX3 := Lib.hid (Ext.trans HX2.out x3)
    have HR3 := Lib.hid (HR.out.keep HX3.out)
    have HY3 := Lib.hid (Ext.trans HX1.out HX3.out)
    clear HCS x3 HX2 HX1 HX3 HR
    have HBC := Lib.hid (best_cases ps)
    rw [hnb] at HBC
    rcases HBC.out with h1 | ⟨j, hj, h1, hok, h6, hmax⟩
    · subst h1
      clear HBC hnb
      have x4 := ext_alloc w3 (.cells #[.int .i64 6, .int .i64 0, .int .i64 0, .int .i64 0, .int .i64 0, .int .i64 0, .int .i64 0, .slice none 0 0, .slice none 0 0, .slice none 0 0] 35)
      have HC1 := Lib.hid (c_iBestVote (some ⟨w3.heap.size, 0, none⟩) 1 [(LAd.none, (⟨6, 0, 0, 0, 0, 0, Lg.none⟩ : Vt))] (w3.alloc (.cells #[.int .i64 6, .int .i64 0, .int .i64 0, .int .i64 0, .int .i64 0, .int .i64 0, .int .i64 0, .slice none 0 0, .slice none 0 0, .slice none 0 0] 35)) ⟨Rd.one (hNew rfl) rfl, fun p hp => by rw [List.mem_singleton] at hp; subst hp; exact (lgF_none _ 0).rd⟩ (fun p hp => by rw [List.mem_singleton] at hp; subst hp; exact ⟨by decide, by decide, by decide⟩) (by decide))
      rw [best_one] at HC1
      go_wp2_with fail
      refine HC1.out.mono ?_
      rintro e w5 ⟨rfl, x5⟩
      go_wp2
      go_ret
      exact ⟨rfl, Ext.trans HY3.out (Ext.trans x4 x5)⟩
    · subst h1
      clear HBC hnb
      have HMax := Lib.hid hmax
      have HOK := Lib.hid hok
      have hlo : decide ((j : Int) < 0) = false := by simp
      clear hmax hok
      go_wp2
      go_loopw [5] (fun i wr => ∃ k : Nat, k ≤ ps.length ∧ i = .int .i64 k ∧ Hid (Ext w3 wr)) (fun i _ => ps.length - (intOf i).toNat)
      case atStart => exact ⟨0, Nat.zero_le _, rfl, Lib.hid (ext_refl _)⟩
      case round =>
        obtain ⟨k, hk, rfl, X⟩ := hrel
        obtain ⟨ab, ao, hA, hab, b0, b1, b2, b3, b4, b5, b6, b7, b8, b9⟩ := (HR3.out.1.keep X.out).atVtE hj
        subst hA
        by_cases hlt : k < ps.length
        · obtain ⟨_, _, e, _, a0, a1, a2, a3, a4, a5, a6, a7, a8, a9⟩ := (HR3.out.1.keep X.out).atVtE hlt
          obtain ⟨rfl, rfl⟩ : ab = _ ∧ ao = _ := by simpa using e
          clear b1 b2 b4 b5 a1 a2 a4 a5 e
          cases q6 : (ps[k].2.kind == 6)
          · go_wp2
            (refine wp_region_mix' (fun _ _ _ _ _ hq => hq) 47 (by kernel_rfl) (by kernel_rfl) (fun hg => ?_); simp only [headOps, List.take_succ_cons, List.take_zero, List.filter_cons, List.filter_nil, isAlloc, Bool.not_false, Bool.false_eq_true, if_true, if_false, List.append_nil, List.drop_succ_cons, List.drop_zero])
            (repeat (first | (refine wpMix_plain rfl rfl ?_; go_big_quiet_step (fail); refine wpQuiet_nil ?_) | (refine wpMix_skip rfl rfl ?_; simp only [Act.put, List.setIfInBounds_toArray, List.set_cons_zero, List.set_cons_succ])))
            (refine wpMix_nil ?_; intro w4 hw4)
            go_wp2
            go_roundw
            case rel => exact ⟨k + 1, by omega, by go_num, Lib.hid (Ext.trans X.out hw4)⟩
            case measure => simp [intOf] <;> omega
          · have hno := HMax.out k hlt q6
            rw [btr_no] at hno
            have g1 : decide (ps[j].2.normal < ps[k].2.normal) = false := by simp; omega
            cases g2 : (ps[k].2.normal == ps[j].2.normal)
            · clear hno
              go_wp2
              (refine wp_region_mix' (fun _ _ _ _ _ hq => hq) 47 (by kernel_rfl) (by kernel_rfl) (fun hg => ?_); simp only [headOps, List.take_succ_cons, List.take_zero, List.filter_cons, List.filter_nil, isAlloc, Bool.not_false, Bool.false_eq_true, if_true, if_false, List.append_nil, List.drop_succ_cons, List.drop_zero])
              (repeat (first | (refine wpMix_plain rfl rfl ?_; go_big_quiet_step (fail); refine wpQuiet_nil ?_) | (refine wpMix_skip rfl rfl ?_; simp only [Act.put, List.setIfInBounds_toArray, List.set_cons_zero, List.set_cons_succ])))
              (refine wpMix_nil ?_; intro w4 hw4)
              go_wp2
              go_roundw
              case rel => exact ⟨k + 1, by omega, by go_num, Lib.hid (Ext.trans X.out hw4)⟩
              case measure => simp [intOf] <;> omega
            · have g3 : decide (ps[j].2.log.fin < ps[k].2.log.fin) = false := by
                have : ps[k].2.normal = ps[j].2.normal := by simpa using g2
                simp
                omega
              have HV := Lib.hid (fun W (h : Ext wr W) => c_iLogEnd ps[k].1 ps[k].2.log (HS.out _ (List.getElem_mem hlt)).1 (HS.out _ (List.getElem_mem hlt)).2.1 (HS.out _ (List.getElem_mem hlt)).2.2 W ((HR3.out.2 _ (List.getElem_mem hlt)).keep (Ext.trans X.out h)) (HOK.out _ (List.getElem_mem hlt)))
              have HU := Lib.hid (fun W (h : Ext wr W) => c_iLogEnd ps[j].1 ps[j].2.log (HS.out _ (List.getElem_mem hj)).1 (HS.out _ (List.getElem_mem hj)).2.1 (HS.out _ (List.getElem_mem hj)).2.2 W ((HR3.out.2 _ (List.getElem_mem hj)).keep (Ext.trans X.out h)) (HOK.out _ (List.getElem_mem hj)))
              clear hno
              go_wp2
              (refine wp_region_mix' (fun _ _ _ _ _ hq => hq) 47 (by kernel_rfl) (by kernel_rfl) (fun hg => ?_); simp only [headOps, List.take_succ_cons, List.take_zero, List.filter_cons, List.filter_nil, isAlloc, Bool.not_false, Bool.false_eq_true, if_true, if_false, List.append_nil, List.drop_succ_cons, List.drop_zero])
              (repeat (first | (refine wpMix_plain rfl rfl ?_; go_big_quiet_step (fail); refine wpQuiet_nil ?_) | (refine wpMix_skip rfl rfl ?_; simp only [Act.put, List.setIfInBounds_toArray, List.set_cons_zero, List.set_cons_succ]) | (refine wpMix_det rfl rfl rfl (enters Try.func8 (by kernel_rfl) rfl) (fun W hW => HV.out W hW) rfl ?_; simp only [Act.put, List.setIfInBounds_toArray, List.set_cons_zero, List.set_cons_succ]) | (refine wpMix_det rfl rfl rfl (enters Try.func8 (by kernel_rfl) rfl) (fun W hW => HU.out W hW) rfl ?_; simp only [Act.put, List.setIfInBounds_toArray, List.set_cons_zero, List.set_cons_succ])))
              (refine wpMix_nil ?_; intro w4 hw4)
              go_wp2
              go_roundw
              case rel => exact ⟨k + 1, by omega, by go_num, Lib.hid (Ext.trans X.out hw4)⟩
              case measure => simp [intOf] <;> omega
        · obtain rfl : k = ps.length := by omega
          go_wp2
          go_ret
          exact ⟨rfl, Ext.trans HY3.out X.out⟩
  · go_enter Try.func3, Try.ntmps3
    go_wp2_with fail
    refine (c_big_yes A n c w (by omega) (by omega)).mono ?_
    rintro e w0 ⟨rfl, x0⟩
    go_wp2
    go_ret
    exact ⟨rfl, x0⟩
end Go.Proofs.Ytednimdklbmjgaa.l20
