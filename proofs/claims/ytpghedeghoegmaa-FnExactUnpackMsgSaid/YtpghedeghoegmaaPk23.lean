/- Regions that draw their order and store a whole result beside reads. -/
import Derived.Test.YtpghedeghoegmaaPk22
import Derived.Test.YtpghedeghoegmaaPk6
import Derived.Test.YtpghedeghoegmaaPk11
import Derived.Test.YtpghedeghoegmaaPk19
import Derived.Test.YtpghedeghoegmaaPk18
import Derived.Test.YtpghedeghoegmaaPk10
import Derived.Test.YtpghedeghoegmaaPk21
namespace Go.Proofs.Ytpghedeghoegmaa
open Go.ChangeShapes Go.WideShapes Go.ChangeAt Go.RowKit Go.Sort
set_option linter.unusedVariables false
set_option linter.unusedSimpArgs false

/-- worlds only grow -/
def relE (B : Nat) : Rm.Rel where
  rel := Ext
  base := B
  refl := ext_refl
  trans _ _ _ h k := Ext.trans h k
  ext _ _ h := h
  size _ _ h := h.size
  keep _ _ h p _ hlt := h.block p hlt
/-- the box p may be set to obj, and nothing else turns -/
def relS (p : Nat) (obj : Obj) (B : Nat) (hp : p < B) : Rm.Rel where
  rel a b := Chg a b [p] ∧ (p < a.heap.size → b.heap[p]? = a.heap[p]? ∨ b.heap[p]? = some obj)
  base := B
  refl w := ⟨Chg.refl w _, fun _ => .inl rfl⟩
  trans a b c h k := ⟨h.1.trans k.1, fun hlt => by
    rcases k.2 (Nat.lt_of_lt_of_le hlt h.1.size) with e | e
    · rw [e]; exact h.2 hlt
    · exact .inr e⟩
  ext a b h := ⟨chg_ext _ h, fun hlt => .inl (h.block p hlt)⟩
  size a b h := h.1.size
  keep a b h q hq hlt := h.1.block q hlt (by rw [List.mem_singleton]; omega)
/-- what the store of the result is promised to do -/
def stored (p : Nat) (obj : Obj) : Option Tmp → Value → World → Prop := fun d _ W => d = none → W.heap[p]? = some obj
theorem stored_mono (p : Nat) (obj : Obj) (B : Nat) (hp : p < B) (d : Option Tmp) : Rm.Mono (relS p obj B hp) (stored p obj d) := fun v w w' h hx hd => by
  have h1 := h hd
  rcases hx.2 (bx_lt h1) with e | e
  · rw [e]; exact h1
  · exact e
theorem relS_box {p g : Nat} {obj o : Obj} {B : Nat} {hp : p < B} {w : World} (h : w.heap[g]? = some o) (hne : g ≠ p) : ∀ W, (relS p obj B hp).rel w W → W.heap[g]? = some o := fun W hW => (hW.1.block g (bx_lt h) (by rw [List.mem_singleton]; exact hne)).trans h
section
variable {P : Program} {ops : Array Oper} {w : World} {L : (World → Prop) → Act → Prop} {o : Oper} {rest : List Oper} {C : World → Prop} {ps : List Nat} {a : Act}
theorem wpMix_st {p : Nat} {cs old : Array Value} {T : TypeId} {B : Nat} {hp : p < B} {N : Nat} {ty : TypeId} {x y : Operand} (hg : w.heap[p]? = some (.cells old T (0, 0))) (hop : o.op = .store ty x y) (hd : o.dst = none) (hw : Region.wanted o (yielded ops a.tmps) = true)
    (hx : a.eval x = .pointer (some ⟨p, 0, none⟩)) (hy : a.eval y = .agg cs) (hi : (P.info? ty).map (·.size) = some cs.size) (hold : old.size = cs.size) (h1 : cs.all (·.oneCell') = true)
    (h : Rm.Mx (relS p (.cells cs T (0, 0)) B hp) P ops ((relS p (.cells cs T (0, 0)) B hp).rel w) (N, stored p (.cells cs T (0, 0))) L rest (fun W => C W ∧ W.heap[p]? = some (.cells cs T (0, 0))) ps (a.put none undef)) :
    Rm.Mx (relS p (.cells cs T (0, 0)) B hp) P ops ((relS p (.cells cs T (0, 0)) B hp).rel w) (N, stored p (.cells cs T (0, 0))) L (o :: rest) C ps a := by
  refine Rm.wpMix_store (by unfold isAlloc; rw [hop]) (by unfold Rm.isApp; rw [hop]) hw (stored_mono _ _ _ _ _) (fun W hW => ?_) (fun v hv => ?_)
  · have hgW : ∃ old' : Array Value, W.heap[p]? = some (.cells old' T (0, 0)) ∧ old'.size = cs.size := by
      rcases hW.2 (bx_lt hg) with e | e
      · exact ⟨old, by rw [e]; exact hg, hold⟩
      · exact ⟨cs, e, rfl⟩
    obtain ⟨old', hg', hs'⟩ := hgW
    refine ⟨W.setRow p cs, ?_, fun _ => setRow_heap W p old' cs T (0, 0) hg', chg_setRow W p cs, fun _ => .inr (setRow_heap W p old' cs T (0, 0) hg')⟩
    unfold execOp
    simp only [hop, hx, hy, Instr.storeAt, Instr.sureAddr, Sem.run_bind, Sem.run_pure, Result.andThen_ok, run_storeVar_row W p T ty old' cs hg' hi hs' h1]
  · rw [hd]
    have e : (fun W => C W ∧ stored p (.cells cs T (0, 0)) o.dst v W) = (fun W => C W ∧ W.heap[p]? = some (.cells cs T (0, 0))) := by
      funext W
      simp [stored, hd]
    show Rm.Mx _ P ops _ _ L rest (fun W => C W ∧ stored p (.cells cs T (0, 0)) none v W) ps (a.put none v)
    rw [hd] at e
    rw [e]
    exact h
end
/-- a box of another type is no block of an own row -/
theorem box_apart {α : Type} {enc : α → List Value} {e T : TypeId} {sz : Nat} {w : World} {B p : Nat} {cs : Array Value} {A : Option Addr} {n c : Nat} {l : List α} (h : w.heap[p]? = some (.cells cs T (0, 0))) (k : Ow enc e sz w B (.slice A n c) l) (hne : T ≠ e) : p ∉ blk A := fun hm => by
  rcases k.2 with ⟨h2, _⟩ | ⟨g, cap, cur, hv, hb, hh, r⟩
  · simp only [Value.slice.injEq] at h2
    rw [h2.1] at hm
    simp [blk] at hm
  · simp only [Value.slice.injEq] at hv
    rw [hv.1] at hm
    simp only [blk, List.mem_singleton] at hm
    subst hm
    rw [h] at hh
    simp only [Option.some.injEq, Obj.cells.injEq] at hh
    exact hne hh.2.1
theorem lg_box_apart {w : World} {B T p : Nat} {a : LAd} {l : Lg} {cs : Array Value} {t : TypeId} (h : w.heap[p]? = some (.cells cs t (0, 0))) (k : LgO w B T a l) (h1 : t ≠ 101) (h2 : t ≠ 103) (h3 : t ≠ 105) : p ∉ a.fp := fun hm => by
  unfold LAd.fp at hm
  rw [List.mem_append, List.mem_append] at hm
  rcases hm with (hm | hm) | hm
  · exact box_apart h k.c h1 hm
  · exact box_apart h k.s h2 hm
  · exact box_apart h k.e h3 hm
/-- the load of a whole struct by a guarded operation that is wanted -/
theorem stop_loadG {P : Program} {ops : Array Oper} {Q : Exit → Act → World → Prop} {l : List Oper} {a : Act} {w : World} {ty : TypeId} {x : Operand} {d : Nat} {rt : TypeId} {pos : String} {af : Array Edge} {gu : Option (Nat × Bool)} {g : Nat} {cs : Array Value} {t : TypeId} {fs : Array Field}
    (hg : w.heap[g]? = some (.cells cs t (0, 0))) (hw : Region.wanted ({ dst := some d, op := .load ty x, type := rt, pos := pos, after := af, guard := gu } : Oper) (yielded ops a.tmps) = true) (hx : a.eval x = .pointer (some ⟨g, 0, none⟩)) (hu : P.underlying ty = some (.struct fs)) (hi : (P.info? ty).map (·.size) = some cs.size)
    (h : wpList P ops Q l (a.put (some d) (.agg cs)) w) : Stop (wpList P ops Q ({ dst := some d, op := .load ty x, type := rt, pos := pos, after := af, guard := gu } :: l) a w) :=
  BigFrame.wpList_want hw fun _ hK => wp_load_row ty x rfl g hx t cs (0, 0) _ hg hu rfl hi (hK _ _ h)
end Go.Proofs.Ytpghedeghoegmaa

/- Logs as bytes: PackLog of the reference and of the program, of a right log. -/
namespace Go.Proofs.Ytpghedeghoegmaa
open Go.ChangeShapes Go.WideShapes Go.ChangeAt Go.RowKit Go.Sort
set_option linter.unusedVariables false
set_option linter.unusedSimpArgs false

theorem ow_box {α : Type} {enc : α → List Value} {sz : Nat} {w : World} {p B : Nat} {cs : Array Value} {e : TypeId} {l : List α} (h : w.heap[p]? = some (.cells cs e (0, 0))) (hB : B ≤ p) (hlen : ∀ x, (enc x).length = sz) (hc : cs.toList = l.flatMap enc) (hm : l.length ≤ maxLen) : Ow enc e sz w B (.slice (some ⟨p, 0, none⟩) l.length l.length) l := by
  have hf := flat_length hlen l
  have hs : cs.size = l.length * sz := by rw [← Array.length_toList, hc, hf]
  exact ⟨hf, .inr ⟨p, l.length, cs, rfl, hB, h, Nat.le_refl _, hm, hs, by rw [List.take_of_length_le (by rw [Array.length_toList, hs]; exact Nat.le_refl _), hc]⟩⟩
theorem rd_boxZ {w : World} {p : Nat} {cs : Array Value} {e : TypeId} {l : List Int} (h : w.heap[p]? = some (.cells cs e (0, 0))) (hc : cs.toList = l.flatMap zEnc) (hm : l.length ≤ maxLen) : Rd zEnc 1 w (some ⟨p, 0, none⟩) l.length l := ((ow_box h (Nat.zero_le _) zEnc_len hc hm).rd zEnc_len).2
theorem log_lens {l : Lg} (h : logOk l = true) : l.cells.length ≤ 40 ∧ l.seats.length ≤ 10 ∧ l.ents.length ≤ 60 := by
  have h1 := of_decide_eq_true h
  have h2 := imgP_of h1.2.1
  exact ⟨h2.c.len, h2.s.len, h1.2.2.1⟩
theorem ext_app3 {w w' w0 : World} {B : Nat} {α : Type} {enc : α → List Value} {e : TypeId} {sz : Nat} {v : Value} {l : List α} (hx : Ext w0 w) (hg : w.grownBy w' v.ownBlock) (ho : Ow enc e sz w B v l) (hB : w0.heap.size ≤ B) : Ext w0 w' := ext_grown hx hg (fun g he => by have := ho.lt g he; omega)
/-- a box of another type stays through an append -/
theorem box_own {w w' : World} {B p : Nat} {α : Type} {enc : α → List Value} {e T : TypeId} {sz : Nat} {A : Option Addr} {n c : Nat} {l : List α} {cs : Array Value} (h : w.heap[p]? = some (.cells cs T (0, 0))) (ho : Ow enc e sz w B (.slice A n c) l) (hg : w.grownBy w' (Value.slice A n c).ownBlock) (hne : T ≠ e) : w'.heap[p]? = some (.cells cs T (0, 0)) :=
  box_beside h hg (fun he => box_apart h ho hne ((ownBlock_blk _ _ _ _).1 he))
end Go.Proofs.Ytpghedeghoegmaa

/- Rows of numbers read from bytes: GetNums and l4Rows of the reference. -/
namespace Go.Proofs.Ytpghedeghoegmaa
open Go.ChangeShapes Go.WideShapes Go.ChangeAt Go.RowKit Go.Sort
set_option linter.unusedVariables false
set_option linter.unusedSimpArgs false

/-- what a row of numbers that is read answers -/
def ZsV (B : Nat) (o : Option (List Int × Nat)) (v : Value) (W : World) : Prop := match o with
  | none => ∃ A c, v = .tuple #[.slice A 0 c, .int .i64 0, .bool false]
  | some p => ∃ A c, v = .tuple #[.slice A p.1.length c, .int .i64 p.2, .bool true] ∧ Ow zEnc 3 1 W B (.slice A p.1.length c) p.1
theorem getZs_next {b : List Nat} {e n : Nat} {x : Int} {f : Nat} (h : getZ b e = some (x, f)) : getZs b e (n + 1) = (getZs b f n).map (fun q => (x :: q.1, q.2)) := by rw [getZs, h]
theorem getZs_none {b : List Nat} {e n : Nat} (h : getZ b e = none) : getZs b e (n + 1) = none := by rw [getZs, h]
theorem getZ_le {b : List Nat} (hb : Byt b) {e : Nat} {x : Int} {f : Nat} (h : getZ b e = some (x, f)) : f ≤ b.length ∧ 0 ≤ x ∧ x < 9223372036854775808 := by
  obtain ⟨_, h1, h2, _, h3⟩ := getZ_of hb h
  exact ⟨h3, h1, h2⟩

set_option maxRecDepth 100000 in
set_option maxHeartbeats 8000000 in
theorem c_sGetNums (A : Option Addr) (c : Nat) (b : List Nat) (at_ many : Nat) (w : World) (hr : Rd bEnc 1 w A c b) (hb : Byt b) (hn : b.length ≤ 1048576) (ha : at_ ≤ 1048576) (hm0 : 1 ≤ many) (hm1 : many ≤ 4000) : Calls Try.prog 46 #[.slice A b.length c, .int .i64 at_, .int .i64 many] w fun e w' => (∃ v, e = .returned v ∧ ZsV w.heap.size (getZs b at_ many) v w') ∧ Ext w w' := by
  obtain ⟨i0, hi, hz0, hz1, hz2⟩ := info_parts Try.infoZ
  have HR := Lib.hid hr
  have HB := Lib.hid hb
  clear hr hb
  have hcon := c_l1In many 1 4000 (w.alloc (.cells #[] 3))
  rw [show inB (many : Int) 1 4000 = true from (inB_yes _ _ _).2 ⟨by omega, by omega⟩] at hcon
  have HO0 := Lib.hid (show Ow zEnc 3 1 (w.alloc (.cells #[] 3)) w.heap.size (.slice (some ⟨w.heap.size, 0, none⟩) 0 0) ([] : List Int) from own_empty (hNew rfl) (Nat.le_refl _))
  go_enter Try.func46, Try.ntmps46
  go_wp2_with fail
  refine hcon.mono ?_
  rintro e w1 ⟨rfl, x1⟩
  have HO1 := Lib.hid (HO0.out.kept x1)
  have HX1 := Lib.hid (Ext.trans (ext_alloc w (.cells #[] 3)) x1)
  clear hcon x1 HO0
  go_wp2
  go_loopw [1, 9, 10, 11, 12, 13] (fun av o i _ _ _ wr => ∃ (k e : Nat) (l : List Int), k ≤ many ∧ i = .int .i64 k ∧ av = .int .i64 e ∧ e ≤ 1048576 ∧ Hid (l.length = k) ∧ Hid (getZs b at_ many = (getZs b e (many - k)).map (fun q => (l ++ q.1, q.2))) ∧ Ow zEnc 3 1 wr w.heap.size o l ∧ Hid (Ext w wr)) (fun _ _ i _ _ _ _ => many - (intOf i).toNat)
  case atStart => exact ⟨0, at_, [], by omega, rfl, rfl, ha, Lib.hid rfl, Lib.hid (by cases getZs b at_ many <;> simp), HO1.out, HX1⟩
  case round =>
    clear HO1 HX1
    obtain ⟨k, e, l, hk, rfl, rfl, he, HLk, HG, ho, HX⟩ := hrel
    obtain ⟨Ao, co, rfl⟩ := ho.form
    have HO := Lib.hid ho
    have hs := HX.out.size
    have hll : l.length ≤ 4000 := by have := HLk.out; omega
    clear ho
    by_cases hlt : k < many
    · have HC := Lib.hid (c_sGetNum A c b e wr (HR.out.keep HX.out) HB.out hn he)
      obtain ⟨n, hnn⟩ : ∃ n, many - k = n + 1 := ⟨many - k - 1, by omega⟩
      cases hz : getZ b e with
      | none =>
        rw [hz] at HC
        have HN := Lib.hid (show getZs b at_ many = none by rw [HG.out, hnn, getZs_none hz]; rfl)
        clear hz
        go_wp2_with fail
        refine HC.out.mono ?_
        rintro e2 w2 ⟨rfl, x2⟩
        simp only [gT]
        go_wp2
        exact bodyPost_ret (v := .tuple #[.slice (some ⟨w2.heap.size, 0, none⟩) 0 0, .int .i64 0, .bool false]) (by simp [results, Try.results46, go_sem]) rfl ⟨⟨_, rfl, by rw [HN.out]; exact ⟨_, _, rfl⟩⟩, ext_to (Ext.trans HX.out x2) _⟩
      | some p =>
        obtain ⟨x, f⟩ := p
        rw [hz] at HC
        obtain ⟨hf, hx0, hx1⟩ := getZ_le HB.out hz
        have HN := Lib.hid (show getZs b at_ many = (getZs b f (many - (k + 1))).map (fun q => ((l ++ [x]) ++ q.1, q.2)) by
          rw [HG.out, hnn, getZs_next hz, show many - (k + 1) = n by omega, Option.map_map]
          congr 1
          funext q
          simp)
        clear hz
        go_wp2_with fail
        refine HC.out.mono ?_
        rintro e2 w2 ⟨rfl, x2⟩
        have HO2 := Lib.hid (HO.out.kept x2)
        have HX2 := Lib.hid (Ext.trans HX.out x2)
        have hs2 := HX2.out.size
        simp only [gT]
        clear x2 HO HX HC HG
        go_wp2_with (at_builtin; refine wl_app (enc := zEnc) rfl _ _ 65 rfl w.heap.size 3 i0 (.int .i64 0) 1 8 Try.underlying65 hi hz0 hz1 hz2 rfl (by decide) zEnc_len zEnc_one (.slice Ao l.length co) l rfl (HO2.out.kept (ext_alloc _ _)) (some ⟨w2.heap.size, 0, none⟩) 1 [x] 1 rfl rfl (rd_boxZ (hNew rfl) rfl (by unfold maxLen; simp)) (by unfold maxLen; simp; omega) (by simp; omega) (by simp; omega) ?_)
        intro v' w4 ho4 hg4
        have X4 := Lib.hid (ext_app3 (ext_to HX2.out _) hg4 (HO2.out.kept (ext_alloc _ _)) (Nat.le_refl _))
        clear hg4 HO2 HX2
        go_wp2
        go_roundw
        case rel => exact ⟨k + 1, f, l ++ [x], by omega, by go_num, rfl, by omega, Lib.hid (by rw [List.length_append, HLk.out]; rfl), HN, ho4, X4⟩
        case measure => simp [intOf] <;> omega
    · obtain rfl : k = many := by omega
      have HN := Lib.hid (show getZs b at_ k = some (l, e) by rw [HG.out, Nat.sub_self]; simp [getZs])
      go_wp2
      exact bodyPost_ret (v := .tuple #[.slice Ao l.length co, .int .i64 e, .bool true]) (by simp [results, Try.results46, go_sem]) rfl ⟨⟨_, rfl, by rw [HN.out]; exact ⟨_, _, rfl, HO.out⟩⟩, HX.out⟩

set_option maxRecDepth 100000 in
set_option maxHeartbeats 8000000 in
theorem c_l4Rows (A : Option Addr) (c : Nat) (b : List Nat) (at_ wide most : Nat) (w : World) (hr : Rd bEnc 1 w A c b) (hb : Byt b) (hn : b.length ≤ 1048576) (ha : at_ ≤ 1048576) (hw0 : 1 ≤ wide) (hwm : most * wide ≤ 4000) (hw9 : wide ≤ 10) (hm9 : most ≤ 100) : Calls Try.prog 87 #[.slice A b.length c, .int .i64 at_, .int .i64 wide, .int .i64 most] w fun e w' => (∃ v, e = .returned v ∧ ZsV w.heap.size (rdRows b at_ wide most) v w') ∧ Ext w w' := by
  have HR := Lib.hid hr
  have HB := Lib.hid hb
  have HC := Lib.hid (c_sGetNum A c b at_ w hr hb hn ha)
  clear hr hb
  cases hz : getZ b at_ with
  | none =>
    rw [hz] at HC
    have HN := Lib.hid (show rdRows b at_ wide most = none by unfold rdRows; rw [hz])
    clear hz
    go_enter Try.func87, Try.ntmps87
    go_wp2_with fail
    refine HC.out.mono ?_
    rintro e2 w2 ⟨rfl, x2⟩
    simp only [gT]
    go_wp2
    exact bodyPost_ret (v := .tuple #[.slice (some ⟨w2.heap.size, 0, none⟩) 0 0, .int .i64 0, .bool false]) (by simp [results, Try.results87, go_sem]) rfl ⟨⟨_, rfl, by rw [HN.out]; exact ⟨_, _, rfl⟩⟩, ext_to x2 _⟩
  | some p =>
    obtain ⟨x, f⟩ := p
    rw [hz] at HC
    obtain ⟨hf, hx0, hx1⟩ := getZ_le HB.out hz
    obtain ⟨n, rfl⟩ : ∃ n : Nat, x = (n : Int) := ⟨x.toNat, by omega⟩
    by_cases hg : most < n
    · have HN := Lib.hid (show rdRows b at_ wide most = none by unfold rdRows; rw [hz]; show (if (most : Int) < (n : Int) then none else _) = none; rw [if_pos (by omega)])
      have hgi : decide ((most : Int) < (n : Int)) = true := by simp; omega
      clear hz
      go_enter Try.func87, Try.ntmps87
      go_wp2_with fail
      refine HC.out.mono ?_
      rintro e2 w2 ⟨rfl, x2⟩
      simp only [gT]
      go_wp2
      exact bodyPost_ret (v := .tuple #[.slice (some ⟨w2.heap.size, 0, none⟩) 0 0, .int .i64 0, .bool false]) (by simp [results, Try.results87, go_sem]) rfl ⟨⟨_, rfl, by rw [HN.out]; exact ⟨_, _, rfl⟩⟩, ext_to x2 _⟩
    · have hgi : decide ((most : Int) < (n : Int)) = false := by simp; omega
      have hrd : rdRows b at_ wide most = getZs b f (n * wide) := by
        unfold rdRows
        rw [hz]
        show (if (most : Int) < (n : Int) then none else getZs b f ((n : Int).toNat * wide)) = _
        rw [if_neg (by omega), show ((n : Int)).toNat = n by omega]
      clear hz
      by_cases hn0 : n = 0
      · subst hn0
        have HN := Lib.hid (show rdRows b at_ wide most = some ([], f) by rw [hrd, Nat.zero_mul, getZs])
        clear hrd
        go_enter Try.func87, Try.ntmps87
        go_wp2_with fail
        refine HC.out.mono ?_
        rintro e2 w2 ⟨rfl, x2⟩
        have hs2 := x2.size
        simp only [gT]
        go_wp2
        exact bodyPost_ret (v := .tuple #[.slice (some ⟨w2.heap.size, 0, none⟩) 0 0, .int .i64 f, .bool true]) (by simp [results, Try.results87, go_sem]) rfl ⟨⟨_, rfl, by rw [HN.out]; exact ⟨_, _, rfl, own_empty (hNew rfl) hs2⟩⟩, ext_to x2 _⟩
      · have hn0i : ((n : Int) == 0) = false := by simp; omega
        have hnw : n * wide ≤ 4000 := Nat.le_trans (Nat.mul_le_mul_right _ (by omega)) hwm
        have hnw1 : 1 ≤ n * wide := Nat.mul_pos (by omega) hw0
        have hmul : (n : Int) * (wide : Int) = ((n * wide : Nat) : Int) := by rw [Int.natCast_mul]
        obtain ⟨q, hq⟩ : ∃ q, n * wide = q := ⟨_, rfl⟩
        rw [hq] at hmul hnw hnw1 hrd
        have hwr : IntKind.i64.wrap ((n : Int) * (wide : Int)) = (q : Int) := by rw [hmul, IntKind.wrap_i64]; omega
        have HRd := Lib.hid hrd
        clear hrd hq
        go_enter Try.func87, Try.ntmps87
        go_wp2_with fail
        refine HC.out.mono ?_
        rintro e2 w2 ⟨rfl, x2⟩
        simp only [gT]
        have HC2 := Lib.hid (c_sGetNums A c b f q w2 (HR.out.keep x2) HB.out hn (by omega) hnw1 hnw)
        go_wp2_with fail
        refine HC2.out.mono ?_
        rintro e3 w3 ⟨⟨v3, rfl, hv3⟩, x3⟩
        have hs2 := x2.size
        rw [← HRd.out] at hv3
        cases ho : rdRows b at_ wide most with
        | none =>
          rw [ho] at hv3
          obtain ⟨A3, c3, rfl⟩ := hv3
          go_wp2
          exact bodyPost_ret (v := .tuple #[.slice A3 0 c3, .int .i64 0, .bool false]) (by simp [results, Try.results87, go_sem]) rfl ⟨⟨_, rfl, by rw [ho]; exact ⟨_, _, rfl⟩⟩, Ext.trans x2 x3⟩
        | some p =>
          rw [ho] at hv3
          obtain ⟨A3, c3, rfl, o3⟩ := hv3
          have HO3 := Lib.hid o3
          clear o3
          go_wp2
          exact bodyPost_ret (v := .tuple #[.slice A3 p.1.length c3, .int .i64 p.2, .bool true]) (by simp [results, Try.results87, go_sem]) rfl ⟨⟨_, rfl, by rw [ho]; exact ⟨_, _, rfl, HO3.out.less hs2⟩⟩, Ext.trans x2 x3⟩
end Go.Proofs.Ytpghedeghoegmaa

