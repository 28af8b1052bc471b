/- l10Turn of the reference: the walk. -/
import Derived.Test.YtinfkgbgeajphaaSTurn
import Derived.Laws.OwnMore
namespace Go.Proofs.Ytinfkgbgeajphaa
open Go.ChangeShapes Go.WideShapes Go.ChangeAt Go.RowKit Go.Sort
set_option linter.unusedVariables false
set_option linter.unusedSimpArgs false

def HasRow (w : World) (B g : Nat) (f : Nat → Bool) : Prop := w.ownsRow B 4 1 (.slice (some ⟨g, 0, none⟩) 1001 1001) 1001 ((rowOf 1001 f).flatMap bEnc)
theorem HasRow.cell {w : World} {B g : Nat} {f : Nat → Bool} (h : HasRow w B g f) {k : Nat} (hk : k < 1001) : w.cell? ⟨g, k, none⟩ = some (.bool (f k)) := by
  have h1 := World.ownsRow.cellAt h k (by omega)
  have h2 := flat_get bEnc_len (rowOf 1001 f) k (by rw [rowOf_len]; exact hk) 0 (by omega)
  rw [Nat.mul_one, Nat.add_zero, rowOf_at f hk] at h2
  rw [h1, h2]
  rfl
theorem HasRow.frozen {w : World} {B g : Nat} {f : Nat → Bool} (h : HasRow w B g f) : ∀ y, w.frozen? ⟨g, y, none⟩ = false := by
  have h1 := World.ownsRow.frozenAt h
  intro y
  exact h1 y
theorem HasRow.kept {w w' : World} {B g : Nat} {f : Nat → Bool} (h : HasRow w B g f) (hx : Ext w w') : HasRow w' B g f := ownsRow_ext h hx
theorem HasRow.lt {w : World} {B g : Nat} {f : Nat → Bool} (h : HasRow w B g f) : B ≤ g ∧ g < w.heap.size := World.ownsRow.lt h g rfl
theorem HasRow.set {w : World} {B g : Nat} {f : Nat → Bool} (h : HasRow w B g f) {k : Nat} (hk : k < 1001) (b : Bool) : HasRow (w.setCell ⟨g, k, none⟩ (.bool b)) B g (upd f k b) := by
  have h1 := (World.ownsRow.stored h k (.bool b)).1
  have h2 := setAll_one bEnc_len (rowOf 1001 f) k (by rw [rowOf_len]; exact hk) b
  rw [rowOf_set] at h2
  unfold HasRow
  rw [← h2]
  simp only [bEnc, setAll, Nat.mul_one] at h1 ⊢
  exact h1
theorem HasRow.congr {w : World} {B g : Nat} {f f' : Nat → Bool} (h : HasRow w B g f) (e : ∀ x, f x = f' x) : HasRow w B g f' := by
  have : f = f' := funext e
  exact this ▸ h
theorem HasRow.beside {w w' : World} {B g : Nat} {f : Nat → Bool} {row : Option Nat} (h : HasRow w B g f) (hg : w.grownBy w' row) (hne : row ≠ some g) : HasRow w' B g f := by
  refine ⟨h.1, ?_⟩
  rcases h.2 with ⟨h2, _⟩ | ⟨g', cap, cur, hv, hb, hh, r⟩
  · cases h2
  · simp only [Value.slice.injEq, Option.some.injEq, Addr.mk.injEq] at hv
    obtain ⟨⟨rfl, _⟩, _⟩ := hv
    exact .inr ⟨g, cap, cur, by simp [*], hb, by rw [hg.block g (Array.getElem?_eq_some_iff.1 hh).1 (fun he => hne he.symm)]; exact hh, r⟩
theorem HasRow.less {w : World} {B B' g : Nat} {f : Nat → Bool} (h : HasRow w B g f) (hB : B' ≤ B) : HasRow w B' g f := by
  refine ⟨h.1, ?_⟩
  rcases h.2 with ⟨h2, _⟩ | ⟨g', cap, cur, hv, hb, r⟩
  · cases h2
  · exact .inr ⟨g', cap, cur, hv, by omega, r⟩
theorem bx_lt_of {w w1 w2 : World} {o : Obj} (x1 : Ext w w1) (x2 : Ext w1 w2) (h : w1.heap[w.heap.size]? = some o) : w.heap.size < w2.heap.size := Nat.lt_of_lt_of_le (bx_lt h) x2.size
theorem row_false (n : Nat) : (rowOf n (fun _ => false)).flatMap bEnc = List.replicate n (.bool false) := by
  apply List.ext_getElem?
  intro i
  by_cases h : i < n
  · have h2 := flat_get bEnc_len (rowOf n (fun _ => false)) i (by rw [rowOf_len]; exact h) 0 (by omega)
    rw [Nat.mul_one, Nat.add_zero, rowOf_at _ h] at h2
    rw [h2]
    simp [h]
  · rw [List.getElem?_eq_none (by rw [flat_length bEnc_len, rowOf_len]; omega), List.getElem?_eq_none (by simp; omega)]
theorem isIn_out {l : List Rng} {a : Rng} {b : Bool} (h : rangesOk l = true) (h0 : 0 ≤ a.hi) (h1 : a.hi ≤ 1000) : isIn l a b 1000 = false := by
  unfold isIn
  rw [if_neg (by unfold rhas; rw [inB_yes]; omega), List.any_eq_false]
  intro r hr
  obtain ⟨i, hi, rfl⟩ := List.getElem_of_mem hr
  have := rangesOk_at h hi
  unfold rhas
  rw [inB_yes]
  omega
theorem Try.infoBool : (Try.prog.info? 4).map (fun i => (i.zero, i.size, i.bytes)) = some (some (.bool false), 1, 1) := by kernel_rfl

set_option maxHeartbeats 4000000 in
set_option maxRecDepth 100000 in
theorem c_sTurn (A : Option Addr) (c : Nat) (l : List Rng) (al ah : Int) (b : Bool) (w : World) (ha : Rd Rng.enc 2 w A c l) (hn : l.length ≤ 1099511627776) :
    Calls Try.prog 88 #[.slice A l.length c, .agg #[.int .i64 al, .int .i64 ah], .bool b] w fun e w' => ∃ v, e = .returned (.tuple #[v, .bool (turnB l ⟨al, ah⟩ b)]) ∧ Ow Rng.enc 25 2 w' w.heap.size v (turnV l ⟨al, ah⟩ b) ∧ Ext w w' := by
  have no : turnB l ⟨al, ah⟩ b = false → false = turnB l ⟨al, ah⟩ b ∧ turnV l ⟨al, ah⟩ b = [] := fun h => ⟨h.symm, by unfold turnV; rw [h]; simp⟩
  have NO := Lib.hid no
  clear no
  obtain ⟨i0, hi, hz0, hz1, hz2⟩ := info_parts Try.infoRng
  obtain ⟨ib, bi, bz0, bz1, bz2⟩ := info_parts Try.infoBool
  go_enter Try.func88, Try.ntmps88
  go_wp2_with fail
  refine (c_sRangesOk A c l _ (ha.keep (ext_alloc _ _)) hn).mono ?_
  rintro e w1 ⟨rfl, x1⟩
  have X1 : Ext w w1 := Ext.trans (ext_alloc _ _) x1
  have B1 := x1.box (hNew (w := w) (o := .cells #[.int .i64 al, .int .i64 ah] 25) rfl)
  cases h1 : rangesOk l
  · have HV := Lib.hid (NO.out (by simp [turnB, h1]))
    clear h1
    go_wp2
    go_ret2
    exact ⟨_, ret_vb HV.out.1, by rw [HV.out.2]; exact (World.ownsRow_made _ #[] 0 X1.size (Nat.zero_le _) (by simp)), ext_to X1 _⟩
  have c1 := bx_cell B1
  have H1 := Lib.hid h1
  clear h1
  go_wp2_with fail
  refine (c_sRangeOk al ah _).mono ?_
  rintro e w2 ⟨rfl, x2⟩
  clear c1
  have X2 := Ext.trans X1 x2
  cases h2 : Rng.ok ⟨al, ah⟩
  · have HV := Lib.hid (NO.out (by simp [turnB, h2]))
    clear h2
    go_wp2
    go_ret2
    exact ⟨_, ret_vb HV.out.1, by rw [HV.out.2]; exact (World.ownsRow_made _ #[] 0 X2.size (Nat.zero_le _) (by simp)), ext_to X2 _⟩
  have h3 := Rng.ok_at h2
  have H2 := Lib.hid h2
  clear h2
  have B2 := x2.box B1
  go_wp2_with (at_make; refine wpList_make_full _ rfl _ _ 107 rfl w2.heap.size 4 ib (.bool false) 1 Try.underlying107 bi bz0 bz1 .i64 .i64 _ _ 1001 rfl rfl rfl rfl ?c1 ?c2 ?c3 ?_)
  case c1 => rw [bz2]; omega
  case c2 => unfold maxLen; omega
  case c3 => simp
  intro w3 hown hgr
  have x3 : Ext w2 w3 := Below.grown (Below.refl _ _) hgr (Nat.le_refl _) (fun k hk => by cases hk)
  have X3 := Ext.trans X2 x3
  obtain ⟨g, hgv⟩ : ∃ g, g = w2.heap.size := ⟨_, rfl⟩
  have R3 : HasRow w3 w.heap.size g (cov l 0) := by
    have h := hown
    rw [← hgv, toList_madeCells_one] at h
    have h2 : HasRow w3 g g (fun _ => false) := by unfold HasRow; rw [row_false]; exact h
    exact (h2.less (by rw [hgv]; exact X2.size)).congr (fun x => by simp [cov])
  have hB : w.heap.size < g := by rw [hgv]; exact bx_lt_of X1 x2 B1
  rw [← hgv]
  have B3 := x3.box B2
  clear hown hgr hgv bi bz0 bz1 bz2
  have H3 := Lib.hid h3
  clear h3
  go_wp2
  go_loopw [9] (fun i wr => ∃ n : Nat, n ≤ l.length ∧ i = .int .i64 n ∧ HasRow wr w.heap.size g (cov l n) ∧ wr.heap[w.heap.size]? = some (.cells #[.int .i64 al, .int .i64 ah] 25 (0, 0)) ∧ Ext w wr) (fun i _ => l.length - (intOf i).toNat)
  case atStart => exact ⟨0, Nat.zero_le _, rfl, R3, B3, X3⟩
  case round =>
    clear R3 B3
    obtain ⟨n, hnl, rfl, RN, BN, XN⟩ := hrel
    by_cases hlt : n < l.length
    · obtain ⟨ab, ao, rfl, hab, a0, a1⟩ := (ha.keep XN).atRng hlt
      have hb3 := rangesOk_at H1.out hlt
      obtain ⟨j0, hj0⟩ : ∃ j0 : Nat, l[n].lo = j0 := ⟨l[n].lo.toNat, by omega⟩
      obtain ⟨j1, hj1⟩ : ∃ j1 : Nat, l[n].hi = j1 := ⟨l[n].hi.toNat, by omega⟩
      rw [hj0] at a0
      rw [hj1] at a1
      have HJ0 := Lib.hid hj0
      have HJ1 := Lib.hid hj1
      have hjj : j0 < j1 ∧ j1 ≤ 1000 := by omega
      have hagg : ab < w.heap.size := by
        obtain ⟨b', o', e', hb', _⟩ := ha.2.2 (show 0 < l.length by omega)
        simp only [Option.some.injEq, Addr.mk.injEq] at e'
        omega
      have HE := Lib.hid (show ∀ x, mid l n j0 j1 x = cov l (n + 1) x from fun x => by rw [← hj0, ← hj1]; exact mid_end hlt x)
      clear hj0 hj1 hb3
      go_wp2
      go_loopw [10] (fun k wq => ∃ j : Nat, j0 ≤ j ∧ j ≤ j1 ∧ k = .int .i64 j ∧ HasRow wq w.heap.size g (mid l n j0 j) ∧ wq.heap[w.heap.size]? = some (.cells #[.int .i64 al, .int .i64 ah] 25 (0, 0)) ∧ Ext w wq) (fun k _ => j1 - (intOf k).toNat)
      case atStart => exact ⟨j0, Nat.le_refl _, by omega, rfl, RN.congr (fun x => (mid_start l n j0 x).symm), BN, XN⟩
      case round =>
        clear a0 a1 RN BN
        obtain ⟨j, hj1, hj2, rfl, RJ, BJ, XJ⟩ := hrel
        obtain ⟨_, _, e1, hab', a0, a1⟩ := (ha.keep XJ).atRng hlt
        simp only [Option.some.injEq, Addr.mk.injEq] at e1
        obtain ⟨rfl, rfl, _⟩ := e1
        rw [HJ0.out] at a0
        rw [HJ1.out] at a1
        by_cases hj : j < j1
        · have ej := RJ.cell (show j < 1001 by omega)
          have fj := RJ.frozen
          have HRJ := Lib.hid RJ
          have HBJ := Lib.hid BJ
          clear RJ BJ
          go_wp2
          go_roundw
          case rel => exact ⟨j + 1, by omega, by omega, by go_num, (HRJ.out.set (by omega) true).congr (fun x => mid_step l n j0 j (by omega) x), box_set HBJ.out (show g ≠ _ by omega), ext_set XJ (show _ ≤ g by omega) _⟩
          case measure => simp [intOf] <;> omega
        · obtain rfl : j = j1 := by omega
          go_wp2
          go_roundw
          case rel => exact ⟨n + 1, by omega, by go_num, RJ.congr HE.out, BJ, XJ⟩
          case measure => simp [intOf] <;> omega
    · obtain rfl : n = l.length := by omega
      obtain ⟨al0, hal0⟩ : ∃ a0 : Nat, al = a0 := ⟨al.toNat, by have := H3.out; omega⟩
      obtain ⟨ah0, hah0⟩ : ∃ a0 : Nat, ah = a0 := ⟨ah.toNat, by have := H3.out; omega⟩
      subst hal0 hah0
      have h3 := H3.out
      have hjj : al0 < ah0 ∧ ah0 ≤ 1000 := by omega
      clear h3
      have cb := bx_cell BN
      go_wp2
      clear cb
      go_loopw [11] (fun k wq => ∃ j : Nat, al0 ≤ j ∧ j ≤ ah0 ∧ k = .int .i64 j ∧ HasRow wq w.heap.size g (fin l b al0 j) ∧ wq.heap[w.heap.size]? = some (.cells #[.int .i64 al0, .int .i64 ah0] 25 (0, 0)) ∧ Ext w wq) (fun k _ => ah0 - (intOf k).toNat)
      case atStart => exact ⟨al0, Nat.le_refl _, by omega, rfl, RN.congr (fun x => (fin_start l b al0 x).symm), BN, XN⟩
      case round =>
        clear RN BN
        obtain ⟨j, hj1, hj2, rfl, RJ, BJ, XJ⟩ := hrel
        have cb := bx_cell BJ
        have zb := bx_lt BJ
        by_cases hj : j < ah0
        · have ej := RJ.cell (show j < 1001 by omega)
          have fj := RJ.frozen
          have HRJ := Lib.hid RJ
          have HBJ := Lib.hid BJ
          clear RJ BJ
          go_wp2
          go_roundw
          case rel => exact ⟨j + 1, by omega, by omega, by go_num, (HRJ.out.set (by omega) b).congr (fun x => fin_step l b al0 j (by omega) x), box_set HBJ.out (show g ≠ _ by omega), ext_set XJ (show _ ≤ g by omega) _⟩
          case measure => simp [intOf] <;> omega
        · obtain rfl : j = ah0 := by omega
          have RE : HasRow wr w.heap.size g (isIn l ⟨al0, j⟩ b) := RJ.congr (fun x => fin_end l b al0 j x)
          clear RJ
          obtain ⟨is, his⟩ : ∃ is, isIn l ⟨al0, j⟩ b = is := ⟨_, rfl⟩
          have hout : is 1000 = false := by rw [← his]; exact isIn_out H1.out (by have := H3.out; show (0 : Int) ≤ (j : Int); omega) (by show (j : Int) ≤ 1000; omega)
          rw [his] at RE
          have HIS := Lib.hid his
          have HOUT := Lib.hid hout
          clear his hout
          have hgl := RE.lt.2
          have hzw := XJ.size
          go_wp2
          go_loopw [12, 13, 14] (fun o f k wq => ∃ (n : Nat) (out : List Rng) (fr : Int), n ≤ 1001 ∧ k = .int .i64 n ∧ f = .int .i64 fr ∧ scan is n out fr ∧ Ow Rng.enc 25 2 wq (g + 1) o out ∧ HasRow wq w.heap.size g is ∧ Ext w wq) (fun _ _ k _ => 1001 - (intOf k).toNat)
          case atStart => exact ⟨0, [], -1, by omega, rfl, rfl, scan_zero is, World.ownsRow_made _ #[] 0 (by omega) (Nat.zero_le _) (by simp), RE.kept (ext_alloc _ _), ext_to XJ _⟩
          case round =>
            clear RE hgl hzw BJ XJ cb zb
            obtain ⟨n, out, fr, hn1, rfl, rfl, hs, ho, RE, XQ⟩ := hrel
            have hsl := scan_len hs
            have HS := Lib.hid hs
            obtain ⟨Ao, co, rfl⟩ := ho.form
            clear hs
            by_cases hlt2 : n < 1001
            · have ej := RE.cell hlt2
              have fj := RE.frozen
              cases hq : is n
              · rw [hq] at ej
                by_cases hf : fr < 0
                · have HN := Lib.hid (scan_idle HS.out hf hq)
                  have HRE := Lib.hid RE
                  clear hq RE
                  have hf1 : decide (fr < 0) = true := by simpa using hf
                  have hf2 : decide (0 ≤ fr) = false := by simp; omega
                  go_wp2
                  go_roundw
                  case rel => exact ⟨n + 1, out, fr, by omega, by go_num, rfl, HN.out, ho, HRE.out, XQ⟩
                  case measure => simp [intOf] <;> omega
                · have HN := Lib.hid (scan_close HS.out (by omega) hq)
                  have HRE := Lib.hid RE
                  clear hq RE
                  have hf1 : decide (fr < 0) = false := by simpa using hf
                  have hf2 : decide (0 ≤ fr) = true := by simp; omega
                  have hgq := HRE.out.lt
                  have hxq := XQ.size
                  go_wp2_with (at_builtin; refine wpList_append_own _ rfl _ _ 35 rfl ((g + 1)) 25 i0 (.agg #[.int .i64 0, .int .i64 0]) 2 16 Try.underlying35 hi hz0 hz1 hz2 rfl (by decide) _ _ _ rfl (ownsRow_ext ho (ext_alloc _ _)) _ 1 1 [.int .i64 fr, .int .i64 n] rfl rfl (alloc_cellB _ _ _ _ (by first | rfl | (simp; done) | (simp; omega))) (by intro u hu; simp at hu; rcases hu with rfl | rfl <;> rfl) (by unfold maxLen; (try simp) <;> omega) (by (try simp) <;> omega) (by (try simp) <;> omega) ?_)
                  intro v w4 h4 g4 _
                  have x4 := ext_app (ext_to XQ _) g4 (ownsRow_ext ho (ext_alloc _ _)) (by omega)
                  have r4 := (HRE.out.kept (ext_alloc _ _)).beside g4 (fun he => by have := World.ownsRow.lt ho g he; omega)
                  have HG := Lib.hid g4
                  clear g4
                  go_wp2
                  go_roundw
                  case rel => exact ⟨n + 1, out ++ [⟨fr, n⟩], -1, by omega, by go_num, rfl, HN.out, own_snoc h4 rfl rfl, r4, x4⟩
                  case measure => simp [intOf] <;> omega
              · rw [hq] at ej
                by_cases hf : fr < 0
                · have HN := Lib.hid (scan_open HS.out hf hq)
                  have HRE := Lib.hid RE
                  clear hq RE
                  have hf1 : decide (fr < 0) = true := by simpa using hf
                  go_wp2
                  go_roundw
                  case rel => exact ⟨n + 1, out, n, by omega, by go_num, rfl, HN.out, ho, HRE.out, XQ⟩
                  case measure => simp [intOf] <;> omega
                · have HN := Lib.hid (scan_go HS.out (by omega) hq)
                  have HRE := Lib.hid RE
                  clear hq RE
                  have hf1 : decide (fr < 0) = false := by simpa using hf
                  go_wp2
                  go_roundw
                  case rel => exact ⟨n + 1, out, fr, by omega, by go_num, rfl, HN.out, ho, HRE.out, XQ⟩
                  case measure => simp [intOf] <;> omega
            · obtain rfl : n = 1001 := by omega
              have HR := Lib.hid (show runsTo (isIn l ⟨al0, j⟩ b) 1000 = out by rw [HIS.out]; exact (scan_last HS.out HOUT.out).symm)
              have hg0 : w.heap.size ≤ g + 1 := by omega
              by_cases h16 : out.length ≤ 16
              · have h16' : decide ((16 : Int) < (out.length : Int)) = false := by simp; omega
                have HV := Lib.hid (show true = turnB l ⟨al0, j⟩ b ∧ turnV l ⟨al0, j⟩ b = out by
                  have : turnB l ⟨al0, j⟩ b = true := by unfold turnB; rw [H1.out, H2.out, HR.out]; simp [h16]
                  exact ⟨this.symm, by unfold turnV; rw [this, HR.out]; simp⟩)
                go_wp2
                go_ret2
                exact ⟨_, ret_vb HV.out.1, by rw [HV.out.2]; exact ho.less hg0, XQ⟩
              · have h16' : decide ((16 : Int) < (out.length : Int)) = true := by simp; omega
                have HV := Lib.hid (NO.out (by unfold turnB; rw [HR.out]; simp; omega))
                go_wp2
                go_ret2
                exact ⟨_, ret_vb HV.out.1, by rw [HV.out.2]; exact (World.ownsRow_made _ #[] 0 XQ.size (Nat.zero_le _) (by simp)), ext_to XQ _⟩
end Go.Proofs.Ytinfkgbgeajphaa
