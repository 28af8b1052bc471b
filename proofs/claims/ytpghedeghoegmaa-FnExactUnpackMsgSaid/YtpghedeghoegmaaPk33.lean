/- The program's reader of number forms: rows. -/
import Derived.Test.YtpghedeghoegmaaPk32
namespace Go.Proofs.Ytpghedeghoegmaa
open Go.ChangeShapes Go.WideShapes Go.ChangeAt Go.RowKit Go.Sort
set_option linter.unusedVariables false
set_option linter.unusedSimpArgs false

abbrev RwE := (Option Addr × Nat) × List Int
def RwE.enc (x : RwE) : List Value := [.slice x.1.1 x.2.length x.1.2]
theorem RwE.len : ∀ x : RwE, (RwE.enc x).length = 1 := fun _ => rfl
theorem RwE.one : ∀ x : RwE, ∀ u ∈ RwE.enc x, u.oneCell' = true := fun x u hu => by simp only [RwE.enc, List.mem_singleton] at hu; subst hu; rfl
theorem Try.infoRw : (Try.prog.info? 65).map (fun i => (i.zero, i.size, i.bytes)) = some (some (.slice none 0 0), 1, 24) := by kernel_rfl
/-- so many numbers, read whether there are any or not -/
def rdM (b : List Nat) : Nat → Nat → Bool → List Int × Nat × Bool
  | 0, at_, ok => ([], at_, ok)
  | n + 1, at_, ok => ((rdN b at_ ok).1 :: (rdM b n (rdN b at_ ok).2.1 (rdN b at_ ok).2.2).1, (rdM b n (rdN b at_ ok).2.1 (rdN b at_ ok).2.2).2)
def rdR (b : List Nat) (wide : Nat) : Nat → Nat → Bool → List (List Int) × Nat × Bool
  | 0, at_, ok => ([], at_, ok)
  | n + 1, at_, ok => if ok = true then ((rdM b wide at_ ok).1 :: (rdR b wide n (rdM b wide at_ ok).2.1 (rdM b wide at_ ok).2.2).1, (rdR b wide n (rdM b wide at_ ok).2.1 (rdM b wide at_ ok).2.2).2) else ([], at_, ok)
def rdRw (b : List Nat) (at_ : Nat) (ok : Bool) (most wide : Nat) : List (List Int) × Nat × Bool := rdR b wide (rdN b at_ ok).1.toNat (rdN b at_ ok).2.1 ((rdN b at_ ok).2.2 && decide ((rdN b at_ ok).1 ≤ (most : Int)))
theorem rdM_next (b : List Nat) (n at_ : Nat) (ok : Bool) (l : List Int) : ((l ++ (rdM b (n + 1) at_ ok).1, (rdM b (n + 1) at_ ok).2) : List Int × Nat × Bool) = ((l ++ [(rdN b at_ ok).1]) ++ (rdM b n (rdN b at_ ok).2.1 (rdN b at_ ok).2.2).1, (rdM b n (rdN b at_ ok).2.1 (rdN b at_ ok).2.2).2) := by
  rw [rdM]
  simp
theorem rdR_next (b : List Nat) (wide n at_ : Nat) (L : List (List Int)) {l : List Int} {e : Nat} {k : Bool} (h : rdM b wide at_ true = (l, e, k)) : ((L ++ (rdR b wide (n + 1) at_ true).1, (rdR b wide (n + 1) at_ true).2) : List (List Int) × Nat × Bool) = ((L ++ [l]) ++ (rdR b wide n e k).1, (rdR b wide n e k).2) := by
  rw [rdR, if_pos rfl, h]
  simp
theorem rdR_off (b : List Nat) (wide n at_ : Nat) : rdR b wide n at_ false = ([], at_, false) := by
  cases n
  · rfl
  · rw [rdR, if_neg (by simp)]
/-- rows of numbers, each one's own -/
def RsO (W : World) (B : Nat) (A : Option Addr) (c : Nat) (rs : List RwE) : Prop := Ow RwE.enc 65 1 W B (.slice A rs.length c) rs ∧ ∀ x ∈ rs, Ow zEnc 3 1 W B (.slice x.1.1 x.2.length x.1.2) x.2
theorem RsO.kept {w w' : World} {B : Nat} {A : Option Addr} {c : Nat} {rs : List RwE} (h : RsO w B A c rs) (hx : Ext w w') : RsO w' B A c rs := ⟨h.1.kept hx, fun x hm => (h.2 x hm).kept hx⟩
theorem RsO.less {w : World} {B B' : Nat} {A : Option Addr} {c : Nat} {rs : List RwE} (h : RsO w B A c rs) (hB : B' ≤ B) : RsO w B' A c rs := ⟨h.1.less hB, fun x hm => (h.2 x hm).less hB⟩
theorem RsO.bxk {w w' : World} {B p : Nat} {cs : Array Value} {T : TypeId} {A : Option Addr} {c : Nat} {rs : List RwE} (h : RsO w B A c rs) (hb : w.heap[p]? = some (.cells cs T (0, 0))) (h1 : T ≠ 65) (h2 : T ≠ 3) (hg : Chg w w' [p]) : RsO w' B A c rs :=
  ⟨h.1.bxk hb h1 hg, fun x hm => (h.2 x hm).bxk hb h2 hg⟩
theorem RsO.beside {w w' : World} {B B' : Nat} {A A' : Option Addr} {n c c' : Nat} {rs : List RwE} {α : Type} {enc : α → List Value} {e : TypeId} {sz : Nat} {l : List α} (h : RsO w B A c rs) (k : Ow enc e sz w B' (.slice A' n c') l) (h1 : 65 ≠ e) (h2 : 3 ≠ e) (hg : w.grownBy w' (Value.slice A' n c').ownBlock) : RsO w' B A c rs :=
  ⟨h.1.chg (chg_grown hg) (h.1.apart k h1), fun x hm => (h.2 x hm).chg (chg_grown hg) ((h.2 x hm).apart k h2)⟩
theorem chg_app {w0 w w' : World} {S : List Nat} {B : Nat} {α : Type} {enc : α → List Value} {e : TypeId} {sz : Nat} {A : Option Addr} {n c : Nat} {l : List α} (h : Chg w0 w S) (ho : Ow enc e sz w B (.slice A n c) l) (hg : w.grownBy w' (Value.slice A n c).ownBlock) (hB : w0.heap.size ≤ B) : Chg w0 w' S :=
  ⟨hg.os.trans h.os, hg.tape.trans h.tape, hg.output.trans h.output, Nat.le_trans h.size hg.size, fun k hk hn => (hg.block k (Nat.lt_of_lt_of_le hk h.size) (fun he => by have := ho.lt k he.symm; omega)).trans (h.block k hk hn)⟩
set_option maxRecDepth 100000 in
set_option maxHeartbeats 16000000 in
theorem c_rows (A : Option Addr) (c : Nat) (b : List Nat) (at_ most wide : Nat) (ok : Bool) (r Bb : Nat) (w : World) (hr : Ow bEnc 5 1 w Bb (.slice A b.length c) b) (hb : Byt b) (hn : b.length ≤ 1048576) (ha : at_ ≤ b.length) (hm9 : most ≤ 100) (hw9 : wide ≤ 10) (hB : w.heap[r]? = some (rdO A b.length c at_ ok)) :
    Calls Try.prog 91 #[.pointer (some ⟨r, 0, none⟩), .int .i64 most, .int .i64 wide] w fun e w' => (∃ (Ao : Option Addr) (co : Nat) (rs : List RwE), e = .returned (.slice Ao rs.length co) ∧ rs.length ≤ most ∧ rs.map Prod.snd = (rdRw b at_ ok most wide).1 ∧ RsO w' w.heap.size Ao co rs) ∧ RdS w w' r A b.length c (rdRw b at_ ok most wide).2 := by
  obtain ⟨i0, hi, hz0, hz1, hz2⟩ := info_parts Try.infoZ
  obtain ⟨j0, ji, jz0, jz1, jz2⟩ := info_parts Try.infoRw
  have HB := Lib.hid hb
  have x0 := ext_alloc w (.cells #[] 65)
  have D0 := Lib.hid (x0.box hB)
  have C0 := Lib.hid (chg_ext [r] x0)
  have O0 := Lib.hid (hr.kept x0)
  have R0 := Lib.hid (show RsO (w.alloc (.cells #[] 65)) w.heap.size (some ⟨w.heap.size, 0, none⟩) 0 [] from ⟨own_empty (hNew rfl) (Nat.le_refl _), fun x hx => by cases hx⟩)
  have HC := Lib.hid (c_num A c b at_ ok r _ (O0.out.rd bEnc_len).2 hb hn (by omega) D0.out)
  obtain ⟨h1, h2, h3⟩ := rdN_le hb ha ok
  have HGw := Lib.hid (show rdRw b at_ ok most wide = rdR b wide (rdN b at_ ok).1.toNat (rdN b at_ ok).2.1 ((rdN b at_ ok).2.2 && decide ((rdN b at_ ok).1 ≤ (most : Int))) from rfl)
  obtain ⟨⟨x, f, kk⟩, hx⟩ : ∃ p, rdN b at_ ok = p := ⟨_, rfl⟩
  rw [hx] at h1 h2 h3 HC HGw
  simp only at h1 h2 h3 HC HGw
  obtain ⟨N, rfl⟩ : ∃ n : Nat, x = (n : Int) := ⟨x.toNat, by omega⟩
  rw [show ((N : Int)).toNat = N by omega] at HGw
  clear hB hr hb hx x0
  go_enter Try.func91, Try.ntmps91
  go_wp2_with fail
  refine HC.out.mono ?_
  rintro e w1 ⟨rfl, hd1, hc1⟩
  have O1 := Lib.hid (O0.out.bxk D0.out (by decide) hc1)
  have R1 := Lib.hid (R0.out.bxk D0.out (by decide) (by decide) hc1)
  have D1 := Lib.hid hd1
  have C1 := Lib.hid (C0.out.trans hc1)
  have dp := bx_cell hd1
  have fp := bx_frozen hd1
  have zp := bx_lt hd1
  clear HC hd1 hc1 O0 R0 D0 C0
  cases kk
  · have HN := Lib.hid (show rdRw b at_ ok most wide = ([], f, false) by rw [HGw.out, Bool.false_and, rdR_off])
    have D2 := Lib.hid (box_put D1.out 2 (.bool false))
    have C2 := Lib.hid (chg_set (p := ⟨r, 2, none⟩) C1.out (by simp) (.bool false))
    have R2 := Lib.hid (R1.out.bxk D1.out (by decide) (by decide) (chg_bx w1 r 2 (.bool false)))
    clear D1 C1 O1 R1 HGw
    go_wp2
    clear dp fp zp
    go_loopw [7, 9, 10, 11] (fun o i _ _ wr => i = .int .i64 0 ∧ o = .slice (some ⟨w.heap.size, 0, none⟩) 0 0 ∧ Hid (wr.heap[r]? = some (rdO A b.length c f false)) ∧ Hid (Chg w wr [r]) ∧ Hid (RsO wr w.heap.size (some ⟨w.heap.size, 0, none⟩) 0 [])) (fun _ _ _ _ _ => 0)
    case atStart => exact ⟨rfl, rfl, D2, C2, R2⟩
    case round =>
      clear D2 C2 R2
      obtain ⟨rfl, rfl, D, C, R⟩ := hrel
      have dp := bx_cell D.out
      have fp := bx_frozen D.out
      have zp := bx_lt D.out
      by_cases hlt : 0 < N
      · go_wp2
        exact bodyPost_ret (v := .slice (some ⟨w.heap.size, 0, none⟩) 0 0) (by simp [results, Try.results91, go_sem]) rfl ⟨⟨_, _, [], rfl, by simp, by rw [HN.out]; rfl, R.out⟩, by rw [HN.out]; exact D.out, C.out⟩
      · obtain rfl : N = 0 := by omega
        go_wp2
        exact bodyPost_ret (v := .slice (some ⟨w.heap.size, 0, none⟩) 0 0) (by simp [results, Try.results91, go_sem]) rfl ⟨⟨_, _, [], rfl, by simp, by rw [HN.out]; rfl, R.out⟩, by rw [HN.out]; exact D.out, C.out⟩
  · have HGw := Lib.hid (show rdRw b at_ ok most wide = rdR b wide N f (decide (N ≤ most)) by rw [HGw.out, Bool.true_and, show decide ((N : Int) ≤ (most : Int)) = decide (N ≤ most) by simp])
    have D2 := Lib.hid (box_put D1.out 2 (.bool (decide (N ≤ most))))
    have C2 := Lib.hid (chg_set (p := ⟨r, 2, none⟩) C1.out (by simp) (.bool (decide (N ≤ most))))
    have O2 := Lib.hid (O1.out.bx D1.out (by decide) (.bool (decide (N ≤ most))) 2)
    have R2 := Lib.hid (R1.out.bxk D1.out (by decide) (by decide) (chg_bx w1 r 2 (.bool (decide (N ≤ most)))))
    have HNm := Lib.hid (show decide (N ≤ most) = true → N ≤ most from fun h => of_decide_eq_true h)
    clear D1 C1 O1 R1
    go_wp2
    clear dp fp zp
    go_loopw [7, 9, 10, 11] (fun o i _ _ wr => ∃ (k at' : Nat) (ok' : Bool) (Ao : Option Addr) (co : Nat) (rs : List RwE), Hid (rs.length = k) ∧ i = .int .i64 k ∧ o = .slice Ao rs.length co ∧ at' ≤ b.length ∧ k ≤ most ∧ k ≤ N ∧ Hid (ok' = true → N ≤ most) ∧ Hid (wr.heap[r]? = some (rdO A b.length c at' ok')) ∧ Hid (Chg w wr [r]) ∧ Hid (RsO wr w.heap.size Ao co rs) ∧ Hid (Ow bEnc 5 1 wr Bb (.slice A b.length c) b) ∧ Hid (rdRw b at_ ok most wide = (rs.map Prod.snd ++ (rdR b wide (N - k) at' ok').1, (rdR b wide (N - k) at' ok').2))) (fun _ i _ _ _ => N - (intOf i).toNat)
    case atStart => exact ⟨0, f, _, _, _, [], Lib.hid rfl, rfl, rfl, h1, Nat.zero_le _, Nat.zero_le _, HNm, D2, C2, R2, O2, Lib.hid (by rw [HGw.out, Nat.sub_zero]; rfl)⟩
    case round =>
      clear D2 C2 R2 O2 HGw HNm
      obtain ⟨k, at', ok', Ao, co, rs, hk, rfl, rfl, hat, hkm, hkN, HNm, D, C, R, O, G⟩ := hrel
      have dp := bx_cell D.out
      have fp := bx_frozen D.out
      have zp := bx_lt D.out
      have hs := C.out.size
      by_cases hlt : k < N
      · cases ok'
        · have HN := Lib.hid (show rdRw b at_ ok most wide = (rs.map Prod.snd, at', false) by rw [G.out, rdR_off, List.append_nil])
          go_wp2
          exact bodyPost_ret (v := .slice Ao rs.length co) (by simp [results, Try.results91, go_sem]) rfl ⟨⟨Ao, co, rs, rfl, by have := hk.out; omega, by rw [HN.out], R.out⟩, by rw [HN.out]; exact D.out, C.out⟩
        · have hNm := Lib.hid (HNm.out rfl)
          rename World => wa
          have xr := ext_alloc wa (.cells #[] 3)
          have D3 := Lib.hid (xr.box D.out)
          have C3 := Lib.hid (chg_ext [r] xr)
          have O3 := Lib.hid (O.out.kept xr)
          have R3 := Lib.hid (show Ow zEnc 3 1 (wa.alloc (.cells #[] 3)) wa.heap.size (.slice (some ⟨wa.heap.size, 0, none⟩) 0 0) ([] : List Int) from own_empty (hNew rfl) (Nat.le_refl _))
          have K := Lib.hid (⟨D.out, C.out, R.out⟩ : wa.heap[r]? = some (rdO A b.length c at' true) ∧ Chg w wa [r] ∧ RsO wa w.heap.size Ao co rs)
          clear xr D C R O
          go_wp2
          clear dp fp zp
          go_loopw [10, 11, 40] (fun o _ i wr => ∃ (j at2 : Nat) (ok2 : Bool) (Ar : Option Addr) (cr : Nat) (l : List Int), Hid (l.length = j) ∧ i = .int .i64 j ∧ o = .slice Ar l.length cr ∧ at2 ≤ b.length ∧ j ≤ wide ∧ Hid (wr.heap[r]? = some (rdO A b.length c at2 ok2)) ∧ Hid (Chg wa wr [r]) ∧ Hid (Ow zEnc 3 1 wr wa.heap.size (.slice Ar l.length cr) l) ∧ Hid (Ow bEnc 5 1 wr Bb (.slice A b.length c) b) ∧ Hid (rdM b wide at' true = (l ++ (rdM b (wide - j) at2 ok2).1, (rdM b (wide - j) at2 ok2).2))) (fun _ _ i _ => wide - (intOf i).toNat)
          case atStart => exact ⟨0, at', true, _, _, [], Lib.hid rfl, rfl, rfl, hat, Nat.zero_le _, D3, C3, R3, O3, Lib.hid (by rw [Nat.sub_zero]; rfl)⟩
          case round =>
            clear D3 C3 R3 O3
            obtain ⟨j, at2, ok2, Ar, cr, l, hl, rfl, rfl, hat2, hj, D, C, R, O, H⟩ := hrel
            have hs2 := C.out.size
            by_cases hlt2 : j < wide
            · have HC := Lib.hid (c_num A c b at2 ok2 r _ (O.out.rd bEnc_len).2 HB.out hn (by omega) D.out)
              obtain ⟨g1, g2, g3⟩ := rdN_le HB.out hat2 ok2
              obtain ⟨n, hnn⟩ : ∃ n, wide - j = n + 1 := ⟨wide - j - 1, by omega⟩
              have HH := H.out
              rw [hnn, rdM_next] at HH
              obtain ⟨⟨x, f2, k2⟩, hx⟩ : ∃ p, rdN b at2 ok2 = p := ⟨_, rfl⟩
              rw [hx] at g1 g2 g3 HC HH
              simp only at g1 g2 g3 HC HH
              have HH := Lib.hid HH
              clear hx
              go_wp2_with fail
              refine HC.out.mono ?_
              rintro e w2 ⟨rfl, hd2, hc2⟩
              have x4 := ext_alloc w2 (.cells #[.int .i64 x] 3)
              have D4 := Lib.hid (x4.box hd2)
              have C4 := Lib.hid ((C.out.trans hc2).trans (chg_ext [r] x4))
              have R4 := Lib.hid ((R.out.bxk D.out (by decide) hc2).kept x4)
              have O4 := Lib.hid ((O.out.bxk D.out (by decide) hc2).kept x4)
              have hs4 := C4.out.size
              clear HC hd2 hc2 x4 D C R O H
              go_wp2_with (at_builtin; refine wl_app (enc := zEnc) rfl _ _ 65 rfl wa.heap.size 3 i0 (.int .i64 0) 1 8 Try.underlying65 hi hz0 hz1 hz2 rfl (by decide) zEnc_len zEnc_one (.slice Ar l.length cr) l rfl R4.out (some ⟨w2.heap.size, 0, none⟩) 1 [x] 1 rfl rfl (rd_boxZ (hNew rfl) rfl (by unfold maxLen; simp)) (by have := hl.out; unfold maxLen; simp; omega) (by have := hl.out; simp; omega) (by omega) ?_)
              intro v' w5 ho5 hg5
              obtain ⟨A6, c6, hv6⟩ := ho5.form
              have D5 := Lib.hid (box_own D4.out R4.out hg5 (by decide))
              have C5 := Lib.hid (chg_app C4.out R4.out hg5 (Nat.le_refl _))
              have O5 := Lib.hid (O4.out.chg (chg_grown hg5) (O4.out.apart R4.out (by decide)))
              have R5 := Lib.hid (show Ow zEnc 3 1 w5 wa.heap.size (.slice A6 (l ++ [x]).length c6) (l ++ [x]) by rw [← hv6]; exact ho5)
              subst hv6
              have hl5 := Lib.hid (show (l ++ [x]).length = j + 1 by rw [List.length_append, hl.out]; rfl)
              clear hg5 ho5 D4 C4 R4 O4
              go_wp2
              go_roundw
              case rel => exact ⟨j + 1, f2, k2, A6, c6, l ++ [x], hl5, by go_num, rfl, g1, by omega, D5, C5, R5, O5, Lib.hid (by rw [HH.out, show wide - (j + 1) = n by omega])⟩
              case measure => simp [intOf] <;> omega
            · obtain rfl : j = wide := by omega
              have HM := Lib.hid (show rdM b j at' true = (l, at2, ok2) by rw [H.out, Nat.sub_self, rdM, List.append_nil])
              obtain ⟨n, hnn⟩ : ∃ n, N - k = n + 1 := ⟨N - k - 1, by omega⟩
              have GG := G.out
              rw [hnn, rdR_next b j n at' _ HM.out] at GG
              have GG := Lib.hid GG
              have x4 := ext_alloc wr (.cells #[.slice Ar l.length cr] 65)
              have D4 := Lib.hid (x4.box D.out)
              have C4 := Lib.hid ((K.out.2.1.trans C.out).trans (chg_ext [r] x4))
              have Z4 := Lib.hid ((R.out.kept x4).less (B' := w.heap.size) hs)
              have R4 := Lib.hid ((K.out.2.2.bxk K.out.1 (by decide) (by decide) C.out).kept x4)
              have O4 := Lib.hid (O.out.kept x4)
              have hs4 := C4.out.size
              clear x4 D C R O H G K HM
              go_wp2_with (at_builtin; refine wl_app (enc := RwE.enc) rfl _ _ 118 rfl w.heap.size 65 j0 (.slice none 0 0) 1 24 Try.underlying118 ji jz0 jz1 jz2 rfl (by decide) RwE.len RwE.one (.slice Ao rs.length co) rs rfl R4.out.1 (some ⟨wr.heap.size, 0, none⟩) 1 [((Ar, cr), l)] 1 rfl rfl ((ow_box (hNew rfl) (Nat.zero_le _) RwE.len rfl (by unfold maxLen; simp)).rd RwE.len).2 (by have := hk.out; unfold maxLen; simp; omega) (by have := hk.out; simp; omega) (by omega) ?_)
              intro v' w5 ho5 hg5
              obtain ⟨A6, c6, hv6⟩ := ho5.form
              have D5 := Lib.hid (box_own D4.out R4.out.1 hg5 (by decide))
              have C5 := Lib.hid (chg_app C4.out R4.out.1 hg5 (Nat.le_refl _))
              have O5 := Lib.hid (O4.out.chg (chg_grown hg5) (O4.out.apart R4.out.1 (by decide)))
              have R5 := Lib.hid (show RsO w5 w.heap.size A6 c6 (rs ++ [((Ar, cr), l)]) from ⟨by rw [← hv6]; exact ho5, fun y hy => by
                rw [List.mem_append, List.mem_singleton] at hy
                rcases hy with hy | rfl
                · exact (R4.out.2 y hy).chg (chg_grown hg5) ((R4.out.2 y hy).apart R4.out.1 (by decide))
                · exact Z4.out.chg (chg_grown hg5) (Z4.out.apart R4.out.1 (by decide))⟩)
              subst hv6
              have hl5 := Lib.hid (show (rs ++ [((Ar, cr), l)]).length = k + 1 by rw [List.length_append, hk.out]; rfl)
              clear hg5 ho5 D4 C4 R4 O4 Z4
              go_wp2
              go_roundw
              case rel => exact ⟨k + 1, at2, ok2, A6, c6, rs ++ [((Ar, cr), l)], hl5, by go_num, rfl, hat2, by have := hNm.out; omega, by omega, Lib.hid (fun _ => hNm.out), D5, C5, R5, O5, Lib.hid (by rw [GG.out, show N - (k + 1) = n by omega, List.map_append]; rfl)⟩
              case measure => simp [intOf] <;> omega
      · obtain rfl : k = N := by omega
        have HN := Lib.hid (show rdRw b at_ ok most wide = (rs.map Prod.snd, at', ok') by rw [G.out, Nat.sub_self, rdR, List.append_nil])
        go_wp2
        exact bodyPost_ret (v := .slice Ao rs.length co) (by simp [results, Try.results91, go_sem]) rfl ⟨⟨Ao, co, rs, rfl, by have := hk.out; omega, by rw [HN.out], R.out⟩, by rw [HN.out]; exact D.out, C.out⟩
end Go.Proofs.Ytpghedeghoegmaa

