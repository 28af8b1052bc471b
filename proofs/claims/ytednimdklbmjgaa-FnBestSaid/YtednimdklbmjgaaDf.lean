/- Drawn votes. -/
import Derived.Test.YtednimdklbmjgaaDe
namespace Go.Proofs.Ytednimdklbmjgaa
open Go.ChangeShapes Go.WideShapes Go.ChangeAt Go.RowKit Go.Sort
set_option linter.unusedVariables false
set_option linter.unusedSimpArgs false

theorem LgF.tp {w w' : World} {B base : Nat} {a : LAd} {l : Lg} {S : List Nat} {e : TypeId} (h : LgF w B a l) (t : Typd w S base e) (k : Chg w w' S) (h1 : 63 ≠ e) (h2 : 65 ≠ e) (h3 : 53 ≠ e) : LgF w' B a l :=
  ⟨h.c.chg Cel.len k (t.row h.c h1), h.s.chg Sea.len k (t.row h.s h2), h.e.chg Ent.len k (t.row h.e h3)⟩
theorem ext_cur {w w1 w2 : World} {P : Nat} (x : Ext w w1) (g : w1.grownBy w2 (some P)) (hP : w.heap.size ≤ P) : Ext w w2 := ext_grown x g (fun k hk => by simp only [Option.some.injEq] at hk; omega)
def LgB (l : Lg) : Prop := l.cells.length ≤ 41 ∧ l.seats.length ≤ 11 ∧ l.ents.length ≤ 61

set_option maxHeartbeats 8000000 in
set_option maxRecDepth 100000 in
theorem c_DrawBestVote (A : Option Addr) (n c : Nat) (w : World) (hc : CodeOk w A n w.heap.size) (hnc : n ≤ c) (hcm : c ≤ 9223372036854775807) : Calls Try.prog 5 #[.slice A n c] w fun e w' => (∃ (A' : Option Addr) (c' : Nat) (ps : List VtE), e = .returned (.slice A' ps.length c') ∧ ps.length ≤ 21 ∧ VsR w' A' c' ps ∧ ∀ p ∈ ps, LgB p.2.log) ∧ Ext w w' := by
  obtain ⟨i0, hi, hz0, hz1, hz2⟩ := info_parts Try.infoVt
  go_enter Try.func5, Try.ntmps5
  go_wp2_with fail
  refine (c_l1New A n c w hc hnc hcm).mono ?_
  rintro e w1 ⟨⟨P, rfl, hPw, hc1⟩, X1⟩
  have hP1 := hc1.lt
  have hc2 := hc1.ext (ext_alloc w1 (.cells #[] 35))
  have o2 := Lib.hid (show Ow VtE.enc 35 10 (w1.alloc (.cells #[] 35)) w1.heap.size (.slice (some ⟨w1.heap.size, 0, none⟩) 0 0) [] from own_empty (hNew rfl) (Nat.le_refl _))
  have G2 := gr_alloc (World.grownBy.refl w1 (some P)) (.cells #[] 35)
  clear hc1 hc
  go_wp2_with fail
  refine (c_l1Below P A n c 6 _ hc2 (by omega)).mono ?_
  rintro e w3 ⟨x3, ⟨p3, q3⟩, rfl, hc3, hg3⟩
  have o3 := Lib.hid (o2.out.beside hg3 (fun k hk => by have := o2.out.lt k hk; simp only [ne_eq, Option.some.injEq]; omega))
  have G3 := grown_trans G2 hg3
  clear o2 G2 hc2 hg3
  go_wp2_with fail
  refine (c_l1Once P A n c 20 _ hc3 (by omega)).mono ?_
  rintro e w4 ⟨b4, rfl, hc4, hg4⟩
  have o4 := Lib.hid (o3.out.beside hg4 (fun k hk => by have := o3.out.lt k hk; simp only [ne_eq, Option.some.injEq]; omega))
  have G4 := grown_trans G3 hg4
  clear o3 G3 hc3 hg4
  cases b4
  · skip
    go_wp2
    go_loopw [4, 6] (fun o i wr => ∃ (k : Nat) (ps : List VtE), (k : Int) ≤ x3 ∧ i = .int .i64 k ∧ Hid (ps.length = k) ∧ Hid (∀ p ∈ ps, LgF wr w1.heap.size p.1 p.2.log) ∧ Hid (∀ p ∈ ps, LgB p.2.log) ∧ Ow VtE.enc 35 10 wr w1.heap.size o ps ∧ Cur wr P A n c ∧ w1.grownBy wr (some P)) (fun _ i _ => (x3 - intOf i).toNat)
    case atStart => exact ⟨0, [], by omega, rfl, Lib.hid rfl, Lib.hid (by simp), Lib.hid (by simp), o4.out, hc4, G4⟩
    case round =>
      clear o4 hc4 G4
      obtain ⟨k, ps, hk, rfl, HLK, HF, HB, ho, hcr, hgr⟩ := hrel
      obtain ⟨Ao, co, rfl⟩ := ho.form
      have hll : ps.length ≤ 21 := by have := HLK.out; omega
      have HO := Lib.hid ho
      clear ho
      by_cases hlt : (k : Int) < x3
      · have hPr := hcr.lt
        go_wp2_with fail
        refine (c_l1PickInt P A n c wr.heap.size [6, 6, 5] _ (hcr.ext (ext_alloc _ _)) (by decide) (by decide) (hNew rfl) (by omega)).mono ?_
        rintro e w5 ⟨y1, _, rfl, hc5, hg5⟩
        have G5 := grown_trans (gr_alloc (World.grownBy.refl wr (some P)) _) hg5
        clear hcr hg5
        go_wp2_with fail
        refine (c_l1Below P A n c 3 _ hc5 (by omega)).mono ?_
        rintro e w6 ⟨y2, _, rfl, hc6, hg6⟩
        have G6 := grown_trans G5 hg6
        clear hc5 hg6 G5
        go_wp2_with fail
        refine (c_l1Below P A n c 3 _ hc6 (by omega)).mono ?_
        rintro e w7 ⟨y3, _, rfl, hc7, hg7⟩
        have G7 := grown_trans G6 hg7
        clear hc6 hg7 G6
        go_wp2_with fail
        refine (c_l3DrawLog P A n c 4 _ hc7 (by decide) (by decide)).mono ?_
        rintro e w8 ⟨a, l, rfl, f8, _, hb1, hb2, hb3, hc8, hg8⟩
        have G8 := grown_trans G7 hg8
        have s7 := G7.size
        have sr := hgr.size
        have o8 := Lib.hid (HO.out.beside G8 (fun k hk => by have := HO.out.lt k hk; simp only [ne_eq, Option.some.injEq]; omega))
        have F8 := Lib.hid (show ∀ p ∈ ps, LgF w8 w1.heap.size p.1 p.2.log from fun p hp => (HF.out p hp).chg (chg_cur G8) (fun k hk => by rw [List.mem_singleton] at hk; omega))
        have H8 := Lib.hid (f8.less (B' := w1.heap.size) (by omega))
        have GG := grown_trans hgr G8
        have s8 := G8.size
        clear hc7 hg8 G7 G8 hgr HO HF f8
        go_wp2_with (at_builtin; refine wl_appF (enc := VtE.enc) rfl _ _ 24 rfl w1.heap.size 35 i0 Vt.zero 10 128 Try.underlying24 hi hz0 hz1 hz2 rfl (by decide) VtE.len VtE.one Ao co ps _ rfl rfl (Ow.rdF VtE.len (o8.out.kept (ext_alloc _ _))) (some ⟨w8.heap.size, 0, none⟩) 1 [(a, ⟨y1, y2, 0, y3, 0, 0, l⟩)] 1 rfl Nat.zero_lt_one rfl (Rd.one (hNew rfl) rfl) (by unfold maxLen; (try simp) <;> omega) (by (try simp) <;> omega) (by (try simp) <;> omega) ?_)
        intro v' w9 S9 o9 k9 t9
        have x9 := ext_alloc w8 (.cells #[.int .i64 y1, .int .i64 y2, .int .i64 0, .int .i64 y3, .int .i64 0, .int .i64 0, .int .i64 l.base, .slice a.cA l.cells.length a.cc, .slice a.sA l.seats.length a.sc, .slice a.eA l.ents.length a.ec] 35)
        have G9 := t9.gr (gr_ext GG x9) k9 (Nat.le_refl _)
        have hc9 := cur_chg (hc8.ext x9) k9 (fun k hk => by have := (t9 k hk).1; omega)
        have F9 := Lib.hid (show ∀ p ∈ ps ++ [(a, (⟨y1, y2, 0, y3, 0, 0, l⟩ : Vt))], LgF w9 w1.heap.size p.1 p.2.log from fun p hp => by
          rcases List.mem_append.1 hp with h | h
          · exact ((F8.out p h).keep x9).tp t9 k9 (by decide) (by decide) (by decide)
          · rw [List.mem_singleton] at h
            subst h
            exact (H8.out.keep x9).tp t9 k9 (by decide) (by decide) (by decide))
        have B9 := Lib.hid (show ∀ p ∈ ps ++ [(a, (⟨y1, y2, 0, y3, 0, 0, l⟩ : Vt))], LgB p.2.log from fun p hp => by
          rcases List.mem_append.1 hp with h | h
          · exact HB.out p h
          · rw [List.mem_singleton] at h
            subst h
            exact ⟨hb1, hb2, hb3⟩)
        clear hc8 o8 F8 H8 GG k9 t9 x9 HB
        go_wp2
        go_roundw
        case rel => exact ⟨k + 1, _, by omega, by go_num, Lib.hid (by rw [List.length_append, HLK.out]; rfl), F9, B9, o9, hc9, G9⟩
        case measure => simp [intOf] <;> omega
      · go_wp2
        go_ret
        exact ⟨⟨Ao, co, ps, rfl, hll, ⟨(HO.out.rd VtE.len).2, fun p hp => (HF.out p hp).rd⟩, fun a b h => HB.out (a, b) h⟩, ext_cur X1 hgr hPw⟩
  · go_wp2_with fail
    refine (c_l1Below P A n c 2 _ hc4 (by omega)).mono ?_
    rintro e w5 ⟨x5, ⟨p5, q5⟩, rfl, hc5, hg5⟩
    have o5 := Lib.hid (o4.out.beside hg5 (fun k hk => by have := o4.out.lt k hk; simp only [ne_eq, Option.some.injEq]; omega))
    have G5 := grown_trans G4 hg5
    clear o4 G4 hc4 hg5
    go_wp2
    go_loopw [4, 6] (fun o i wr => ∃ (k : Nat) (ps : List VtE), (k : Int) ≤ 20 + x5 ∧ i = .int .i64 k ∧ Hid (ps.length = k) ∧ Hid (∀ p ∈ ps, LgF wr w1.heap.size p.1 p.2.log) ∧ Hid (∀ p ∈ ps, LgB p.2.log) ∧ Ow VtE.enc 35 10 wr w1.heap.size o ps ∧ Cur wr P A n c ∧ w1.grownBy wr (some P)) (fun _ i _ => (20 + x5 - intOf i).toNat)
    case atStart => exact ⟨0, [], by omega, rfl, Lib.hid rfl, Lib.hid (by simp), Lib.hid (by simp), o5.out, hc5, G5⟩
    case round =>
      clear o5 hc5 G5
      obtain ⟨k, ps, hk, rfl, HLK, HF, HB, ho, hcr, hgr⟩ := hrel
      obtain ⟨Ao, co, rfl⟩ := ho.form
      have hll : ps.length ≤ 21 := by have := HLK.out; omega
      have HO := Lib.hid ho
      clear ho
      by_cases hlt : (k : Int) < 20 + x5
      · have hPr := hcr.lt
        go_wp2_with fail
        refine (c_l1PickInt P A n c wr.heap.size [6, 6, 5] _ (hcr.ext (ext_alloc _ _)) (by decide) (by decide) (hNew rfl) (by omega)).mono ?_
        rintro e w5 ⟨y1, _, rfl, hc5, hg5⟩
        have G5 := grown_trans (gr_alloc (World.grownBy.refl wr (some P)) _) hg5
        clear hcr hg5
        go_wp2_with fail
        refine (c_l1Below P A n c 3 _ hc5 (by omega)).mono ?_
        rintro e w6 ⟨y2, _, rfl, hc6, hg6⟩
        have G6 := grown_trans G5 hg6
        clear hc5 hg6 G5
        go_wp2_with fail
        refine (c_l1Below P A n c 3 _ hc6 (by omega)).mono ?_
        rintro e w7 ⟨y3, _, rfl, hc7, hg7⟩
        have G7 := grown_trans G6 hg7
        clear hc6 hg7 G6
        go_wp2_with fail
        refine (c_l3DrawLog P A n c 4 _ hc7 (by decide) (by decide)).mono ?_
        rintro e w8 ⟨a, l, rfl, f8, _, hb1, hb2, hb3, hc8, hg8⟩
        have G8 := grown_trans G7 hg8
        have s7 := G7.size
        have sr := hgr.size
        have o8 := Lib.hid (HO.out.beside G8 (fun k hk => by have := HO.out.lt k hk; simp only [ne_eq, Option.some.injEq]; omega))
        have F8 := Lib.hid (show ∀ p ∈ ps, LgF w8 w1.heap.size p.1 p.2.log from fun p hp => (HF.out p hp).chg (chg_cur G8) (fun k hk => by rw [List.mem_singleton] at hk; omega))
        have H8 := Lib.hid (f8.less (B' := w1.heap.size) (by omega))
        have GG := grown_trans hgr G8
        have s8 := G8.size
        clear hc7 hg8 G7 G8 hgr HO HF f8
        go_wp2_with (at_builtin; refine wl_appF (enc := VtE.enc) rfl _ _ 24 rfl w1.heap.size 35 i0 Vt.zero 10 128 Try.underlying24 hi hz0 hz1 hz2 rfl (by decide) VtE.len VtE.one Ao co ps _ rfl rfl (Ow.rdF VtE.len (o8.out.kept (ext_alloc _ _))) (some ⟨w8.heap.size, 0, none⟩) 1 [(a, ⟨y1, y2, 0, y3, 0, 0, l⟩)] 1 rfl Nat.zero_lt_one rfl (Rd.one (hNew rfl) rfl) (by unfold maxLen; (try simp) <;> omega) (by (try simp) <;> omega) (by (try simp) <;> omega) ?_)
        intro v' w9 S9 o9 k9 t9
        have x9 := ext_alloc w8 (.cells #[.int .i64 y1, .int .i64 y2, .int .i64 0, .int .i64 y3, .int .i64 0, .int .i64 0, .int .i64 l.base, .slice a.cA l.cells.length a.cc, .slice a.sA l.seats.length a.sc, .slice a.eA l.ents.length a.ec] 35)
        have G9 := t9.gr (gr_ext GG x9) k9 (Nat.le_refl _)
        have hc9 := cur_chg (hc8.ext x9) k9 (fun k hk => by have := (t9 k hk).1; omega)
        have F9 := Lib.hid (show ∀ p ∈ ps ++ [(a, (⟨y1, y2, 0, y3, 0, 0, l⟩ : Vt))], LgF w9 w1.heap.size p.1 p.2.log from fun p hp => by
          rcases List.mem_append.1 hp with h | h
          · exact ((F8.out p h).keep x9).tp t9 k9 (by decide) (by decide) (by decide)
          · rw [List.mem_singleton] at h
            subst h
            exact (H8.out.keep x9).tp t9 k9 (by decide) (by decide) (by decide))
        have B9 := Lib.hid (show ∀ p ∈ ps ++ [(a, (⟨y1, y2, 0, y3, 0, 0, l⟩ : Vt))], LgB p.2.log from fun p hp => by
          rcases List.mem_append.1 hp with h | h
          · exact HB.out p h
          · rw [List.mem_singleton] at h
            subst h
            exact ⟨hb1, hb2, hb3⟩)
        clear hc8 o8 F8 H8 GG k9 t9 x9 HB
        go_wp2
        go_roundw
        case rel => exact ⟨k + 1, _, by omega, by go_num, Lib.hid (by rw [List.length_append, HLK.out]; rfl), F9, B9, o9, hc9, G9⟩
        case measure => simp [intOf] <;> omega
      · go_wp2
        go_ret
        exact ⟨⟨Ao, co, ps, rfl, hll, ⟨(HO.out.rd VtE.len).2, fun p hp => (HF.out p hp).rd⟩, fun a b h => HB.out (a, b) h⟩, ext_cur X1 hgr hPw⟩
end Go.Proofs.Ytednimdklbmjgaa
