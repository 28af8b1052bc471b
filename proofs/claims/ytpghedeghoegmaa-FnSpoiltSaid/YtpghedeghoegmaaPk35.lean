/- Drawn bytes of a message: DrawUnpackMsg. -/
import Derived.Test.YtpghedeghoegmaaPk34
import Derived.Test.YtpghedeghoegmaaPk30
import Derived.Deep.CutRange
namespace Go.Proofs.Ytpghedeghoegmaa
open Go.ChangeShapes Go.WideShapes Go.ChangeAt Go.RowKit Go.Sort
set_option linter.unusedVariables false
set_option linter.unusedSimpArgs false
theorem flat_setB (l : List Nat) (i y : Nat) (h : i < l.length) : (l.flatMap bEnc).set i (.int .u8 y) = (l.set i y).flatMap bEnc := by
 have e : ∀ q : List Nat, q.flatMap bEnc = q.map (fun x => Value.int .u8 (x : Nat)) := fun q => by
  induction q with
  | nil => rfl
  | cons x q ih => simp [bEnc, ih]
 rw [e, e]
 rw [List.map_set]
theorem own_setB {w : World} {B g c : Nat} {l : List Nat} (h : Ow bEnc 5 1 w B (.slice (some ⟨g, 0, none⟩) l.length c) l) {i y : Nat} (hi : i < l.length) :
  Ow bEnc 5 1 (w.setCell ⟨g, i, none⟩ (.int .u8 y)) B (.slice (some ⟨g, 0, none⟩) (l.set i y).length c) (l.set i y) ∧ w.grownBy (w.setCell ⟨g, i, none⟩ (.int .u8 y)) (some g) := by
 unfold Ow at h
 have s0 := World.ownsRow.stored h i (.int .u8 y)
 refine ⟨?_, s0.2⟩
 unfold Ow
 rw [List.length_set]
 exact ownsRow_congr s0.1 (flat_setB l i y hi)
theorem byt_set {l : List Nat} (h : Byt l) {i y : Nat} (hy : y ≤ 255) : Byt (l.set i y) := fun z hz => by
 rcases List.mem_or_eq_of_mem_set hz with hz | rfl
 ·exact h z hz
 ·omega
theorem byt_take {l : List Nat} (h : Byt l) (n : Nat) : Byt (l.take n) := fun z hz => h z (List.mem_of_mem_take hz)
theorem packV_facts (m : Mg) : (packV m).1.length ≤ 5000 ∧ Byt (packV m).1 ∧ ((packV m).2 = true → 6 ≤ (packV m).1.length) := by
 unfold packV
 cases q : iFits m
 ·exact ⟨by simp, by intro z hz; simp at hz, by intro h; cases h⟩
 ·have h1 := (body_put q).2
  have h9 := putN_len9 (x := (packZ (msgNums m)).length) (by omega)
  have h0 := putN_pos (packZ (msgNums m)).length
  have h2 : (packM m).length = (putN (packZ (msgNums m)).length).length + ((packZ (msgNums m)).length + 4) := by
   unfold packM frame
   rw [List.length_append, List.length_append]
   rfl
  have h3 : 1 ≤ (packZ (msgNums m)).length := by
   unfold msgNums packZ
   rw [List.flatMap_cons, List.length_append]
   have := putN_pos m.kind.toNat
   omega
  refine ⟨by simp only [if_true]; omega, fun z hz => ?_, fun _ => by simp only [if_true]; omega⟩
  have := frame_bytes (packZ_bytes (msgNums m)) z hz
  omega
def RbO (P : Nat) (A : Option Addr) (n c : Nat) (w : World) (v : Value) (W : World) : Prop := ∃ (A' : Option Addr) (c' : Nat) (b : List Nat), v = .slice A' b.length c' ∧ Ow bEnc 5 1 W (P + 1) (.slice A' b.length c') b ∧ Byt b ∧ 0 < b.length ∧ b.length ≤ 5001 ∧ Cur W P A n c ∧ Ext w W
def RbR (P : Nat) (A : Option Addr) (n c : Nat) (w : World) (v : Value) (W : World) : Prop := ∃ (A' : Option Addr) (c' : Nat) (b : List Nat), v = .slice A' b.length c' ∧ Rd bEnc 1 W A' c' b ∧ Byt b ∧ b.length ≤ 5001 ∧ Cur W P A n c ∧ Ext w W
theorem byt_frame {b : List Nat} (h : Byt b) : Byt (frame b) := fun z hz => by
 have := frame_bytes (fun y hy => by have := h y hy; omega) z hz
 omega
theorem frame_len (b : List Nat) (h : b.length ≤ 4000) : (frame b).length ≤ 5000 ∧ 0 < (frame b).length := by
 have h9 := putN_len9 (x := b.length) (by omega)
 have h0 := putN_pos b.length
 have h2 : (frame b).length = (putN b.length).length + (b.length + 4) := by
  unfold frame
  rw [List.length_append, List.length_append]
  rfl
 omega
theorem c_sFrameAny (A : Option Addr) (c : Nat) (l : List Nat) (w : World) (hr : Rd bEnc 1 w A c l) (hb : Byt l) (hn : l.length ≤ 1048576) : Calls Try.prog 32 #[.slice A l.length c] w fun e w' => (∃ A' c' q k, e = .returned (.tuple #[.slice A' q.length c', .bool k]) ∧ Rd bEnc 1 w' A' c' q ∧ Byt q ∧ q.length ≤ 5000) ∧ Ext w w' := by
 by_cases h : l.length ≤ 4000
 ·refine (c_sFrame A c l w hr hb h).mono ?_
  rintro e w1 ⟨⟨A', c', rfl, o⟩, x⟩
  exact ⟨⟨A', c', frame l, true, rfl, (o.rd bEnc_len).2, byt_frame hb, (frame_len l h).1⟩, x⟩
 ·have hg : decide ((4000 : Int) < (l.length : Int)) = true := by simp; omega
  clear hr
  go_enter Try.func32, Try.ntmps32
  go_wp2
  exact bodyPost_ret (v := .tuple #[.slice (some ⟨w.heap.size, 0, none⟩) 0 0, .bool false]) (by simp [results, Try.results32, go_sem]) rfl ⟨⟨_, _, [], false, rfl, ⟨Nat.le_refl _, by unfold maxLen; omega, fun h9 => absurd h9 (by simp)⟩, (by intro z hz; simp at hz), by simp⟩, ext_alloc _ _⟩
theorem unfE_facts (b : List Nat) (hb : Byt b) : Byt (unfE b).1 ∧ ((unfE b).2.2 = 0 → (unfE b).1.length ≤ 4000) := by
 have hnil : Byt [] := by intro z hz; simp at hz
 unfold unfE unfr
 split
 ·exact ⟨hnil, by simp⟩
 ·split
  ·exact ⟨hnil, by simp⟩
  ·split
   ·exact ⟨hnil, by simp⟩
   ·split
    ·refine ⟨fun z hz => hb z (List.mem_of_mem_drop (List.mem_of_mem_take hz)), fun _ => ?_⟩
     simp only [List.length_take, List.length_drop]
     omega
    ·exact ⟨hnil, by simp⟩
theorem shl8 (y : Int) (h0 : 0 ≤ y) (h1 : y < 8) : ∃ s : Nat, (s = 1 ∨ s = 2 ∨ s = 4 ∨ s = 8 ∨ s = 16 ∨ s = 32 ∨ s = 64 ∨ s = 128) ∧ (2 : Int) ^ y.toNat % 256 = (s : Int) := by
 have : y = 0 ∨ y = 1 ∨ y = 2 ∨ y = 3 ∨ y = 4 ∨ y = 5 ∨ y = 6 ∨ y = 7 := by omega
 rcases this with rfl | rfl | rfl | rfl | rfl | rfl | rfl | rfl
 ·exact ⟨1, by simp, by decide⟩
 ·exact ⟨2, by simp, by decide⟩
 ·exact ⟨4, by simp, by decide⟩
 ·exact ⟨8, by simp, by decide⟩
 ·exact ⟨16, by simp, by decide⟩
 ·exact ⟨32, by simp, by decide⟩
 ·exact ⟨64, by simp, by decide⟩
 ·exact ⟨128, by simp, by decide⟩
def xorOk (x s : Nat) : Bool := decide (0 ≤ bits .xor .u8 x s) && decide (bits .xor .u8 x s < 256) && bits .xor .u8 x s != (x : Int)
set_option maxRecDepth 100000 in
theorem xor8_all : ((List.range 256).all fun x => [1, 2, 4, 8, 16, 32, 64, 128].all fun s => xorOk x s) = true := by kernel_rfl
theorem xor8 (x s : Nat) (hx : x < 256) (hs : s = 1 ∨ s = 2 ∨ s = 4 ∨ s = 8 ∨ s = 16 ∨ s = 32 ∨ s = 64 ∨ s = 128) : ∃ z : Nat, bits .xor .u8 x s = z ∧ z < 256 ∧ z ≠ x := by
 have h := List.all_eq_true.1 (List.all_eq_true.1 xor8_all x (List.mem_range.2 hx)) s (by simp; omega)
 unfold xorOk at h
 simp only [Bool.and_eq_true, decide_eq_true_eq, bne_iff_ne, ne_eq] at h
 exact ⟨(bits .xor .u8 x s).toNat, by omega, by omega, fun he => h.2 (by omega)⟩
set_option maxRecDepth 100000 in
set_option maxHeartbeats 16000000 in
theorem c_DrawUnpackMsg (A : Option Addr) (n c : Nat) (w : World) (hc : CodeOk w A n w.heap.size) (hnc : n ≤ c) (hcm : c ≤ 9223372036854775807) : Calls Try.prog 26 #[.slice A n c] w fun e w' => (∃ (A' : Option Addr) (c' : Nat) (b : List Nat), e = .returned (.slice A' b.length c') ∧ Rd bEnc 1 w' A' c' b ∧ Byt b ∧ b.length ≤ 5002) ∧ Ext w w' := by
 obtain ⟨i0, hi, hz0, hz1, hz2⟩ := info_parts Try.infoU8
 have hn := hc.1
 have HC := Hd (c_l1New A n c _ hc hnc hcm)
 clear hc
 go_enter Try.func26, Try.ntmps26
 go_wp2_with fail
 refine HC.out.mono ?_
 rintro e w1 ⟨⟨P, rfl, hPw, hc1⟩, X1⟩
 clear HC
 go_wp2_with fail
 refine (c_l1Size A n c 8 w1 hn (by omega) (by omega)).mono ?_
 rintro e w2 ⟨⟨q, ⟨hq0, hq1⟩, rfl⟩, rfl⟩
 go_wp2_with fail
 refine (c_l4DrawRight P A n c q _ hc1 hq0 (by omega)).mono ?_
 rintro e w3 ⟨a, m, rfl, f3, _, ⟨hl1, hl2, hl3⟩, hc3, hg3⟩
 have X3 := Hd (ext_cur9 X1 hg3 hPw)
 have hP3 := hc3.lt
 have HCp := Hd (c_sPackMsg a m w3 ⟨by omega, by omega, by omega⟩ f3.rd)
 have HPV := Hd (packV_facts m)
 clear hc1 hg3 f3 X1 hl1 hl2 hl3 hq0 hq1
 go_wp2_with fail
 refine HCp.out.mono ?_
 rintro e w4 ⟨⟨A4, c4, rfl, o4⟩, x4⟩
 obtain ⟨b4, hb4⟩ : ∃ b, (packV m).1 = b := ⟨_, rfl⟩
 obtain ⟨k4, hk4⟩ : ∃ b, (packV m).2 = b := ⟨_, rfl⟩
 have HP := HPV.out
 rw [hb4, hk4] at HP
 rw [hb4] at o4
 rw [hb4, hk4]
 have HP4 := Hd HP
 have O4 := Hd (o4.less (B' := P + 1) (by omega))
 have X4 := Hd (Ext.trans X3.out x4)
 have C4 := Hd (hc3.ext x4)
 clear HP HPV HCp o4 x4 X3 hc3 hb4 hk4
 go_upto_if 21 with fail
 go_cut [4] from 22 to 26 (fun v wx => RbO P A n c w v wx)
 case first =>
  cases k4
  ·have x5 := ext_alloc w4 (.cells #[.int .u8 1] 5)
   have HF := Hd (c_sFrame (some ⟨w4.heap.size, 0, none⟩) 1 [1] (w4.alloc (.cells #[.int .u8 1] 5)) (Rd.one (hNew rfl) rfl) (by intro z hz; simp at hz; omega) (by simp))
   have hsz := C4.out.lt
   have hfl := frame_len [1] (by simp)
   clear HP4 O4
   go_wp2_with fail
   refine HF.out.mono ?_
   rintro e w6 ⟨⟨A6, c6, rfl, o6⟩, x6⟩
   have O6 := Hd (o6.less (B' := P + 1) (by simp; omega))
   have X6 := Hd (Ext.trans X4.out (Ext.trans x5 x6))
   have C6 := Hd (C4.out.ext (Ext.trans x5 x6))
   clear o6 x6 x5 X4 C4 HF
   go_wp2_with fail
   go_meet
   exact ⟨A6, c6, frame [1], rfl, O6.out, byt_frame (by intro z hz; simp at hz; omega), hfl.2, by omega, C6.out, X6.out⟩
  ·have h6 := HP4.out.2.2 rfl
   have h5 := HP4.out.1
   go_wp2_with fail
   go_meet
   exact ⟨A4, c4, b4, rfl, O4.out, HP4.out.2.1, by omega, by omega, C4.out, X4.out⟩
 case rest =>
  obtain ⟨Ab, cb, b, rfl, ob, hby, hb0, hb1, hcb, Xb⟩ := hcut
  have O := Hd ob
  have HBy := Hd hby
  have X := Hd Xb
  have hPb := hcb.lt
  clear HP4 O4 X4 C4 ob hby Xb
  go_wp2_with fail
  refine (c_l1Below P A n c 6 _ hcb (by omega)).mono ?_
  rintro e w5 ⟨x, ⟨px, qx⟩, rfl, hc5, hg5⟩
  have O5 := Hd (O.out.beside hg5 (fun k hk => by have := O.out.lt k hk; simp only [ne_eq, Option.some.injEq]; omega))
  have X5 := Hd (ext_cur9 X.out hg5 hPw)
  have hP5 := hc5.lt
  clear O X hcb hg5
  by_cases h0 : x = 0
  ·subst h0
   go_wp2_with fail
   refine (c_l1Below P A n c b.length _ hc5 (by omega)).mono ?_
   rintro e w6 ⟨y, ⟨py, qy⟩, rfl, hc6, hg6⟩
   have O6 := Hd (O5.out.beside hg6 (fun k hk => by have := O5.out.lt k hk; simp only [ne_eq, Option.some.injEq]; omega))
   have X6 := Hd (ext_cur9 X5.out hg6 hPw)
   have hP6 := hc6.lt
   obtain ⟨i, rfl⟩ : ∃ i : Nat, y = (i : Int) := ⟨y.toNat, by omega⟩
   have hib : i < b.length := by omega
   obtain ⟨g, rfl, hgP, hgl⟩ := ownsRow_form (show w6.ownsRow (P + 1) 5 1 (.slice Ab b.length cb) b.length (b.flatMap bEnc) from O6.out) (by omega)
   obtain ⟨rb, ro, hA, hrl, e0⟩ := (O6.out.rd bEnc_len).2.atB hib
   simp only [Option.some.injEq, Addr.mk.injEq] at hA
   obtain ⟨rfl, rfl, _⟩ := hA
   rw [Nat.zero_add] at e0
   have hbi := HBy.out b[i] (List.getElem_mem hib)
   obtain ⟨xi, hxi⟩ : ∃ q, b[i] = q := ⟨_, rfl⟩
   rw [hxi] at e0 hbi
   have HE0 := Hd e0
   clear hc5 hg6 O5 X5 hxi e0
   go_wp2
   (refine Rm.wp_region_mix' (R := relC P A n c w6.heap.size hP6) (fun _ _ _ => True) (fun _ _ _ _ _ hq => hq) 11 (by first | exact Nat.le_refl _ | omega | (simp; omega)) (by kernel_rfl) (by kernel_rfl) ?_; simp only [Tc, Tz, Dc, Dz])
   (iterate 5 (refine Rm.wpMix_plain rfl rfl ?_; go_big_quiet_step (fail); refine wpQuiet_nil ?_))
   (refine Rm.wpMix_load1 (fun W h => (World.cell?_of_block (a := ⟨g, i, none⟩) (h.1.block g hgl (by simp only [ne_eq, Option.some.injEq]; omega))).trans HE0.out) rfl rfl rfl Try.underlying5 rfl ?_; simp only [Act.put, Sa, Sz, Ss])
   (iterate 1 (refine Rm.wpMix_plain rfl rfl ?_; go_big_quiet_step (fail); refine wpQuiet_nil ?_))
   (refine Rm.wpMix_call (DrV (Less 8)) rfl rfl rfl (enters Try.func66 (by kernel_rfl) rfl) (DrV.mono _ _) (fun W9' h9 => (c_l1Below P A n c 8 W9' (h9.2 hc6) (by omega)).mono fun e w' ⟨x, hx, he, hc9, hg9⟩ => ⟨_, he, ⟨x, hx, rfl⟩, hg9, fun _ => hc9⟩) rfl (fun v9 hv9 => ?_); obtain ⟨_, _, y1, hy1, rfl⟩ := hv9; simp only [Act.put, Sa, Sz, Ss])
   obtain ⟨py, qy⟩ := hy1
   obtain ⟨sv, hsv, hpw⟩ := shl8 y1 py (by omega)
   obtain ⟨zv, hzv, hz8, _⟩ := xor8 xi sv hbi hsv
   have HPw := Hd hpw
   clear hpw
   (iterate 3 (refine Rm.wpMix_plain rfl rfl ?_; go_big_quiet_step (fail); refine wpQuiet_nil ?_))
   refine Rm.wpMix_nil ?_
   rintro w7 ⟨⟨hg7, hk7⟩, hj7⟩
   clear hj7
   have hc7 := hk7 hc6
   have O7 := Hd (O6.out.beside hg7 (fun k hk => by have := O6.out.lt k hk; simp only [ne_eq, Option.some.injEq]; omega))
   have X7 := Hd (ext_cur9 X6.out hg7 hPw)
   have hfz := World.ownsRow.frozenAt (show w7.ownsRow (P + 1) 5 1 (.slice (some ⟨g, 0, none⟩) b.length cb) b.length (b.flatMap bEnc) from O7.out)
   have e7 : w7.cell? ⟨g, i, none⟩ = some (.int .u8 xi) := (World.cell?_of_block (a := ⟨g, i, none⟩) (hg7.block g hgl (by simp only [ne_eq, Option.some.injEq]; omega))).trans HE0.out
   have S8 := own_setB O7.out (i := i) (y := zv) hib
   have O8 := Hd S8.1
   have X8 := Hd (ext_grown X7.out S8.2 (fun k hk => by simp only [Option.some.injEq] at hk; omega))
   have HB8 := Hd (byt_set HBy.out (i := i) (y := zv) (by omega))
   have hg7s := hg7.size
   clear S8 O7 X7 hg7 hk7 hc7 hc6 O6 X6 HE0
   (try rw [HPw.out, hzv])
   go_wp2
   go_ret
   exact ⟨⟨some ⟨g, 0, none⟩, cb, b.set i zv, (by rw [List.length_set]; rfl), (O8.out.rd bEnc_len).2, HB8.out, by rw [List.length_set]; omega⟩, X8.out⟩
  ·have h0' : (x == 0) = false := by simpa using h0
   by_cases h1 : x = 1
   ·subst h1
    have HU := Hd (c_sUnframe Ab cb b w5 (O5.out.rd bEnc_len).2 HBy.out (by omega))
    have HUl := Hd (unfE_facts b HBy.out)
    go_wp2_with fail
    refine HU.out.mono ?_
    rintro e w6 ⟨⟨A6, c6, rfl, o6⟩, x6⟩
    obtain ⟨bd, hbd⟩ : ∃ q, (unfE b).1 = q := ⟨_, rfl⟩
    obtain ⟨cd, hcd⟩ : ∃ q, (unfE b).2.2 = q := ⟨_, rfl⟩
    have HV := HUl.out
    rw [hbd, hcd] at HV
    rw [hbd] at o6
    rw [hbd, hcd]
    have HVl := Hd HV
    have O6 := Hd (o6.less (B' := P + 1) (by omega))
    have X6 := Hd (Ext.trans X5.out x6)
    have OB := Hd (O5.out.kept x6)
    have hc6 := hc5.ext x6
    clear HV HUl HU o6 x6 X5 O5 hc5 hbd hcd
    by_cases hcd : cd = 0
    ·by_cases hl : 0 < bd.length
     ·have hcb1 : (cd == 0) = true := by simp [hcd]
      have hcb2 : decide ((0 : Int) < (bd.length : Int)) = true := by simpa using hl
      have h40 := HVl.out.2 hcd
      have hP6 := hc6.lt
      clear hcd
      go_wp2_with fail
      refine (c_l1Below P A n c bd.length _ hc6 (by omega)).mono ?_
      rintro e w7 ⟨y, ⟨py, qy⟩, rfl, hc7, hg7⟩
      obtain ⟨i, rfl⟩ : ∃ i : Nat, y = (i : Int) := ⟨y.toNat, by omega⟩
      have hib : i < bd.length := by omega
      have O7 := Hd (O6.out.beside hg7 (fun k hk => by have := O6.out.lt k hk; simp only [ne_eq, Option.some.injEq]; omega))
      have X7 := Hd (ext_cur9 X6.out hg7 hPw)
      have hP7 := hc7.lt
      clear hc6 hg7 O6 X6 OB
      go_wp2_with fail
      refine (c_l1PickInt P A n c w7.heap.size [0, 1, 2, 12, 13, 127, 128, 255] _ (hc7.ext (ext_alloc _ _)) (by decide) (by decide) (hNew rfl) (by omega)).mono ?_
      rintro e w8 ⟨z, hz, rfl, hc8, hg8⟩
      have hz2 : 0 ≤ z ∧ z ≤ 255 := by
       simp only [OneOf, List.mem_cons, List.not_mem_nil, or_false] at hz
       omega
      obtain ⟨t, rfl⟩ : ∃ t : Nat, z = (t : Int) := ⟨z.toNat, by omega⟩
      have ht : t ≤ 255 := by omega
      have x78 := ext_alloc w7 (.cells #[.int .i64 0, .int .i64 1, .int .i64 2, .int .i64 12, .int .i64 13, .int .i64 127, .int .i64 128, .int .i64 255] 3)
      have O8 := (O7.out.kept x78).beside hg8 (fun k hk => by have := (O7.out.kept x78).lt k hk; simp only [ne_eq, Option.some.injEq]; omega)
      have X8 := ext_cur9 (Ext.trans X7.out x78) hg8 hPw
      obtain ⟨g, rfl, hgP, hgl⟩ := ownsRow_form (show w8.ownsRow (P + 1) 5 1 (.slice A6 bd.length c6) bd.length (bd.flatMap bEnc) from O8) (by omega)
      obtain ⟨rb, ro, hA, hrl, e0⟩ := (O8.rd bEnc_len).2.atB hib
      simp only [Option.some.injEq, Addr.mk.injEq] at hA
      obtain ⟨rfl, rfl, _⟩ := hA
      rw [Nat.zero_add] at e0
      have hfz := World.ownsRow.frozenAt (show w8.ownsRow (P + 1) 5 1 (.slice (some ⟨g, 0, none⟩) bd.length c6) bd.length (bd.flatMap bEnc) from O8)
      have hwr : IntKind.u8.wrap (t : Int) = (t : Int) := by rw [IntKind.wrap_u8]; omega
      have S9 := own_setB O8 (i := i) (y := t) hib
      have O9 := Hd S9.1
      have C9 := Hd (hc8.grown S9.2 (fun k hk => by simp only [Option.some.injEq] at hk; omega))
      have X9 := Hd (ext_grown X8 S9.2 (fun k hk => by simp only [Option.some.injEq] at hk; omega))
      have HB9 := Hd (byt_set HVl.out.1 (i := i) ht)
      have hln : (bd.set i t).length = bd.length := List.length_set
      clear S9 O8 X8 hc8 hg8 x78 hc7 O7 X7 hz hz2
      go_wp2_with (with_reducible refine wl_stop 73 ?_)
      obtain ⟨bs, hbs⟩ : ∃ q, bd.set i t = q := ⟨_, rfl⟩
      rw [hbs] at O9 HB9 hln
      refine stop_go (F := fun W => W = w8.setCell ⟨g, i, none⟩ (.int .u8 t)) rfl ?_
      rintro w9 hw9
      rw [← hw9] at O9 C9 X9
      rw [← hln]
      have hgl9 : g < w9.heap.size := by rw [hw9]; simpa using hgl
      have hbs0 : 0 < bs.length := by omega
      have hbs1 : bs.length ≤ 4000 := by omega
      clear hw9 e0 hfz hwr hgl hrl hbs HVl hcb1 hcb2 hib py qy hln
      go_wp2_with fail
      refine (c_l1Once P A n c 4 _ C9.out (by omega)).mono ?_
      rintro e w10 ⟨b10, rfl, hc10, hg10⟩
      have O10 := Hd (O9.out.beside hg10 (fun k hk => by have := O9.out.lt k hk; simp only [ne_eq, Option.some.injEq]; omega))
      have X10 := Hd (ext_cur9 X9.out hg10 hPw)
      have C10 := Hd hc10
      clear hg10 hc10 O9 X9 C9
      go_upto_if 73 with fail
      go_cut [7] from 74 to 76 (fun v wx => RbO P A n c w v wx)
      case first =>
       cases b10
       ·go_wp2_with fail
        go_meet
        exact ⟨some ⟨g, 0, none⟩, c6, bs, rfl, O10.out, HB9.out, by omega, by omega, C10.out, X10.out⟩
       ·have HQ := Hd (O10.out.kept (ext_alloc w10 (.cells #[.int .u8 0] 5)))
        have hP10 := C10.out.lt
        go_wp2_with (at_builtin; refine wl_app (enc := bEnc) rfl _ _ 34 rfl (P + 1) 5 i0 (.int .u8 0) 1 1 Try.underlying34 hi hz0 hz1 hz2 rfl (by decide) bEnc_len bEnc_one (.slice (some ⟨g, 0, none⟩) bs.length c6) bs rfl HQ.out (some ⟨w10.heap.size, 0, none⟩) 1 [0] 1 rfl rfl (Rd.one (hNew rfl) rfl) ?c1 ?c2 ?c3 ?_)
        case c1 => unfold maxLen; (try simp) <;> omega
        case c2 => (try simp) <;> omega
        case c3 => (try simp) <;> omega
        intro v' w11 ho11 hg11
        obtain ⟨A11, c11, rfl⟩ := ho11.form
        have X11 := Hd (ext_app2 (ext_to X10.out _) hg11 HQ.out (by omega))
        have C11 := Hd ((C10.out.ext (ext_alloc w10 (.cells #[.int .u8 0] 5))).grown hg11 (fun k hk => by have := HQ.out.lt k hk; omega))
        have O11 := Hd ho11
        clear ho11 hg11 O10 X10 C10
        go_wp2_with fail
        go_meet
        exact ⟨A11, c11, bs ++ [0], rfl, O11.out, (fun z hz => by rcases List.mem_append.1 hz with hz | hz; exact HB9.out z hz; simp at hz; omega), by simp, by simp; omega, C11.out, X11.out⟩
      case rest =>
       obtain ⟨Ad, cd2, d, rfl, od, hdy, hd0, hd1, hcd2, Xd⟩ := hcut
       have OD := Hd od
       have HDy := Hd hdy
       have XD := Hd Xd
       clear od hdy Xd O10 X10 C10 HB9
       go_wp2_with fail
       refine (c_l1Once P A n c 4 _ hcd2 (by omega)).mono ?_
       rintro e w12 ⟨b12, rfl, hc12, hg12⟩
       have O12 := Hd (OD.out.beside hg12 (fun k hk => by have := OD.out.lt k hk; simp only [ne_eq, Option.some.injEq]; omega))
       have X12 := Hd (ext_cur9 XD.out hg12 hPw)
       clear hg12 OD XD hcd2
       go_upto_if 78 with fail
       go_cut [7] from 79 to 85 (fun v wx => RbR P A n c w v wx)
       case first =>
        cases b12
        ·go_wp2_with fail
         go_meet
         exact ⟨Ad, cd2, d, rfl, (O12.out.rd bEnc_len).2, HDy.out, by omega, hc12, X12.out⟩
        ·have hlw : IntKind.i64.wrap ((d.length : Int) + 1) = (d.length : Int) + 1 := by rw [IntKind.wrap_i64]; omega
         have hcap := (O12.out.rd bEnc_len).2.1
         go_wp2_with fail
         (try simp only [hlw])
         refine (c_l1Below P A n c ((d.length : Int) + 1) _ hc12 (by omega)).mono ?_
         rintro e w13 ⟨y, ⟨py, qy⟩, rfl, hc13, hg13⟩
         obtain ⟨j, rfl⟩ : ∃ j : Nat, y = (j : Int) := ⟨y.toNat, by omega⟩
         have hjd : j ≤ d.length := by omega
         have R13 := Hd (rd_take1 ((O12.out.beside hg13 (fun k hk => by have := O12.out.lt k hk; simp only [ne_eq, Option.some.injEq]; omega)).rd bEnc_len).2 j)
         have X13 := Hd (ext_cur9 X12.out hg13 hPw)
         have hlt : (d.take j).length = j := by rw [List.length_take]; omega
         have C13 := Hd hc13
         clear hg13 hc13 X12 O12 hlw
         go_wp2_with fail
         go_meet
         exact ⟨Ad, cd2, d.take j, by rw [hlt], R13.out, byt_take HDy.out j, by omega, C13.out, X13.out⟩
       case rest =>
        obtain ⟨Af, cf, f, rfl, rf, hfy, hf1, hcf, Xf⟩ := hcut
        have HFr := Hd (c_sFrameAny Af cf f _ rf hfy (by omega))
        have XF := Hd Xf
        clear rf hfy hcf Xf O12 X12 HDy
        go_wp2_with fail
        refine HFr.out.mono ?_
        rintro e w14 ⟨⟨A14, c14, q14, k14, rfl, r14, hy14, hl14⟩, x14⟩
        have R14 := Hd r14
        have H14 := Hd hy14
        have X14 := Hd (Ext.trans XF.out x14)
        clear r14 hy14 x14 XF HFr
        go_wp2
        go_ret
        exact ⟨⟨A14, c14, q14, rfl, R14.out, H14.out, by omega⟩, X14.out⟩
     ·have hcb1 : (cd == 0) = true := by simp [hcd]
      have hcb2 : decide ((0 : Int) < (bd.length : Int)) = false := decide_eq_false (by omega)
      clear hcd
      go_wp2
      go_ret
      exact ⟨⟨Ab, cb, b, rfl, (OB.out.rd bEnc_len).2, HBy.out, by omega⟩, X6.out⟩
    ·have hcb1 : (cd == 0) = false := by simp [hcd]
     go_wp2
     go_ret
     exact ⟨⟨Ab, cb, b, rfl, (OB.out.rd bEnc_len).2, HBy.out, by omega⟩, X6.out⟩
   ·have h1' : (x == 1) = false := by simpa using h1
    by_cases h2 : x = 2
    ·subst h2
     have HU := Hd (c_sUnframe Ab cb b w5 (O5.out.rd bEnc_len).2 HBy.out (by omega))
     have HUl := Hd (unfE_facts b HBy.out)
     go_wp2_with fail
     refine HU.out.mono ?_
     rintro e w6 ⟨⟨A6, c6, rfl, o6⟩, x6⟩
     obtain ⟨bd, hbd⟩ : ∃ q, (unfE b).1 = q := ⟨_, rfl⟩
     obtain ⟨cd, hcd⟩ : ∃ q, (unfE b).2.2 = q := ⟨_, rfl⟩
     have HV := HUl.out
     rw [hbd, hcd] at HV
     rw [hbd] at o6
     rw [hbd, hcd]
     have HVl := Hd HV
     have O6 := Hd (o6.less (B' := P + 1) (by omega))
     have X6 := Hd (Ext.trans X5.out x6)
     have OB := Hd (O5.out.kept x6)
     have hc6 := hc5.ext x6
     clear HV HUl HU o6 x6 X5 O5 hc5 hbd hcd
     by_cases hcd : cd = 0
     ·by_cases hl : 0 < bd.length
      ·have hcb1 : (cd == 0) = true := by simp [hcd]
       have hcb2 : decide ((0 : Int) < (bd.length : Int)) = true := by simpa using hl
       have h40 := HVl.out.2 hcd
       have hP6 := hc6.lt
       clear hcd
       go_wp2_with fail
       refine (c_l1Below P A n c bd.length _ hc6 (by omega)).mono ?_
       rintro e w7 ⟨y, ⟨py, qy⟩, rfl, hc7, hg7⟩
       obtain ⟨i, rfl⟩ : ∃ i : Nat, y = (i : Int) := ⟨y.toNat, by omega⟩
       have hib : i < bd.length := by omega
       have O7 := Hd (O6.out.beside hg7 (fun k hk => by have := O6.out.lt k hk; simp only [ne_eq, Option.some.injEq]; omega))
       have X7 := Hd (ext_cur9 X6.out hg7 hPw)
       have hP7 := hc7.lt
       clear hc6 hg7 O6 X6 OB
       go_wp2_with fail
       refine (c_l1PickInt P A n c w7.heap.size [0, 1, 2, 12, 13, 127, 128, 255] _ (hc7.ext (ext_alloc _ _)) (by decide) (by decide) (hNew rfl) (by omega)).mono ?_
       rintro e w8 ⟨z, hz, rfl, hc8, hg8⟩
       have hz2 : 0 ≤ z ∧ z ≤ 255 := by
        simp only [OneOf, List.mem_cons, List.not_mem_nil, or_false] at hz
        omega
       obtain ⟨t, rfl⟩ : ∃ t : Nat, z = (t : Int) := ⟨z.toNat, by omega⟩
       have ht : t ≤ 255 := by omega
       have x78 := ext_alloc w7 (.cells #[.int .i64 0, .int .i64 1, .int .i64 2, .int .i64 12, .int .i64 13, .int .i64 127, .int .i64 128, .int .i64 255] 3)
       have O8 := (O7.out.kept x78).beside hg8 (fun k hk => by have := (O7.out.kept x78).lt k hk; simp only [ne_eq, Option.some.injEq]; omega)
       have X8 := ext_cur9 (Ext.trans X7.out x78) hg8 hPw
       obtain ⟨g, rfl, hgP, hgl⟩ := ownsRow_form (show w8.ownsRow (P + 1) 5 1 (.slice A6 bd.length c6) bd.length (bd.flatMap bEnc) from O8) (by omega)
       obtain ⟨rb, ro, hA, hrl, e0⟩ := (O8.rd bEnc_len).2.atB hib
       simp only [Option.some.injEq, Addr.mk.injEq] at hA
       obtain ⟨rfl, rfl, _⟩ := hA
       rw [Nat.zero_add] at e0
       have hfz := World.ownsRow.frozenAt (show w8.ownsRow (P + 1) 5 1 (.slice (some ⟨g, 0, none⟩) bd.length c6) bd.length (bd.flatMap bEnc) from O8)
       have hwr : IntKind.u8.wrap (t : Int) = (t : Int) := by rw [IntKind.wrap_u8]; omega
       have S9 := own_setB O8 (i := i) (y := t) hib
       have O9 := Hd S9.1
       have C9 := Hd (hc8.grown S9.2 (fun k hk => by simp only [Option.some.injEq] at hk; omega))
       have X9 := Hd (ext_grown X8 S9.2 (fun k hk => by simp only [Option.some.injEq] at hk; omega))
       have HB9 := Hd (byt_set HVl.out.1 (i := i) ht)
       have hln : (bd.set i t).length = bd.length := List.length_set
       clear S9 O8 X8 hc8 hg8 x78 hc7 O7 X7 hz hz2
       go_wp2_with (with_reducible refine wl_stop 73 ?_)
       obtain ⟨bs, hbs⟩ : ∃ q, bd.set i t = q := ⟨_, rfl⟩
       rw [hbs] at O9 HB9 hln
       refine stop_go (F := fun W => W = w8.setCell ⟨g, i, none⟩ (.int .u8 t)) rfl ?_
       rintro w9 hw9
       rw [← hw9] at O9 C9 X9
       rw [← hln]
       have hgl9 : g < w9.heap.size := by rw [hw9]; simpa using hgl
       have hbs0 : 0 < bs.length := by omega
       have hbs1 : bs.length ≤ 4000 := by omega
       clear hw9 e0 hfz hwr hgl hrl hbs HVl hcb1 hcb2 hib py qy hln
       go_wp2_with fail
       refine (c_l1Once P A n c 4 _ C9.out (by omega)).mono ?_
       rintro e w10 ⟨b10, rfl, hc10, hg10⟩
       have O10 := Hd (O9.out.beside hg10 (fun k hk => by have := O9.out.lt k hk; simp only [ne_eq, Option.some.injEq]; omega))
       have X10 := Hd (ext_cur9 X9.out hg10 hPw)
       have C10 := Hd hc10
       clear hg10 hc10 O9 X9 C9
       go_upto_if 73 with fail
       go_cut [7] from 74 to 76 (fun v wx => RbO P A n c w v wx)
       case first =>
        cases b10
        ·go_wp2_with fail
         go_meet
         exact ⟨some ⟨g, 0, none⟩, c6, bs, rfl, O10.out, HB9.out, by omega, by omega, C10.out, X10.out⟩
        ·have HQ := Hd (O10.out.kept (ext_alloc w10 (.cells #[.int .u8 0] 5)))
         have hP10 := C10.out.lt
         go_wp2_with (at_builtin; refine wl_app (enc := bEnc) rfl _ _ 34 rfl (P + 1) 5 i0 (.int .u8 0) 1 1 Try.underlying34 hi hz0 hz1 hz2 rfl (by decide) bEnc_len bEnc_one (.slice (some ⟨g, 0, none⟩) bs.length c6) bs rfl HQ.out (some ⟨w10.heap.size, 0, none⟩) 1 [0] 1 rfl rfl (Rd.one (hNew rfl) rfl) ?c1 ?c2 ?c3 ?_)
         case c1 => unfold maxLen; (try simp) <;> omega
         case c2 => (try simp) <;> omega
         case c3 => (try simp) <;> omega
         intro v' w11 ho11 hg11
         obtain ⟨A11, c11, rfl⟩ := ho11.form
         have X11 := Hd (ext_app2 (ext_to X10.out _) hg11 HQ.out (by omega))
         have C11 := Hd ((C10.out.ext (ext_alloc w10 (.cells #[.int .u8 0] 5))).grown hg11 (fun k hk => by have := HQ.out.lt k hk; omega))
         have O11 := Hd ho11
         clear ho11 hg11 O10 X10 C10
         go_wp2_with fail
         go_meet
         exact ⟨A11, c11, bs ++ [0], rfl, O11.out, (fun z hz => by rcases List.mem_append.1 hz with hz | hz; exact HB9.out z hz; simp at hz; omega), by simp, by simp; omega, C11.out, X11.out⟩
       case rest =>
        obtain ⟨Ad, cd2, d, rfl, od, hdy, hd0, hd1, hcd2, Xd⟩ := hcut
        have OD := Hd od
        have HDy := Hd hdy
        have XD := Hd Xd
        clear od hdy Xd O10 X10 C10 HB9
        go_wp2_with fail
        refine (c_l1Once P A n c 4 _ hcd2 (by omega)).mono ?_
        rintro e w12 ⟨b12, rfl, hc12, hg12⟩
        have O12 := Hd (OD.out.beside hg12 (fun k hk => by have := OD.out.lt k hk; simp only [ne_eq, Option.some.injEq]; omega))
        have X12 := Hd (ext_cur9 XD.out hg12 hPw)
        clear hg12 OD XD hcd2
        go_upto_if 78 with fail
        go_cut [7] from 79 to 85 (fun v wx => RbR P A n c w v wx)
        case first =>
         cases b12
         ·go_wp2_with fail
          go_meet
          exact ⟨Ad, cd2, d, rfl, (O12.out.rd bEnc_len).2, HDy.out, by omega, hc12, X12.out⟩
         ·have hlw : IntKind.i64.wrap ((d.length : Int) + 1) = (d.length : Int) + 1 := by rw [IntKind.wrap_i64]; omega
          have hcap := (O12.out.rd bEnc_len).2.1
          go_wp2_with fail
          (try simp only [hlw])
          refine (c_l1Below P A n c ((d.length : Int) + 1) _ hc12 (by omega)).mono ?_
          rintro e w13 ⟨y, ⟨py, qy⟩, rfl, hc13, hg13⟩
          obtain ⟨j, rfl⟩ : ∃ j : Nat, y = (j : Int) := ⟨y.toNat, by omega⟩
          have hjd : j ≤ d.length := by omega
          have R13 := Hd (rd_take1 ((O12.out.beside hg13 (fun k hk => by have := O12.out.lt k hk; simp only [ne_eq, Option.some.injEq]; omega)).rd bEnc_len).2 j)
          have X13 := Hd (ext_cur9 X12.out hg13 hPw)
          have hlt : (d.take j).length = j := by rw [List.length_take]; omega
          have C13 := Hd hc13
          clear hg13 hc13 X12 O12 hlw
          go_wp2_with fail
          go_meet
          exact ⟨Ad, cd2, d.take j, by rw [hlt], R13.out, byt_take HDy.out j, by omega, C13.out, X13.out⟩
        case rest =>
         obtain ⟨Af, cf, f, rfl, rf, hfy, hf1, hcf, Xf⟩ := hcut
         have HFr := Hd (c_sFrameAny Af cf f _ rf hfy (by omega))
         have XF := Hd Xf
         clear rf hfy hcf Xf O12 X12 HDy
         go_wp2_with fail
         refine HFr.out.mono ?_
         rintro e w14 ⟨⟨A14, c14, q14, k14, rfl, r14, hy14, hl14⟩, x14⟩
         have R14 := Hd r14
         have H14 := Hd hy14
         have X14 := Hd (Ext.trans XF.out x14)
         clear r14 hy14 x14 XF HFr
         go_wp2
         go_ret
         exact ⟨⟨A14, c14, q14, rfl, R14.out, H14.out, by omega⟩, X14.out⟩
      ·have hcb1 : (cd == 0) = true := by simp [hcd]
       have hcb2 : decide ((0 : Int) < (bd.length : Int)) = false := decide_eq_false (by omega)
       clear hcd
       go_wp2
       go_ret
       exact ⟨⟨Ab, cb, b, rfl, (OB.out.rd bEnc_len).2, HBy.out, by omega⟩, X6.out⟩
     ·have hcb1 : (cd == 0) = false := by simp [hcd]
      go_wp2
      go_ret
      exact ⟨⟨Ab, cb, b, rfl, (OB.out.rd bEnc_len).2, HBy.out, by omega⟩, X6.out⟩
    ·have h2' : (x == 2) = false := by simpa using h2
     by_cases h3 : x = 3
     ·subst h3
      have HQ := Hd (O5.out.kept (ext_alloc w5 (.cells #[.int .u8 0] 5)))
      go_wp2_with (at_builtin; refine wl_app (enc := bEnc) rfl _ _ 34 rfl (P + 1) 5 i0 (.int .u8 0) 1 1 Try.underlying34 hi hz0 hz1 hz2 rfl (by decide) bEnc_len bEnc_one (.slice Ab b.length cb) b rfl HQ.out (some ⟨w5.heap.size, 0, none⟩) 1 [0] 1 rfl rfl (Rd.one (hNew rfl) rfl) ?c1 ?c2 ?c3 ?_)
      case c1 => unfold maxLen; (try simp) <;> omega
      case c2 => (try simp) <;> omega
      case c3 => (try simp) <;> omega
      intro v' w6 ho6 hg6
      obtain ⟨A6, c6, rfl⟩ := ho6.form
      have X6 := Hd (ext_app2 (ext_to X5.out _) hg6 HQ.out (by omega))
      have O6 := Hd ho6
      clear ho6 hg6 O5 X5 hc5
      go_wp2
      go_ret
      exact ⟨⟨A6, c6, b ++ [0], rfl, (O6.out.rd bEnc_len).2, (fun z hz => by rcases List.mem_append.1 hz with hz | hz; exact HBy.out z hz; simp at hz; omega), by simp; omega⟩, X6.out⟩
     ·have h3' : (x == 3) = false := by simpa using h3
      go_wp2
      go_ret
      exact ⟨⟨Ab, cb, b, rfl, (O5.out.rd bEnc_len).2, HBy.out, by omega⟩, X5.out⟩
end Go.Proofs.Ytpghedeghoegmaa
