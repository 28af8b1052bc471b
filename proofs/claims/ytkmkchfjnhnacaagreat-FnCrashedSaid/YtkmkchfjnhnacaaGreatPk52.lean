/- What FnCrashed needs: a fallen replica, what it asks when it wakes; small functions of the program. -/
import Derived.Test.YtkmkchfjnhnacaaGreatPk50
import Derived.Test.YtkmkchfjnhnacaaGreatPk51
import Derived.Test.YtkmkchfjnhnacaaGreatPk20
import Derived.Test.YtkmkchfjnhnacaaGreatProg
import Derived.Test.YtkmkchfjnhnacaaGreatPk1
import Derived.Test.YtkmkchfjnhnacaaGreatPk18
import Derived.Test.YtkmkchfjnhnacaaGreatPk42
namespace Go.Proofs.YtkmkchfjnhnacaaGreat.l49
open Go.ChangeShapes Go.WideShapes Go.ChangeAt Go.RowKit Go.Joins Go.Deep Go.Sort
set_option linter.unusedVariables false
set_option linter.unusedSimpArgs false
theorem none_ok : logOk Lg.none = true := by decide
theorem none_small : Lg.none.small := ⟨by decide, by decide, by decide⟩
theorem crash_fallen {r : Rp} (h : rpOk r = true) : crashR r = r.fallen := by
 unfold crashR
 rw [if_pos h]
 cases hm : (r.mode == 0)
 ·rfl
 ·rw [if_pos rfl]
  have ht := h
  unfold rpOk at ht
  simp only [Bool.and_eq_true] at ht
  have ht := ht.2
  unfold rpTail at ht
  have hm0 : r.mode = 0 := by simpa using hm
  rw [hm0] at ht
  simp only [Bool.or_eq_true, Bool.and_eq_true, beq_iff_eq] at ht
  rcases ht with (⟨h1, _⟩ | ⟨h1, _⟩) | ⟨_, ⟨⟨⟨h1, h2⟩, h3⟩, h4⟩, h5⟩
  ·exact absurd h1 (by decide)
  ·exact absurd h1 (by decide)
  ·have h6 := isZ_eq h4
   have h7 : r.votes = [] := by
    rcases h5 with h5 | h5
    ·exact absurd h5 (by decide)
    ·exact List.length_eq_zero_iff.1 h5
   obtain ⟨me, of, mode, view, normal, commit, log, votes, cell, nonce⟩ := r
   simp only at hm0 h1 h2 h3 h6 h7
   subst hm0
   subst h1
   subst h2
   subst h3
   subst h6
   subst h7
   rfl
theorem of_ok {r : Rp} (h : rpOk r = true) : ofB r.of = true ∧ inB r.me 0 (r.of - 1) = true ∧ inB r.cell 0 1000000000 = true ∧ inB r.nonce 0 1000000000 = true := by
 unfold rpOk at h
 simp only [Bool.and_eq_true] at h
 exact ⟨h.1.1.1.1.1.1.1.1.1, h.1.1.1.1.1.1.1.1.2, h.1.1.1.1.1.2, h.1.1.1.1.2⟩
theorem back_ok {me of mode cell nonce : Int} (hm : mode = 0 ∨ mode = 3) (h1 : ofB of = true) (h2 : inB me 0 (of - 1) = true) (h3 : inB cell 0 1000000000 = true) (h4 : inB nonce 0 1000000000 = true) : rpOk ⟨me, of, mode, 0, 0, 0, Lg.none, [], cell, nonce⟩ = true := by
 unfold rpOk
 simp only [h1, h2, h3, h4, Bool.and_true, Bool.true_and]
 rcases hm with rfl | rfl <;> kernel_rfl
theorem fallen_ok {r : Rp} (h : rpOk r = true) : rpOk r.fallen = true := by
 obtain ⟨h1, h2, h3, h4⟩ := of_ok h
 exact back_ok (.inl rfl) h1 h2 h3 h4
theorem rest_most {r : Rp} (h : rpOk r = true) (hn : r.nonce = 1000000000) : restR r.fallen = r.fallen ∧ restO r.fallen = [] := by
 unfold restR restO
 rw [if_pos (fallen_ok h), if_pos (fallen_ok h)]
 have : wakes r.fallen = false := by unfold wakes Rp.fallen; simp [hn]
 rw [this]
 exact ⟨rfl, rfl⟩
theorem rest_wakes {r : Rp} (h : rpOk r = true) (hn : r.nonce ≠ 1000000000) : restR r.fallen = r.fallen.waked ∧ restO r.fallen = allTo r.me (askM r.fallen) r.of.toNat ∧ rpOk r.fallen.waked = true := by
 have hf := rpOk_facts h
 obtain ⟨h1, h2, h3, h4⟩ := of_ok h
 unfold restR restO
 rw [if_pos (fallen_ok h), if_pos (fallen_ok h)]
 have : wakes r.fallen = true := by unfold wakes Rp.fallen; simp; omega
 rw [this]
 exact ⟨rfl, rfl, back_ok (.inr rfl) h1 h2 h3 ((inB_yes _ _ _).2 ⟨by show 0 ≤ r.nonce + 1; omega, by show r.nonce + 1 ≤ 1000000000; omega⟩)⟩
theorem to_all {me : Int} {m : Mg} : ∀ k, ∀ o ∈ allTo me m k, o.msg = m ∧ o.to ≠ me ∧ o.to < k
 | 0, o, h => (List.not_mem_nil h).elim
 | k + 1, o, h => by
  rw [allTo_next, List.mem_append] at h
  rcases h with h | h
  ·obtain ⟨h1, h2, h3⟩ := to_all k o h
   exact ⟨h1, h2, by omega⟩
  ·split at h
   ·rename_i hb
    simp only [Mi] at h
    subst h
    have hb : (k : Int) ≠ me := by simpa using hb
    exact ⟨rfl, hb, by show (k : Int) < ((k + 1 : Nat) : Int); omega⟩
   ·cases h
theorem len_all {me : Int} {m : Mg} (h0 : 0 ≤ me) : ∀ k : Nat, ((allTo me m k).length : Int) = if me < k then (k : Int) - 1 else k
 | 0 => by
  rw [if_neg (by omega)]
  rfl
 | k + 1 => by
  have ih := len_all h0 (m := m) k
  rw [allTo_next, List.length_append]
  by_cases h : (k : Int) = me
  ·rw [if_neg (by simp [h]), if_pos (by omega)]
   rw [if_neg (by omega)] at ih
   simp only [List.length_nil]
   omega
  ·rw [if_pos (by simp [h])]
   simp only [List.length_cons, List.length_nil]
   split at ih
   ·rw [if_pos (by omega)]
    omega
   ·rw [if_neg (by omega)]
    omega
theorem len_said {r : Rp} (h : rpOk r = true) {m : Mg} : ((allTo r.me m r.of.toNat).length : Int) = r.of - 1 := by
 have hf := rpOk_facts h
 rw [len_all (by omega), if_pos (by omega)]
 omega
theorem c_iLogEnd (a : LAd) (l : Lg) (s1 : l.cells.length ≤ 1048576) (s2 : l.seats.length ≤ 1048576) (s3 : l.ents.length ≤ 1048576) (w : World) (hr : LgR w a l) (hok : logOk l = true) :
  Calls Tryz.prog 11 #[Lg.val a l] w fun e w' => e = .returned (.int .i64 l.fin) ∧ Ext w w' := by
 have X0 := ext_alloc w (Lg.obj a l)
 have hb := (inB_yes _ _ _).1 (of_decide_eq_true hok).1
 obtain ⟨hb0, hb1⟩ := hb
 have hcon := c_iLogOk a l s1 s2 s3 _ (hr.keep X0)
 rw [hok] at hcon
 go_enter Tryz.func11, Tryz.ntmps11
 go_wp2_with fail
 refine hcon.mono ?_
 rintro e w1 ⟨rfl, x1⟩
 have b1 := bx_cell (x1.box (hNew (w := w) (o := Lg.obj a l) rfl))
 clear hcon
 go_wp2_with fail
 refine (c_end a l w1 (by omega) (by omega) s3).mono ?_
 rintro e w2 ⟨rfl, x2⟩
 go_wp2
 go_ret
 exact ⟨rfl, Ext.trans X0 (Ext.trans x1 x2)⟩
def new23 : Rp := ⟨2, 3, 1, 0, 0, 0, Lg.none, [], 0, 0⟩
theorem new23_ok : rpOk new23 = true := by decide
theorem new23_rd (w : World) : RpR w LAd.none none 0 [] new23 := (RpO.none w 0 0 new23 rfl rfl).rd
set_option maxRecDepth 100000 in
set_option maxHeartbeats 4000000 in
theorem c_new23 (w : World) : Calls Tryz.prog 9 #[.int .i64 2, .int .i64 3] w fun e w' => e = .returned (Rp.val LAd.none none 0 0 new23) ∧ Ext w w' := by
 have X0 : Ext w ((w.alloc Rp.zobj).alloc (Rp.obj LAd.none none 0 0 new23)) := ext_to (ext_alloc _ _) _
 have hcon : Calls Tryz.prog 8 #[Rp.val LAd.none none 0 0 new23] ((w.alloc Rp.zobj).alloc (Rp.obj LAd.none none 0 0 new23)) fun e w' => e = .returned (.bool true) ∧ Ext ((w.alloc Rp.zobj).alloc (Rp.obj LAd.none none 0 0 new23)) w' := by
  have h5 := c_iReplicaOk LAd.none none 0 [] new23 ((w.alloc Rp.zobj).alloc (Rp.obj LAd.none none 0 0 new23)) (new23_rd _) none_small (by simp) (by intro p hp; cases hp)
  rw [new23_ok] at h5
  exact h5
 have HC := Hd hcon
 clear hcon
 go_enter Tryz.func9, Tryz.ntmps9
 go_wp2_with fail
 refine HC.out.mono ?_
 rintro e w1 ⟨rfl, x1⟩
 have B4 := Hd (x1.box (hOld (o := Rp.obj LAd.none none 0 0 new23) (hNew (w := w) (o := Rp.zobj) rfl)))
 have B5 := x1.box (hNew (w := w.alloc Rp.zobj) (o := Rp.obj LAd.none none 0 0 new23) rfl)
 rw [sz_alloc] at B5
 have HB5 := Hd B5
 have HX := Hd (Ext.trans X0 x1)
 clear B5 HC x1
 (go_wp2_with (with_reducible refine wl_stop 13 ?_); refine stop_load (HB5.out) rfl Tryz.underlying33 (by kernel_rfl) ?_; simp only [Act.put, Sa, Sz, Ss])
 (go_wp2_with (with_reducible refine wl_stopS 33 ?_); refine stop_store (w.heap.size) (Rp.cs LAd.none none 0 0 new23) rfl rfl (B4.out) (by kernel_rfl) rfl (by simp [Value.oneCell']) ?_)
 intro W4 E4 C4
 have hX4 := Hd (chg_new HX.out C4 (Nat.le_refl _))
 go_wp2
 exact bodyPost_ret (results_box Tryz.results9 rfl Tryz.underlying33 (by kernel_rfl) E4) rfl ⟨rfl, hX4.out⟩
theorem ot_at {w : World} {A : Option Addr} {c : Nat} {l : List OtE} (h : Rd OtE.enc 18 w A c l) {k : Nat} (hk : k < l.length) : ∃ b o, A = some ⟨b, o, none⟩ ∧ b < w.heap.size ∧
  w.cell? ⟨b, o + k * 18, none⟩ = some (.int .i64 l[k].2.to) ∧ w.cell? ⟨b, o + k * 18 + 1, none⟩ = some (.int .i64 l[k].2.msg.kind) ∧ w.cell? ⟨b, o + k * 18 + 7, none⟩ = some (.int .i64 l[k].2.msg.nonce) := by
 obtain ⟨b, o, e, hlt, hc⟩ := h.2.2 (by omega)
 exact ⟨b, o, e, hlt, hc k hk 0 _ rfl, hc k hk 1 _ rfl, hc k hk 7 _ rfl⟩
end Go.Proofs.YtkmkchfjnhnacaaGreat.l49
namespace Go.Proofs.YtkmkchfjnhnacaaGreat
open Go.ChangeShapes Go.WideShapes Go.ChangeAt Go.RowKit Go.Sort
set_option linter.unusedVariables false
structure Rng where
 lo : Int
 hi : Int
deriving DecidableEq
def Rng.enc (r : Rng) : List Value := [.int .i64 r.lo, .int .i64 r.hi]
abbrev Rng.agg (r : Rng) : Value := .agg #[.int .i64 r.lo, .int .i64 r.hi]
def Rng.ok (r : Rng) : Bool := decide (0 ≤ r.lo) && decide (r.lo < r.hi) && decide (r.hi ≤ 1000)
def Rng.zero : Rng := ⟨0, 0⟩
end Go.Proofs.YtkmkchfjnhnacaaGreat
namespace Go.Proofs.YtkmkchfjnhnacaaGreat
open Go.ChangeShapes Go.WideShapes Go.ChangeAt Go.RowKit Go.Joins Go.Deep
set_option linter.unusedVariables false
def BytesR (w : World) (A : Option Addr) (n : Nat) : Prop := 0 < n → ∃ b o, A = some ⟨b, o, none⟩ ∧ b < w.heap.size ∧ ∀ k, k < n → ∃ y : Nat, y ≤ 255 ∧ w.cell? ⟨b, o + k, none⟩ = some (.int .u8 y)
theorem Tryz.cellsU8 : Tryz.prog.cellsOf 5 = 1 := by kernel_rfl
set_option maxRecDepth 100000 in
theorem open_code {H : Type} {enc : TypeId × Value → H} {W : World} {base b0 : Nat} {sp : Nat → Bool} {held : Bool} {v : Value} {d : DataW H} {p : List MemPlace}
  (hv : Value.okWide Tryz.prog W .any base 22 v) (h : DataW.Trod enc Tryz.prog W b0 sp held 22 v d p) : ∃ A n c, v = .slice A n c ∧ n ≤ c ∧ c ≤ maxLen ∧ BytesR W A n := by
 obtain ⟨a0, len, cap, rfl⟩ := okWide_slice Tryz.underlying22 hv
 obtain ⟨fuel, hf⟩ := h
 rcases open_slice Tryz.underlying22 hf with ⟨hcs, hx⟩ | ⟨a, len', cap', m, n, D, Pl, hcs, hb, hl, hm, hmm, hx, hi⟩
 ·simp only [Value.cells, List.cons.injEq, and_true, Value.slice.injEq] at hcs
  obtain ⟨rfl, rfl, rfl⟩ := hcs
  exact ⟨none, 0, 0, rfl, Nat.le_refl _, by unfold maxLen; omega, fun h => absurd h (by simp)⟩
 ·simp only [Value.cells, List.cons.injEq, and_true, Value.slice.injEq] at hcs
  obtain ⟨rfl, rfl, rfl⟩ := hcs
  have hlm : len ≤ m := by rw [hmm]; split <;> omega
  refine ⟨some a, len, cap, rfl, hl, hm, fun hpos => ?_⟩
  have each : ∀ i, i < len → ∃ y : Nat, y ≤ 255 ∧ W.cell? (a.add i) = some (.int .u8 y) := by
   intro i hin
   obtain ⟨cs', hc, ht'⟩ := hi i (by omega)
   rw [Tryz.cellsU8, Nat.mul_one] at hc
   obtain ⟨_, hcl, hat⟩ := World.cells?_some hc
   obtain ⟨z, hz, _, hwf⟩ := DataW.trod_int Tryz.underlying5 ht'
   have h0 := hat 0 (by omega)
   rw [hz] at h0
   have hb2 : 0 ≤ z ∧ z ≤ 255 := by simpa [Lit.wf, IntKind.min, IntKind.max, IntKind.signed, IntKind.bits] using hwf
   refine ⟨z.toNat, by omega, ?_⟩
   rw [show ((z.toNat : Nat) : Int) = z by omega]
   simpa [Addr.add] using h0
  obtain ⟨b, o, s⟩ := a
  obtain ⟨y0, _, hc0⟩ := each 0 hpos
  have hs : s = none := by
   cases s with
   | none => rfl
   | some q =>
    exfalso
    simp [Addr.add, World.cell?] at hc0
    split at hc0 <;> simp at hc0
  subst hs
  have hlt : b < W.heap.size := by
   have := block_lt_of_cell hc0
   simpa [Addr.add] using this
  refine ⟨b, o, rfl, hlt, fun k hk => ?_⟩
  obtain ⟨y, hy, hc⟩ := each k hk
  refine ⟨y, hy, ?_⟩
  rwa [Addr.add_lit] at hc
end Go.Proofs.YtkmkchfjnhnacaaGreat
namespace Go.Proofs.YtkmkchfjnhnacaaGreat.l49
open Go.ChangeShapes Go.WideShapes Go.ChangeAt Go.RowKit Go.Joins Go.Deep Go.Sort
set_option linter.unusedVariables false
set_option linter.unusedSimpArgs false
set_option maxHeartbeats 8000000 in
set_option maxRecDepth 100000 in
theorem walk (A : Option Addr) (n c : Nat) (w : World) (hb : BytesR w A n) (hnc : n ≤ c) (hcm : c ≤ 9223372036854775807) : Calls Tryz.prog 3 #[.slice A n c] w fun e w' => e = .returned (.bool true) ∧ Ext w w' := by
 by_cases hn : n ≤ 1048576
 ·go_enter Tryz.func3, Tryz.ntmps3
  go_wp2_with fail
  refine (c_big_no A n c w hn).mono ?_
  rintro e w0 ⟨rfl, x0⟩
  have hc : CodeOk w0 A n w0.heap.size := ⟨hn, fun h0 => by
   obtain ⟨b, o, e, hbl, hcell⟩ := hb h0
   exact ⟨b, o, e, Nat.lt_of_lt_of_le hbl x0.size, fun k hk => by
    obtain ⟨y, hy, hy2⟩ := hcell k hk
    exact ⟨y, hy, (old_cell x0 hbl).trans hy2⟩⟩⟩
  go_wp2_with fail
  refine (Ai.crash_draw hc hnc hcm).mono ?_
  rintro e w1 ⟨a, V, d, ps, r, rfl, hr, _, hl, hpl, hs, x1⟩
  have HR := Hd hr
  have HS := Hd (show LgS ps from fun p hp => hs p hp)
  have HL := Hd (show r.log.small from hl)
  have X1 := Hd (Ext.trans x0 x1)
  have Z1 := Hd (hNew (w := w1) (o := Rp.zobj) rfl)
  clear hc hb x0 x1 hr hl hs
  (go_wp2_with (with_reducible refine wl_stopS 33 ?_); refine stop_store (w1.heap.size) (Rp.cs a V ps.length d r) rfl rfl (Z1.out) (by kernel_rfl) rfl (by simp [Value.oneCell']) ?_)
  intro w2 e2 k2
  have x2 := chg_new (ext_alloc w1 Rp.zobj) k2 (Nat.le_refl _)
  have E2 := Hd e2
  have R2 := Hd (HR.out.keep x2)
  have X2 := Hd (Ext.trans X1.out x2)
  clear e2 k2 x2 Z1 X1 HR
  (go_wp2_with (with_reducible refine wl_stop 12 ?_); refine stop_load (E2.out) rfl Tryz.underlying33 (by kernel_rfl) ?_; simp only [Act.put, Sa, Sz, Ss])
  have HC := Hd (c_iCrash a V d ps r w2 R2.out HL.out hpl HS.out)
  cases q : rpOk r
  ·have hR : crashR r = Rp.zero := by unfold crashR; rw [if_neg (by simp [q])]
   have HK := Hd (fun W h => q ▸ c_sReplicaOk a V d ps r W h HL.out hpl HS.out)
   rw [hR] at HC
   go_wp2_with fail
   refine HC.out.mono ?_
   rintro e w3 ⟨v3, rfl, ⟨a3, A3, c3, qs3, rfl, o3⟩, x3⟩
   have E3 := Hd (x3.box E2.out)
   have R3 := Hd (R2.out.keep x3)
   have X3 := Hd (Ext.trans X2.out x3)
   have Z3 := Hd (hNew (w := w3) (o := Rp.zobj) rfl)
   have s3 := bx_lt E3.out
   clear o3 x3 E2 R2 X2 HC q hR HL HS
   (go_wp2_with (with_reducible refine wl_stopS 33 ?_); refine stop_store (w3.heap.size) (Rp.cs a3 A3 qs3.length c3 Rp.zero) rfl rfl (Z3.out) (by kernel_rfl) rfl (by simp [Value.oneCell']) ?_)
   intro w4 e4 k4
   have x4 := chg_new (ext_alloc w3 Rp.zobj) k4 (Nat.le_refl _)
   have E4 := Hd e4
   have D4 := Hd (x4.box E3.out)
   have R4 := Hd (R3.out.keep x4)
   have X4 := Hd (Ext.trans X3.out x4)
   clear e4 k4 x4 Z3 X3 R3 E3
   (go_wp2_with (with_reducible refine wl_stop 14 ?_); refine stop_load (D4.out) rfl Tryz.underlying33 (by kernel_rfl) ?_; simp only [Act.put, Sa, Sz, Ss])
   go_wp2_with fail
   refine (HK.out _ R4.out).mono ?_
   rintro e w5 ⟨rfl, x5⟩
   have d5 := bx_cell (x5.box E4.out)
   have l5 := bx_lt (x5.box E4.out)
   have X5 := Hd (Ext.trans X4.out x5)
   clear x5 X4 R4 D4 E4 HK
   go_wp2_with fail
   refine (c_new23 w5).mono ?_
   rintro e w6 ⟨rfl, x6⟩
   go_wp2_with fail
   have h5 := c_iReplicaOk LAd.none none 0 [] new23 w6 (new23_rd _) none_small (by simp) (by intro p hp; cases hp)
   rw [new23_ok] at h5
   refine h5.mono ?_
   rintro e w7 ⟨rfl, x7⟩
   go_wp2
   go_ret
   exact ⟨rfl, Ext.trans X5.out (Ext.trans x6 x7)⟩
  ·have hR := crash_fallen q
   have HK := Hd (fun W h => q ▸ c_sReplicaOk a V d ps r W h HL.out hpl HS.out)
   rw [hR] at HC
   have HQ := Hd q
   go_wp2_with fail
   refine HC.out.mono ?_
   rintro e w3 ⟨v3, rfl, ⟨a3, A3, c3, qs3, rfl, o3⟩, x3⟩
   have E3 := Hd (x3.box E2.out)
   have R3 := Hd (R2.out.keep x3)
   have X3 := Hd (Ext.trans X2.out x3)
   have O3 := Hd o3.rd
   have Z3 := Hd (hNew (w := w3) (o := Rp.zobj) rfl)
   have s3 := bx_lt E3.out
   obtain rfl : qs3 = [] := by have := o3.e; simpa [Rp.fallen] using this
   clear o3 x3 E2 R2 X2 HC q hR HL HS
   (go_wp2_with (with_reducible refine wl_stopS 33 ?_); refine stop_store (w3.heap.size) (Rp.cs a3 A3 0 c3 r.fallen) rfl rfl (Z3.out) (by kernel_rfl) rfl (by simp [Value.oneCell']) ?_)
   intro w4 e4 k4
   have x4 := chg_new (ext_alloc w3 Rp.zobj) k4 (Nat.le_refl _)
   have E4 := Hd e4
   have D4 := Hd (x4.box E3.out)
   have R4 := Hd (R3.out.keep x4)
   have O4 := Hd (O3.out.keep x4)
   have X4 := Hd (Ext.trans X3.out x4)
   clear e4 k4 x4 Z3 X3 R3 E3 O3
   (go_wp2_with (with_reducible refine wl_stop 14 ?_); refine stop_load (D4.out) rfl Tryz.underlying33 (by kernel_rfl) ?_; simp only [Act.put, Sa, Sz, Ss])
   go_wp2_with fail
   refine (HK.out _ R4.out).mono ?_
   rintro e w5 ⟨rfl, x5⟩
   have E5 := Hd (x5.box E4.out)
   have D5 := Hd (x5.box D4.out)
   have O5 := Hd (O4.out.keep x5)
   have X5 := Hd (Ext.trans X4.out x5)
   clear x5 X4 R4 D4 E4 HK O4
   have HRs := Hd (c_iRestart a3 A3 c3 [] r.fallen w5 O5.out none_small (by simp) (by intro p hp; cases hp))
   have f1 : (r.fallen.mode != 0) = false := rfl
   have f2 : (r.fallen.cell != r.cell) = false := by simp [Rp.fallen]
   have f3 : (r.fallen.nonce != r.nonce) = false := by simp [Rp.fallen]
   have f4 : (r.fallen.log.fin != 0) = false := rfl
   (go_wp2_with (with_reducible refine wl_stop 25 ?_); refine stop_load (E5.out) rfl Tryz.underlying33 (by kernel_rfl) ?_; simp only [Act.put, Sa, Sz, Ss])
   cases hmax : (r.nonce == 1000000000)
   ·have hne : r.nonce ≠ 1000000000 := by simpa using hmax
    obtain ⟨q1, q2, q3⟩ := rest_wakes HQ.out hne
    rw [q1, q2] at HRs
    have HU := Hd q3
    clear q1 q2 q3
    go_wp2_with fail
    refine HRs.out.mono ?_
    rintro e w6 ⟨v6, rfl, ⟨a6, A6, c6, qs6, Ao, co, os, M, rfl, o6, oo6, hm6, _, _⟩, x6⟩
    obtain rfl : qs6 = [] := by have := o6.e; simpa [Rp.fallen, Rp.waked] using this
    have E6 := Hd (x6.box E5.out)
    have D6 := Hd (x6.box D5.out)
    have O6 := Hd (O5.out.keep x6)
    have X6 := Hd (Ext.trans X5.out x6)
    have P6 := Hd o6.rd
    have Q6 := Hd oo6.rd
    have HM := Hd hm6
    have Z6 := Hd (hNew (w := w6) (o := Rp.zobj) rfl)
    have s6 := bx_lt E6.out
    have t6 := bx_lt D6.out
    clear o6 oo6 hm6 x6 E5 D5 O5 X5 HRs
    (go_wp2_with (with_reducible refine wl_stopS 33 ?_); refine stop_store (w6.heap.size) (Rp.cs a6 A6 0 c6 r.fallen.waked) rfl rfl (Z6.out) (by kernel_rfl) rfl (by simp [Value.oneCell']) ?_)
    intro w7 e7 k7
    have x7 := chg_new (ext_alloc w6 Rp.zobj) k7 (Nat.le_refl _)
    have F7 := Hd e7
    have E7 := Hd (x7.box E6.out)
    have D7 := Hd (x7.box D6.out)
    have O7 := Hd (O6.out.keep x7)
    have X7 := Hd (Ext.trans X6.out x7)
    have P7 := Hd (P6.out.keep x7)
    have Q7 := Hd (Q6.out.keep x7)
    clear e7 k7 x7 Z6 X6 E6 D6 O6 P6 Q6
    have dA := bx_cell D7.out
    have dB := bx_cell E7.out
    go_wp2_with fail
    refine (c_iLogEnd a3 r.fallen.log none_small.1 none_small.2.1 none_small.2.2 w7 O7.out.l none_ok).mono ?_
    rintro e w8 ⟨rfl, x8⟩
    have F8 := Hd (x8.box F7.out)
    have D8 := Hd (x8.box D7.out)
    have X8 := Hd (Ext.trans X7.out x8)
    have P8 := Hd (P7.out.keep x8)
    have Q8 := Hd (Q7.out.keep x8)
    clear x8 F7 E7 D7 X7 P7 Q7 O7 dA dB
    have hof := rpOk_facts HQ.out
    have hlen : ((os.length : Nat) : Int) = r.of - 1 := by
     have h1 := len_said HQ.out (m := askM r.fallen)
     rw [← HM.out, List.length_map] at h1
     exact h1
    have g1 : (r.fallen.waked.mode != 3) = false := rfl
    have g2 : (r.fallen.waked.nonce != r.nonce + 1) = false := by simp [Rp.fallen, Rp.waked]
    have g3 : (r.fallen.waked.cell != r.cell) = false := by simp [Rp.fallen, Rp.waked]
    have g4 : (((os.length : Nat) : Int) != r.of - 1) = false := by simp [hlen]
    have dA := bx_cell D8.out
    have dC := bx_cell F8.out
    have HO := Hd (fun W h => HU.out ▸ c_iReplicaOk a6 A6 c6 [] r.fallen.waked W h none_small (by simp) (by intro p hp; cases hp))
    go_wp2_with fail
    refine (HO.out _ P8.out).mono ?_
    rintro e w9 ⟨rfl, x9⟩
    have F9 := Hd (x9.box F8.out)
    have D9 := Hd (x9.box D8.out)
    have X9 := Hd (Ext.trans X8.out x9)
    have Q9 := Hd (Q8.out.keep x9)
    have HE := Hd (show ∀ k (h : k < os.length), os[k].2.msg.kind = 8 ∧ os[k].2.msg.nonce = r.nonce + 1 ∧ os[k].2.to ≠ r.me from fun k h => by
     have h1 : os[k].2 ∈ allTo r.me (askM r.fallen) r.of.toNat := by
      rw [← HM.out]
      exact List.mem_map_of_mem (List.getElem_mem h)
     obtain ⟨h2, h3, _⟩ := to_all _ _ h1
     rw [h2]
     exact ⟨rfl, rfl, h3⟩)
    have hl5 : os.length ≤ 1000 := by omega
    clear x9 F8 D8 X8 P8 Q8 HO dA dC hlen hof HU HM HQ
    go_wp2
    go_loopw [7] (fun i wr => ∃ k : Nat, k ≤ os.length ∧ i = .int .i64 k ∧ Hid (Ext w9 wr)) (fun i _ => os.length - (intOf i).toNat)
    case atStart => exact ⟨0, Nat.zero_le _, rfl, Hd (ext_refl _)⟩
    case round =>
     obtain ⟨k, hk, rfl, X⟩ := hrel
     by_cases hlt : k < os.length
     ·obtain ⟨ab, ao, hA, hab, a0, a1, a7⟩ := ot_at (Q9.out.1.keep X.out) hlt
      obtain ⟨h1, h2, h3⟩ := HE.out k hlt
      have dA := bx_cell (X.out.box D9.out)
      have dC := bx_cell (X.out.box F9.out)
      have lA := bx_lt (X.out.box D9.out)
      have lC := bx_lt (X.out.box F9.out)
      rw [h1] at a1
      rw [h2] at a7
      have g8 : ((8 : Int) != 8) = false := rfl
      have g9 : (r.nonce + 1 != r.fallen.waked.nonce) = false := by simp [Rp.fallen, Rp.waked]
      have g10 : (os[k].2.to == r.me) = false := by simpa using h3
      subst hA
      go_wp2
      (refine wp_region_mix' (fun _ _ _ _ _ hq => hq) 28 (by kernel_rfl) (by kernel_rfl) (fun hg => ?_); simp only [headOps, Tc, Tz, List.filter_cons, List.filter_nil, isAlloc, Bool.not_false, Bf, if_true, if_false, List.append_nil, Dc, Dz])
      (repeat (first | (refine wpMix_plain rfl rfl ?_; go_big_quiet_step (fail); refine wpQuiet_nil ?_) | (refine wpMix_skip rfl rfl ?_; simp only [Act.put, Sa, Sz, Ss])))
      (refine wpMix_nil ?_; intro w4 hw4)
      go_wp2
      go_roundw
      case rel => exact ⟨k + 1, by omega, by go_num, Hd (Ext.trans X.out hw4)⟩
      case measure => simp [intOf] <;> omega
     ·obtain rfl : k = os.length := by omega
      go_wp2
      go_ret
      exact ⟨rfl, Ext.trans X9.out X.out⟩
   ·have hne : r.nonce = 1000000000 := by simpa using hmax
    obtain ⟨q1, q2⟩ := rest_most HQ.out hne
    rw [q1, q2] at HRs
    clear q1 q2
    go_wp2_with fail
    refine HRs.out.mono ?_
    rintro e w6 ⟨v6, rfl, ⟨a6, A6, c6, qs6, Ao, co, os, M, rfl, o6, oo6, hm6, _, _⟩, x6⟩
    obtain rfl : qs6 = [] := by have := o6.e; simpa [Rp.fallen] using this
    obtain rfl : os = [] := by simpa using hm6
    have E6 := Hd (x6.box E5.out)
    have D6 := Hd (x6.box D5.out)
    have O6 := Hd (O5.out.keep x6)
    have X6 := Hd (Ext.trans X5.out x6)
    have Z6 := Hd (hNew (w := w6) (o := Rp.zobj) rfl)
    have s6 := bx_lt E6.out
    have t6 := bx_lt D6.out
    clear o6 oo6 hm6 x6 E5 D5 O5 X5 HRs
    (go_wp2_with (with_reducible refine wl_stopS 33 ?_); refine stop_store (w6.heap.size) (Rp.cs a6 A6 0 c6 r.fallen) rfl rfl (Z6.out) (by kernel_rfl) rfl (by simp [Value.oneCell']) ?_)
    intro w7 e7 k7
    have x7 := chg_new (ext_alloc w6 Rp.zobj) k7 (Nat.le_refl _)
    have E7 := Hd (x7.box E6.out)
    have D7 := Hd (x7.box D6.out)
    have O7 := Hd (O6.out.keep x7)
    have X7 := Hd (Ext.trans X6.out x7)
    clear e7 k7 x7 Z6 X6 E6 D6 O6
    have dA := bx_cell D7.out
    have dB := bx_cell E7.out
    go_wp2_with fail
    refine (c_iLogEnd a3 r.fallen.log none_small.1 none_small.2.1 none_small.2.2 w7 O7.out.l none_ok).mono ?_
    rintro e w8 ⟨rfl, x8⟩
    have dA := bx_cell (x8.box D7.out)
    have X8 := Ext.trans X7.out x8
    clear x8 E7 D7 X7 O7 dB
    go_wp2
    go_ret
    exact ⟨rfl, X8⟩
 ·go_enter Tryz.func3, Tryz.ntmps3
  go_wp2_with fail
  refine (c_big_yes A n c w (by omega) (by omega)).mono ?_
  rintro e w0 ⟨rfl, x0⟩
  go_wp2
  go_ret
  exact ⟨rfl, x0⟩
end Go.Proofs.YtkmkchfjnhnacaaGreat.l49
