/- Logs read from bytes: UnpackLog of the reference. -/
import Derived.Test.YtpghedeghoegmaaPk26
import Derived.Test.YtpghedeghoegmaaPk17
import Derived.Test.YtpghedeghoegmaaPk14
namespace Go.Proofs.Ytpghedeghoegmaa
open Go.ChangeShapes Go.WideShapes Go.ChangeAt Go.RowKit Go.Sort
set_option linter.unusedVariables false
set_option linter.unusedSimpArgs false
abbrev zL9 : Obj := .cells #[.int .i64 0, .slice none 0 0, .slice none 0 0, .slice none 0 0] 44
def UlV (B : Nat) (o : Option (Lg × Nat)) (v : Value) (W : World) : Prop := match o with
 | none => v = .tuple #[.agg #[.int .i64 0, .slice none 0 0, .slice none 0 0, .slice none 0 0], .int .i64 0, .bool false]
 | some p => ∃ a, v = .tuple #[Lg.val a p.1, .int .i64 p.2, .bool true] ∧ LgF W B a p.1
theorem getZs_le {b : List Nat} (hb : Byt b) : ∀ {n at_ : Nat} {l : List Int} {e : Nat}, at_ ≤ b.length → getZs b at_ n = some (l, e) → e ≤ b.length
 | 0, at_, l, e, ha, h => by
  simp only [getZs, Option.some.injEq, Prod.mk.injEq] at h
  omega
 | n + 1, at_, l, e, ha, h => by
  rw [getZs] at h
  cases hz : getZ b at_ with
  | none => rw [hz] at h; cases h
  | some p =>
   rw [hz] at h
   cases hq : getZs b p.2 n with
   | none => simp only [hq] at h; cases h
   | some q =>
    simp only [hq, Option.map_some, Option.some.injEq, Prod.mk.injEq] at h
    obtain ⟨_, rfl⟩ := h
    exact getZs_le hb (getZ_le hb (x := p.1) (f := p.2) hz).1 (l := q.1) (e := q.2) hq
theorem rdRows_le {b : List Nat} (hb : Byt b) {at_ wide most : Nat} {l : List Int} {e : Nat} (h : rdRows b at_ wide most = some (l, e)) : e ≤ b.length ∧ ∃ n, n ≤ most ∧ l.length = n * wide ∧ ∀ x ∈ l, 0 ≤ x ∧ x < 9223372036854775808 := by
 have h0 := h
 obtain ⟨n, h1, h2, _, h3⟩ := rdRows_of hb h
 refine ⟨?_, n, h1, h2, h3⟩
 unfold rdRows at h0
 cases hz : getZ b at_ with
 | none => rw [hz] at h0; cases h0
 | some p =>
  simp only [hz] at h0
  split at h0
  ·cases h0
  ·exact getZs_le hb (getZ_le hb (x := p.1) (f := p.2) hz).1 h0
theorem celN_at : ∀ (l : List Cel) (k : Nat) (hk : k < l.length), (celN l)[2 * k]? = some l[k].key ∧ (celN l)[2 * k + 1]? = some l[k].value
 | c :: l, 0, _ => ⟨rfl, rfl⟩
 | c :: l, k + 1, hk => celN_at l k (by simpa using hk)
theorem seaN_at : ∀ (l : List Sea) (k : Nat) (hk : k < l.length), (seaN l)[3 * k]? = some l[k].client ∧ (seaN l)[3 * k + 1]? = some l[k].req ∧ (seaN l)[3 * k + 2]? = some (l[k].answer + 1)
 | c :: l, 0, _ => ⟨rfl, rfl, rfl⟩
 | c :: l, k + 1, hk => seaN_at l k (by simpa using hk)
theorem entN_at : ∀ (l : List Ent) (k : Nat) (hk : k < l.length), (entN l)[5 * k]? = some l[k].client ∧ (entN l)[5 * k + 1]? = some l[k].req ∧ (entN l)[5 * k + 2]? = some l[k].kind ∧ (entN l)[5 * k + 3]? = some l[k].key ∧ (entN l)[5 * k + 4]? = some l[k].value
 | c :: l, 0, _ => ⟨rfl, rfl, rfl, rfl, rfl⟩
 | c :: l, k + 1, hk => entN_at l k (by simpa using hk)
theorem Rd.cellZ {w : World} {b o c : Nat} {l : List Int} (h : Rd zEnc 1 w (some ⟨b, o, none⟩) c l) {j : Nat} {x : Int} (hj : l[j]? = some x) : w.cell? ⟨b, o + j, none⟩ = some (.int .i64 x) := by
 obtain ⟨hlt, rfl⟩ := List.getElem?_eq_some_iff.1 hj
 obtain ⟨b', o', e, _, hc⟩ := h.atZ hlt
 simp only [Option.some.injEq, Addr.mk.injEq] at e
 obtain ⟨rfl, rfl, _⟩ := e
 exact hc
theorem Ow.bx {α : Type} {enc : α → List Value} {e T : TypeId} {sz : Nat} {w : World} {B p : Nat} {cs : Array Value} {A : Option Addr} {n c : Nat} {l : List α} (h : Ow enc e sz w B (.slice A n c) l) (hb : w.heap[p]? = some (.cells cs T (0, 0))) (hne : T ≠ e) (u : Value) (j : Nat) : Ow enc e sz (w.setCell ⟨p, j, none⟩ u) B (.slice A n c) l :=
 h.chg (chg_set (Chg.refl w [p]) (by simp) u) (fun k hk hm => by rw [Mi] at hm; subst hm; exact box_apart hb h hne hk)
theorem RdF.bxd {α : Type} {enc : α → List Value} {e T : TypeId} {sz : Nat} (hlen : ∀ x, (enc x).length = sz) {w w' : World} {B p : Nat} {cs : Array Value} {A : Option Addr} {c : Nat} {l : List α} (h : RdF enc e sz w B A c l) (hb : w.heap[p]? = some (.cells cs T (0, 0))) (hne : T ≠ e) (hg : Chg w w' [p]) : RdF enc e sz w' B A c l :=
 h.chg hlen hg (fun hl x hx hm => by rw [Mi] at hm; rw [hm] at hx; exact box_apart hb (h.2 hl) hne hx)
theorem own_none0 {α : Type} (enc : α → List Value) (e : TypeId) (sz : Nat) (w : World) (B : Nat) : Ow enc e sz w B (.slice none 0 0) ([] : List α) := ⟨by simp, .inl ⟨rfl, rfl⟩⟩
theorem bx_set_other {w : World} {k : Nat} {o : Obj} (h : w.heap[k]? = some o) {p j : Nat} (hp : k ≠ p) (u : Value) : (w.setCell ⟨p, j, none⟩ u).heap[k]? = some o := (Below.heap_setCell _ _ _ _ hp).trans h
theorem ext_bx {w0 w : World} (h : Ext w0 w) {p : Nat} (hp : w0.heap.size ≤ p) (j : Nat) (u : Value) : Ext w0 (w.setCell ⟨p, j, none⟩ u) := ext_set h hp u
set_option maxRecDepth 100000 in
set_option maxHeartbeats 16000000 in
theorem c_sUnpackLog (A : Option Addr) (c : Nat) (b : List Nat) (at_ : Nat) (w : World) (hr : Rd bEnc 1 w A c b) (hb : Byt b) (hn : b.length ≤ 1048576) (ha : at_ ≤ 1048576) : Calls Try.prog 47 #[.slice A b.length c, .int .i64 at_] w fun e w' => (∃ v, e = .returned v ∧ UlV w.heap.size (rdLog b at_) v w') ∧ Ext w w' := by
 obtain ⟨i0, hi, hz0, hz1, hz2⟩ := info_parts Try.infoCel
 obtain ⟨j0, ji, jz0, jz1, jz2⟩ := info_parts Try.infoSea
 obtain ⟨n0, ni, nz0, nz1, nz2⟩ := info_parts Try.infoEnt
 have HR := Hd hr
 have HB := Hd hb
 have X0 := Hd (ext_alloc w zL9)
 have E0 := Hd (hNew (w := w) (o := zL9) rfl)
 have HC := Hd (c_sGetNum A c b at_ (w.alloc zL9) (hr.keep X0.out) hb hn ha)
 clear hr hb
 cases hz : getZ b at_ with
 | none =>
  rw [hz] at HC
  have HN := Hd (show rdLog b at_ = none by unfold rdLog; rw [hz])
  clear hz
  go_enter Try.func47, Try.ntmps47
  go_wp2_with fail
  refine HC.out.mono ?_
  rintro e2 w1 ⟨rfl, x1⟩
  simp only [gT]
  have E1 := Hd (x1.box E0.out)
  have X1 := Hd (Ext.trans X0.out x1)
  clear x1 E0 X0 HC
  (go_wp2_with (with_reducible refine wl_stopS 44 ?_); refine stop_store (w.heap.size) (#[.int .i64 0, .slice none 0 0, .slice none 0 0, .slice none 0 0]) rfl rfl (E1.out) (by kernel_rfl) rfl (by simp [Value.oneCell']) ?_)
  intro w9 e9 k9
  have E9 := Hd e9
  have X9 := Hd (chg_new X1.out k9 (Nat.le_refl _))
  clear e9 k9
  go_wp2
  exact bodyPost_ret (results_three Try.results47 rfl rfl rfl Try.underlying44 (by kernel_rfl) E9.out) rfl ⟨⟨_, rfl, by rw [HN.out]; rfl⟩, X9.out⟩
 | some p0 =>
  obtain ⟨base, f0⟩ := p0
  rw [hz] at HC
  obtain ⟨hf0, hb0, hb1⟩ := getZ_le HB.out hz
  have HZ0 := Hd hz
  clear hz
  go_enter Try.func47, Try.ntmps47
  go_wp2_with fail
  refine HC.out.mono ?_
  rintro e2 w1 ⟨rfl, x1⟩
  simp only [gT]
  have s1 := x1.size
  simp only [sz_alloc] at s1
  obtain ⟨p, hp⟩ : ∃ p, w1.heap.size = p := ⟨_, rfl⟩
  have x2 := ext_alloc w1 (.cells #[.int .i64 base, .slice none 0 0, .slice none 0 0, .slice none 0 0] 44)
  have D2 := Hd (hNew (w := w1) (o := .cells #[.int .i64 base, .slice none 0 0, .slice none 0 0, .slice none 0 0] 44) rfl)
  rw [hp] at D2
  have E2 := Hd (x2.box (x1.box E0.out))
  have X2 := Hd (Ext.trans X0.out (Ext.trans x1 x2))
  have hpw : w.heap.size < p := by omega
  obtain ⟨W2, hW2⟩ : ∃ W, w1.alloc (.cells #[.int .i64 base, .slice none 0 0, .slice none 0 0, .slice none 0 0] 44) = W := ⟨_, rfl⟩
  have HW2 := Hd hW2
  rw [hW2] at D2 E2 X2
  have HC1 := Hd (c_l4Rows A c b f0 2 40 W2 (HR.out.keep X2.out) HB.out hn (by omega) (by omega) (by omega) (by omega) (by omega))
  clear x1 x2 E0 X0 HC hW2
  rw [← HW2.out] at HC1 D2 E2 X2
  clear HW2
  go_wp2_with fail
  refine HC1.out.mono ?_
  rintro e3 v1 ⟨⟨u1, rfl, hv⟩, y1⟩
  have D3 := Hd (y1.box D2.out)
  have E3 := Hd (y1.box E2.out)
  have X3 := Hd (Ext.trans X2.out y1)
  have hs3 := X2.out.size
  cases ho : rdRows b f0 2 40 with
  | none =>
   rw [ho] at hv
   obtain ⟨Az, cz, rfl⟩ := hv
   have HN := Hd (show rdLog b at_ = none by unfold rdLog; rw [HZ0.out]; simp only; rw [ho])
   clear ho HC1 D2 E2 X2 y1
   (go_wp2_with (with_reducible refine wl_stopS 44 ?_); refine stop_store (w.heap.size) (#[.int .i64 0, .slice none 0 0, .slice none 0 0, .slice none 0 0]) rfl rfl (E3.out) (by kernel_rfl) rfl (by simp [Value.oneCell']) ?_)
   intro w9 e9 k9
   have E9 := Hd e9
   have X9 := Hd (chg_new X3.out k9 (Nat.le_refl _))
   clear e9 k9
   go_wp2
   exact bodyPost_ret (results_three Try.results47 rfl rfl rfl Try.underlying44 (by kernel_rfl) E9.out) rfl ⟨⟨_, rfl, by rw [HN.out]; rfl⟩, X9.out⟩
  | some p1 =>
   obtain ⟨l1, f1⟩ := p1
   rw [ho] at hv
   obtain ⟨Az1, cz1, rfl, oz⟩ := hv
   obtain ⟨hf1, m1, hm1, hml1, hnn1⟩ := rdRows_le HB.out ho
   have HZ1 := Hd ho
   obtain ⟨hto, htl⟩ := celN_to m1 l1 hml1
   obtain ⟨L1, hL1⟩ : ∃ L, toCel l1 = L := ⟨_, rfl⟩
   rw [hL1] at hto htl
   subst hto
   have HT1 := Hd hL1
   have hLl1 : L1.length ≤ 40 := by omega
   have HNn1 := Hd hnn1
   have Z1 := Hd (oz.less (B' := w.heap.size) (by omega))
   clear ho hL1 hml1 htl hm1 hnn1 oz y1 D2 E2 X2 HC1
   have HC2 := Hd (c_l4Rows A c b f1 3 10 v1 (HR.out.keep X3.out) HB.out hn (by omega) (by omega) (by omega) (by omega) (by omega))
   go_wp2_with fail
   refine HC2.out.mono ?_
   rintro e4 v2 ⟨⟨u2, rfl, hv⟩, y2⟩
   have D4 := Hd (y2.box D3.out)
   have E4 := Hd (y2.box E3.out)
   have X4 := Hd (Ext.trans X3.out y2)
   have Z1 := Hd (Z1.out.kept y2)
   have hs4 := X3.out.size
   cases ho : rdRows b f1 3 10 with
   | none =>
    rw [ho] at hv
    obtain ⟨Az, cz, rfl⟩ := hv
    have HN := Hd (show rdLog b at_ = none by unfold rdLog; rw [HZ0.out]; simp only; rw [HZ1.out]; simp only; rw [ho])
    clear ho HC2 D3 E3 X3 y2
    (go_wp2_with (with_reducible refine wl_stopS 44 ?_); refine stop_store (w.heap.size) (#[.int .i64 0, .slice none 0 0, .slice none 0 0, .slice none 0 0]) rfl rfl (E4.out) (by kernel_rfl) rfl (by simp [Value.oneCell']) ?_)
    intro w9 e9 k9
    have E9 := Hd e9
    have X9 := Hd (chg_new X4.out k9 (Nat.le_refl _))
    clear e9 k9
    go_wp2
    exact bodyPost_ret (results_three Try.results47 rfl rfl rfl Try.underlying44 (by kernel_rfl) E9.out) rfl ⟨⟨_, rfl, by rw [HN.out]; rfl⟩, X9.out⟩
   | some p2 =>
    obtain ⟨l2, f2⟩ := p2
    rw [ho] at hv
    obtain ⟨Az2, cz2, rfl, oz⟩ := hv
    obtain ⟨hf2, m2, hm2, hml2, hnn2⟩ := rdRows_le HB.out ho
    have HZ2 := Hd ho
    obtain ⟨hto, htl⟩ := seaN_to m2 l2 hml2
    obtain ⟨L2, hL2⟩ : ∃ L, toSea l2 = L := ⟨_, rfl⟩
    rw [hL2] at hto htl
    subst hto
    have HT2 := Hd hL2
    have hLl2 : L2.length ≤ 10 := by omega
    have HNn2 := Hd hnn2
    have Z2 := Hd (oz.less (B' := w.heap.size) (by omega))
    clear ho hL2 hml2 htl hm2 hnn2 oz y2 D3 E3 X3 HC2
    have HC3 := Hd (c_l4Rows A c b f2 5 60 v2 (HR.out.keep X4.out) HB.out hn (by omega) (by omega) (by omega) (by omega) (by omega))
    go_wp2_with fail
    refine HC3.out.mono ?_
    rintro e5 v3 ⟨⟨u3, rfl, hv⟩, y3⟩
    have D5 := Hd (y3.box D4.out)
    have E5 := Hd (y3.box E4.out)
    have X5 := Hd (Ext.trans X4.out y3)
    have Z1 := Hd (Z1.out.kept y3)
    have Z2 := Hd (Z2.out.kept y3)
    have hs5 := X4.out.size
    cases ho : rdRows b f2 5 60 with
    | none =>
     rw [ho] at hv
     obtain ⟨Az, cz, rfl⟩ := hv
     have HN := Hd (show rdLog b at_ = none by unfold rdLog; rw [HZ0.out]; simp only; rw [HZ1.out]; simp only; rw [HZ2.out]; simp only; rw [ho])
     clear ho HC3 D4 E4 X4 y3
     (go_wp2_with (with_reducible refine wl_stopS 44 ?_); refine stop_store (w.heap.size) (#[.int .i64 0, .slice none 0 0, .slice none 0 0, .slice none 0 0]) rfl rfl (E5.out) (by kernel_rfl) rfl (by simp [Value.oneCell']) ?_)
     intro w9 e9 k9
     have E9 := Hd e9
     have X9 := Hd (chg_new X5.out k9 (Nat.le_refl _))
     clear e9 k9
     go_wp2
     exact bodyPost_ret (results_three Try.results47 rfl rfl rfl Try.underlying44 (by kernel_rfl) E9.out) rfl ⟨⟨_, rfl, by rw [HN.out]; rfl⟩, X9.out⟩
    | some p3 =>
     obtain ⟨l3, f3⟩ := p3
     rw [ho] at hv
     obtain ⟨Az3, cz3, rfl, oz⟩ := hv
     obtain ⟨hf3, m3, hm3, hml3, hnn3⟩ := rdRows_le HB.out ho
     have HZ3 := Hd ho
     obtain ⟨hto, htl⟩ := entN_to m3 l3 hml3
     obtain ⟨L3, hL3⟩ : ∃ L, toEnt l3 = L := ⟨_, rfl⟩
     rw [hL3] at hto htl
     subst hto
     have HT3 := Hd hL3
     have hLl3 : L3.length ≤ 60 := by omega
     have HNn3 := Hd hnn3
     have Z3 := Hd (oz.less (B' := w.heap.size) (by omega))
     clear ho hL3 hml3 htl hm3 hnn3 oz y3 D4 E4 X4 HC3
     go_wp2
     go_loopw [14] (fun i wr => ∃ (k : Nat) (Aq : Option Addr) (cq : Nat), k ≤ L1.length ∧ i = .int .i64 ((2 * k : Nat) : Int) ∧ Hid (wr.heap[p]? = some (.cells #[.int .i64 base, .slice Aq k cq, .slice none 0 0, .slice none 0 0] 44 (0, 0))) ∧ Hid (wr.heap[w.heap.size]? = some zL9) ∧ Hid (Ow Cel.enc 101 2 wr w.heap.size (.slice Aq k cq) (L1.take k)) ∧ Hid (Ow zEnc 3 1 wr w.heap.size (.slice Az1 (celN L1).length cz1) (celN L1)) ∧ Hid (Ow zEnc 3 1 wr w.heap.size (.slice Az2 (seaN L2).length cz2) (seaN L2)) ∧ Hid (Ow zEnc 3 1 wr w.heap.size (.slice Az3 (entN L3).length cz3) (entN L3)) ∧ Hid (Ext w wr)) (fun i _ => L1.length * 2 - (intOf i).toNat)
     case atStart => exact ⟨0, none, 0, Nat.zero_le _, rfl, D5, E5, Hd (by rw [Tz]; exact own_none0 _ _ _ _ _), Z1, Z2, Z3, X5⟩
     case round =>
      clear D5 E5 X5 Z1 Z2 Z3
      obtain ⟨k, Ar1, cr1, hk, rfl, D, E, O, Z1, Z2, Z3, X⟩ := hrel
      obtain ⟨j, hj⟩ : ∃ j, 2 * k = j := ⟨_, rfl⟩
      rw [hj]
      have HLen := Hd (celN_len L1)
      have hs := X.out.size
      have zp := bx_lt D.out
      have dp := bx_cell D.out
      have fp := bx_frozen D.out
      by_cases hlt : k < L1.length
      ·have hc : decide ((j : Int) + 1 < ((celN L1).length : Int)) = true := by rw [HLen.out]; simp; omega
       have hat := celN_at L1 k hlt
       rw [hj] at hat
       have hzr := (Z1.out.rd zEnc_len).2
       obtain ⟨zb, zo, hA, hzb, _⟩ := hzr.atZ (show 0 < (celN L1).length by rw [HLen.out]; omega)
       subst hA
       have z0 := hzr.cellZ hat.1
       have z1 := hzr.cellZ hat.2
       have hb0 : j + 0 < (celN L1).length := by rw [HLen.out]; omega
       have hb1 : j + 1 < (celN L1).length := by rw [HLen.out]; omega
       clear hat hzr
       go_wp2
       (refine wp_region_mix' (fun _ _ _ _ _ hq => hq) 14 (by kernel_rfl) (by kernel_rfl) (fun hg => ?_); simp only [headOps, Tc, Tz, List.filter_cons, List.filter_nil, isAlloc, Bool.not_true, Bool.not_false, Bf, if_true, if_false, List.cons_append, List.nil_append, Dc, Dz])
       (repeat (first | (refine wpMix_plain rfl rfl ?_; go_big_quiet_step (fail); refine wpQuiet_nil ?_) | (refine wpMix_skip rfl rfl ?_; simp only [Act.put, Sa, Sz, Ss])))
       (refine wpMix_alloc (.cells #[.int .i64 L1[k].key, .int .i64 L1[k].value] 101) rfl (fun W => by kernel_rfl) ?_; intro p1 hp1 hps1 hpi1; simp only [layVal, Act.put, Sa, Sz, Ss])
       refine wpMix_nil ?_
       rintro w3 ⟨x3, e3⟩
       have x3 : Ext wr w3 := x3
       have D := Hd (x3.box D.out)
       have E := Hd (x3.box E.out)
       have O := Hd (O.out.kept x3)
       have Z1 := Hd (Z1.out.kept x3)
       have Z2 := Hd (Z2.out.kept x3)
       have Z3 := Hd (Z3.out.kept x3)
       have X := Hd (Ext.trans X.out x3)
       have HE3 := Hd e3
       have hs := X.out.size
       have HN := Hd (show L1.take k ++ [L1[k]] = L1.take (k + 1) from (List.take_succ_eq_append_getElem hlt).symm)
       have htk : (L1.take k).length ≤ 100 := by rw [List.length_take]; omega
       clear x3 e3 hp1 hps1 hpi1 dp fp zp z0 z1
       go_wp2_with (at_builtin; refine wl_app (enc := Cel.enc) rfl _ _ 38 rfl w.heap.size 101 i0 _ 2 16 Try.underlying38 hi hz0 hz1 hz2 rfl (by decide) Cel.enc_len cel_one (.slice Ar1 k cr1) (L1.take k) rfl O.out (some ⟨p1, 0, none⟩) 1 [L1[k]] 1 rfl rfl (Rd.one HE3.out rfl) (by unfold maxLen; simp; omega) (by simp; omega) hs ?_)
       intro v' w4 ho4 hg4
       (try rw [HN.out] at ho4)
       have X4 := ext_app3 X.out hg4 O.out (Nat.le_refl _)
       have D4 := box_own D.out O.out hg4 (by decide)
       have E4 := box_own E.out O.out hg4 (by decide)
       have Z14 := Z1.out.chg (chg_grown hg4) (Z1.out.apart O.out (by decide))
       have Z24 := Z2.out.chg (chg_grown hg4) (Z2.out.apart O.out (by decide))
       have Z34 := Z3.out.chg (chg_grown hg4) (Z3.out.apart O.out (by decide))
       obtain ⟨A5, c5, hv5⟩ := ho4.form
       rw [List.length_take, Nat.min_eq_left (show k + 1 ≤ L1.length by omega)] at hv5
       subst hv5
       have dp := bx_cell D4
       have fp := bx_frozen D4
       have zp := bx_lt D4
       have hs4 := X4.size
       have D7 := Hd (box_put D4 1 (.slice A5 (k + 1) c5))
       have E7 := Hd (bx_set_other E4 (j := 1) (show w.heap.size ≠ p by omega) (.slice A5 (k + 1) c5))
       have X7 := Hd (ext_bx X4 (show w.heap.size ≤ p by omega) 1 (.slice A5 (k + 1) c5))
       have O7 := Hd (ho4.bx D4 (by decide) (.slice A5 (k + 1) c5) 1)
       have Z17 := Hd (Z14.bx D4 (by decide) (.slice A5 (k + 1) c5) 1)
       have Z27 := Hd (Z24.bx D4 (by decide) (.slice A5 (k + 1) c5) 1)
       have Z37 := Hd (Z34.bx D4 (by decide) (.slice A5 (k + 1) c5) 1)
       clear hg4 ho4 D4 E4 X4 Z14 Z24 Z34 D E O X HE3 Z1 Z2 Z3
       go_wp2
       go_roundw
       case rel => exact ⟨k + 1, A5, c5, by omega, by rw [show 2 * (k + 1) = j + 2 by omega]; go_num, D7, E7, O7, Z17, Z27, Z37, X7⟩
       case measure => simp [intOf] <;> omega
      ·obtain rfl : k = L1.length := by omega
       have hc : decide ((j : Int) + 1 < ((celN L1).length : Int)) = false := by rw [HLen.out]; simp; omega
       have R1 := Hd (show Ow Cel.enc 101 2 _ w.heap.size (.slice Ar1 L1.length cr1) L1 by have := O.out; rw [List.take_length] at this; exact this)
       have D6 := D
       have E6 := E
       have X6 := X
       clear D E X O dp fp zp
       go_wp2
       go_loopw [15] (fun i wr => ∃ (k : Nat) (Aq : Option Addr) (cq : Nat), k ≤ L2.length ∧ i = .int .i64 ((3 * k : Nat) : Int) ∧ Hid (wr.heap[p]? = some (.cells #[.int .i64 base, .slice Ar1 L1.length cr1, .slice Aq k cq, .slice none 0 0] 44 (0, 0))) ∧ Hid (wr.heap[w.heap.size]? = some zL9) ∧ Hid (Ow Sea.enc 103 3 wr w.heap.size (.slice Aq k cq) (L2.take k)) ∧ Hid (Ow Cel.enc 101 2 wr w.heap.size (.slice Ar1 L1.length cr1) L1) ∧ Hid (Ow zEnc 3 1 wr w.heap.size (.slice Az2 (seaN L2).length cz2) (seaN L2)) ∧ Hid (Ow zEnc 3 1 wr w.heap.size (.slice Az3 (entN L3).length cz3) (entN L3)) ∧ Hid (Ext w wr)) (fun i _ => L2.length * 3 - (intOf i).toNat)
       case atStart => exact ⟨0, none, 0, Nat.zero_le _, rfl, D6, E6, Hd (by rw [Tz]; exact own_none0 _ _ _ _ _), R1, Z2, Z3, X6⟩
       case round =>
        clear D6 E6 X6 R1 Z2 Z3
        obtain ⟨k, Ar2, cr2, hk, rfl, D, E, O, R1, Z2, Z3, X⟩ := hrel
        obtain ⟨j, hj⟩ : ∃ j, 3 * k = j := ⟨_, rfl⟩
        rw [hj]
        have HLen := Hd (seaN_len L2)
        have hs := X.out.size
        have zp := bx_lt D.out
        have dp := bx_cell D.out
        have fp := bx_frozen D.out
        by_cases hlt : k < L2.length
        ·have hc : decide ((j : Int) + 2 < ((seaN L2).length : Int)) = true := by rw [HLen.out]; simp; omega
         have hat := seaN_at L2 k hlt
         rw [hj] at hat
         have hzr := (Z2.out.rd zEnc_len).2
         obtain ⟨zb, zo, hA, hzb, _⟩ := hzr.atZ (show 0 < (seaN L2).length by rw [HLen.out]; omega)
         subst hA
         have z0 := hzr.cellZ hat.1
         have z1 := hzr.cellZ hat.2.1
         have z2 := hzr.cellZ hat.2.2
         have hb0 : j + 0 < (seaN L2).length := by rw [HLen.out]; omega
         have hb1 : j + 1 < (seaN L2).length := by rw [HLen.out]; omega
         have hb2 : j + 2 < (seaN L2).length := by rw [HLen.out]; omega
         have hans := HNn2.out (L2[k].answer + 1) (List.mem_of_getElem? hat.2.2)
         have hws : IntKind.i64.wrap (L2[k].answer + 1 - 1) = L2[k].answer := by rw [IntKind.wrap_i64]; omega
         have hws2 : L2[k].answer + 1 - 1 = L2[k].answer := by omega
         clear hat hzr
         go_wp2
         (refine wp_region_mix' (fun _ _ _ _ _ hq => hq) 20 (by kernel_rfl) (by kernel_rfl) (fun hg => ?_); simp only [headOps, Tc, Tz, List.filter_cons, List.filter_nil, isAlloc, Bool.not_true, Bool.not_false, Bf, if_true, if_false, List.cons_append, List.nil_append, Dc, Dz])
         (repeat (first | (refine wpMix_plain rfl rfl ?_; go_big_quiet_step (fail); refine wpQuiet_nil ?_) | (refine wpMix_skip rfl rfl ?_; simp only [Act.put, Sa, Sz, Ss])))
         (try simp only [hws, hws2])
         (repeat (first | (refine wpMix_plain rfl rfl ?_; go_big_quiet_step (fail); refine wpQuiet_nil ?_) | (refine wpMix_skip rfl rfl ?_; simp only [Act.put, Sa, Sz, Ss])))
         (refine wpMix_alloc (.cells #[.int .i64 L2[k].client, .int .i64 L2[k].req, .int .i64 L2[k].answer] 103) rfl (fun W => by kernel_rfl) ?_; intro p1 hp1 hps1 hpi1; simp only [layVal, Act.put, Sa, Sz, Ss])
         refine wpMix_nil ?_
         rintro w3 ⟨x3, e3⟩
         have x3 : Ext wr w3 := x3
         have D := Hd (x3.box D.out)
         have E := Hd (x3.box E.out)
         have O := Hd (O.out.kept x3)
         have R1 := Hd (R1.out.kept x3)
         have Z2 := Hd (Z2.out.kept x3)
         have Z3 := Hd (Z3.out.kept x3)
         have X := Hd (Ext.trans X.out x3)
         have HE3 := Hd e3
         have hs := X.out.size
         have HN := Hd (show L2.take k ++ [L2[k]] = L2.take (k + 1) from (List.take_succ_eq_append_getElem hlt).symm)
         have htk : (L2.take k).length ≤ 100 := by rw [List.length_take]; omega
         clear x3 e3 hp1 hps1 hpi1 dp fp zp z0 z1 z2
         go_wp2_with (at_builtin; refine wl_app (enc := Sea.enc) rfl _ _ 39 rfl w.heap.size 103 j0 _ 3 24 Try.underlying39 ji jz0 jz1 jz2 rfl (by decide) Sea.enc_len sea_one (.slice Ar2 k cr2) (L2.take k) rfl O.out (some ⟨p1, 0, none⟩) 1 [L2[k]] 1 rfl rfl (Rd.one HE3.out rfl) (by unfold maxLen; simp; omega) (by simp; omega) hs ?_)
         intro v' w4 ho4 hg4
         (try rw [HN.out] at ho4)
         have X4 := ext_app3 X.out hg4 O.out (Nat.le_refl _)
         have D4 := box_own D.out O.out hg4 (by decide)
         have E4 := box_own E.out O.out hg4 (by decide)
         have R14 := R1.out.chg (chg_grown hg4) (R1.out.apart O.out (by decide))
         have Z24 := Z2.out.chg (chg_grown hg4) (Z2.out.apart O.out (by decide))
         have Z34 := Z3.out.chg (chg_grown hg4) (Z3.out.apart O.out (by decide))
         obtain ⟨A5, c5, hv5⟩ := ho4.form
         rw [List.length_take, Nat.min_eq_left (show k + 1 ≤ L2.length by omega)] at hv5
         subst hv5
         have dp := bx_cell D4
         have fp := bx_frozen D4
         have zp := bx_lt D4
         have hs4 := X4.size
         have D7 := Hd (box_put D4 2 (.slice A5 (k + 1) c5))
         have E7 := Hd (bx_set_other E4 (j := 2) (show w.heap.size ≠ p by omega) (.slice A5 (k + 1) c5))
         have X7 := Hd (ext_bx X4 (show w.heap.size ≤ p by omega) 2 (.slice A5 (k + 1) c5))
         have O7 := Hd (ho4.bx D4 (by decide) (.slice A5 (k + 1) c5) 2)
         have R17 := Hd (R14.bx D4 (by decide) (.slice A5 (k + 1) c5) 2)
         have Z27 := Hd (Z24.bx D4 (by decide) (.slice A5 (k + 1) c5) 2)
         have Z37 := Hd (Z34.bx D4 (by decide) (.slice A5 (k + 1) c5) 2)
         clear hg4 ho4 D4 E4 X4 R14 Z24 Z34 D E O X HE3 R1 Z2 Z3
         go_wp2
         go_roundw
         case rel => exact ⟨k + 1, A5, c5, by omega, by rw [show 3 * (k + 1) = j + 3 by omega]; go_num, D7, E7, O7, R17, Z27, Z37, X7⟩
         case measure => simp [intOf] <;> omega
        ·obtain rfl : k = L2.length := by omega
         have hc : decide ((j : Int) + 2 < ((seaN L2).length : Int)) = false := by rw [HLen.out]; simp; omega
         have R2 := Hd (show Ow Sea.enc 103 3 _ w.heap.size (.slice Ar2 L2.length cr2) L2 by have := O.out; rw [List.take_length] at this; exact this)
         have D6 := D
         have E6 := E
         have X6 := X
         clear D E X O dp fp zp
         go_wp2
         go_loopw [16] (fun i wr => ∃ (k : Nat) (Aq : Option Addr) (cq : Nat), k ≤ L3.length ∧ i = .int .i64 ((5 * k : Nat) : Int) ∧ Hid (wr.heap[p]? = some (.cells #[.int .i64 base, .slice Ar1 L1.length cr1, .slice Ar2 L2.length cr2, .slice Aq k cq] 44 (0, 0))) ∧ Hid (wr.heap[w.heap.size]? = some zL9) ∧ Hid (Ow Ent.enc 105 5 wr w.heap.size (.slice Aq k cq) (L3.take k)) ∧ Hid (Ow Cel.enc 101 2 wr w.heap.size (.slice Ar1 L1.length cr1) L1) ∧ Hid (Ow Sea.enc 103 3 wr w.heap.size (.slice Ar2 L2.length cr2) L2) ∧ Hid (Ow zEnc 3 1 wr w.heap.size (.slice Az3 (entN L3).length cz3) (entN L3)) ∧ Hid (Ext w wr)) (fun i _ => L3.length * 5 - (intOf i).toNat)
         case atStart => exact ⟨0, none, 0, Nat.zero_le _, rfl, D6, E6, Hd (by rw [Tz]; exact own_none0 _ _ _ _ _), R1, R2, Z3, X6⟩
         case round =>
          clear D6 E6 X6 R1 R2 Z3
          obtain ⟨k, Ar3, cr3, hk, rfl, D, E, O, R1, R2, Z3, X⟩ := hrel
          obtain ⟨j, hj⟩ : ∃ j, 5 * k = j := ⟨_, rfl⟩
          rw [hj]
          have HLen := Hd (entN_len L3)
          have hs := X.out.size
          have zp := bx_lt D.out
          have dp := bx_cell D.out
          have fp := bx_frozen D.out
          by_cases hlt : k < L3.length
          ·have hc : decide ((j : Int) + 4 < ((entN L3).length : Int)) = true := by rw [HLen.out]; simp; omega
           have hat := entN_at L3 k hlt
           rw [hj] at hat
           have hzr := (Z3.out.rd zEnc_len).2
           obtain ⟨zb, zo, hA, hzb, _⟩ := hzr.atZ (show 0 < (entN L3).length by rw [HLen.out]; omega)
           subst hA
           have z0 := hzr.cellZ hat.1
           have z1 := hzr.cellZ hat.2.1
           have z2 := hzr.cellZ hat.2.2.1
           have z3 := hzr.cellZ hat.2.2.2.1
           have z4 := hzr.cellZ hat.2.2.2.2
           have hb0 : j + 0 < (entN L3).length := by rw [HLen.out]; omega
           have hb1 : j + 1 < (entN L3).length := by rw [HLen.out]; omega
           have hb2 : j + 2 < (entN L3).length := by rw [HLen.out]; omega
           have hb3 : j + 3 < (entN L3).length := by rw [HLen.out]; omega
           have hb4 : j + 4 < (entN L3).length := by rw [HLen.out]; omega
           clear hat hzr
           go_wp2
           (refine wp_region_mix' (fun _ _ _ _ _ hq => hq) 29 (by kernel_rfl) (by kernel_rfl) (fun hg => ?_); simp only [headOps, Tc, Tz, List.filter_cons, List.filter_nil, isAlloc, Bool.not_true, Bool.not_false, Bf, if_true, if_false, List.cons_append, List.nil_append, Dc, Dz])
           (repeat (first | (refine wpMix_plain rfl rfl ?_; go_big_quiet_step (fail); refine wpQuiet_nil ?_) | (refine wpMix_skip rfl rfl ?_; simp only [Act.put, Sa, Sz, Ss])))
           (refine wpMix_alloc (.cells #[.int .i64 L3[k].client, .int .i64 L3[k].req, .int .i64 L3[k].kind, .int .i64 L3[k].key, .int .i64 L3[k].value] 105) rfl (fun W => by kernel_rfl) ?_; intro p1 hp1 hps1 hpi1; simp only [layVal, Act.put, Sa, Sz, Ss])
           refine wpMix_nil ?_
           rintro w3 ⟨x3, e3⟩
           have x3 : Ext wr w3 := x3
           have D := Hd (x3.box D.out)
           have E := Hd (x3.box E.out)
           have O := Hd (O.out.kept x3)
           have R1 := Hd (R1.out.kept x3)
           have R2 := Hd (R2.out.kept x3)
           have Z3 := Hd (Z3.out.kept x3)
           have X := Hd (Ext.trans X.out x3)
           have HE3 := Hd e3
           have hs := X.out.size
           have HN := Hd (show L3.take k ++ [L3[k]] = L3.take (k + 1) from (List.take_succ_eq_append_getElem hlt).symm)
           have htk : (L3.take k).length ≤ 100 := by rw [List.length_take]; omega
           clear x3 e3 hp1 hps1 hpi1 dp fp zp z0 z1 z2 z3 z4
           go_wp2_with (at_builtin; refine wl_app (enc := Ent.enc) rfl _ _ 42 rfl w.heap.size 105 n0 _ 5 40 Try.underlying42 ni nz0 nz1 nz2 rfl (by decide) Ent.enc_len ent_one (.slice Ar3 k cr3) (L3.take k) rfl O.out (some ⟨p1, 0, none⟩) 1 [L3[k]] 1 rfl rfl (Rd.one HE3.out rfl) (by unfold maxLen; simp; omega) (by simp; omega) hs ?_)
           intro v' w4 ho4 hg4
           (try rw [HN.out] at ho4)
           have X4 := ext_app3 X.out hg4 O.out (Nat.le_refl _)
           have D4 := box_own D.out O.out hg4 (by decide)
           have E4 := box_own E.out O.out hg4 (by decide)
           have R14 := R1.out.chg (chg_grown hg4) (R1.out.apart O.out (by decide))
           have R24 := R2.out.chg (chg_grown hg4) (R2.out.apart O.out (by decide))
           have Z34 := Z3.out.chg (chg_grown hg4) (Z3.out.apart O.out (by decide))
           obtain ⟨A5, c5, hv5⟩ := ho4.form
           rw [List.length_take, Nat.min_eq_left (show k + 1 ≤ L3.length by omega)] at hv5
           subst hv5
           have dp := bx_cell D4
           have fp := bx_frozen D4
           have zp := bx_lt D4
           have hs4 := X4.size
           have D7 := Hd (box_put D4 3 (.slice A5 (k + 1) c5))
           have E7 := Hd (bx_set_other E4 (j := 3) (show w.heap.size ≠ p by omega) (.slice A5 (k + 1) c5))
           have X7 := Hd (ext_bx X4 (show w.heap.size ≤ p by omega) 3 (.slice A5 (k + 1) c5))
           have O7 := Hd (ho4.bx D4 (by decide) (.slice A5 (k + 1) c5) 3)
           have R17 := Hd (R14.bx D4 (by decide) (.slice A5 (k + 1) c5) 3)
           have R27 := Hd (R24.bx D4 (by decide) (.slice A5 (k + 1) c5) 3)
           have Z37 := Hd (Z34.bx D4 (by decide) (.slice A5 (k + 1) c5) 3)
           clear hg4 ho4 D4 E4 X4 R14 R24 Z34 D E O X HE3 R1 R2 Z3
           go_wp2
           go_roundw
           case rel => exact ⟨k + 1, A5, c5, by omega, by rw [show 5 * (k + 1) = j + 5 by omega]; go_num, D7, E7, O7, R17, R27, Z37, X7⟩
           case measure => simp [intOf] <;> omega
          ·obtain rfl : k = L3.length := by omega
           have hc : decide ((j : Int) + 4 < ((entN L3).length : Int)) = false := by rw [HLen.out]; simp; omega
           have R3 := Hd (show Ow Ent.enc 105 5 _ w.heap.size (.slice Ar3 L3.length cr3) L3 by have := O.out; rw [List.take_length] at this; exact this)
           have D6 := D
           have E6 := E
           have X6 := X
           clear D E X O dp fp zp
           have hFS : rdLog b at_ = if logOk ⟨base, L1, L2, L3⟩ = true then some (⟨base, L1, L2, L3⟩, f3) else none := by
            unfold rdLog
            rw [HZ0.out]
            simp only
            rw [HZ1.out]
            simp only
            rw [HZ2.out]
            simp only
            rw [HZ3.out]
            simp only
            rw [HT1.out, HT2.out, HT3.out]
           have HFS := Hd hFS
           clear hFS
           have F6 := Hd (show LgF _ w.heap.size ⟨Ar1, cr1, Ar2, cr2, Ar3, cr3⟩ ⟨base, L1, L2, L3⟩ from ⟨Ow.rdF Cel.enc_len R1.out, Ow.rdF Sea.enc_len R2.out, Ow.rdF Ent.enc_len R3.out⟩)
           have D6' := D6
           clear R1 R2 R3 Z3
           (go_wp2_with (with_reducible refine wl_stop 151 ?_); refine stop_load (D6.out) rfl Try.underlying44 (by kernel_rfl) ?_; simp only [Act.put, Sa, Sz, Ss])
           have HCL := Hd (c_sLogOk ⟨Ar1, cr1, Ar2, cr2, Ar3, cr3⟩ ⟨base, L1, L2, L3⟩ (by show L1.length ≤ 1048576; omega) (by show L2.length ≤ 1048576; omega) (by show L3.length ≤ 1048576; omega) _ F6.out.rd)
           go_wp2_with fail
           refine HCL.out.mono ?_
           rintro e9 w7 ⟨rfl, x7⟩
           have D7 := Hd (x7.box D6.out)
           have E7 := Hd (x7.box E6.out)
           have X7 := Hd (Ext.trans X6.out x7)
           have F7 := Hd (F6.out.keep x7)
           clear x7 D6 D6' E6 X6 F6 HCL
           obtain ⟨q, hq⟩ : ∃ q, logOk ⟨base, L1, L2, L3⟩ = q := ⟨_, rfl⟩
           rw [hq] at HFS ⊢
           cases q
           ·have HN := Hd (show rdLog b at_ = none by rw [HFS.out]; rfl)
            (go_wp2_with (with_reducible refine wl_stopS 44 ?_); refine stop_store (w.heap.size) (#[.int .i64 0, .slice none 0 0, .slice none 0 0, .slice none 0 0]) rfl rfl (E7.out) (by kernel_rfl) rfl (by simp [Value.oneCell']) ?_)
            intro w9 e9 k9
            have E9 := Hd e9
            have X9 := Hd (chg_new X7.out k9 (Nat.le_refl _))
            clear e9 k9
            go_wp2
            exact bodyPost_ret (results_three Try.results47 rfl rfl rfl Try.underlying44 (by kernel_rfl) E9.out) rfl ⟨⟨_, rfl, by rw [HN.out]; rfl⟩, X9.out⟩
           ·have HN := Hd (show rdLog b at_ = some (⟨base, L1, L2, L3⟩, f3) by rw [HFS.out]; rfl)
            (go_wp2_with (with_reducible refine wl_stop 155 ?_); refine stop_load (D7.out) rfl Try.underlying44 (by kernel_rfl) ?_; simp only [Act.put, Sa, Sz, Ss])
            (go_wp2_with (with_reducible refine wl_stopS 44 ?_); refine stop_store (w.heap.size) (#[.int .i64 base, .slice Ar1 L1.length cr1, .slice Ar2 L2.length cr2, .slice Ar3 L3.length cr3]) rfl rfl (E7.out) (by kernel_rfl) rfl (by simp [Value.oneCell']) ?_)
            intro w9 e9 k9
            have E9 := Hd e9
            have X9 := Hd (chg_new X7.out k9 (Nat.le_refl _))
            have F9 := Hd (show LgF w9 w.heap.size ⟨Ar1, cr1, Ar2, cr2, Ar3, cr3⟩ ⟨base, L1, L2, L3⟩ from ⟨F7.out.c.bxd Cel.enc_len E7.out (by decide) k9, F7.out.s.bxd Sea.enc_len E7.out (by decide) k9, F7.out.e.bxd Ent.enc_len E7.out (by decide) k9⟩)
            clear e9 k9
            go_wp2
            exact bodyPost_ret (results_three Try.results47 rfl rfl rfl Try.underlying44 (by kernel_rfl) E9.out) rfl ⟨⟨_, rfl, by rw [HN.out]; exact ⟨⟨Ar1, cr1, Ar2, cr2, Ar3, cr3⟩, rfl, F9.out⟩⟩, X9.out⟩
end Go.Proofs.Ytpghedeghoegmaa
