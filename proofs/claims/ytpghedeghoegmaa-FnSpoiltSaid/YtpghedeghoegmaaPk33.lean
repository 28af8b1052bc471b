/- Messages read from bytes: UnpackMsg of the reference. -/
import Derived.Test.YtpghedeghoegmaaPk27
import Derived.Test.YtpghedeghoegmaaPk32
namespace Go.Proofs.Ytpghedeghoegmaa
open Go.ChangeShapes Go.WideShapes Go.ChangeAt Go.RowKit Go.Sort
set_option linter.unusedVariables false
set_option linter.unusedSimpArgs false
def UmV (B : Nat) (M : Mg × Int) (v : Value) (W : World) : Prop := ∃ a, v = .tuple #[Mg.val a M.1, .int .i64 M.2] ∧ LgF W B a M.1.log
theorem umZ (B : Nat) (n : Int) (W : World) : UmV B (Mg.z, n) (.tuple #[.agg #[.int .i64 0, .int .i64 0, .int .i64 0, .int .i64 0, .int .i64 0, .int .i64 0, .int .i64 0, .int .i64 0, .int .i64 0, .int .i64 0, .int .i64 0, .int .i64 0, .int .i64 0, .int .i64 0, .slice none 0 0, .slice none 0 0, .slice none 0 0], .int .i64 n]) W := ⟨LAd.none, rfl, ⟨RdF.nil _ _ _ _ _, RdF.nil _ _ _ _ _, RdF.nil _ _ _ _ _⟩⟩
theorem form_other {k : Int} (h : ¬ (k = 1 ∨ k = 2 ∨ k = 3 ∨ k = 4 ∨ k = 5 ∨ k = 6 ∨ k = 7 ∨ k = 8 ∨ k = 9 ∨ k = 10 ∨ k = 11 ∨ k = 12)) : sForm k = ⟨#[]⟩ ∧ iForm k = ⟨#[]⟩ ∧ formL k = [] := by
 simp only [not_or] at h
 obtain ⟨h1, h2, h3, h4, h5, h6, h7, h8, h9, h10, h11, h12⟩ := h
 refine ⟨?_, ?_, ?_⟩
 ·unfold sForm; simp [h1, h2, h3, h4, h5, h6, h7, h8, h9, h10, h11, h12]
 ·unfold iForm; simp [h1, h2, h3, h4, h5, h6, h7, h8, h9, h10, h11, h12]
 ·unfold formL; simp [h1, h2, h3, h4, h5, h6, h7, h8, h9, h10, h11, h12]
theorem sForm_any (k : Int) : SForm (sForm k) k ∧ (sForm k).toList.isEmpty = (formL k).isEmpty := by
 by_cases h : k = 1 ∨ k = 2 ∨ k = 3 ∨ k = 4 ∨ k = 5 ∨ k = 6 ∨ k = 7 ∨ k = 8 ∨ k = 9 ∨ k = 10 ∨ k = 11 ∨ k = 12
 ·rcases h with rfl | rfl | rfl | rfl | rfl | rfl | rfl | rfl | rfl | rfl | rfl | rfl <;> exact ⟨by decide, by kernel_rfl⟩
 ·obtain ⟨h1, _, h3⟩ := form_other h
  unfold SForm
  rw [h1, h3]
  exact ⟨by decide, by kernel_rfl⟩
theorem iForm_any (k : Int) : IForm (iForm k) k ∧ (iForm k).toList.isEmpty = (formL k).isEmpty := by
 by_cases h : k = 1 ∨ k = 2 ∨ k = 3 ∨ k = 4 ∨ k = 5 ∨ k = 6 ∨ k = 7 ∨ k = 8 ∨ k = 9 ∨ k = 10 ∨ k = 11 ∨ k = 12
 ·rcases h with rfl | rfl | rfl | rfl | rfl | rfl | rfl | rfl | rfl | rfl | rfl | rfl <;> exact ⟨by decide, by kernel_rfl⟩
 ·obtain ⟨_, h1, h3⟩ := form_other h
  unfold IForm
  rw [h1, h3]
  exact ⟨by decide, by kernel_rfl⟩
theorem setF_log (m : Mg) (c : Nat) (x : Int) : (setF m c x).log = m.log := by
 unfold setF
 (repeat' split) <;> rfl
theorem c_set_any (a : LAd) (m : Mg) (x : Int) (hx0 : 0 ≤ x) (hx1 : x ≤ 1000000001) (c : Nat) (hc : c ∈ SL) (h1 : c ≠ 100) (h2 : c ≠ 108) (w : World) : Calls Try.prog 48 #[Mg.val a m, .int .u8 c, .int .i64 x] w fun e w' => e = .returned (Mg.val a (setF m (sMap c) x)) ∧ Ext w w' := by
 simp only [SL, List.mem_cons, List.not_mem_nil, or_false] at hc
 rcases hc with rfl | rfl | rfl | rfl | rfl | rfl | rfl | rfl | rfl | rfl | rfl
 ·exact c_set102 a m x hx0 hx1 w
 ·exact c_set118 a m x hx0 hx1 w
 ·exact c_set111 a m x hx0 hx1 w
 ·exact c_set99 a m x hx0 hx1 w
 ·exact c_set110 a m x hx0 hx1 w
 ·exact c_set107 a m x hx0 hx1 w
 ·exact c_set67 a m x hx0 hx1 w
 ·exact c_set82 a m x hx0 hx1 w
 ·exact c_set65 a m x hx0 hx1 w
 ·exact absurd rfl h1
 ·exact absurd rfl h2
theorem sMap_no {c : Nat} (hc : c ∈ SL) (h1 : c ≠ 100) (h2 : c ≠ 108) : sMap c ≠ 120 ∧ sMap c ≠ 76 := by
 simp only [SL, List.mem_cons, List.not_mem_nil, or_false] at hc
 rcases hc with rfl | rfl | rfl | rfl | rfl | rfl | rfl | rfl | rfl | rfl | rfl <;> first | decide | exact absurd rfl h1 | exact absurd rfl h2
theorem rdFlds_cons {b : List Nat} {l : List Nat} {k c at_ : Nat} {m : Mg} (h : l[k]? = some c) : rdFlds b (l.drop k) at_ m = match rdFld b c at_ m with | none => none | some p => rdFlds b (l.drop (k + 1)) p.2 p.1 := by
 obtain ⟨hk, rfl⟩ := List.getElem?_eq_some_iff.1 h
 rw [List.drop_eq_getElem_cons hk, rdFlds]
 rfl
theorem three_of {l : List Int} (h : l.length = 3) : ∃ x y z, l = [x, y, z] := by
 match l, h with
 | [a, b, c], _ => exact ⟨a, b, c, rfl⟩
theorem rdLog_le {b : List Nat} (hb : Byt b) {at_ : Nat} {l : Lg} {e : Nat} (h : rdLog b at_ = some (l, e)) : e ≤ b.length ∧ logOk l = true := by
 have h2 := (rdLog_of hb h).2
 refine ⟨?_, h2⟩
 unfold rdLog at h
 cases hz : getZ b at_ with
 | none => rw [hz] at h; cases h
 | some p =>
  simp only [hz] at h
  cases h3 : rdRows b p.2 2 40 with
  | none => simp only [h3] at h; cases h
  | some q =>
   simp only [h3] at h
   cases h4 : rdRows b q.2 3 10 with
   | none => simp only [h4] at h; cases h
   | some s =>
    simp only [h4] at h
    cases h5 : rdRows b s.2 5 60 with
    | none => simp only [h5] at h; cases h
    | some t =>
     simp only [h5] at h
     split at h
     ·simp only [Option.some.injEq, Prod.mk.injEq] at h
      obtain ⟨_, rfl⟩ := h
      exact (rdRows_le hb (l := t.1) (e := t.2) h5).1
     ·cases h
theorem LgF.bxd {w w' : World} {B : Nat} {a : LAd} {l : Lg} {p : Nat} {cs : Array Value} {t : TypeId} (h : LgF w B a l) (hb : w.heap[p]? = some (.cells cs t (0, 0))) (h1 : t ≠ 101) (h2 : t ≠ 103) (h3 : t ≠ 105) (hg : Chg w w' [p]) : LgF w' B a l :=
 ⟨h.c.bxd Cel.len hb h1 hg, h.s.bxd Sea.len hb h2 hg, h.e.bxd Ent.len hb h3 hg⟩
theorem Ow.bxk {α : Type} {enc : α → List Value} {e T : TypeId} {sz : Nat} {w w' : World} {B p : Nat} {cs : Array Value} {A : Option Addr} {n c : Nat} {l : List α} (h : Ow enc e sz w B (.slice A n c) l) (hb : w.heap[p]? = some (.cells cs T (0, 0))) (hne : T ≠ e) (hg : Chg w w' [p]) : Ow enc e sz w' B (.slice A n c) l :=
 h.chg hg (fun k hk hm => by rw [Mi] at hm; subst hm; exact box_apart hb h hne hk)
theorem results_two9 {P : Program} {fn : Func} {tmps : Array Value} {w : World} {p k j : Nat} {v : Value} {cs : Array Value} {t T : TypeId} {fs : Array Field} (hr : fn.results = #[.cell k t, .tmp j]) (ht : tmps[k]? = some (.pointer (some ⟨p, 0, none⟩))) (hj : tmps[j]? = some v)
  (hu : P.underlying t = some (.struct fs)) (hie : (P.info? t).map (·.size) = some cs.size) (hb : w.heap[p]? = some (.cells cs T (0, 0))) : (results fn tmps).run P w = .ok (.tuple #[.agg cs, v]) w := by
 have h1 := run_loadCells_list (P := P) w ⟨p, 0, none⟩ cs.toList (fun j v h => by rw [Addr.add_lit, Nat.zero_add, bx_cell hb j]; simpa using h)
 obtain ⟨ie, hie, hs⟩ := Option.map_eq_some_iff.1 hie
 rw [Array.length_toList] at h1
 have hagg := isAgg_struct hu w
 have hti : (typeInfo t).run P w = .ok ie w := by simp [typeInfo, hie, go_sem]
 have hload : (loadVar t ⟨p, 0, none⟩).run P w = .ok (.agg cs) w := by
  simp [loadVar, hagg, sizeOf, hti, hs, h1, Result.andThen]
 simp [results, hr, ht, hj, asAddr, hload]
theorem chg_bx (w : World) (p j : Nat) (u : Value) : Chg w (w.setCell ⟨p, j, none⟩ u) [p] := chg_set (Chg.refl w [p]) (by simp) u
set_option maxRecDepth 100000 in
set_option maxHeartbeats 16000000 in
theorem c_sUnpackMsg (A : Option Addr) (c : Nat) (b : List Nat) (w : World) (hr : Rd bEnc 1 w A c b) (hb : Byt b) (hn : b.length ≤ 1048576) : Calls Try.prog 16 #[.slice A b.length c] w fun e w' => (∃ v, e = .returned v ∧ UmV w.heap.size (unpackM b) v w') ∧ Ext w w' := by
 have X1 := Hd (show Ext w ((w.alloc mz9).alloc mz9) from ext_to (ext_alloc _ _) _)
 have E1 := Hd (hOld (o := mz9) (hNew (w := w) (o := mz9) rfl))
 have F1 := Hd (hNew (w := w.alloc mz9) (o := mz9) (k := w.heap.size + 1) (by simp))
 have HB := Hd hb
 have HC := Hd (c_sUnframe A c b ((w.alloc mz9).alloc mz9) (hr.keep X1.out) hb hn)
 obtain ⟨body, nx, code, hu⟩ : ∃ body nx code, unfE b = (body, nx, code) := ⟨_, _, _, rfl⟩
 rw [hu] at HC
 have HU := Hd hu
 clear hr hb hu
 go_enter Try.func16, Try.ntmps16
 go_wp2_with fail
 refine HC.out.mono ?_
 rintro e w2 ⟨⟨A2, c2, rfl, o2⟩, x2⟩
 have E2 := Hd (x2.box E1.out)
 have F2 := Hd (x2.box F1.out)
 have X2 := Hd (Ext.trans X1.out x2)
 have O2 := Hd (o2.less (B' := w.heap.size) X1.out.size)
 simp only
 clear HC x2 o2 E1 F1 X1
 by_cases hcd : code = 0
 ·by_cases hnx : nx = b.length
  ·have h1 : (code != 0) = false := by simp [hcd]
   have h2 : ((nx : Int) != (b.length : Int)) = false := by simp [hnx]
   have hur : unfr b = (body, b.length, 0) := by
    have h0 := HU.out
    unfold unfE at h0
    simp only [Prod.mk.injEq] at h0
    obtain ⟨e1, e2, e3⟩ := h0
    rw [hnx] at e2
    rw [hcd] at e3
    exact Prod.ext e1 (Prod.ext e2 (by have : ((unfr b).2.2 : Int) = 0 := e3; omega))
   obtain ⟨hfr, hl4⟩ := unfr_of HB.out hur
   have HBy := Hd (show Byt body from fun y hy => HB.out y (by rw [hfr]; unfold frame; exact List.mem_append.2 (.inr (List.mem_append.2 (.inl hy)))))
   have HM := Hd (show unpackM b = rdBody body by unfold unpackM; rw [hur]; simp)
   clear hur hfr hcd hnx
   have HC := Hd (c_sGetNum A2 c2 body 0 w2 (O2.out.rd bEnc_len).2 HBy.out (by omega) (by omega))
   cases hz : getZ body 0 with
   | none =>
    rw [hz] at HC
    have HN := Hd (show unpackM b = (Mg.z, 2) by rw [HM.out]; unfold rdBody; rw [hz])
    clear hz
    go_wp2_with fail
    refine HC.out.mono ?_
    rintro e3 w3 ⟨rfl, x3⟩
    simp only [gT]
    go_wp2_with fail
    refine (c_l4Has 0 w3).mono ?_
    rintro e4 w4 ⟨rfl, x4⟩
    have E4 := Hd ((Ext.trans x3 x4).box E2.out)
    have F4 := Hd ((Ext.trans x3 x4).box F2.out)
    have X4 := Hd (Ext.trans X2.out (Ext.trans x3 x4))
    clear x3 x4 HC E2 F2 X2 O2
    (go_wp2_with (with_reducible refine wl_stop 53 ?_); refine stop_load (F4.out) rfl Try.underlying46 (by kernel_rfl) ?_; simp only [Act.put, Sa, Sz, Ss])
    (go_wp2_with (with_reducible refine wl_stopS 46 ?_); refine stop_store (w.heap.size) (#[.int .i64 0, .int .i64 0, .int .i64 0, .int .i64 0, .int .i64 0, .int .i64 0, .int .i64 0, .int .i64 0, .int .i64 0, .int .i64 0, .int .i64 0, .int .i64 0, .int .i64 0, .int .i64 0, .slice none 0 0, .slice none 0 0, .slice none 0 0]) rfl rfl (E4.out) (by kernel_rfl) rfl (by simp [Value.oneCell']) ?_)
    intro w9 e9 k9
    have E9 := Hd e9
    have X9 := Hd (chg_new X4.out k9 (Nat.le_refl _))
    clear e9 k9
    go_wp2
    exact bodyPost_ret (results_two9 Try.results16 rfl rfl Try.underlying46 (by kernel_rfl) E9.out) rfl ⟨⟨_, rfl, by rw [HN.out]; exact umZ _ _ _⟩, X9.out⟩
   | some p0 =>
    obtain ⟨kind, f0⟩ := p0
    rw [hz] at HC
    obtain ⟨hf0, hk0, hk1⟩ := getZ_le HBy.out hz
    have HZ := Hd hz
    clear hz
    obtain ⟨⟨hfl, hf100, hfa⟩, hemp⟩ := sForm_any kind
    obtain ⟨f, hf⟩ : ∃ f, sForm kind = f := ⟨_, rfl⟩
    have HFk := Hd (fun W => c_l4Has kind W)
    simp only [hf] at HFk
    rw [hf] at hfl hf100 hemp
    have HFa := Hd (show ∀ (i : Nat) (h : i < f.size), f[i].toNat ∈ SL ∧ (formL kind)[i]? = some (sMap f[i].toNat) by subst hf; exact hfa)
    clear hfa hf
    go_wp2_with fail
    refine HC.out.mono ?_
    rintro e3 w3 ⟨rfl, x3⟩
    simp only [gT]
    go_wp2_with fail
    refine (HFk.out w3).mono ?_
    rintro e4 w4 ⟨rfl, x4⟩
    have E4 := Hd ((Ext.trans x3 x4).box E2.out)
    have F4 := Hd ((Ext.trans x3 x4).box F2.out)
    have X4 := Hd (Ext.trans X2.out (Ext.trans x3 x4))
    have O4 := Hd (O2.out.kept (Ext.trans x3 x4))
    clear x3 x4 HC E2 F2 X2 O2 HFk
    cases hE : (formL kind).isEmpty
    ·rw [hE] at hemp
     have HBd := Hd (show unpackM b = match rdFlds body (formL kind) f0 (Mg.ofKind kind) with | none => (Mg.z, 3) | some q => if q.2 < body.length then (Mg.z, 4) else if iFits q.1 = true then (q.1, 0) else (Mg.z, 5) by
      rw [HM.out]
      unfold rdBody
      rw [HZ.out]
      simp only
      rw [if_neg (by intro h; rw [h] at hE; cases hE)]
      rfl)
     have x5 := ext_alloc w4 (Mg.obj LAd.none (Mg.ofKind kind))
     obtain ⟨p, hp⟩ : ∃ p, w4.heap.size = p := ⟨_, rfl⟩
     have D5 := Hd (hNew (w := w4) (o := Mg.obj LAd.none (Mg.ofKind kind)) rfl)
     have E5 := Hd (x5.box E4.out)
     have F5 := Hd (x5.box F4.out)
     have X5 := Hd (Ext.trans X4.out x5)
     have O5 := Hd (O4.out.kept x5)
     have hs4 := X4.out.size
     have hf2 := bx_lt F4.out
     rw [hp] at D5
     have L5 := Hd (show LgF (w4.alloc (Mg.obj LAd.none (Mg.ofKind kind))) w.heap.size LAd.none (Mg.ofKind kind).log from ⟨RdF.nil _ _ _ _ _, RdF.nil _ _ _ _ _, RdF.nil _ _ _ _ _⟩)
     have hpw : w.heap.size + 1 < p := by omega
     clear x5 E4 F4 X4 O4 hE
     go_wp2
     go_loopw [9, 13, 14, 15, 16, 17, 18, 19, 20, 21, 22] (fun av i _ _ _ _ _ _ _ _ _ wr => ∃ (k at_ : Nat) (m : Mg) (a : LAd), k ≤ f.size ∧ i = .int .i64 k ∧ av = .int .i64 at_ ∧ at_ ≤ body.length ∧ Hid (wr.heap[p]? = some (Mg.obj a m)) ∧ Hid (wr.heap[w.heap.size]? = some mz9) ∧ Hid (wr.heap[w.heap.size + 1]? = some mz9) ∧ Hid (LgF wr w.heap.size a m.log) ∧ Hid (m.log.small) ∧ Hid (Ow bEnc 5 1 wr w.heap.size (.slice A2 body.length c2) body) ∧ Hid (Ext w wr) ∧ Hid (rdFlds body (formL kind) f0 (Mg.ofKind kind) = rdFlds body ((formL kind).drop k) at_ m)) (fun _ i _ _ _ _ _ _ _ _ _ _ => f.size - (intOf i).toNat)
     case atStart => exact ⟨0, f0, Mg.ofKind kind, LAd.none, Nat.zero_le _, rfl, rfl, hf0, D5, E5, F5, L5, Hd (by unfold Lg.small; exact ⟨by show 0 ≤ 1048576; omega, by show 0 ≤ 1048576; omega, by show 0 ≤ 1048576; omega⟩), O5, X5, Hd (by rw [Dz])⟩
     case round =>
      clear D5 E5 F5 L5 O5 X5
      obtain ⟨k, at_, m, a, hk, rfl, rfl, hat, D, E, F, L, Sm, O, X, G⟩ := hrel
      have hs := X.out.size
      by_cases hlt : k < f.size
      ·obtain ⟨hmem, hform⟩ := HFa.out k hlt
       obtain ⟨cN, hcN⟩ : ∃ n, f[k].toNat = n := ⟨_, rfl⟩
       rw [hcN] at hmem hform
       have hqi : ((f[k].toNat : Nat) : Int) = (cN : Int) := by rw [hcN]
       have HCons := Hd (rdFlds_cons (b := body) (at_ := at_) (m := m) hform)
       have HRow := Hd (fun W (h : Ext _ W) => (O.out.kept h |>.rd bEnc_len).2)
       clear hcN
       by_cases h100 : cN = 100
       ·subst h100
        have hqi : ((f[k].toNat : Nat) : Int) = 100 := hqi
        rw [show sMap 100 = 120 from rfl] at HCons hform
        have HC := Hd (c_sGetNums A2 c2 body at_ 3 _ (O.out.rd bEnc_len).2 HBy.out (by omega) (by omega) (by omega) (by omega))
        cases hz : getZs body at_ 3 with
        | none =>
         rw [hz] at HC
         have HN := Hd (show unpackM b = (Mg.z, 3) by
          rw [HBd.out, G.out, HCons.out]
          unfold rdFld
          rw [if_pos rfl, hz])
         clear hz hform
         go_wp2_with fail
         refine HC.out.mono ?_
         rintro e3 w3 ⟨⟨v3, rfl, hv⟩, x3⟩
         obtain ⟨Az, cz, rfl⟩ := hv
         have E3 := Hd (x3.box E.out)
         have F3 := Hd (x3.box F.out)
         have X3 := Hd (Ext.trans X.out x3)
         clear x3 D E F L O X HC
         (go_wp2_with (with_reducible refine wl_stop 115 ?_); refine stop_load (F3.out) rfl Try.underlying46 (by kernel_rfl) ?_; simp only [Act.put, Sa, Sz, Ss])
         (go_wp2_with (with_reducible refine wl_stopS 46 ?_); refine stop_store (w.heap.size) (#[.int .i64 0, .int .i64 0, .int .i64 0, .int .i64 0, .int .i64 0, .int .i64 0, .int .i64 0, .int .i64 0, .int .i64 0, .int .i64 0, .int .i64 0, .int .i64 0, .int .i64 0, .int .i64 0, .slice none 0 0, .slice none 0 0, .slice none 0 0]) rfl rfl (E3.out) (by kernel_rfl) rfl (by simp [Value.oneCell']) ?_)
         intro w9 e9 k9
         have E9 := Hd e9
         have X9 := Hd (chg_new X3.out k9 (Nat.le_refl _))
         clear e9 k9
         go_wp2
         exact bodyPost_ret (results_two9 Try.results16 rfl rfl Try.underlying46 (by kernel_rfl) E9.out) rfl ⟨⟨_, rfl, by rw [HN.out]; exact umZ _ _ _⟩, X9.out⟩
        | some pz =>
         obtain ⟨lz, fx⟩ := pz
         rw [hz] at HC
         obtain ⟨_, hl3, hnn, _⟩ := getZs_of HBy.out hz
         have hfx := getZs_le HBy.out hat hz
         obtain ⟨x, y, z, rfl⟩ := three_of hl3
         have hpx := hnn x (by simp)
         have hpy := hnn y (by simp)
         have hpz := hnn z (by simp)
         go_wp2_with fail
         refine HC.out.mono ?_
         rintro e3 w3 ⟨⟨v3, rfl, hv⟩, x3⟩
         obtain ⟨Az, cz, rfl, oz⟩ := hv
         have hzr := (oz.rd zEnc_len).2
         obtain ⟨zb, zo, hA, hzb, hjunk⟩ := hzr.atZ (show 0 < [x, y, z].length by simp)
         clear hjunk
         subst hA
         have z0 : w3.cell? ⟨zb, zo, none⟩ = some (.int .i64 x) := hzr.cellZ (j := 0) rfl
         have z1 : w3.cell? ⟨zb, zo + 1, none⟩ = some (.int .i64 y) := hzr.cellZ (j := 1) rfl
         have z2 : w3.cell? ⟨zb, zo + 2, none⟩ = some (.int .i64 z) := hzr.cellZ (j := 2) rfl
         simp only [List.length_cons, List.length_nil]
         have D3 := Hd (x3.box D.out)
         have E3 := Hd (x3.box E.out)
         have F3 := Hd (x3.box F.out)
         have X3 := Hd (Ext.trans X.out x3)
         have L3 := Hd (L.out.keep x3)
         have O3 := Hd (O.out.kept x3)
         clear x3 D E F L O X HC HRow hzr oz hnn
         by_cases hok : x ≤ 1000000001 ∧ y ≤ 1000000001 ∧ z ≤ 1000000001
         ·obtain ⟨hbx, hby, hbz⟩ := hok
          have d1 : decide ((1000000001 : Int) < x) = false := by simp; omega
          have d2 : decide ((1000000001 : Int) < y) = false := by simp; omega
          have d3 : decide ((1000000001 : Int) < z) = false := by simp; omega
          have HG := Hd (show rdFlds body (formL kind) f0 (Mg.ofKind kind) = rdFlds body ((formL kind).drop (k + 1)) fx (m.wCmd x y z) by
           rw [G.out, HCons.out]
           unfold rdFld
           rw [if_pos rfl, hz]
           simp only
           rw [if_pos (by unfold numIn; simp; omega)])
          clear hz hform HCons G
          go_wp2
          (refine wp_region_mix' (fun _ _ _ _ _ hq => hq) 11 (by kernel_rfl) (by kernel_rfl) (fun hg => ?_); simp only [headOps, Tc, Tz, List.filter_cons, List.filter_nil, isAlloc, Bool.not_false, Bf, if_true, if_false, List.append_nil, Dc, Dz])
          (repeat (first | (refine wpMix_plain rfl rfl ?_; go_big_quiet_step (fail); refine wpQuiet_nil ?_) | (refine wpMix_skip rfl rfl ?_; simp only [Act.put, Sa, Sz, Ss])))
          (refine wpMix_nil ?_; intro w4 hw4)
          have D4 := hw4.box D3.out
          have E4 := hw4.box E3.out
          have F4 := hw4.box F3.out
          have X4 := Ext.trans X3.out hw4
          have L4 := L3.out.keep hw4
          have O4 := O3.out.kept hw4
          have dp := bx_cell D4
          have fp := bx_frozen D4
          have zp := bx_lt D4
          clear hw4 z0 z1 z2 hzb D3 E3 F3 X3 L3 O3
          have D5 := box_put D4 10 (.int .i64 x)
          have D6 := box_put D5 11 (.int .i64 y)
          have D7 := Hd (show (((w4.setCell ⟨p, 10, none⟩ (.int .i64 x)).setCell ⟨p, 11, none⟩ (.int .i64 y)).setCell ⟨p, 12, none⟩ (.int .i64 z)).heap[p]? = some (Mg.obj a (m.wCmd x y z)) from box_put D6 12 (.int .i64 z))
          have E7 := Hd (bx_set_other (bx_set_other (bx_set_other E4 (j := 10) (show w.heap.size ≠ p by omega) (.int .i64 x)) (j := 11) (show w.heap.size ≠ p by omega) (.int .i64 y)) (j := 12) (show w.heap.size ≠ p by omega) (.int .i64 z))
          have F7 := Hd (bx_set_other (bx_set_other (bx_set_other F4 (j := 10) (show w.heap.size + 1 ≠ p by omega) (.int .i64 x)) (j := 11) (show w.heap.size + 1 ≠ p by omega) (.int .i64 y)) (j := 12) (show w.heap.size + 1 ≠ p by omega) (.int .i64 z))
          have X7 := Hd (ext_bx (ext_bx (ext_bx X4 (show w.heap.size ≤ p by omega) 10 (.int .i64 x)) (show w.heap.size ≤ p by omega) 11 (.int .i64 y)) (show w.heap.size ≤ p by omega) 12 (.int .i64 z))
          have L7 := Hd (((L4.bxd D4 (by decide) (by decide) (by decide) (chg_bx _ p 10 (.int .i64 x))).bxd D5 (by decide) (by decide) (by decide) (chg_bx _ p 11 (.int .i64 y))).bxd D6 (by decide) (by decide) (by decide) (chg_bx _ p 12 (.int .i64 z)))
          have O7 := Hd (((O4.bxk D4 (by decide) (chg_bx _ p 10 (.int .i64 x))).bxk D5 (by decide) (chg_bx _ p 11 (.int .i64 y))).bxk D6 (by decide) (chg_bx _ p 12 (.int .i64 z)))
          clear D4 D5 D6 E4 F4 X4 L4 O4
          go_wp2
          go_roundw
          case rel => exact ⟨k + 1, fx, m.wCmd x y z, a, by omega, by go_num, rfl, hfx, D7, E7, F7, L7, Sm, O7, X7, HG⟩
          case measure => simp [intOf] <;> omega
         ·have HN := Hd (show unpackM b = (Mg.z, 3) by
           rw [HBd.out, G.out, HCons.out]
           unfold rdFld
           rw [if_pos rfl, hz]
           simp only
           rw [if_neg (by unfold numIn; simp; omega)])
          clear hz hform
          by_cases hbx : x ≤ 1000000001
          ·have d1 : decide ((1000000001 : Int) < x) = false := by simp; omega
           by_cases hby : y ≤ 1000000001
           ·have d2 : decide ((1000000001 : Int) < y) = false := by simp; omega
            have d3 : decide ((1000000001 : Int) < z) = true := by simp; omega
            (go_wp2_with (with_reducible refine wl_stop 115 ?_); refine stop_load (F3.out) rfl Try.underlying46 (by kernel_rfl) ?_; simp only [Act.put, Sa, Sz, Ss])
            (go_wp2_with (with_reducible refine wl_stopS 46 ?_); refine stop_store (w.heap.size) (#[.int .i64 0, .int .i64 0, .int .i64 0, .int .i64 0, .int .i64 0, .int .i64 0, .int .i64 0, .int .i64 0, .int .i64 0, .int .i64 0, .int .i64 0, .int .i64 0, .int .i64 0, .int .i64 0, .slice none 0 0, .slice none 0 0, .slice none 0 0]) rfl rfl (E3.out) (by kernel_rfl) rfl (by simp [Value.oneCell']) ?_)
            intro w9 e9 k9
            have E9 := Hd e9
            have X9 := Hd (chg_new X3.out k9 (Nat.le_refl _))
            clear e9 k9
            go_wp2
            exact bodyPost_ret (results_two9 Try.results16 rfl rfl Try.underlying46 (by kernel_rfl) E9.out) rfl ⟨⟨_, rfl, by rw [HN.out]; exact umZ _ _ _⟩, X9.out⟩
           ·have d2 : decide ((1000000001 : Int) < y) = true := by simp; omega
            (go_wp2_with (with_reducible refine wl_stop 115 ?_); refine stop_load (F3.out) rfl Try.underlying46 (by kernel_rfl) ?_; simp only [Act.put, Sa, Sz, Ss])
            (go_wp2_with (with_reducible refine wl_stopS 46 ?_); refine stop_store (w.heap.size) (#[.int .i64 0, .int .i64 0, .int .i64 0, .int .i64 0, .int .i64 0, .int .i64 0, .int .i64 0, .int .i64 0, .int .i64 0, .int .i64 0, .int .i64 0, .int .i64 0, .int .i64 0, .int .i64 0, .slice none 0 0, .slice none 0 0, .slice none 0 0]) rfl rfl (E3.out) (by kernel_rfl) rfl (by simp [Value.oneCell']) ?_)
            intro w9 e9 k9
            have E9 := Hd e9
            have X9 := Hd (chg_new X3.out k9 (Nat.le_refl _))
            clear e9 k9
            go_wp2
            exact bodyPost_ret (results_two9 Try.results16 rfl rfl Try.underlying46 (by kernel_rfl) E9.out) rfl ⟨⟨_, rfl, by rw [HN.out]; exact umZ _ _ _⟩, X9.out⟩
          ·have d1 : decide ((1000000001 : Int) < x) = true := by simp; omega
           (go_wp2_with (with_reducible refine wl_stop 115 ?_); refine stop_load (F3.out) rfl Try.underlying46 (by kernel_rfl) ?_; simp only [Act.put, Sa, Sz, Ss])
           (go_wp2_with (with_reducible refine wl_stopS 46 ?_); refine stop_store (w.heap.size) (#[.int .i64 0, .int .i64 0, .int .i64 0, .int .i64 0, .int .i64 0, .int .i64 0, .int .i64 0, .int .i64 0, .int .i64 0, .int .i64 0, .int .i64 0, .int .i64 0, .int .i64 0, .int .i64 0, .slice none 0 0, .slice none 0 0, .slice none 0 0]) rfl rfl (E3.out) (by kernel_rfl) rfl (by simp [Value.oneCell']) ?_)
           intro w9 e9 k9
           have E9 := Hd e9
           have X9 := Hd (chg_new X3.out k9 (Nat.le_refl _))
           clear e9 k9
           go_wp2
           exact bodyPost_ret (results_two9 Try.results16 rfl rfl Try.underlying46 (by kernel_rfl) E9.out) rfl ⟨⟨_, rfl, by rw [HN.out]; exact umZ _ _ _⟩, X9.out⟩
       ·by_cases h108 : cN = 108
        ·subst h108
         have hqi : ((f[k].toNat : Nat) : Int) = 108 := hqi
         rw [show sMap 108 = 76 from rfl] at HCons hform
         have HC := Hd (c_sUnpackLog A2 c2 body at_ _ (O.out.rd bEnc_len).2 HBy.out (by omega) (by omega))
         cases hz : rdLog body at_ with
         | none =>
          rw [hz] at HC
          have HN := Hd (show unpackM b = (Mg.z, 3) by
           rw [HBd.out, G.out, HCons.out]
           unfold rdFld
           rw [if_neg (by decide), if_pos rfl, hz]
           rfl)
          clear hz hform
          go_wp2_with fail
          refine HC.out.mono ?_
          rintro e3 w3 ⟨⟨v3, rfl, hv⟩, x3⟩
          have hv : v3 = .tuple #[.agg #[.int .i64 0, .slice none 0 0, .slice none 0 0, .slice none 0 0], .int .i64 0, .bool false] := hv
          subst hv
          have E3 := Hd (hOld (o := zL9) (x3.box E.out))
          have F3 := Hd (hOld (o := zL9) (x3.box F.out))
          have X3 := Hd (ext_to (Ext.trans X.out x3) zL9)
          clear x3 D E F L O X HC
          (go_wp2_with (with_reducible refine wl_stop 139 ?_); refine stop_load (F3.out) rfl Try.underlying46 (by kernel_rfl) ?_; simp only [Act.put, Sa, Sz, Ss])
          (go_wp2_with (with_reducible refine wl_stopS 46 ?_); refine stop_store (w.heap.size) (#[.int .i64 0, .int .i64 0, .int .i64 0, .int .i64 0, .int .i64 0, .int .i64 0, .int .i64 0, .int .i64 0, .int .i64 0, .int .i64 0, .int .i64 0, .int .i64 0, .int .i64 0, .int .i64 0, .slice none 0 0, .slice none 0 0, .slice none 0 0]) rfl rfl (E3.out) (by kernel_rfl) rfl (by simp [Value.oneCell']) ?_)
          intro w9 e9 k9
          have E9 := Hd e9
          have X9 := Hd (chg_new X3.out k9 (Nat.le_refl _))
          clear e9 k9
          go_wp2
          exact bodyPost_ret (results_two9 Try.results16 rfl rfl Try.underlying46 (by kernel_rfl) E9.out) rfl ⟨⟨_, rfl, by rw [HN.out]; exact umZ _ _ _⟩, X9.out⟩
         | some pz =>
          obtain ⟨lz, fx⟩ := pz
          rw [hz] at HC
          obtain ⟨hfx, hlok⟩ := rdLog_le HBy.out hz
          have HG := Hd (show rdFlds body (formL kind) f0 (Mg.ofKind kind) = rdFlds body ((formL kind).drop (k + 1)) fx (m.wLog lz) by
           rw [G.out, HCons.out]
           unfold rdFld
           rw [if_neg (by decide), if_pos rfl, hz]
           rfl)
          have S7 := Hd (show (m.wLog lz).log.small by obtain ⟨g1, g2, g3⟩ := log_lens hlok; exact ⟨by show lz.cells.length ≤ 1048576; omega, by show lz.seats.length ≤ 1048576; omega, by show lz.ents.length ≤ 1048576; omega⟩)
          clear hz hform HCons G hlok
          go_wp2_with fail
          refine HC.out.mono ?_
          rintro e3 w3 ⟨⟨v3, rfl, hv⟩, x3⟩
          obtain ⟨az, hv, lf⟩ := hv
          subst hv
          go_wp2_with (with_reducible refine wl_stop 140 ?_)
          refine stop_go (F := fun W => W = w3.alloc (Lg.obj az lz)) rfl ?_
          rintro w4 hw4
          have x4 : Ext w3 w4 := by rw [hw4]; exact ext_alloc w3 (Lg.obj az lz)
          have q4 : w4.heap[w3.heap.size]? = some (Lg.obj az lz) := by rw [hw4]; exact hNew rfl
          have HQ4 := Hd q4
          clear hw4
          have hs3 := x3.size
          have hzp := bx_lt (x3.box D.out)
          have D4 := x4.box (x3.box D.out)
          have E4 := x4.box (x3.box E.out)
          have F4 := x4.box (x3.box F.out)
          have X4 := Ext.trans X.out (Ext.trans x3 x4)
          have L4 := (lf.keep x4).less (B' := w.heap.size) (by omega)
          have O4 := O.out.kept (Ext.trans x3 x4)
          have dq := bx_cell q4
          have fq := bx_frozen q4
          have zq := bx_lt q4
          have dp := bx_cell D4
          have fp := bx_frozen D4
          have zp := bx_lt D4
          have D5 := box_put D4 13 (.int .i64 lz.base)
          have D6 := box_put D5 14 (.slice az.cA lz.cells.length az.cc)
          have D6b := box_put D6 15 (.slice az.sA lz.seats.length az.sc)
          have D7 := Hd (show ((((w4.setCell ⟨p, 13, none⟩ (.int .i64 lz.base)).setCell ⟨p, 14, none⟩ (.slice az.cA lz.cells.length az.cc)).setCell ⟨p, 15, none⟩ (.slice az.sA lz.seats.length az.sc)).setCell ⟨p, 16, none⟩ (.slice az.eA lz.ents.length az.ec)).heap[p]? = some (Mg.obj az (m.wLog lz)) from box_put D6b 16 (.slice az.eA lz.ents.length az.ec))
          have E7 := Hd (bx_set_other (bx_set_other (bx_set_other (bx_set_other E4 (j := 13) (show w.heap.size ≠ p by omega) (.int .i64 lz.base)) (j := 14) (show w.heap.size ≠ p by omega) (.slice az.cA lz.cells.length az.cc)) (j := 15) (show w.heap.size ≠ p by omega) (.slice az.sA lz.seats.length az.sc)) (j := 16) (show w.heap.size ≠ p by omega) (.slice az.eA lz.ents.length az.ec))
          have F7 := Hd (bx_set_other (bx_set_other (bx_set_other (bx_set_other F4 (j := 13) (show w.heap.size + 1 ≠ p by omega) (.int .i64 lz.base)) (j := 14) (show w.heap.size + 1 ≠ p by omega) (.slice az.cA lz.cells.length az.cc)) (j := 15) (show w.heap.size + 1 ≠ p by omega) (.slice az.sA lz.seats.length az.sc)) (j := 16) (show w.heap.size + 1 ≠ p by omega) (.slice az.eA lz.ents.length az.ec))
          have X7 := Hd (ext_bx (ext_bx (ext_bx (ext_bx X4 (show w.heap.size ≤ p by omega) 13 (.int .i64 lz.base)) (show w.heap.size ≤ p by omega) 14 (.slice az.cA lz.cells.length az.cc)) (show w.heap.size ≤ p by omega) 15 (.slice az.sA lz.seats.length az.sc)) (show w.heap.size ≤ p by omega) 16 (.slice az.eA lz.ents.length az.ec))
          have L7 := Hd ((((L4.bxd D4 (by decide) (by decide) (by decide) (chg_bx _ p 13 (.int .i64 lz.base))).bxd D5 (by decide) (by decide) (by decide) (chg_bx _ p 14 (.slice az.cA lz.cells.length az.cc))).bxd D6 (by decide) (by decide) (by decide) (chg_bx _ p 15 (.slice az.sA lz.seats.length az.sc))).bxd D6b (by decide) (by decide) (by decide) (chg_bx _ p 16 (.slice az.eA lz.ents.length az.ec)))
          have O7 := Hd ((((O4.bxk D4 (by decide) (chg_bx _ p 13 (.int .i64 lz.base))).bxk D5 (by decide) (chg_bx _ p 14 (.slice az.cA lz.cells.length az.cc))).bxk D6 (by decide) (chg_bx _ p 15 (.slice az.sA lz.seats.length az.sc))).bxk D6b (by decide) (chg_bx _ p 16 (.slice az.eA lz.ents.length az.ec)))
          have hne : ¬ w3.heap.size = p := by omega
          clear D4 D5 D6 D6b E4 F4 X4 L4 O4 D E F L O X HC HRow x3 x4 lf
          clear q4 dq
          (refine stop_load (HQ4.out) rfl Try.underlying44 (by kernel_rfl) ?_; simp only [Act.put, Sa, Sz, Ss])
          go_wp2
          go_roundw
          case rel => exact ⟨k + 1, fx, m.wLog lz, az, by omega, by go_num, rfl, hfx, D7, E7, F7, L7, S7, O7, X7, HG⟩
          case measure => simp [intOf] <;> omega
        ·have hn100 : ((cN : Int) == 100) = false := by simp; omega
         have hn108 : ((cN : Int) == 108) = false := by simp; omega
         have HC := Hd (c_sGetNum A2 c2 body at_ _ (O.out.rd bEnc_len).2 HBy.out (by omega) (by omega))
         obtain ⟨hq1, hq2⟩ := sMap_no hmem h100 h108
         cases hz : getZ body at_ with
         | none =>
          rw [hz] at HC
          have HN := Hd (show unpackM b = (Mg.z, 3) by
           rw [HBd.out, G.out, HCons.out]
           unfold rdFld
           rw [if_neg hq1, if_neg hq2, hz])
          clear hz hform
          go_wp2_with fail
          refine HC.out.mono ?_
          rintro e3 w3 ⟨rfl, x3⟩
          simp only [gT]
          have E3 := Hd (x3.box E.out)
          have F3 := Hd (x3.box F.out)
          have X3 := Hd (Ext.trans X.out x3)
          clear x3 D E F L O X HC
          (go_wp2_with (with_reducible refine wl_stop 78 ?_); refine stop_load (F3.out) rfl Try.underlying46 (by kernel_rfl) ?_; simp only [Act.put, Sa, Sz, Ss])
          (go_wp2_with (with_reducible refine wl_stopS 46 ?_); refine stop_store (w.heap.size) (#[.int .i64 0, .int .i64 0, .int .i64 0, .int .i64 0, .int .i64 0, .int .i64 0, .int .i64 0, .int .i64 0, .int .i64 0, .int .i64 0, .int .i64 0, .int .i64 0, .int .i64 0, .int .i64 0, .slice none 0 0, .slice none 0 0, .slice none 0 0]) rfl rfl (E3.out) (by kernel_rfl) rfl (by simp [Value.oneCell']) ?_)
          intro w9 e9 k9
          have E9 := Hd e9
          have X9 := Hd (chg_new X3.out k9 (Nat.le_refl _))
          clear e9 k9
          go_wp2
          exact bodyPost_ret (results_two9 Try.results16 rfl rfl Try.underlying46 (by kernel_rfl) E9.out) rfl ⟨⟨_, rfl, by rw [HN.out]; exact umZ _ _ _⟩, X9.out⟩
         | some pz =>
          obtain ⟨x, fx⟩ := pz
          rw [hz] at HC
          obtain ⟨hfx, hx0, hx1⟩ := getZ_le HBy.out hz
          by_cases hbig : x ≤ 1000000001
          ·have hbi : decide ((1000000001 : Int) < x) = false := by simp; omega
           obtain ⟨M5, hM5⟩ : ∃ M, setF m (sMap cN) x = M := ⟨_, rfl⟩
           have HLg := Hd (show M5.log = m.log by rw [← hM5]; exact setF_log _ _ _)
           have HSet := Hd (fun W => c_set_any a m x hx0 hbig cN hmem h100 h108 W)
           simp only [hM5] at HSet
           have HG := Hd (show rdFlds body (formL kind) f0 (Mg.ofKind kind) = rdFlds body ((formL kind).drop (k + 1)) fx M5 by
            rw [G.out, HCons.out]
            unfold rdFld
            rw [if_neg hq1, if_neg hq2, hz]
            simp only
            rw [if_pos (by unfold numIn; simpa using hbig), hM5])
           clear hz hform hM5 HCons G
           go_wp2_with fail
           refine HC.out.mono ?_
           rintro e3 w3 ⟨rfl, x3⟩
           simp only [gT]
           have D3 := Hd (x3.box D.out)
           have E3 := Hd (x3.box E.out)
           have F3 := Hd (x3.box F.out)
           have X3 := Hd (Ext.trans X.out x3)
           have L3 := Hd (L.out.keep x3)
           have O3 := Hd (O.out.kept x3)
           clear x3 D E F L O X HC HRow
           go_wp2
           (refine Rm.wp_region_mix' (R := relE w3.heap.size) (fun _ _ _ => True) (fun _ _ _ _ _ hq => hq) 6 (by first | exact Nat.le_refl _ | omega | (simp; omega)) (by kernel_rfl) (by kernel_rfl) ?_; simp only [Tc, Tz, Dc, Dz])
           (refine Rm.wpMix_loadAgg (fun W9' h9 => cells_mid (cs := #[.int .i64 m.kind, .int .i64 m.frm, .int .i64 m.view, .int .i64 m.op, .int .i64 m.commit, .int .i64 m.normal, .int .i64 m.nonce, .int .i64 m.client, .int .i64 m.req, .int .i64 m.answer, .int .i64 m.ck, .int .i64 m.cx, .int .i64 m.cv, .int .i64 m.log.base, .slice a.cA m.log.cells.length a.cc, .slice a.sA m.log.seats.length a.sc, .slice a.eA m.log.ents.length a.ec]) (Ext.box h9 D3.out) [] [] rfl rfl) rfl rfl rfl Try.underlying46 (by kernel_rfl) ?_; simp only [Act.put, Sa, Sz, Ss])
           (iterate 4 (refine Rm.wpMix_plain rfl rfl ?_; go_big_quiet_step (fail); refine wpQuiet_nil ?_))
           (try simp only [hqi])
           (refine Rm.wpMix_det rfl rfl rfl (enters Try.func48 (by kernel_rfl) rfl) (fun W9' h9 => HSet.out W9') rfl ?_; simp only [Act.put, Sa, Sz, Ss])
           refine Rm.wpMix_nil ?_
           rintro w5 hW
           have x5 : Ext w3 w5 := hW
           have D5 := Hd (x5.box D3.out)
           have E5 := Hd (x5.box E3.out)
           have F5 := Hd (x5.box F3.out)
           have X5 := Hd (Ext.trans X3.out x5)
           have L5 := Hd (L3.out.keep x5)
           have O5 := Hd (O3.out.kept x5)
           clear x5 hW D3 E3 F3 L3 O3 X3
           (go_wp2_with (with_reducible refine wl_stopS 46 ?_); refine stop_store (p) (#[.int .i64 M5.kind, .int .i64 M5.frm, .int .i64 M5.view, .int .i64 M5.op, .int .i64 M5.commit, .int .i64 M5.normal, .int .i64 M5.nonce, .int .i64 M5.client, .int .i64 M5.req, .int .i64 M5.answer, .int .i64 M5.ck, .int .i64 M5.cx, .int .i64 M5.cv, .int .i64 M5.log.base, .slice a.cA M5.log.cells.length a.cc, .slice a.sA M5.log.seats.length a.sc, .slice a.eA M5.log.ents.length a.ec]) rfl rfl (D5.out) (by kernel_rfl) rfl (by simp [Value.oneCell']) ?_)
           intro w6 e6 k6
           have D6 := Hd e6
           have E6 := Hd (box_chg E5.out k6 (by omega))
           have F6 := Hd (box_chg F5.out k6 (by omega))
           have X6 := Hd (chg_new X5.out k6 (by omega))
           have L6 := Hd (show LgF w6 w.heap.size a M5.log by rw [HLg.out]; exact L5.out.bxd D5.out (by decide) (by decide) (by decide) k6)
           have S6 := Hd (show M5.log.small by rw [HLg.out]; exact Sm.out)
           have O6 := Hd (O5.out.bxk D5.out (by decide) k6)
           clear e6 k6 D5 E5 F5 L5 O5 X5
           go_wp2
           go_roundw
           case rel => exact ⟨k + 1, fx, M5, a, by omega, by go_num, rfl, hfx, D6, E6, F6, L6, S6, O6, X6, HG⟩
           case measure => simp [intOf] <;> omega
          ·have hbi : decide ((1000000001 : Int) < x) = true := by simp; omega
           have HN := Hd (show unpackM b = (Mg.z, 3) by
            rw [HBd.out, G.out, HCons.out]
            unfold rdFld
            rw [if_neg hq1, if_neg hq2, hz]
            simp only
            rw [if_neg (by unfold numIn; simpa using hbig)])
           clear hz hform
           go_wp2_with fail
           refine HC.out.mono ?_
           rintro e3 w3 ⟨rfl, x3⟩
           simp only [gT]
           have E3 := Hd (x3.box E.out)
           have F3 := Hd (x3.box F.out)
           have X3 := Hd (Ext.trans X.out x3)
           clear x3 D E F L O X HC
           (go_wp2_with (with_reducible refine wl_stop 78 ?_); refine stop_load (F3.out) rfl Try.underlying46 (by kernel_rfl) ?_; simp only [Act.put, Sa, Sz, Ss])
           (go_wp2_with (with_reducible refine wl_stopS 46 ?_); refine stop_store (w.heap.size) (#[.int .i64 0, .int .i64 0, .int .i64 0, .int .i64 0, .int .i64 0, .int .i64 0, .int .i64 0, .int .i64 0, .int .i64 0, .int .i64 0, .int .i64 0, .int .i64 0, .int .i64 0, .int .i64 0, .slice none 0 0, .slice none 0 0, .slice none 0 0]) rfl rfl (E3.out) (by kernel_rfl) rfl (by simp [Value.oneCell']) ?_)
           intro w9 e9 k9
           have E9 := Hd e9
           have X9 := Hd (chg_new X3.out k9 (Nat.le_refl _))
           clear e9 k9
           go_wp2
           exact bodyPost_ret (results_two9 Try.results16 rfl rfl Try.underlying46 (by kernel_rfl) E9.out) rfl ⟨⟨_, rfl, by rw [HN.out]; exact umZ _ _ _⟩, X9.out⟩
      ·obtain rfl : k = f.size := by omega
       have HG := Hd (show rdFlds body (formL kind) f0 (Mg.ofKind kind) = some (m, at_) by rw [G.out, hfl, List.drop_length]; rfl)
       rw [HG.out] at HBd
       clear G
       by_cases hsh : at_ < body.length
       ·have hshi : decide ((at_ : Int) < (body.length : Int)) = true := by simp; omega
        have HN := Hd (show unpackM b = (Mg.z, 4) by rw [HBd.out]; simp only; rw [if_pos hsh])
        (go_wp2_with (with_reducible refine wl_stop 147 ?_); refine stop_load (F.out) rfl Try.underlying46 (by kernel_rfl) ?_; simp only [Act.put, Sa, Sz, Ss])
        (go_wp2_with (with_reducible refine wl_stopS 46 ?_); refine stop_store (w.heap.size) (#[.int .i64 0, .int .i64 0, .int .i64 0, .int .i64 0, .int .i64 0, .int .i64 0, .int .i64 0, .int .i64 0, .int .i64 0, .int .i64 0, .int .i64 0, .int .i64 0, .int .i64 0, .int .i64 0, .slice none 0 0, .slice none 0 0, .slice none 0 0]) rfl rfl (E.out) (by kernel_rfl) rfl (by simp [Value.oneCell']) ?_)
        intro w9 e9 k9
        have E9 := Hd e9
        have X9 := Hd (chg_new X.out k9 (Nat.le_refl _))
        clear e9 k9
        go_wp2
        exact bodyPost_ret (results_two9 Try.results16 rfl rfl Try.underlying46 (by kernel_rfl) E9.out) rfl ⟨⟨_, rfl, by rw [HN.out]; exact umZ _ _ _⟩, X9.out⟩
       ·have hshi : decide ((at_ : Int) < (body.length : Int)) = false := by simp; omega
        have HC := Hd (c_sMsgFits a m _ Sm.out L.out.rd)
        rw [← fits_eq] at HC
        cases q : iFits m
        ·rw [q] at HC
         have HN := Hd (show unpackM b = (Mg.z, 5) by rw [HBd.out]; simp only; rw [if_neg hsh, q]; rfl)
         (go_wp2_with (with_reducible refine wl_stop 148 ?_); refine stop_load (D.out) rfl Try.underlying46 (by kernel_rfl) ?_; simp only [Act.put, Sa, Sz, Ss])
         go_wp2_with fail
         refine HC.out.mono ?_
         rintro e7 w7 ⟨rfl, x7⟩
         have E7 := Hd (x7.box E.out)
         have F7 := Hd (x7.box F.out)
         have X7 := Hd (Ext.trans X.out x7)
         clear x7 HC D E F L O X
         (go_wp2_with (with_reducible refine wl_stop 151 ?_); refine stop_load (F7.out) rfl Try.underlying46 (by kernel_rfl) ?_; simp only [Act.put, Sa, Sz, Ss])
         (go_wp2_with (with_reducible refine wl_stopS 46 ?_); refine stop_store (w.heap.size) (#[.int .i64 0, .int .i64 0, .int .i64 0, .int .i64 0, .int .i64 0, .int .i64 0, .int .i64 0, .int .i64 0, .int .i64 0, .int .i64 0, .int .i64 0, .int .i64 0, .int .i64 0, .int .i64 0, .slice none 0 0, .slice none 0 0, .slice none 0 0]) rfl rfl (E7.out) (by kernel_rfl) rfl (by simp [Value.oneCell']) ?_)
         intro w9 e9 k9
         have E9 := Hd e9
         have X9 := Hd (chg_new X7.out k9 (Nat.le_refl _))
         clear e9 k9
         go_wp2
         exact bodyPost_ret (results_two9 Try.results16 rfl rfl Try.underlying46 (by kernel_rfl) E9.out) rfl ⟨⟨_, rfl, by rw [HN.out]; exact umZ _ _ _⟩, X9.out⟩
        ·rw [q] at HC
         have HN := Hd (show unpackM b = (m, 0) by rw [HBd.out]; simp only; rw [if_neg hsh, if_pos q])
         (go_wp2_with (with_reducible refine wl_stop 148 ?_); refine stop_load (D.out) rfl Try.underlying46 (by kernel_rfl) ?_; simp only [Act.put, Sa, Sz, Ss])
         go_wp2_with fail
         refine HC.out.mono ?_
         rintro e7 w7 ⟨rfl, x7⟩
         have D7 := Hd (x7.box D.out)
         have E7 := Hd (x7.box E.out)
         have X7 := Hd (Ext.trans X.out x7)
         have L7 := Hd (L.out.keep x7)
         clear x7 HC D E F L O X
         (go_wp2_with (with_reducible refine wl_stop 152 ?_); refine stop_load (D7.out) rfl Try.underlying46 (by kernel_rfl) ?_; simp only [Act.put, Sa, Sz, Ss])
         (go_wp2_with (with_reducible refine wl_stopS 46 ?_); refine stop_store (w.heap.size) (#[.int .i64 m.kind, .int .i64 m.frm, .int .i64 m.view, .int .i64 m.op, .int .i64 m.commit, .int .i64 m.normal, .int .i64 m.nonce, .int .i64 m.client, .int .i64 m.req, .int .i64 m.answer, .int .i64 m.ck, .int .i64 m.cx, .int .i64 m.cv, .int .i64 m.log.base, .slice a.cA m.log.cells.length a.cc, .slice a.sA m.log.seats.length a.sc, .slice a.eA m.log.ents.length a.ec]) rfl rfl (E7.out) (by kernel_rfl) rfl (by simp [Value.oneCell']) ?_)
         intro w9 e9 k9
         have E9 := Hd e9
         have X9 := Hd (chg_new X7.out k9 (Nat.le_refl _))
         have L9 := Hd (L7.out.bxd E7.out (by decide) (by decide) (by decide) k9)
         clear e9 k9
         go_wp2
         exact bodyPost_ret (results_two9 Try.results16 rfl rfl Try.underlying46 (by kernel_rfl) E9.out) rfl ⟨⟨_, rfl, by rw [HN.out]; exact ⟨a, rfl, L9.out⟩⟩, X9.out⟩
    ·rw [hE] at hemp
     have HN := Hd (show unpackM b = (Mg.z, 2) by rw [HM.out]; unfold rdBody; rw [HZ.out]; simp only; rw [if_pos (List.isEmpty_iff.1 hE)])
     (go_wp2_with (with_reducible refine wl_stop 53 ?_); refine stop_load (F4.out) rfl Try.underlying46 (by kernel_rfl) ?_; simp only [Act.put, Sa, Sz, Ss])
     (go_wp2_with (with_reducible refine wl_stopS 46 ?_); refine stop_store (w.heap.size) (#[.int .i64 0, .int .i64 0, .int .i64 0, .int .i64 0, .int .i64 0, .int .i64 0, .int .i64 0, .int .i64 0, .int .i64 0, .int .i64 0, .int .i64 0, .int .i64 0, .int .i64 0, .int .i64 0, .slice none 0 0, .slice none 0 0, .slice none 0 0]) rfl rfl (E4.out) (by kernel_rfl) rfl (by simp [Value.oneCell']) ?_)
     intro w9 e9 k9
     have E9 := Hd e9
     have X9 := Hd (chg_new X4.out k9 (Nat.le_refl _))
     clear e9 k9
     go_wp2
     exact bodyPost_ret (results_two9 Try.results16 rfl rfl Try.underlying46 (by kernel_rfl) E9.out) rfl ⟨⟨_, rfl, by rw [HN.out]; exact umZ _ _ _⟩, X9.out⟩
  ·have h1 : (code != 0) = false := by simp [hcd]
   have h2 : ((nx : Int) != (b.length : Int)) = true := by simp; omega
   have HN := Hd (show unpackM b = (Mg.z, 1) by
    unfold unpackM
    rw [if_neg]
    have h0 := HU.out
    unfold unfE at h0
    simp only [Prod.mk.injEq] at h0
    obtain ⟨e1, e2, e3⟩ := h0
    rw [e2]
    simp [hnx])
   clear hcd hnx
   (go_wp2_with (with_reducible refine wl_stop 38 ?_); refine stop_load (F2.out) rfl Try.underlying46 (by kernel_rfl) ?_; simp only [Act.put, Sa, Sz, Ss])
   (go_wp2_with (with_reducible refine wl_stopS 46 ?_); refine stop_store (w.heap.size) (#[.int .i64 0, .int .i64 0, .int .i64 0, .int .i64 0, .int .i64 0, .int .i64 0, .int .i64 0, .int .i64 0, .int .i64 0, .int .i64 0, .int .i64 0, .int .i64 0, .int .i64 0, .int .i64 0, .slice none 0 0, .slice none 0 0, .slice none 0 0]) rfl rfl (E2.out) (by kernel_rfl) rfl (by simp [Value.oneCell']) ?_)
   intro w9 e9 k9
   have E9 := Hd e9
   have X9 := Hd (chg_new X2.out k9 (Nat.le_refl _))
   clear e9 k9
   go_wp2
   exact bodyPost_ret (results_two9 Try.results16 rfl rfl Try.underlying46 (by kernel_rfl) E9.out) rfl ⟨⟨_, rfl, by rw [HN.out]; exact umZ _ _ _⟩, X9.out⟩
 ·have h1 : (code != 0) = true := by simp [hcd]
  have HN := Hd (show unpackM b = (Mg.z, 1) by
   unfold unpackM
   rw [if_neg]
   have h0 := HU.out
   unfold unfE at h0
   simp only [Prod.mk.injEq] at h0
   obtain ⟨e1, e2, e3⟩ := h0
   rw [Bool.and_eq_true, beq_iff_eq]
   rintro ⟨h9, _⟩
   exact hcd (by rw [← e3, h9]))
  clear hcd
  (go_wp2_with (with_reducible refine wl_stop 38 ?_); refine stop_load (F2.out) rfl Try.underlying46 (by kernel_rfl) ?_; simp only [Act.put, Sa, Sz, Ss])
  (go_wp2_with (with_reducible refine wl_stopS 46 ?_); refine stop_store (w.heap.size) (#[.int .i64 0, .int .i64 0, .int .i64 0, .int .i64 0, .int .i64 0, .int .i64 0, .int .i64 0, .int .i64 0, .int .i64 0, .int .i64 0, .int .i64 0, .int .i64 0, .int .i64 0, .int .i64 0, .slice none 0 0, .slice none 0 0, .slice none 0 0]) rfl rfl (E2.out) (by kernel_rfl) rfl (by simp [Value.oneCell']) ?_)
  intro w9 e9 k9
  have E9 := Hd e9
  have X9 := Hd (chg_new X2.out k9 (Nat.le_refl _))
  clear e9 k9
  go_wp2
  exact bodyPost_ret (results_two9 Try.results16 rfl rfl Try.underlying46 (by kernel_rfl) E9.out) rfl ⟨⟨_, rfl, by rw [HN.out]; exact umZ _ _ _⟩, X9.out⟩
end Go.Proofs.Ytpghedeghoegmaa
