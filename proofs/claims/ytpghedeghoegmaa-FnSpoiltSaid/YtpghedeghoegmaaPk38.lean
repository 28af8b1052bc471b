/- Messages read from bytes: UnpackMsg of the program. -/
import Derived.Test.YtpghedeghoegmaaPk37
namespace Go.Proofs.Ytpghedeghoegmaa
open Go.ChangeShapes Go.WideShapes Go.ChangeAt Go.RowKit Go.Sort
set_option linter.unusedVariables false
set_option linter.unusedSimpArgs false
def UmQ (B : Nat) (M : Mg × Int) (v : Value) (W : World) : Prop := ∃ a, v = .tuple #[Mg.val a M.1, .int .i64 M.2] ∧ LgQ W B a M.1.log
theorem lgQ_none (W : World) (B : Nat) : LgQ W B LAd.none Lg.none := ⟨own_none0 _ _ _ _ _, own_none0 _ _ _ _ _, own_none0 _ _ _ _ _⟩
theorem uqZ (B : Nat) (n : Int) (W : World) : UmQ B (Mg.z, n) (.tuple #[.agg #[.int .i64 0, .int .i64 0, .int .i64 0, .int .i64 0, .int .i64 0, .int .i64 0, .int .i64 0, .int .i64 0, .int .i64 0, .int .i64 0, .int .i64 0, .int .i64 0, .int .i64 0, .int .i64 0, .slice none 0 0, .slice none 0 0, .slice none 0 0], .int .i64 n]) W := ⟨LAd.none, rfl, lgQ_none W B⟩
theorem LgQ.kept {w w' : World} {B : Nat} {a : LAd} {l : Lg} (h : LgQ w B a l) (hx : Ext w w') : LgQ w' B a l := ⟨h.1.kept hx, h.2.1.kept hx, h.2.2.kept hx⟩
theorem LgQ.less {w : World} {B B' : Nat} {a : LAd} {l : Lg} (h : LgQ w B a l) (hB : B' ≤ B) : LgQ w B' a l := ⟨h.1.less hB, h.2.1.less hB, h.2.2.less hB⟩
theorem LgQ.bxk {w w' : World} {B p : Nat} {cs : Array Value} {T : TypeId} {a : LAd} {l : Lg} (h : LgQ w B a l) (hb : w.heap[p]? = some (.cells cs T (0, 0))) (h1 : T ≠ 101) (h2 : T ≠ 103) (h3 : T ≠ 105) (hg : Chg w w' [p]) : LgQ w' B a l := ⟨h.1.bxk hb h1 hg, h.2.1.bxk hb h2 hg, h.2.2.bxk hb h3 hg⟩
theorem LgQ.f {w : World} {B : Nat} {a : LAd} {l : Lg} (h : LgQ w B a l) : LgF w B a l := ⟨Ow.rdF Cel.enc_len h.1, Ow.rdF Sea.enc_len h.2.1, Ow.rdF Ent.enc_len h.2.2⟩
structure UiS (w W : World) (p r : Nat) (A2 : Option Addr) (c2 : Nat) (body : List Nat) (cs qs : Array Value) (a : LAd) (l : Lg) : Prop where
 lt : w.heap.size < r
 pr : p = r + 1
 d : W.heap[p]? = some (.cells cs 46 (0, 0))
 e : W.heap[w.heap.size]? = some mz9
 q : W.heap[r]? = some (.cells qs 84 (0, 0))
 l : LgQ W w.heap.size a l
 o : Ow bEnc 5 1 W w.heap.size (.slice A2 body.length c2) body
 x : Ext w W
section
variable {w W W' : World} {p r : Nat} {A2 : Option Addr} {c2 : Nat} {body : List Nat} {cs qs : Array Value} {a : LAd} {l : Lg}
theorem UiS.ext (h : UiS w W p r A2 c2 body cs qs a l) (hx : Ext W W') : UiS w W' p r A2 c2 body cs qs a l := ⟨h.lt, h.pr, hx.box h.d, hx.box h.e, hx.box h.q, h.l.kept hx, h.o.kept hx, Ext.trans h.x hx⟩
theorem UiS.rd {at_ : Nat} {ok : Bool} (h : UiS w W p r A2 c2 body cs qs a l) (hd : W'.heap[r]? = some (rdO A2 body.length c2 at_ ok)) (hc : Chg W W' [r]) : UiS w W' p r A2 c2 body cs #[.slice A2 body.length c2, .int .i64 at_, .bool ok] a l :=
 ⟨h.lt, h.pr, box_chg h.d hc (by have := h.pr; omega), box_chg h.e hc (by have := h.lt; omega), hd, h.l.bxk h.q (by decide) (by decide) (by decide) hc, h.o.bxk h.q (by decide) hc, chg_new h.x hc (by have := h.lt; omega)⟩
theorem UiS.put (h : UiS w W p r A2 c2 body cs qs a l) (j : Nat) (u : Value) : UiS w (W.setCell ⟨p, j, none⟩ u) p r A2 c2 body (cs.setIfInBounds j u) qs a l :=
 ⟨h.lt, h.pr, box_put h.d j u, bx_set_other h.e (by have := h.lt; have := h.pr; omega) u, bx_set_other h.q (by have := h.pr; omega) u, h.l.bxk h.d (by decide) (by decide) (by decide) (chg_bx _ _ _ _), h.o.bxk h.d (by decide) (chg_bx _ _ _ _), ext_bx h.x (by have := h.lt; have := h.pr; omega) j u⟩
theorem UiS.setr (h : UiS w W p r A2 c2 body cs qs a l) (j : Nat) (u : Value) : UiS w (W.setCell ⟨r, j, none⟩ u) p r A2 c2 body cs (qs.setIfInBounds j u) a l :=
 ⟨h.lt, h.pr, bx_set_other h.d (by have := h.pr; omega) u, bx_set_other h.e (by have := h.lt; omega) u, box_put h.q j u, h.l.bxk h.q (by decide) (by decide) (by decide) (chg_bx _ _ _ _), h.o.bxk h.q (by decide) (chg_bx _ _ _ _), ext_bx h.x (by have := h.lt; omega) j u⟩
theorem UiS.log {a' : LAd} {l' : Lg} (h : UiS w W p r A2 c2 body cs qs a l) (hl : LgQ W w.heap.size a' l') : UiS w W p r A2 c2 body cs qs a' l' := ⟨h.lt, h.pr, h.d, h.e, h.q, hl, h.o, h.x⟩
end
theorem rdF_le {b : List Nat} (hb : Byt b) {at_ : Nat} (ha : at_ ≤ b.length) (ok : Bool) : (rdF b at_ ok).2.1 ≤ b.length ∧ 0 ≤ (rdF b at_ ok).1 ∧ (rdF b at_ ok).1 < 9223372036854775808 := rdN_le hb ha ok
theorem rdF_off (b : List Nat) (at_ : Nat) : (rdF b at_ false).2.2 = false := rfl
theorem rdF_yes {b : List Nat} {at_ f : Nat} {x : Int} (h : rdF b at_ true = (x, f, true)) : getZ b at_ = some (x, f) ∧ numIn x = true := by
 unfold rdF at h
 cases hz : getZ b at_ with
 | none => rw [rdN_none hz] at h; simp at h
 | some p =>
  rw [rdN_some (x := p.1) (f := p.2) hz] at h
  simp only [Bool.true_and, Prod.mk.injEq] at h
  obtain ⟨rfl, rfl, h3⟩ := h
  exact ⟨rfl, h3⟩
theorem rdF_no {b : List Nat} {at_ f : Nat} {x : Int} (h : rdF b at_ true = (x, f, false)) : ∀ y e, getZ b at_ = some (y, e) → numIn y = false := by
 intro y e hz
 unfold rdF at h
 rw [rdN_some hz] at h
 simp only [Bool.true_and, Prod.mk.injEq] at h
 exact h.2.2
theorem rdFld_num {b : List Nat} {c at_ f : Nat} {x : Int} {k : Bool} {m : Mg} (h1 : c ≠ 120) (h2 : c ≠ 76) (h : rdF b at_ true = (x, f, k)) : rdFld b c at_ m = if k = true then some (setF m c x, f) else none := by
 unfold rdFld
 rw [if_neg h1, if_neg h2]
 cases k
 ·cases hz : getZ b at_ with
  | none => rfl
  | some p => simp only; rw [if_neg (by rw [rdF_no h p.1 p.2 hz]; simp)]; rfl
 ·obtain ⟨e1, e2⟩ := rdF_yes h
  rw [e1]
  simp only
  rw [if_pos e2]
  rfl
theorem rdFld_cmd {b : List Nat} {at_ a1 a2 a3 : Nat} {x y z : Int} {k1 k2 k3 : Bool} {m : Mg} (h1 : rdF b at_ true = (x, a1, k1)) (h2 : rdF b a1 k1 = (y, a2, k2)) (h3 : rdF b a2 k2 = (z, a3, k3)) : rdFld b 120 at_ m = if k3 = true then some (m.wCmd x y z, a3) else none := by
 have hoff : ∀ {f f' : Nat} {k k' : Bool} {x : Int}, k = false → rdF b f k = (x, f', k') → k' = false := by
  intro f f' k k' x hk h
  subst hk
  have := rdF_off b f
  rw [h] at this
  exact this
 unfold rdFld
 rw [if_pos rfl]
 cases k1
 ·rw [if_neg (by rw [hoff (hoff rfl h2) h3]; simp)]
  have hn := rdF_no h1
  rw [getZs]
  cases hz : getZ b at_ with
  | none => rfl
  | some p =>
   simp only
   have hp := hn p.1 p.2 hz
   cases hq : getZs b p.2 2 with
   | none => rfl
   | some q =>
    obtain ⟨l, e⟩ := q
    simp only [Option.map_some]
    match l with
    | [] => rfl
    | [_] => rfl
    | [u, v] => simp only; rw [hp]; rfl
    | _ :: _ :: _ :: _ => rfl
 ·obtain ⟨e1, n1⟩ := rdF_yes h1
  rw [getZs, e1]
  simp only
  cases k2
  ·rw [if_neg (by rw [hoff rfl h3]; simp)]
   have hn := rdF_no h2
   rw [getZs]
   cases hz : getZ b a1 with
   | none => rfl
   | some p =>
    simp only
    have hp := hn p.1 p.2 hz
    cases hq : getZs b p.2 1 with
    | none => rfl
    | some q =>
     obtain ⟨l, e⟩ := q
     simp only [Option.map_some]
     match l with
     | [] => rfl
     | [v] => simp only; rw [hp]; simp
     | _ :: _ :: _ => rfl
  ·obtain ⟨e2, n2⟩ := rdF_yes h2
   rw [getZs, e2]
   simp only
   cases k3
   ·rw [if_neg (by simp)]
    have hn := rdF_no h3
    rw [getZs]
    cases hz : getZ b a2 with
    | none => rfl
    | some p =>
     simp only [getZs, Option.map_some]
     rw [hn p.1 p.2 hz]
     simp
   ·obtain ⟨e3, n3⟩ := rdF_yes h3
    rw [getZs, e3]
    simp only [getZs, Option.map_some]
    rw [n1, n2, n3]
    rfl
theorem letterQ {c : Nat} (hc : c ∈ IL) (h1 : c ≠ 120) (h2 : c ≠ 76) (h3 : c ≠ 65) (a : LAd) (m : Mg) : ∃ (off : Nat) (v0 : Int), nOff (c : Int) = off ∧ off < 17 ∧ (Mg.cs a m)[off]? = some (.int .i64 v0) ∧ ∀ x, (Mg.cs a m).setIfInBounds off (.int .i64 x) = Mg.cs a (setF m c x) := by
 simp only [IL, List.mem_cons, List.not_mem_nil, or_false] at hc
 rcases hc with rfl | rfl | rfl | rfl | rfl | rfl | rfl | rfl | rfl | rfl | rfl
 ·exact ⟨1, m.frm, rfl, by omega, rfl, fun x => rfl⟩
 ·exact ⟨2, m.view, rfl, by omega, rfl, fun x => rfl⟩
 ·exact ⟨3, m.op, rfl, by omega, rfl, fun x => rfl⟩
 ·exact ⟨4, m.commit, rfl, by omega, rfl, fun x => rfl⟩
 ·exact ⟨5, m.normal, rfl, by omega, rfl, fun x => rfl⟩
 ·exact ⟨6, m.nonce, rfl, by omega, rfl, fun x => rfl⟩
 ·exact ⟨7, m.client, rfl, by omega, rfl, fun x => rfl⟩
 ·exact ⟨8, m.req, rfl, by omega, rfl, fun x => rfl⟩
 ·exact absurd rfl h3
 ·exact absurd rfl h1
 ·exact absurd rfl h2
set_option maxRecDepth 100000 in
set_option maxHeartbeats 16000000 in
theorem c_iUnpackMsg (A : Option Addr) (c : Nat) (b : List Nat) (w : World) (hr : Rd bEnc 1 w A c b) (hb : Byt b) (hn : b.length ≤ 1048576) : Calls Try.prog 18 #[.slice A b.length c] w fun e w' => (∃ v, e = .returned v ∧ UmQ w.heap.size (unpackM b) v w') ∧ Ext w w' := by
 have X1 := Hd (ext_alloc w mz9)
 have E1 := Hd (hNew (w := w) (o := mz9) rfl)
 have HB := Hd hb
 have HC := Hd (c_iUnframe A c b (w.alloc mz9) (hr.keep X1.out) hb hn)
 obtain ⟨body, nx, code, hu⟩ : ∃ body nx code, unfE b = (body, nx, code) := ⟨_, _, _, rfl⟩
 rw [hu] at HC
 have HU := Hd hu
 clear hr hb hu
 go_enter Try.func18, Try.ntmps18
 go_wp2_with fail
 refine HC.out.mono ?_
 rintro e w2 ⟨⟨A2, c2, rfl, o2⟩, x2⟩
 have E2 := Hd (x2.box E1.out)
 have X2 := Hd (Ext.trans X1.out x2)
 have O2 := Hd (o2.less (B' := w.heap.size) X1.out.size)
 have hsz2 := bx_lt E2.out
 simp only
 clear HC x2 o2 E1 X1
 by_cases hcd : code = 0
 ·by_cases hnx : nx = b.length
  ·have h1 : (code != 0) = false := by simp [hcd]
   have h2 : ((nx : Int) != (b.length : Int)) = false := by simp [hnx]
   have hur : unfr b = (body, b.length, 0) := by
    have h0 := HU.out
    unfold unfE at h0
    simp only [Prod.mk.injEq] at h0
    obtain ⟨e1, e2, e3⟩ := h0
    rw [hnx] at e2
    rw [hcd] at e3
    exact Prod.ext e1 (Prod.ext e2 (by have : ((unfr b).2.2 : Int) = 0 := e3; omega))
   obtain ⟨hfr, hl4⟩ := unfr_of HB.out hur
   have HBy := Hd (show Byt body from fun y hy => HB.out y (by rw [hfr]; unfold frame; exact List.mem_append.2 (.inr (List.mem_append.2 (.inl hy)))))
   have HM := Hd (show unpackM b = rdBody body by unfold unpackM; rw [hur]; simp)
   clear hur hfr hcd hnx
   obtain ⟨r, hrr⟩ : ∃ r, w2.heap.size = r := ⟨_, rfl⟩
   have q4 := hOld (o := mz9) (hNew (w := w2) (o := rdO A2 body.length c2 0 true) rfl)
   have d4 := hNew (w := w2.alloc (rdO A2 body.length c2 0 true)) (o := mz9) (k := w2.heap.size + 1) (by simp)
   rw [hrr] at q4 d4 hsz2
   have x4 : Ext w2 ((w2.alloc (rdO A2 body.length c2 0 true)).alloc mz9) := ext_to (ext_alloc _ _) _
   have S4 := Hd (show UiS w ((w2.alloc (rdO A2 body.length c2 0 true)).alloc mz9) (r + 1) r A2 c2 body (#[.int .i64 0, .int .i64 0, .int .i64 0, .int .i64 0, .int .i64 0, .int .i64 0, .int .i64 0, .int .i64 0, .int .i64 0, .int .i64 0, .int .i64 0, .int .i64 0, .int .i64 0, .int .i64 0, .slice none 0 0, .slice none 0 0, .slice none 0 0]) #[.slice A2 body.length c2, .int .i64 (0 : Nat), .bool true] LAd.none Lg.none from ⟨hsz2, rfl, d4, x4.box E2.out, q4, lgQ_none _ _, O2.out.kept x4, Ext.trans X2.out x4⟩)
   have HC0 := Hd (c_num A2 c2 body 0 true r _ (S4.out.o.rd bEnc_len).2 HBy.out (by omega) (by omega) S4.out.q)
   clear q4 d4 x4
   cases hz : getZ body 0 with
   | none =>
    rw [rdN_none hz] at HC0
    simp only at HC0
    have HN := Hd (show unpackM b = (Mg.z, 2) by rw [HM.out]; unfold rdBody; rw [hz])
    clear hz E2 X2 O2
    go_wp2_with fail
    refine HC0.out.mono ?_
    rintro e3 w5 ⟨rfl, hd, hc⟩
    have S5 := S4.out.rd hd hc
    have dp := bx_cell S5.d
    have fp := bx_frozen S5.d
    have zp := bx_lt S5.d
    have S6 := Hd (S5.put 0 (.int .i64 0))
    clear hd hc S5 S4 HC0
    go_wp2_with fail
    refine (c_fields 0 _).mono ?_
    rintro e7 w7 ⟨rfl, x7⟩
    have S7 := Hd (S6.out.ext x7)
    have drp := bx_cell S7.out.q
    have frp := bx_frozen S7.out.q
    have zrp := bx_lt S7.out.q
    clear x7 S6 dp fp zp
    (go_wp2_with (with_reducible refine wl_stopS 46 ?_); refine stop_store (w.heap.size) (#[.int .i64 0, .int .i64 0, .int .i64 0, .int .i64 0, .int .i64 0, .int .i64 0, .int .i64 0, .int .i64 0, .int .i64 0, .int .i64 0, .int .i64 0, .int .i64 0, .int .i64 0, .int .i64 0, .slice none 0 0, .slice none 0 0, .slice none 0 0]) rfl rfl (S7.out.e) (by kernel_rfl) rfl (by simp [Value.oneCell']) ?_)
    intro w9 e9 k9
    have E9 := Hd e9
    have X9 := Hd (chg_new S7.out.x k9 (Nat.le_refl _))
    clear e9 k9
    go_wp2
    exact bodyPost_ret (results_two9 Try.results18 rfl rfl Try.underlying46 (by kernel_rfl) E9.out) rfl ⟨⟨_, rfl, by rw [HN.out]; exact uqZ _ _ _⟩, X9.out⟩
   | some p0 =>
    obtain ⟨kind, f0⟩ := p0
    rw [rdN_some hz] at HC0
    simp only at HC0
    obtain ⟨hf0, hk0, hk1⟩ := getZ_le HBy.out hz
    have HZ := Hd hz
    obtain ⟨⟨hfl, hf100, hfa⟩, hemp⟩ := iForm_any kind
    have HFk := Hd (fun W => c_fields kind W)
    obtain ⟨f, hf⟩ : ∃ f, iForm kind = f := ⟨_, rfl⟩
    simp only [hf] at HFk
    rw [hf] at hfl hf100 hemp
    have HFa := Hd (show ∀ (i : Nat) (h : i < f.size), f[i].toNat ∈ IL ∧ (formL kind)[i]? = some f[i].toNat by subst hf; exact hfa)
    clear hfa hf hz E2 X2 O2
    go_wp2_with fail
    refine HC0.out.mono ?_
    rintro e3 w5 ⟨rfl, hd, hc⟩
    have S5 := S4.out.rd hd hc
    have dp := bx_cell S5.d
    have fp := bx_frozen S5.d
    have zp := bx_lt S5.d
    have S6 := Hd (S5.put 0 (.int .i64 kind))
    clear hd hc S5 S4 HC0
    go_wp2_with fail
    refine (HFk.out _).mono ?_
    rintro e7 w7 ⟨rfl, x7⟩
    have S7 := Hd (show UiS w w7 (r + 1) r A2 c2 body (Mg.cs LAd.none (Mg.ofKind kind)) #[.slice A2 body.length c2, .int .i64 f0, .bool true] LAd.none Lg.none from S6.out.ext x7)
    have drp := bx_cell S7.out.q
    have frp := bx_frozen S7.out.q
    have zrp := bx_lt S7.out.q
    clear x7 S6 dp fp zp HFk
    cases hE : (formL kind).isEmpty
    ·rw [hE] at hemp
     have HBd := Hd (show unpackM b = match rdFlds body (formL kind) f0 (Mg.ofKind kind) with | none => (Mg.z, 3) | some q => if q.2 < body.length then (Mg.z, 4) else if iFits q.1 = true then (q.1, 0) else (Mg.z, 5) by
      rw [HM.out]
      unfold rdBody
      rw [HZ.out]
      simp only
      rw [if_neg (by intro h; rw [h] at hE; cases hE)]
      rfl)
     clear hE
     go_wp2
     clear drp frp zrp hemp
     go_loopw [10] (fun i wr => ∃ (k at' : Nat) (ok' : Bool) (m : Mg) (a : LAd), k ≤ f.size ∧ i = .int .i64 k ∧ at' ≤ body.length ∧ Hid (UiS w wr (r + 1) r A2 c2 body (Mg.cs a m) #[.slice A2 body.length c2, .int .i64 at', .bool ok'] a m.log) ∧ Hid (m.log.small) ∧ Hid (rdFlds body (formL kind) f0 (Mg.ofKind kind) = if ok' = true then rdFlds body ((formL kind).drop k) at' m else none)) (fun i _ => f.size - (intOf i).toNat)
     case atStart => exact ⟨0, f0, true, Mg.ofKind kind, LAd.none, Nat.zero_le _, rfl, hf0, S7, Hd (by unfold Lg.small; exact ⟨by show 0 ≤ 1048576; omega, by show 0 ≤ 1048576; omega, by show 0 ≤ 1048576; omega⟩), Hd (by rw [if_pos rfl, Dz])⟩
     case round =>
      clear S7
      obtain ⟨k, at', ok', m, a, hk, rfl, hat, Sx, Sm, G⟩ := hrel
      have hs := Sx.out.x.size
      have drp := bx_cell Sx.out.q
      have frp := bx_frozen Sx.out.q
      have zrp := bx_lt Sx.out.q
      have dp := bx_cell Sx.out.d
      have zp := bx_lt Sx.out.d
      cases ok'
      ·have HN := Hd (show unpackM b = (Mg.z, 3) by rw [HBd.out, G.out, if_neg (by simp)])
       by_cases hlt : k < f.size
       ·(go_wp2_with (with_reducible refine wl_stopS 46 ?_); refine stop_store (w.heap.size) (#[.int .i64 0, .int .i64 0, .int .i64 0, .int .i64 0, .int .i64 0, .int .i64 0, .int .i64 0, .int .i64 0, .int .i64 0, .int .i64 0, .int .i64 0, .int .i64 0, .int .i64 0, .int .i64 0, .slice none 0 0, .slice none 0 0, .slice none 0 0]) rfl rfl (Sx.out.e) (by kernel_rfl) rfl (by simp [Value.oneCell']) ?_)
        intro w9 e9 k9
        have E9 := Hd e9
        have X9 := Hd (chg_new Sx.out.x k9 (Nat.le_refl _))
        clear e9 k9
        go_wp2
        exact bodyPost_ret (results_two9 Try.results18 rfl rfl Try.underlying46 (by kernel_rfl) E9.out) rfl ⟨⟨_, rfl, by rw [HN.out]; exact uqZ _ _ _⟩, X9.out⟩
       ·obtain rfl : k = f.size := by omega
        (go_wp2_with (with_reducible refine wl_stopS 46 ?_); refine stop_store (w.heap.size) (#[.int .i64 0, .int .i64 0, .int .i64 0, .int .i64 0, .int .i64 0, .int .i64 0, .int .i64 0, .int .i64 0, .int .i64 0, .int .i64 0, .int .i64 0, .int .i64 0, .int .i64 0, .int .i64 0, .slice none 0 0, .slice none 0 0, .slice none 0 0]) rfl rfl (Sx.out.e) (by kernel_rfl) rfl (by simp [Value.oneCell']) ?_)
        intro w9 e9 k9
        have E9 := Hd e9
        have X9 := Hd (chg_new Sx.out.x k9 (Nat.le_refl _))
        clear e9 k9
        go_wp2
        exact bodyPost_ret (results_two9 Try.results18 rfl rfl Try.underlying46 (by kernel_rfl) E9.out) rfl ⟨⟨_, rfl, by rw [HN.out]; exact uqZ _ _ _⟩, X9.out⟩
      ·have G0 := Hd (show rdFlds body (formL kind) f0 (Mg.ofKind kind) = rdFlds body ((formL kind).drop k) at' m by rw [G.out, if_pos rfl])
       clear G
       by_cases hlt : k < f.size
       ·obtain ⟨hmem, hform⟩ := HFa.out k hlt
        obtain ⟨cN, hcN⟩ : ∃ n, f[k].toNat = n := ⟨_, rfl⟩
        rw [hcN] at hmem hform
        have hqi : ((f[k].toNat : Nat) : Int) = (cN : Int) := by rw [hcN]
        have HCons := Hd (rdFlds_cons (b := body) (at_ := at') (m := m) hform)
        clear hcN hform
        by_cases h120 : cN = 120
        ·subst h120
         have hqi : ((f[k].toNat : Nat) : Int) = 120 := hqi
         have HC := Hd (c_field A2 c2 body at' true r _ (Sx.out.o.rd bEnc_len).2 HBy.out (by omega) hat Sx.out.q)
         obtain ⟨ha1, x0, x9⟩ := rdF_le HBy.out hat true
         obtain ⟨⟨x, a1, k1⟩, e1⟩ : ∃ p, rdF body at' true = p := ⟨_, rfl⟩
         rw [e1] at ha1 x0 x9 HC
         simp only at ha1 x0 x9 HC
         have He1 := Hd e1
         clear e1
         go_wp2_with fail
         refine HC.out.mono ?_
         rintro e3 w3 ⟨rfl, hd, hc⟩
         have S1m := Sx.out.rd hd hc
         clear HC hd hc Sx dp zp drp frp zrp
         have dp := bx_cell S1m.d
         have fp := bx_frozen S1m.d
         have zp := bx_lt S1m.d
         have S1 := Hd (S1m.put 10 (.int .i64 x))
         clear S1m
         have HC := Hd (c_field A2 c2 body a1 k1 r _ (S1.out.o.rd bEnc_len).2 HBy.out (by omega) ha1 S1.out.q)
         obtain ⟨ha2, y0, y9⟩ := rdF_le HBy.out ha1 k1
         obtain ⟨⟨y, a2, k2⟩, e2⟩ : ∃ p, rdF body a1 k1 = p := ⟨_, rfl⟩
         rw [e2] at ha2 y0 y9 HC
         simp only at ha2 y0 y9 HC
         have He2 := Hd e2
         clear e2
         go_wp2_with fail
         refine HC.out.mono ?_
         rintro e3 w3 ⟨rfl, hd, hc⟩
         have S2m := S1.out.rd hd hc
         clear HC hd hc S1 dp fp zp
         have dp := bx_cell S2m.d
         have fp := bx_frozen S2m.d
         have zp := bx_lt S2m.d
         have S2 := Hd (S2m.put 11 (.int .i64 y))
         clear S2m
         have HC := Hd (c_field A2 c2 body a2 k2 r _ (S2.out.o.rd bEnc_len).2 HBy.out (by omega) ha2 S2.out.q)
         obtain ⟨ha3, z0, z9⟩ := rdF_le HBy.out ha2 k2
         obtain ⟨⟨z, a3, k3⟩, e3⟩ : ∃ p, rdF body a2 k2 = p := ⟨_, rfl⟩
         rw [e3] at ha3 z0 z9 HC
         simp only at ha3 z0 z9 HC
         have He3 := Hd e3
         clear e3
         go_wp2_with fail
         refine HC.out.mono ?_
         rintro e5 w3 ⟨rfl, hd, hc⟩
         have S3m := S2.out.rd hd hc
         clear HC hd hc S2 dp fp zp
         have dp := bx_cell S3m.d
         have fp := bx_frozen S3m.d
         have zp := bx_lt S3m.d
         have S3 := Hd (show UiS w _ (r + 1) r A2 c2 body (Mg.cs a (m.wCmd x y z)) #[.slice A2 body.length c2, .int .i64 a3, .bool k3] a (m.wCmd x y z).log from S3m.put 12 (.int .i64 z))
         have HG := Hd (show rdFlds body (formL kind) f0 (Mg.ofKind kind) = if k3 = true then rdFlds body ((formL kind).drop (k + 1)) a3 (m.wCmd x y z) else none by
          rw [G0.out, HCons.out, rdFld_cmd He1.out He2.out He3.out]
          cases k3 <;> rfl)
         clear S3m G0 HCons
         go_wp2
         go_roundw
         case rel => exact ⟨k + 1, a3, k3, m.wCmd x y z, a, by omega, by go_num, ha3, S3, Sm, HG⟩
         case measure => simp [intOf] <;> omega
        ·have hn120 : ((cN : Int) == 120) = false := by simp; omega
         by_cases h76 : cN = 76
         ·subst h76
          have hqi : ((f[k].toNat : Nat) : Int) = 76 := hqi
          have HC := Hd (c_iUnpackLog A2 c2 body at' w.heap.size _ Sx.out.o HBy.out (by omega) hat)
          cases hz : rdLog body at' with
          | none =>
           rw [hz] at HC
           have HG := Hd (show rdFlds body (formL kind) f0 (Mg.ofKind kind) = if false = true then rdFlds body ((formL kind).drop (k + 1)) 0 (m.wLog Lg.none) else none by
            rw [G0.out, HCons.out, if_neg (by simp)]
            unfold rdFld
            rw [if_neg (by decide), if_pos rfl, hz]
            rfl)
           have S9 := Hd (show (m.wLog Lg.none).log.small from ⟨by show 0 ≤ 1048576; omega, by show 0 ≤ 1048576; omega, by show 0 ≤ 1048576; omega⟩)
           clear hz HCons G0
           go_wp2_with fail
           refine HC.out.mono ?_
           rintro e3 w3 ⟨⟨v3, rfl, hv⟩, x3⟩
           have hv : v3 = .tuple #[.agg #[.int .i64 0, .slice none 0 0, .slice none 0 0, .slice none 0 0], .int .i64 0, .bool false] := hv
           subst hv
           have S3 := Sx.out.ext x3
           clear HC x3 Sx dp zp drp frp zrp
           have dp := bx_cell S3.d
           have fp := bx_frozen S3.d
           have zp := bx_lt S3.d
           have drp := bx_cell S3.q
           have frp := bx_frozen S3.q
           have zrp := bx_lt S3.q
           have S4 := Hd (show UiS w _ (r + 1) r A2 c2 body (Mg.cs LAd.none (m.wLog Lg.none)) #[.slice A2 body.length c2, .int .i64 0, .bool false] LAd.none (m.wLog Lg.none).log from (((((((S3.log (lgQ_none _ _)).put 13 (.int .i64 0)).put 14 (.slice none 0 0)).put 15 (.slice none 0 0)).put 16 (.slice none 0 0)).setr 1 (.int .i64 0)).setr 2 (.bool false)))
           clear S3
           go_wp2
           go_roundw
           case rel => exact ⟨k + 1, 0, false, m.wLog Lg.none, LAd.none, by omega, by go_num, Nat.zero_le _, S4, S9, HG⟩
           case measure => simp [intOf] <;> omega
          | some pz =>
           obtain ⟨lz, fx⟩ := pz
           rw [hz] at HC
           obtain ⟨hfx, hlok⟩ := rdLog_le HBy.out hz
           have HG := Hd (show rdFlds body (formL kind) f0 (Mg.ofKind kind) = if true = true then rdFlds body ((formL kind).drop (k + 1)) fx (m.wLog lz) else none by
            rw [G0.out, HCons.out, if_pos rfl]
            unfold rdFld
            rw [if_neg (by decide), if_pos rfl, hz]
            rfl)
           have S9 := Hd (show (m.wLog lz).log.small by obtain ⟨g1, g2, g3⟩ := log_lens hlok; exact ⟨by show lz.cells.length ≤ 1048576; omega, by show lz.seats.length ≤ 1048576; omega, by show lz.ents.length ≤ 1048576; omega⟩)
           clear hz HCons G0 hlok
           go_wp2_with fail
           refine HC.out.mono ?_
           rintro e3 w3 ⟨⟨v3, rfl, hv⟩, x3⟩
           obtain ⟨az, hv, lf⟩ := hv
           subst hv
           have S3 := (Sx.out.ext x3).log (lf.less hs)
           clear HC x3 Sx dp zp drp frp zrp lf
           have dp := bx_cell S3.d
           have fp := bx_frozen S3.d
           have zp := bx_lt S3.d
           have drp := bx_cell S3.q
           have frp := bx_frozen S3.q
           have zrp := bx_lt S3.q
           have S4 := Hd (show UiS w _ (r + 1) r A2 c2 body (Mg.cs az (m.wLog lz)) #[.slice A2 body.length c2, .int .i64 fx, .bool true] az (m.wLog lz).log from ((((((S3.put 13 (.int .i64 lz.base)).put 14 (.slice az.cA lz.cells.length az.cc)).put 15 (.slice az.sA lz.seats.length az.sc)).put 16 (.slice az.eA lz.ents.length az.ec)).setr 1 (.int .i64 fx)).setr 2 (.bool true)))
           clear S3
           go_wp2
           go_roundw
           case rel => exact ⟨k + 1, fx, true, m.wLog lz, az, by omega, by go_num, hfx, S4, S9, HG⟩
           case measure => simp [intOf] <;> omega
         ·have hn76 : ((cN : Int) == 76) = false := by simp; omega
          by_cases h65 : cN = 65
          ·subst h65
           have hqi : ((f[k].toNat : Nat) : Int) = 65 := hqi
           have HC := Hd (c_field A2 c2 body at' true r _ (Sx.out.o.rd bEnc_len).2 HBy.out (by omega) hat Sx.out.q)
           obtain ⟨ha1, x0, x9⟩ := rdF_le HBy.out hat true
           obtain ⟨⟨x, a1, k1⟩, e1⟩ : ∃ p, rdF body at' true = p := ⟨_, rfl⟩
           rw [e1] at ha1 x0 x9 HC
           simp only at ha1 x0 x9 HC
           have He1 := Hd e1
           clear e1
           go_wp2_with fail
           refine HC.out.mono ?_
           rintro e3 w3 ⟨rfl, hd, hc⟩
           have S1m := Sx.out.rd hd hc
           clear HC hd hc Sx dp zp drp frp zrp
           have hws : IntKind.i64.wrap (x - 1) = x - 1 := by rw [IntKind.wrap_i64]; omega
           have dp := bx_cell S1m.d
           have fp := bx_frozen S1m.d
           have zp := bx_lt S1m.d
           have S1 := Hd (show UiS w _ (r + 1) r A2 c2 body (Mg.cs a (setF m 65 x)) #[.slice A2 body.length c2, .int .i64 a1, .bool k1] a (setF m 65 x).log from S1m.put 9 (.int .i64 (x - 1)))
           have HG := Hd (show rdFlds body (formL kind) f0 (Mg.ofKind kind) = if k1 = true then rdFlds body ((formL kind).drop (k + 1)) a1 (setF m 65 x) else none by
            rw [G0.out, HCons.out, rdFld_num (by omega) (by omega) He1.out]
            cases k1 <;> rfl)
           clear S1m G0 HCons
           go_wp2
           go_roundw
           case rel => exact ⟨k + 1, a1, k1, setF m 65 x, a, by omega, by go_num, ha1, S1, Sm, HG⟩
           case measure => simp [intOf] <;> omega
          ·have hn65 : ((cN : Int) == 65) = false := by simp; omega
           obtain ⟨off, v0, hoff, h17, hcell, hput⟩ := letterQ hmem h120 h76 h65 a m
           have HCell := Hd hcell
           have HPut := Hd hput
           have HLg := Hd (fun x => setF_log m cN x)
           clear hcell hput hmem
           go_wp2_with fail
           refine (c_numOf (r + 1) (cN : Int) _).mono ?_
           rintro e2 w2 ⟨rfl, x2⟩
           have S0 := Hd (Sx.out.ext x2)
           clear x2 Sx
           rw [hoff]
           clear hoff
           have HC := Hd (c_field A2 c2 body at' true r _ (S0.out.o.rd bEnc_len).2 HBy.out (by omega) hat S0.out.q)
           obtain ⟨ha1, x0, x9⟩ := rdF_le HBy.out hat true
           obtain ⟨⟨x, a1, k1⟩, e1⟩ : ∃ p, rdF body at' true = p := ⟨_, rfl⟩
           rw [e1] at ha1 x0 x9 HC
           simp only at ha1 x0 x9 HC
           have He1 := Hd e1
           clear e1
           go_wp2_with fail
           refine HC.out.mono ?_
           rintro e3 w3 ⟨rfl, hd, hc⟩
           have S1m := S0.out.rd hd hc
           clear HC hd hc S0 dp zp drp frp zrp
           have dcell : w3.cell? ⟨r + 1, off, none⟩ = some (.int .i64 v0) := (bx_cell S1m.d off).trans HCell.out
           have fp := bx_frozen S1m.d
           have zp := bx_lt S1m.d
           have s1 := S1m.put off (.int .i64 x)
           rw [HPut.out x] at s1
           have S1 := Hd (show UiS w _ (r + 1) r A2 c2 body (Mg.cs a (setF m cN x)) #[.slice A2 body.length c2, .int .i64 a1, .bool k1] a (setF m cN x).log by rw [HLg.out]; exact s1)
           have HG := Hd (show rdFlds body (formL kind) f0 (Mg.ofKind kind) = if k1 = true then rdFlds body ((formL kind).drop (k + 1)) a1 (setF m cN x) else none by
            rw [G0.out, HCons.out, rdFld_num h120 h76 He1.out]
            cases k1 <;> rfl)
           have S9 := Hd (show (setF m cN x).log.small by rw [HLg.out]; exact Sm.out)
           clear S1m G0 HCons s1
           go_wp2
           go_roundw
           case rel => exact ⟨k + 1, a1, k1, setF m cN x, a, by omega, by go_num, ha1, S1, S9, HG⟩
           case measure => simp [intOf] <;> omega
       ·obtain rfl : k = f.size := by omega
        have HG := Hd (show rdFlds body (formL kind) f0 (Mg.ofKind kind) = some (m, at') by rw [G0.out, hfl, List.drop_length]; rfl)
        rw [HG.out] at HBd
        clear G0
        by_cases hsh : at' < body.length
        ·have hshi : ((at' : Int) != (body.length : Int)) = true := by simp; omega
         have HN := Hd (show unpackM b = (Mg.z, 4) by rw [HBd.out]; simp only; rw [if_pos hsh])
         (go_wp2_with (with_reducible refine wl_stopS 46 ?_); refine stop_store (w.heap.size) (#[.int .i64 0, .int .i64 0, .int .i64 0, .int .i64 0, .int .i64 0, .int .i64 0, .int .i64 0, .int .i64 0, .int .i64 0, .int .i64 0, .int .i64 0, .int .i64 0, .int .i64 0, .int .i64 0, .slice none 0 0, .slice none 0 0, .slice none 0 0]) rfl rfl (Sx.out.e) (by kernel_rfl) rfl (by simp [Value.oneCell']) ?_)
         intro w9 e9 k9
         have E9 := Hd e9
         have X9 := Hd (chg_new Sx.out.x k9 (Nat.le_refl _))
         clear e9 k9
         go_wp2
         exact bodyPost_ret (results_two9 Try.results18 rfl rfl Try.underlying46 (by kernel_rfl) E9.out) rfl ⟨⟨_, rfl, by rw [HN.out]; exact uqZ _ _ _⟩, X9.out⟩
        ·obtain rfl : at' = body.length := by omega
         have HC := Hd (c_iMsgFits a m _ Sm.out Sx.out.l.f.rd)
         have D := Hd Sx.out.d
         cases q : iFits m
         ·rw [q] at HC
          have HN := Hd (show unpackM b = (Mg.z, 5) by rw [HBd.out]; simp only; rw [if_neg hsh, q]; rfl)
          (go_wp2_with (with_reducible refine wl_stop 124 ?_); refine stop_load (D.out) rfl Try.underlying46 (by kernel_rfl) ?_; simp only [Act.put, Sa, Sz, Ss])
          go_wp2_with fail
          refine HC.out.mono ?_
          rintro e7 w7 ⟨rfl, x7⟩
          have S7 := Hd (Sx.out.ext x7)
          clear x7 HC D Sx dp zp drp frp zrp
          (go_wp2_with (with_reducible refine wl_stopS 46 ?_); refine stop_store (w.heap.size) (#[.int .i64 0, .int .i64 0, .int .i64 0, .int .i64 0, .int .i64 0, .int .i64 0, .int .i64 0, .int .i64 0, .int .i64 0, .int .i64 0, .int .i64 0, .int .i64 0, .int .i64 0, .int .i64 0, .slice none 0 0, .slice none 0 0, .slice none 0 0]) rfl rfl (S7.out.e) (by kernel_rfl) rfl (by simp [Value.oneCell']) ?_)
          intro w9 e9 k9
          have E9 := Hd e9
          have X9 := Hd (chg_new S7.out.x k9 (Nat.le_refl _))
          clear e9 k9
          go_wp2
          exact bodyPost_ret (results_two9 Try.results18 rfl rfl Try.underlying46 (by kernel_rfl) E9.out) rfl ⟨⟨_, rfl, by rw [HN.out]; exact uqZ _ _ _⟩, X9.out⟩
         ·rw [q] at HC
          have HN := Hd (show unpackM b = (m, 0) by rw [HBd.out]; simp only; rw [if_neg hsh, if_pos q])
          (go_wp2_with (with_reducible refine wl_stop 124 ?_); refine stop_load (D.out) rfl Try.underlying46 (by kernel_rfl) ?_; simp only [Act.put, Sa, Sz, Ss])
          go_wp2_with fail
          refine HC.out.mono ?_
          rintro e7 w7 ⟨rfl, x7⟩
          have S7 := Hd (Sx.out.ext x7)
          have D7 := Hd S7.out.d
          clear x7 HC D Sx dp zp drp frp zrp
          (go_wp2_with (with_reducible refine wl_stop 128 ?_); refine stop_load (D7.out) rfl Try.underlying46 (by kernel_rfl) ?_; simp only [Act.put, Sa, Sz, Ss])
          (go_wp2_with (with_reducible refine wl_stopS 46 ?_); refine stop_store (w.heap.size) (Mg.cs a m) rfl rfl (S7.out.e) (by kernel_rfl) rfl (by simp [Value.oneCell']) ?_)
          intro w9 e9 k9
          have E9 := Hd e9
          have X9 := Hd (chg_new S7.out.x k9 (Nat.le_refl _))
          have L9 := Hd (S7.out.l.bxk S7.out.e (by decide) (by decide) (by decide) k9)
          clear e9 k9
          go_wp2
          exact bodyPost_ret (results_two9 Try.results18 rfl rfl Try.underlying46 (by kernel_rfl) E9.out) rfl ⟨⟨_, rfl, by rw [HN.out]; exact ⟨a, rfl, L9.out⟩⟩, X9.out⟩
    ·rw [hE] at hemp
     have HN := Hd (show unpackM b = (Mg.z, 2) by rw [HM.out]; unfold rdBody; rw [HZ.out]; simp only; rw [if_pos (List.isEmpty_iff.1 hE)])
     clear hE
     (go_wp2_with (with_reducible refine wl_stopS 46 ?_); refine stop_store (w.heap.size) (#[.int .i64 0, .int .i64 0, .int .i64 0, .int .i64 0, .int .i64 0, .int .i64 0, .int .i64 0, .int .i64 0, .int .i64 0, .int .i64 0, .int .i64 0, .int .i64 0, .int .i64 0, .int .i64 0, .slice none 0 0, .slice none 0 0, .slice none 0 0]) rfl rfl (S7.out.e) (by kernel_rfl) rfl (by simp [Value.oneCell']) ?_)
     intro w9 e9 k9
     have E9 := Hd e9
     have X9 := Hd (chg_new S7.out.x k9 (Nat.le_refl _))
     clear e9 k9
     go_wp2
     exact bodyPost_ret (results_two9 Try.results18 rfl rfl Try.underlying46 (by kernel_rfl) E9.out) rfl ⟨⟨_, rfl, by rw [HN.out]; exact uqZ _ _ _⟩, X9.out⟩
  ·have h1 : (code != 0) = false := by simp [hcd]
   have h2 : ((nx : Int) != (b.length : Int)) = true := by simp; omega
   have HN := Hd (show unpackM b = (Mg.z, 1) by
    unfold unpackM
    rw [if_neg]
    have h0 := HU.out
    unfold unfE at h0
    simp only [Prod.mk.injEq] at h0
    obtain ⟨e1, e2, e3⟩ := h0
    rw [e2]
    simp [hnx])
   clear hcd hnx
   (go_wp2_with (with_reducible refine wl_stopS 46 ?_); refine stop_store (w.heap.size) (#[.int .i64 0, .int .i64 0, .int .i64 0, .int .i64 0, .int .i64 0, .int .i64 0, .int .i64 0, .int .i64 0, .int .i64 0, .int .i64 0, .int .i64 0, .int .i64 0, .int .i64 0, .int .i64 0, .slice none 0 0, .slice none 0 0, .slice none 0 0]) rfl rfl (E2.out) (by kernel_rfl) rfl (by simp [Value.oneCell']) ?_)
   intro w9 e9 k9
   have E9 := Hd e9
   have X9 := Hd (chg_new X2.out k9 (Nat.le_refl _))
   clear e9 k9
   go_wp2
   exact bodyPost_ret (results_two9 Try.results18 rfl rfl Try.underlying46 (by kernel_rfl) E9.out) rfl ⟨⟨_, rfl, by rw [HN.out]; exact uqZ _ _ _⟩, X9.out⟩
 ·have h1 : (code != 0) = true := by simp [hcd]
  have HN := Hd (show unpackM b = (Mg.z, 1) by
   unfold unpackM
   rw [if_neg]
   have h0 := HU.out
   unfold unfE at h0
   simp only [Prod.mk.injEq] at h0
   obtain ⟨e1, e2, e3⟩ := h0
   rw [Bool.and_eq_true, beq_iff_eq]
   rintro ⟨h9, _⟩
   exact hcd (by rw [← e3, h9]))
  clear hcd
  (go_wp2_with (with_reducible refine wl_stopS 46 ?_); refine stop_store (w.heap.size) (#[.int .i64 0, .int .i64 0, .int .i64 0, .int .i64 0, .int .i64 0, .int .i64 0, .int .i64 0, .int .i64 0, .int .i64 0, .int .i64 0, .int .i64 0, .int .i64 0, .int .i64 0, .int .i64 0, .slice none 0 0, .slice none 0 0, .slice none 0 0]) rfl rfl (E2.out) (by kernel_rfl) rfl (by simp [Value.oneCell']) ?_)
  intro w9 e9 k9
  have E9 := Hd e9
  have X9 := Hd (chg_new X2.out k9 (Nat.le_refl _))
  clear e9 k9
  go_wp2
  exact bodyPost_ret (results_two9 Try.results18 rfl rfl Try.underlying46 (by kernel_rfl) E9.out) rfl ⟨⟨_, rfl, by rw [HN.out]; exact uqZ _ _ _⟩, X9.out⟩
end Go.Proofs.Ytpghedeghoegmaa
