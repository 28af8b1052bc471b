/- Arguments that are logs, messages, replicas, opened. -/
import Derived.Test.YtkenlhdiehaemaaGreatPk3
import Derived.Test.YtkenlhdiehaemaaGreatPk8
import Derived.Test.YtkenlhdiehaemaaGreatPk9
namespace Go.Proofs.YtkenlhdiehaemaaGreat
open Go.ChangeShapes Go.WideShapes Go.ChangeAt Go.RowKit Go.Joins Go.Deep
set_option linter.unusedVariables false
theorem list13 {α : Type} {l : List α} (h : l.length = 13) : ∃ a b c d e f g i j k m n o, l = [a, b, c, d, e, f, g, i, j, k, m, n, o] := by match l, h with | [a, b, c, d, e, f, g, i, j, k, m, n, o], _ => exact ⟨a, b, c, d, e, f, g, i, j, k, m, n, o, rfl⟩
theorem list17 {α : Type} {l : List α} (h : l.length = 17) : ∃ a b c d e f g i j k m n o p q r s, l = [a, b, c, d, e, f, g, i, j, k, m, n, o, p, q, r, s] := by match l, h with | [a, b, c, d, e, f, g, i, j, k, m, n, o, p, q, r, s], _ => exact ⟨a, b, c, d, e, f, g, i, j, k, m, n, o, p, q, r, s, rfl⟩
section
variable {H : Type} {enc : TypeId × Value → H} {w : World} {base : Nat} {spare : Nat → Bool} {held : Bool}
set_option maxRecDepth 100000 in
theorem open_Msg {v : Value} {d : DataW H} {p : List MemPlace} {b0 : Nat}
  (hv : Value.okWide Tryz.prog w .any b0 53 v) (h : DataW.Trod enc Tryz.prog w base spare held 53 v d p) : ∃ a m, v = Mg.val a m ∧ LgR w a m.log := by
 obtain ⟨cs, rfl, hsz⟩ := okWide_struct Tryz.underlying53 hv
 obtain ⟨fuel, hf⟩ := h
 have ht : Tr enc Tryz.prog w base spare held 53 cs.toList := ⟨fuel, _, hf⟩
 have hl : cs.toList.length = 17 := by rw [Array.length_toList, hsz]; kernel_rfl
 obtain ⟨x0, e0, _⟩ := ht.int (n := 4) (lt := 3) 0 (by kernel_rfl) Tryz.underlying3
 obtain ⟨x1, e1, _⟩ := ht.int (n := 4) (lt := 3) 1 (by kernel_rfl) Tryz.underlying3
 obtain ⟨x2, e2, _⟩ := ht.int (n := 4) (lt := 3) 2 (by kernel_rfl) Tryz.underlying3
 obtain ⟨x3, e3, _⟩ := ht.int (n := 4) (lt := 3) 3 (by kernel_rfl) Tryz.underlying3
 obtain ⟨x4, e4, _⟩ := ht.int (n := 4) (lt := 3) 4 (by kernel_rfl) Tryz.underlying3
 obtain ⟨x5, e5, _⟩ := ht.int (n := 4) (lt := 3) 5 (by kernel_rfl) Tryz.underlying3
 obtain ⟨x6, e6, _⟩ := ht.int (n := 4) (lt := 3) 6 (by kernel_rfl) Tryz.underlying3
 obtain ⟨x7, e7, _⟩ := ht.int (n := 4) (lt := 3) 7 (by kernel_rfl) Tryz.underlying3
 obtain ⟨x8, e8, _⟩ := ht.int (n := 4) (lt := 3) 8 (by kernel_rfl) Tryz.underlying3
 obtain ⟨x9, e9, _⟩ := ht.int (n := 4) (lt := 3) 9 (by kernel_rfl) Tryz.underlying3
 obtain ⟨x10, e10, _⟩ := ht.int (n := 4) (lt := 3) 10 (by kernel_rfl) Tryz.underlying3
 obtain ⟨x11, e11, _⟩ := ht.int (n := 4) (lt := 3) 11 (by kernel_rfl) Tryz.underlying3
 obtain ⟨x12, e12, _⟩ := ht.int (n := 4) (lt := 3) 12 (by kernel_rfl) Tryz.underlying3
 obtain ⟨a, l, hr, e13, e14, e15, e16⟩ := tr_log ht 13 (by kernel_rfl) (by kernel_rfl) (by kernel_rfl) (by kernel_rfl)
 obtain ⟨y0, y1, y2, y3, y4, y5, y6, y7, y8, y9, y10, y11, y12, y13, y14, y15, y16, hy⟩ := list17 hl
 rw [hy] at e0 e1 e2 e3 e4 e5 e6 e7 e8 e9 e10 e11 e12 e13 e14 e15 e16
 simp at e0 e1 e2 e3 e4 e5 e6 e7 e8 e9 e10 e11 e12 e13 e14 e15 e16
 subst e0 e1 e2 e3 e4 e5 e6 e7 e8 e9 e10 e11 e12 e13 e14 e15 e16
 exact ⟨a, ⟨x0, x1, x2, x3, x4, x5, x6, x7, x8, x9, x10, x11, x12, l⟩, congrArg Value.agg (Array.ext' hy), hr⟩
set_option maxRecDepth 100000 in
theorem open_Replica {v : Value} {d : DataW H} {p : List MemPlace} {b0 : Nat}
  (hv : Value.okWide Tryz.prog w .any b0 31 v) (h : DataW.Trod enc Tryz.prog w base spare held 31 v d p) : ∃ a A c ps r, v = Rp.val a A (List.length ps) c r ∧ RpR w a A c ps r := by
 obtain ⟨cs, rfl, hsz⟩ := okWide_struct Tryz.underlying31 hv
 obtain ⟨fuel, hf⟩ := h
 have ht : Tr enc Tryz.prog w base spare held 31 cs.toList := ⟨fuel, _, hf⟩
 have hl : cs.toList.length = 13 := by rw [Array.length_toList, hsz]; kernel_rfl
 obtain ⟨x0, e0, _⟩ := ht.int (n := 4) (lt := 3) 0 (by kernel_rfl) Tryz.underlying3
 obtain ⟨x1, e1, _⟩ := ht.int (n := 4) (lt := 3) 1 (by kernel_rfl) Tryz.underlying3
 obtain ⟨x2, e2, _⟩ := ht.int (n := 4) (lt := 3) 2 (by kernel_rfl) Tryz.underlying3
 obtain ⟨x3, e3, _⟩ := ht.int (n := 4) (lt := 3) 3 (by kernel_rfl) Tryz.underlying3
 obtain ⟨x4, e4, _⟩ := ht.int (n := 4) (lt := 3) 4 (by kernel_rfl) Tryz.underlying3
 obtain ⟨x5, e5, _⟩ := ht.int (n := 4) (lt := 3) 5 (by kernel_rfl) Tryz.underlying3
 obtain ⟨a, l, hr, e6, e7, e8, e9⟩ := tr_log ht 6 (by kernel_rfl) (by kernel_rfl) (by kernel_rfl) (by kernel_rfl)
 obtain ⟨A, n, c, e10, tv⟩ := ht.slice (n := 4) (lt := 29) 10 (by kernel_rfl) Tryz.underlying29
 obtain ⟨ps, rfl, hvs⟩ := tr_votes tv
 obtain ⟨x11, e11, _⟩ := ht.int (n := 4) (lt := 3) 11 (by kernel_rfl) Tryz.underlying3
 obtain ⟨x12, e12, _⟩ := ht.int (n := 4) (lt := 3) 12 (by kernel_rfl) Tryz.underlying3
 obtain ⟨y0, y1, y2, y3, y4, y5, y6, y7, y8, y9, y10, y11, y12, hy⟩ := list13 hl
 rw [hy] at e0 e1 e2 e3 e4 e5 e6 e7 e8 e9 e10 e11 e12
 simp at e0 e1 e2 e3 e4 e5 e6 e7 e8 e9 e10 e11 e12
 subst e0 e1 e2 e3 e4 e5 e6 e7 e8 e9 e10 e11 e12
 exact ⟨a, A, c, ps, ⟨x0, x1, x2, x3, x4, x5, l, ps.map Prod.snd, x11, x12⟩, congrArg Value.agg (Array.ext' hy), ⟨hr, hvs, rfl⟩⟩
end
theorem lgN_small {l : Lg} {n : Nat} (h : lgN l ≤ n) (hn : n ≤ 1048576) : l.small := by unfold lgN at h; unfold Lg.small; omega
theorem vsN_small (ps : List VtE) (n : Nat) (h : ps.length + vsN ps ps.length ≤ n) (hn : n ≤ 1048576) : LgS ps := fun p hp => by
 obtain ⟨k, hk, rfl⟩ := List.mem_iff_getElem.1 hp
 have h1 := vsN_next hk
 have h2 := vsN_up ps (k + 1) (ps.length - (k + 1))
 rw [show k + 1 + (ps.length - (k + 1)) = ps.length by omega] at h2
 exact lgN_small (n := n) (by omega) hn
theorem vsN_congr {ps qs : List VtE} (h : ps.map Prod.snd = qs.map Prod.snd) : ∀ k, vsN ps k = vsN qs k
 | 0 => rfl
 | k + 1 => by
  have ih := vsN_congr h k
  have hat : ps[k]?.map Prod.snd = qs[k]?.map Prod.snd := by
   have := congrArg (fun l => l[k]?) h
   simpa using this
  unfold vsN
  rw [ih]
  congr 1
  revert hat
  cases ps[k]? <;> cases qs[k]? <;> intro hat
  ·rfl
  ·simp at hat
  ·simp at hat
  ·simp at hat
   simp only [hat]
end Go.Proofs.YtkenlhdiehaemaaGreat
namespace Go.Proofs.YtkenlhdiehaemaaGreat
open Go.ChangeShapes Go.WideShapes Go.ChangeAt Go.RowKit Go.Sort
set_option linter.unusedVariables false
set_option linter.unusedSimpArgs false
def rpK (k : Int) (ps : List VtE) (r : Rp) : Int := VtE.Ks (k + r.log.mN) ps ps.length
structure RpH (w : World) (a : LAd) (A : Option Addr) (c : Nat) (ps : List VtE) (r : Rp) (k : Int) : Prop where
 l : LgR w a (r.log.mk' k r.log.base)
 v : VsR w A c (VtE.mks (k + r.log.mN) ps)
theorem RpH.keep {w w' : World} {a : LAd} {A : Option Addr} {c : Nat} {ps : List VtE} {r : Rp} {k : Int} (h : RpH w a A c ps r k) (hx : Ext w w') : RpH w' a A c ps r k := ⟨h.l.keep hx, h.v.keep hx⟩
set_option maxHeartbeats 1000000 in
theorem c_markReplica (a : LAd) (A : Option Addr) (c : Nat) (ps : List VtE) (r : Rp) (B T : Nat) (k : Int) (w : World) (h : RpO w B T a A c ps r) (h0 : 0 ≤ k) (hk : rpK k ps r ≤ 1000000000) (hs : r.log.small) (hv : LgS ps) (hn : ps.length ≤ 1048576) :
  Calls Tryz.prog 18 #[Rp.val a A ps.length c r, .int .i64 k] w fun e w' => e = .returned (.int .i64 (rpK k ps r)) ∧ RpH w' a A c ps r k ∧ Chg w w' (a.fp ++ vsF A ps) := by
 have X0 := ext_alloc w (Rp.obj a A ps.length c r)
 have hm := r.log.mN_pos
 have hg := VtE.Ks_ge (k + r.log.mN) ps ps.length
 have hk1 : k ≤ 1000000000 := by unfold rpK at hk; omega
 have H := Lib.hid h
 have HL := Lib.hid (h.l.kept X0)
 have HV := Lib.hid (h.v.kept X0)
 have HS := Lib.hid hs
 have HVS := Lib.hid hv
 have HK := Lib.hid hk
 clear h hs hv hk hg
 go_enter Tryz.func18, Tryz.ntmps18
 go_wp2_with fail
 refine (c_markLog a r.log B T k _ HL.out h0 hk1 HS.out).mono ?_
 rintro e w1 ⟨rfl, o1, c1⟩
 have B1 := (c1.block w.heap.size (by simp) (fun hm => by have := H.out.l.lt _ hm; omega)).trans (hNew (w := w) (o := Rp.obj a A ps.length c r) rfl)
 have b1 := bx_cell B1
 have f1 := bx_frozen B1
 have z1 := bx_lt B1
 have O1 := Lib.hid o1
 have C1 := Lib.hid c1
 have HV1 := Lib.hid (HV.out.chg c1 (fun x hx hm => H.out.d x hm hx))
 clear o1 c1 B1
 go_wp2_with fail
 refine (c_markVoteS A c ps B T (k + r.log.mN) _ HV1.out (by omega) HK.out HVS.out hn).mono ?_
 rintro e w2 ⟨rfl, o2, c2⟩
 have O2 := Lib.hid o2
 have C2 := Lib.hid (show Chg w1 w2 (vsF A ps) from c2)
 clear o2 c2
 go_wp2
 go_ret
 refine ⟨rfl, ⟨(O1.out.chg C2.out (fun x hx hm => H.out.d x hx hm)).rd, O2.out.rd⟩, ?_⟩
 exact (chg_ext _ X0).trans ((C1.out.more (fun x hx => List.mem_append_left _ hx)).trans (C2.out.more (fun x hx => List.mem_append_right _ hx)))
set_option maxHeartbeats 1000000 in
theorem c_heldReplica (a : LAd) (A : Option Addr) (c : Nat) (ps : List VtE) (r : Rp) (k : Int) (w : World) (h : RpH w a A c ps r k) (h0 : 0 ≤ k) (hk : rpK k ps r ≤ 1000000000) (hs : r.log.small) (hv : LgS ps) (hn : ps.length ≤ 1048576) :
  Calls Tryz.prog 29 #[Rp.val a A ps.length c r, .int .i64 k] w fun e w' => e = .returned (.int .i64 (rpK k ps r)) ∧ Ext w w' := by
 have X0 := ext_alloc w (Rp.obj a A ps.length c r)
 have hm := r.log.mN_pos
 have hg := VtE.Ks_ge (k + r.log.mN) ps ps.length
 have hg2 : 0 ≤ rpK k ps r := by unfold rpK; omega
 have hk1 : k + r.log.mN ≤ 1000000000 := by unfold rpK at hk; omega
 have g1 : decide (k + r.log.mN < 0) = false := by simp; omega
 have g2 : decide (rpK k ps r < 0) = false := by simp; omega
 have H := Lib.hid (h.keep X0)
 have HS := Lib.hid hs
 have HVS := Lib.hid hv
 have HK := Lib.hid hk
 clear h hs hv hk hg hg2
 go_enter Tryz.func29, Tryz.ntmps29
 go_wp2_with fail
 refine (c_heldLog a r.log.base r.log k _ H.out.l h0 (by omega) HS.out).mono ?_
 rintro e w1 ⟨rfl, x1⟩
 have B1 := x1.box (hNew (w := w) (o := Rp.obj a A ps.length c r) rfl)
 have b1 := bx_cell B1
 have f1 := bx_frozen B1
 have z1 := bx_lt B1
 clear B1
 go_wp2_with fail
 refine (c_heldVoteS A c ps (k + r.log.mN) _ (H.out.v.keep x1) (by omega) HK.out HVS.out hn).mono ?_
 rintro e w2 ⟨rfl, x2⟩
 rw [show VtE.Ks (k + r.log.mN) ps ps.length = rpK k ps r from rfl]
 go_wp2
 go_ret
 exact ⟨rfl, Ext.trans X0 (Ext.trans x1 x2)⟩
end Go.Proofs.YtkenlhdiehaemaaGreat
namespace Go.Proofs.YtkenlhdiehaemaaGreat
open Go.ChangeShapes Go.WideShapes Go.ChangeAt Go.RowKit Go.Sort
set_option linter.unusedVariables false
theorem LgS.congr {ps qs : List VtE} (h : ps.map Prod.snd = qs.map Prod.snd) (hs : LgS ps) : LgS qs := fun q hq => by
 have h1 : q.2 ∈ qs.map Prod.snd := List.mem_map_of_mem hq
 rw [← h] at h1
 obtain ⟨p, hp, he⟩ := List.mem_map.1 h1
 rw [← he]
 exact hs p hp
theorem mN_lgN (l : Lg) : l.mN ≤ 5 * lgN l := by unfold Lg.mN lgN; omega
theorem Ks_bound (k : Int) (ps : List VtE) : ∀ j, j ≤ ps.length → VtE.Ks k ps j ≤ k + 7 * j + 5 * vsN ps j
 | 0, _ => by simp [VtE.Ks, vsN]
 | j + 1, hj => by
  have ih := Ks_bound k ps j (by omega)
  have h1 := VtE.Ks_next k (ps := ps) (j := j) (by omega)
  have h2 := vsN_next (ps := ps) (k := j) (by omega)
  have h3 := mN_lgN (ps[j]'(by omega)).2.log
  have h4 : (ps[j]'(by omega)).2.mN = 7 + (ps[j]'(by omega)).2.log.mN := rfl
  rw [h1, h2, h4]
  omega
theorem rpK_pos {ps : List VtE} {r : Rp} : 0 ≤ rpK 1 ps r := by
 have h1 := VtE.Ks_ge (1 + r.log.mN) ps ps.length
 have h2 := r.log.mN_pos
 unfold rpK
 omega
def RpV (n : Nat) (r : Rp) (v : Value) (w : World) : Prop := ∃ a g qs, v = Rp.val a (some ⟨g, 0, none⟩) n n r ∧ List.length qs = n ∧ RpR w a (some ⟨g, 0, none⟩) n qs r
theorem RpV.mono (n : Nat) (r : Rp) : Mono (RpV n r) := fun v w w' ⟨a, g, qs, h, hl, hr⟩ hx => ⟨a, g, qs, h, hl, hr.keep hx⟩
theorem c_eqAnew (a : LAd) (A : Option Addr) (c : Nat) (qs : List VtE) (r : Rp) (n : Nat) (hl : r.log.small) (w : World) (ha : RpR w a A c qs r) (hqn : qs.length = n) (hn : n ≤ 1048576) (hv : LgS qs) (v : Value) (hvr : RpV n r v w) :
  Calls Tryz.prog 17 #[Rp.val a A n c r, v] w fun e w' => e = .returned (.bool true) ∧ Ext w w' := by
 obtain ⟨b, g, rs, rfl, hrl, hb⟩ := hvr
 subst hqn
 have := c_eqReplica_same a b A (some ⟨g, 0, none⟩) c qs.length qs rs r hl w ha hb hn hv
 rw [hrl] at this
 exact this
theorem RpO.fp_in {w : World} {B T : Nat} {a : LAd} {A : Option Addr} {c : Nat} {ps : List VtE} {r : Rp} (h : RpO w B T a A c ps r) : ∀ k ∈ a.fp ++ vsF A ps, B ≤ k ∧ k < T := fun k hk => by
 rcases List.mem_append.1 hk with hk | hk
 ·exact ⟨h.l.low k hk, h.l.top k hk⟩
 ·exact ⟨(h.v.low k hk).1, h.v.top k hk⟩
end Go.Proofs.YtkenlhdiehaemaaGreat
