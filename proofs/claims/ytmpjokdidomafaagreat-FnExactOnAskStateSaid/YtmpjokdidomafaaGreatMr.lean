/- The laws' own functions on replicas: marked, held. -/
import Derived.Test.YtmpjokdidomafaaGreatMv
namespace Go.Proofs.YtmpjokdidomafaaGreat
open Go.ChangeShapes Go.WideShapes Go.ChangeAt Go.RowKit Go.Sort
set_option linter.unusedVariables false
set_option linter.unusedSimpArgs false

/-- the number behind the marks of a replica -/
def rpK (k : Int) (ps : List VtE) (r : Rp) : Int := VtE.Ks (k + r.log.mN) ps ps.length
/-- how it reads when it is marked -/
structure RpH (w : World) (a : LAd) (A : Option Addr) (c : Nat) (ps : List VtE) (r : Rp) (k : Int) : Prop where
  l : LgR w a (r.log.mk' k r.log.base)
  v : VsR w A c (VtE.mks (k + r.log.mN) ps)
theorem RpH.keep {w w' : World} {a : LAd} {A : Option Addr} {c : Nat} {ps : List VtE} {r : Rp} {k : Int} (h : RpH w a A c ps r k) (hx : Ext w w') : RpH w' a A c ps r k := ⟨h.l.keep hx, h.v.keep hx⟩
set_option maxHeartbeats 1000000 in
theorem c_markReplica (a : LAd) (A : Option Addr) (c : Nat) (ps : List VtE) (r : Rp) (B T : Nat) (k : Int) (w : World) (h : RpO w B T a A c ps r) (h0 : 0 ≤ k) (hk : rpK k ps r ≤ 1000000000) (hs : r.log.small) (hv : LgS ps) (hn : ps.length ≤ 1048576) :
    Calls Tryz.prog 13 #[Rp.val a A ps.length c r, .int .i64 k] w fun e w' => e = .returned (.int .i64 (rpK k ps r)) ∧ RpH w' a A c ps r k ∧ Chg w w' (a.fp ++ vsF A ps) := by
  have X0 := ext_alloc w (Rp.obj a A ps.length c r)
  have hm := r.log.mN_pos
  have hg := VtE.Ks_ge (k + r.log.mN) ps ps.length
  have hk1 : k ≤ 1000000000 := by unfold rpK at hk; omega
  have H := Lib.hid h
  have HL := Lib.hid (h.l.kept X0)
  have HV := Lib.hid (h.v.kept X0)
  have HS := Lib.hid hs
  have HVS := Lib.hid hv
  have HK := Lib.hid hk
  clear h hs hv hk hg
  go_enter Tryz.func13, Tryz.ntmps13
  go_wp2_with fail
  refine (c_markLog a r.log B T k _ HL.out h0 hk1 HS.out).mono ?_
  rintro e w1 ⟨rfl, o1, c1⟩
  have B1 := (c1.block w.heap.size (by simp) (fun hm => by have := H.out.l.lt _ hm; omega)).trans (hNew (w := w) (o := Rp.obj a A ps.length c r) rfl)
  have b1 := bx_cell B1
  have f1 := bx_frozen B1
  have z1 := bx_lt B1
  have O1 := Lib.hid o1
  have C1 := Lib.hid c1
  have HV1 := Lib.hid (HV.out.chg c1 (fun x hx hm => H.out.d x hm hx))
  clear o1 c1 B1
  go_wp2_with fail
  refine (c_markVoteS A c ps B T (k + r.log.mN) _ HV1.out (by omega) HK.out HVS.out hn).mono ?_
  rintro e w2 ⟨rfl, o2, c2⟩
  have O2 := Lib.hid o2
  have C2 := Lib.hid (show Chg w1 w2 (vsF A ps) from c2)
  clear o2 c2
  go_wp2
  go_ret
  refine ⟨rfl, ⟨(O1.out.chg C2.out (fun x hx hm => H.out.d x hx hm)).rd, O2.out.rd⟩, ?_⟩
  exact (chg_ext _ X0).trans ((C1.out.more (fun x hx => List.mem_append_left _ hx)).trans (C2.out.more (fun x hx => List.mem_append_right _ hx)))
set_option maxHeartbeats 1000000 in
theorem c_heldReplica (a : LAd) (A : Option Addr) (c : Nat) (ps : List VtE) (r : Rp) (k : Int) (w : World) (h : RpH w a A c ps r k) (h0 : 0 ≤ k) (hk : rpK k ps r ≤ 1000000000) (hs : r.log.small) (hv : LgS ps) (hn : ps.length ≤ 1048576) :
    Calls Tryz.prog 15 #[Rp.val a A ps.length c r, .int .i64 k] w fun e w' => e = .returned (.int .i64 (rpK k ps r)) ∧ Ext w w' := by
  have X0 := ext_alloc w (Rp.obj a A ps.length c r)
  have hm := r.log.mN_pos
  have hg := VtE.Ks_ge (k + r.log.mN) ps ps.length
  have hg2 : 0 ≤ rpK k ps r := by unfold rpK; omega
  have hk1 : k + r.log.mN ≤ 1000000000 := by unfold rpK at hk; omega
  have g1 : decide (k + r.log.mN < 0) = false := by simp; omega
  have g2 : decide (rpK k ps r < 0) = false := by simp; omega
  have H := Lib.hid (h.keep X0)
  have HS := Lib.hid hs
  have HVS := Lib.hid hv
  have HK := Lib.hid hk
  clear h hs hv hk hg hg2
  go_enter Tryz.func15, Tryz.ntmps15
  go_wp2_with fail
  refine (c_heldLog a r.log.base r.log k _ H.out.l h0 (by omega) HS.out).mono ?_
  rintro e w1 ⟨rfl, x1⟩
  have B1 := x1.box (hNew (w := w) (o := Rp.obj a A ps.length c r) rfl)
  have b1 := bx_cell B1
  have f1 := bx_frozen B1
  have z1 := bx_lt B1
  clear B1
  go_wp2_with fail
  refine (c_heldVoteS A c ps (k + r.log.mN) _ (H.out.v.keep x1) (by omega) HK.out HVS.out hn).mono ?_
  rintro e w2 ⟨rfl, x2⟩
  rw [show VtE.Ks (k + r.log.mN) ps ps.length = rpK k ps r from rfl]
  go_wp2
  go_ret
  exact ⟨rfl, Ext.trans X0 (Ext.trans x1 x2)⟩
end Go.Proofs.YtmpjokdidomafaaGreat
