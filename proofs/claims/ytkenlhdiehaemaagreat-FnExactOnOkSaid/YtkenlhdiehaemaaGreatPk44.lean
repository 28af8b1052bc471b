/- MsgFits of the program and of the reference agree. -/
import Derived.Test.YtkenlhdiehaemaaGreatPk43
import Derived.Test.YtkenlhdiehaemaaGreatPk42
import Derived.Test.YtkenlhdiehaemaaGreatPk35
import Derived.Test.YtkenlhdiehaemaaGreatPk38
import Derived.Test.YtkenlhdiehaemaaGreatPk39
namespace Go.Proofs.YtkenlhdiehaemaaGreat
open Go.ChangeShapes Go.WideShapes Go.ChangeAt Go.RowKit Go.Sort
set_option linter.unusedVariables false
set_option linter.unusedSimpArgs false
def iAll (m : Mg) (f : ByteArray) : Bool := iFld m f 0 && (iFld m f 1 && (iFld m f 2 && (iFld m f 3 && (iFld m f 4 && (iFld m f 5 && (iFld m f 6 && (iFld m f 7 && iFld m f 8)))))))
theorem iTo_all (m : Mg) (f : ByteArray) : decide (iTo m f 9) = iAll m f := by
 rw [Bool.eq_iff_iff, decide_eq_true_iff]
 simp only [iAll, Bool.and_eq_true]
 constructor
 ·intro h
  exact ⟨h 0 (by omega), h 1 (by omega), h 2 (by omega), h 3 (by omega), h 4 (by omega), h 5 (by omega), h 6 (by omega), h 7 (by omega), h 8 (by omega)⟩
 ·rintro ⟨h0, h1, h2, h3, h4, h5, h6, h7, h8⟩ j hj
  have h9 : j = 0 ∨ j = 1 ∨ j = 2 ∨ j = 3 ∨ j = 4 ∨ j = 5 ∨ j = 6 ∨ j = 7 ∨ j = 8 := by omega
  rcases h9 with rfl | rfl | rfl | rfl | rfl | rfl | rfl | rfl | rfl <;> assumption
def iBits (f : ByteArray) : List Bool := [sHas f 70, sHas f 86, sHas f 79, sHas f 67, sHas f 78, sHas f 110, sHas f 99, sHas f 114, sHas f 65, sHas f 120, sHas f 76, f.toList.isEmpty]
def sBits (f : ByteArray) : List Bool := [sHas f 102, sHas f 118, sHas f 111, sHas f 99, sHas f 110, sHas f 107, sHas f 67, sHas f 82, sHas f 65, sHas f 100, sHas f 108, f.toList.isEmpty]
set_option maxRecDepth 100000 in
theorem bits_eq (k : Int) : iBits (iForm k) = sBits (sForm k) ∧ (sHas (sForm k) 108 = false → sHas (sForm k) 110 = false) := by
 unfold iForm sForm
 repeat' split
 all_goals (first | contradiction | decide +kernel)
theorem iLets : iLet 0 = 70 ∧ iLet 1 = 86 ∧ iLet 2 = 79 ∧ iLet 3 = 67 ∧ iLet 4 = 78 ∧ iLet 5 = 110 ∧ iLet 6 = 99 ∧ iLet 7 = 114 ∧ iLet 8 = 65 := by decide
theorem fOne_num (h : Bool) (b x lo hi : Int) (he : fOk b x = inB x lo hi) : fOne h b x = numOk h x lo hi := by unfold fOne numOk; rw [he]
theorem fits_eq (m : Mg) : iFits m = sFits m := by
 obtain ⟨hb, hn⟩ := bits_eq m.kind
 unfold iFits sFits
 rw [iTo_all]
 generalize iForm m.kind = F at *
 generalize sForm m.kind = S at *
 simp only [iBits, sBits, List.cons.injEq, and_true] at hb
 obtain ⟨e1, e2, e3, e4, e5, e6, e7, e8, e9, e10, e11, e12⟩ := hb
 obtain ⟨l0, l1, l2, l3, l4, l5, l6, l7, l8⟩ := iLets
 simp only [iAll, iFld, l0, l1, l2, l3, l4, l5, l6, l7, l8, iVal, e1, e2, e3, e4, e5, e6, e7, e8, e9, e12, sN]
 rw [fOne_num _ 70 m.frm 0 4 (by simp [fOk]), fOne_num _ 86 m.view 0 1000000000 (by simp [fOk]), fOne_num _ 79 m.op 0 1000000000 (by simp [fOk]), fOne_num _ 67 m.commit 0 1000000000 (by simp [fOk]), fOne_num _ 78 m.normal 0 1000000000 (by simp [fOk]), fOne_num _ 110 m.nonce 0 1000000000 (by simp [fOk]), fOne_num _ 99 m.client 0 1000000000 (by simp [fOk]), fOne_num _ 114 m.req 1 1000000000 (by simp [fOk]), fOne_num _ 65 m.answer (-1) 1000000000 (by simp [fOk])]
 have hc : iCmd m F = sCmd m S := by unfold iCmd sCmd; rw [e10]
 rw [hc]
 have hkey : numOk (sHas S 118) m.view 0 1000000000 = true → numOk (sHas S 110) m.normal 0 1000000000 = true → sHas S 108 = false → decide (m.normal ≤ m.view) = true := by
  intro hv hm hl
  rw [hn hl] at hm
  simp only [numOk, Bool.false_and, Bool.not_false, Bool.true_and, Bool.false_or, beq_iff_eq] at hm
  have h0 : 0 ≤ m.view := by
   unfold numOk inB at hv
   cases hs : sHas S 118 <;> simp [hs] at hv <;> omega
  simp
  omega
 unfold iLog sLog
 rw [e11]
 generalize numOk (sHas S 102) m.frm 0 4 = b1 at *
 generalize numOk (sHas S 118) m.view 0 1000000000 = b2 at *
 generalize numOk (sHas S 111) m.op 0 1000000000 = b3 at *
 generalize numOk (sHas S 99) m.commit 0 1000000000 = b4 at *
 generalize numOk (sHas S 110) m.normal 0 1000000000 = b5 at *
 generalize numOk (sHas S 107) m.nonce 0 1000000000 = b6 at *
 generalize numOk (sHas S 67) m.client 0 1000000000 = b7 at *
 generalize numOk (sHas S 82) m.req 1 1000000000 = b8 at *
 generalize numOk (sHas S 65) m.answer (-1) 1000000000 = b9 at *
 generalize decide (m.normal ≤ m.view) = d at *
 generalize hasNum m.log m.commit = x at *
 generalize isZ m.log = y at *
 generalize sCmd m S = c at *
 generalize S.toList.isEmpty = z at *
 cases hl : sHas S 108
 ·have hk := fun a b => hkey a b hl
  rw [Bool.eq_iff_iff]
  simp only [Bool.and_eq_true, Bf, if_false]
  constructor
  ·rintro ⟨⟨⟨h0, h1, h2, h3, h4, h5, h6, h7, h8, h9⟩, h10⟩, h11⟩
   exact ⟨h0, h1, h8, h9, h2, h3, h4, h5, h6, h7, ⟨h10, hk h2 h5⟩, h11⟩
  ·rintro ⟨h0, h1, h8, h9, h2, h3, h4, h5, h6, h7, ⟨h10, _⟩, h11⟩
   exact ⟨⟨⟨h0, h1, h2, h3, h4, h5, h6, h7, h8, h9⟩, h10⟩, h11⟩
 ·rw [Bool.eq_iff_iff]
  simp only [Bool.and_eq_true, if_true]
  constructor
  ·rintro ⟨⟨⟨h0, h1, h2, h3, h4, h5, h6, h7, h8, h9⟩, h10⟩, h11, h12⟩
   exact ⟨h0, h1, h8, h9, h2, h3, h4, h5, h6, h7, ⟨h10, h12⟩, h11⟩
  ·rintro ⟨h0, h1, h8, h9, h2, h3, h4, h5, h6, h7, ⟨h10, h12⟩, h11⟩
   exact ⟨⟨⟨h0, h1, h2, h3, h4, h5, h6, h7, h8, h9⟩, h10⟩, h11, h12⟩
structure RpHO (w : World) (B T : Nat) (a : LAd) (A : Option Addr) (c : Nat) (ps : List VtE) (r : Rp) (k : Int) : Prop where
 l : LgO w B T a (r.log.mk' k r.log.base)
 v : VsO w B T A c (VtE.mks (k + r.log.mN) ps)
theorem RpHO.rd {w : World} {B T : Nat} {a : LAd} {A : Option Addr} {c : Nat} {ps : List VtE} {r : Rp} {k : Int} (h : RpHO w B T a A c ps r k) : RpH w a A c ps r k := ⟨h.l.rd, h.v.rd⟩
theorem RpHO.kept {w w' : World} {B T : Nat} {a : LAd} {A : Option Addr} {c : Nat} {ps : List VtE} {r : Rp} {k : Int} (h : RpHO w B T a A c ps r k) (hx : Ext w w') : RpHO w' B T a A c ps r k := ⟨h.l.kept hx, h.v.kept hx⟩
theorem RpHO.chg {w w' : World} {B T : Nat} {a : LAd} {A : Option Addr} {c : Nat} {ps : List VtE} {r : Rp} {k : Int} {S : List Nat} (h : RpHO w B T a A c ps r k) (hg : Chg w w' S) (hne : ∀ x, B ≤ x → x < T → x ∉ S) : RpHO w' B T a A c ps r k :=
 ⟨h.l.chg hg (fun x hx => hne x (h.l.low x hx) (h.l.top x hx)), h.v.chg hg (fun x hx => hne x (h.v.low x hx).1 (h.v.top x hx))⟩
set_option maxHeartbeats 1000000 in
theorem c_markReplicaO (a : LAd) (A : Option Addr) (c : Nat) (ps : List VtE) (r : Rp) (B T : Nat) (k : Int) (w : World) (h : RpO w B T a A c ps r) (h0 : 0 ≤ k) (hk : rpK k ps r ≤ 1000000000) (hs : r.log.small) (hv : LgS ps) (hn : ps.length ≤ 1048576) :
  Calls Tryz.prog 18 #[Rp.val a A ps.length c r, .int .i64 k] w fun e w' => e = .returned (.int .i64 (rpK k ps r)) ∧ RpHO w' B T a A c ps r k ∧ Chg w w' (a.fp ++ vsF A ps) := by
 have X0 := ext_alloc w (Rp.obj a A ps.length c r)
 have hm := r.log.mN_pos
 have hg := VtE.Ks_ge (k + r.log.mN) ps ps.length
 have hk1 : k ≤ 1000000000 := by unfold rpK at hk; omega
 have H := Hd h
 have HL := Hd (h.l.kept X0)
 have HV := Hd (h.v.kept X0)
 have HS := Hd hs
 have HVS := Hd hv
 have HK := Hd hk
 clear h hs hv hk hg
 go_enter Tryz.func18, Tryz.ntmps18
 go_wp2_with fail
 refine (c_markLog a r.log B T k _ HL.out h0 hk1 HS.out).mono ?_
 rintro e w1 ⟨rfl, o1, c1⟩
 have B1 := (c1.block w.heap.size (by simp) (fun hm => by have := H.out.l.lt _ hm; omega)).trans (hNew (w := w) (o := Rp.obj a A ps.length c r) rfl)
 have b1 := bx_cell B1
 have f1 := bx_frozen B1
 have z1 := bx_lt B1
 have O1 := Hd o1
 have C1 := Hd c1
 have HV1 := Hd (HV.out.chg c1 (fun x hx hm => H.out.d x hm hx))
 clear o1 c1 B1
 go_wp2_with fail
 refine (c_markVoteS A c ps B T (k + r.log.mN) _ HV1.out (by omega) HK.out HVS.out hn).mono ?_
 rintro e w2 ⟨rfl, o2, c2⟩
 have O2 := Hd o2
 have C2 := Hd (show Chg w1 w2 (vsF A ps) from c2)
 clear o2 c2
 go_wp2
 go_ret
 refine ⟨rfl, ⟨O1.out.chg C2.out (fun x hx hm => H.out.d x hx hm), O2.out⟩, ?_⟩
 exact (chg_ext _ X0).trans ((C1.out.more (fun x hx => List.mem_append_left _ hx)).trans (C2.out.more (fun x hx => List.mem_append_right _ hx)))
theorem rpK_less {ps qs : List VtE} {r : Rp} (h : ps.map Prod.snd = qs.map Prod.snd) (hn : rpN ps r ≤ 1048576) : rpK 1 qs r ≤ 20000000 := by
 have hl : qs.length = ps.length := by simpa using (congrArg List.length h).symm
 have h1 := Ks_bound (1 + r.log.mN) qs qs.length (Nat.le_refl _)
 have h2 := mN_lgN r.log
 have h3 := vsN_congr h ps.length
 unfold rpK
 unfold rpN at hn
 rw [hl] at h1 ⊢
 rw [← h3] at h1
 omega
theorem OKs_bound (k : Int) (os : List OtE) (hs : ∀ p ∈ os, p.2.msg.log.small) : ∀ j, j ≤ os.length → OtE.Ks k os j ≤ k + 10485775 * j
 | 0, _ => by simp [OtE.Ks]
 | j + 1, hj => by
  have ih := OKs_bound k os hs j (by omega)
  have h1 := OtE.Ks_next k (ps := os) (j := j) (by omega)
  have h2 := Lg.mN_small _ (hs _ (List.getElem_mem (show j < os.length by omega)))
  have h4 : (os[j]'(by omega)).2.mN = 15 + (os[j]'(by omega)).2.msg.log.mN := rfl
  rw [h1, h4]
  omega
structure RoS (ps : List VtE) (R : Rp) (O : List Ot) : Prop where
 log : R.log.small
 vs : ∀ qs : List VtE, qs.map Prod.snd = R.votes → LgS qs ∧ qs.length ≤ 1048576 ∧ rpK 1 qs R ≤ 20000000
 os : ∀ o ∈ O, o.msg.log.small
 len : O.length ≤ 80
theorem RoS.outs {ps : List VtE} {R : Rp} {O : List Ot} (h : RoS ps R O) {os : List OtE} (he : os.map Prod.snd = O) : (∀ p ∈ os, p.2.msg.log.small) ∧ os.length ≤ 1048576 ∧ ∀ k : Int, k ≤ 20000000 → OtE.Ks k os os.length ≤ 1000000000 := by
 have h1 : ∀ p ∈ os, p.2.msg.log.small := fun p hp => h.os _ (by rw [← he]; exact List.mem_map_of_mem hp)
 have h2 : os.length ≤ 80 := by have := h.len; rw [← he, List.length_map] at this; exact this
 refine ⟨h1, by omega, fun k hk => ?_⟩
 have := OKs_bound k os h1 os.length (Nat.le_refl _)
 omega
theorem OtE.fps_in {w : World} {B T : Nat} {A : Option Addr} {c : Nat} {ps : List OtE} (h : OsO w B T A c ps) : ∀ k ∈ OtE.fps A ps, B ≤ k ∧ k < T := fun k hk => ⟨h.low k hk, h.top k hk⟩
theorem RoS.same {ps : List VtE} {r : Rp} {O : List Ot} (he : ps.map Prod.snd = r.votes) (hn : rpN ps r ≤ 1048576) (hlog : r.log.small) (hvs : LgS ps) {R : Rp} (h1 : R.log = r.log) (h2 : R.votes = r.votes) (h3 : ∀ o ∈ O, o.msg.log.small) (h4 : O.length ≤ 80) : RoS ps R O := by
 refine ⟨by rw [h1]; exact hlog, fun qs hq => ?_, h3, h4⟩
 rw [h2] at hq
 refine ⟨LgS.congr (he.trans hq.symm) hvs, ?_, ?_⟩
 ·have := congrArg List.length (he.trans hq.symm)
  simp at this
  unfold rpN at hn
  omega
 ·have := rpK_less (he.trans hq.symm) hn
  unfold rpK at this ⊢
  rw [h1]
  exact this
theorem RoS.nil {ps : List VtE} {R : Rp} {O : List Ot} (h1 : R.log = Lg.none) (h2 : R.votes = []) (h3 : O = []) : RoS ps R O := by
 subst h3
 refine ⟨by rw [h1]; exact ⟨by decide, by decide, by decide⟩, fun qs hq => ?_, by simp, by simp⟩
 rw [h2] at hq
 obtain rfl : qs = [] := by simpa using hq
 refine ⟨fun p hp => (List.not_mem_nil hp).elim, Nat.zero_le _, ?_⟩
 unfold rpK
 rw [h1]
 decide
theorem allTo_log {me : Int} {m : Mg} : ∀ k, ∀ o ∈ allTo me m k, o.msg = m
 | 0, o, h => (List.not_mem_nil h).elim
 | k + 1, o, h => by
  rw [allTo_next, List.mem_append] at h
  rcases h with h | h
  ·exact allTo_log k o h
  ·split at h
   ·rw [Mi] at h; rw [h]
   ·exact (List.not_mem_nil h).elim
def sHearB (r : Rp) (m : Mg) (kind : Int) : Bool := sFits m && ((m.kind == kind) && ((kind == 1) || (decide (m.frm < r.of) && (m.frm != r.me))))
theorem hear_eq {r : Rp} {m : Mg} {kind : Int} (h70 : sHas (iForm kind) 70 = true) (h102 : sHas (sForm kind) 102 = true) (hne : (kind == 1) = false) : hearB r m kind = sHearB r m kind := by
 unfold hearB sHearB
 rw [fits_eq, h70, hne]
 cases hf : sFits m
 ·rfl
 ·cases hk : (m.kind == kind)
  ·rfl
  ·have hk' : m.kind = kind := by simpa using hk
   have h1 : sN m (sForm m.kind) 1 = true := by
    unfold sFits at hf
    simp only [Bool.and_eq_true] at hf
    exact hf.2.1
   rw [hk'] at h1
   simp only [sN, numOk, h102, Bool.true_and, Bool.not_true, Bool.false_and, Bool.or_false, inB, Bool.and_eq_true, decide_eq_true_eq] at h1
   have h2 : inB m.frm 0 (r.of - 1) = decide (m.frm < r.of) := by
    unfold inB
    rw [Bool.eq_iff_iff]
    simp
    omega
   rw [h2]
   simp
set_option maxRecDepth 100000 in
set_option maxHeartbeats 8000000 in
theorem c_l6Hears (a : LAd) (A : Option Addr) (c : Nat) (ps : List VtE) (r : Rp) (am : LAd) (m : Mg) (kind : Int) (w : World) (hr : RpR w a A c ps r) (hs : r.log.small) (hn : ps.length ≤ 1048576) (hv : LgS ps) (hm : LgR w am m.log) (hms : m.log.small) :
  Calls Tryz.prog 64 #[Rp.val a A ps.length c r, Mg.val am m, .int .i64 kind] w fun e w' => e = .returned (.bool (rpOk r && sHearB r m kind)) ∧ Ext w w' := by
 have X0 : Ext w ((w.alloc (Rp.obj a A ps.length c r)).alloc (Mg.obj am m)) := ext_to (ext_alloc _ _) _
 have hcon := c_sReplicaOk a A c ps r _ (hr.keep X0) hs hn hv
 have HFt := Hd (fun W (h : Ext w W) => c_sMsgFits am m W hms (hm.keep h))
 have D1 := Hd (hOld (o := Mg.obj am m) (hNew (w := w) (o := Rp.obj a A ps.length c r) rfl))
 have D2 := Hd (hNew (w := w.alloc (Rp.obj a A ps.length c r)) (o := Mg.obj am m) (k := w.heap.size + 1) (by simp))
 have HX0 := Hd X0
 obtain ⟨ff, hff⟩ : ∃ ff, sFits m = ff := ⟨_, rfl⟩
 have hfc := fun W (h : Ext w W) => HFt.out W h
 rw [hff] at hfc
 have HFc := Hd hfc
 obtain ⟨V, hV⟩ : ∃ V, (rpOk r && sHearB r m kind) = V := ⟨_, rfl⟩
 have HV := Hd (show V = (rpOk r && (ff && ((m.kind == kind) && ((kind == 1) || (decide (m.frm < r.of) && (m.frm != r.me)))))) by rw [← hV, ← hff]; rfl)
 rw [hV]
 clear X0 hr hv hs hm HFt hff hfc hV
 cases q : rpOk r
 ·rw [q] at hcon HV
  have HC := Hd hcon
  clear q hcon
  go_enter Tryz.func64, Tryz.ntmps64
  (go_wp2_with (with_reducible refine wl_stop 7 ?_); refine stop_load (D1.out) rfl Tryz.underlying43 (by kernel_rfl) ?_; simp only [Act.put, Sa, Sz, Ss])
  go_wp2_with fail
  refine HC.out.mono ?_
  rintro e w1 ⟨rfl, x1⟩
  have X1 := Hd (Ext.trans HX0.out x1)
  clear x1
  go_wp2
  go_ret
  exact ⟨ret_bool (by rw [HV.out]; rfl), X1.out⟩
 ·rw [q] at hcon HV
  have HC := Hd hcon
  clear q hcon
  go_enter Tryz.func64, Tryz.ntmps64
  (go_wp2_with (with_reducible refine wl_stop 7 ?_); refine stop_load (D1.out) rfl Tryz.underlying43 (by kernel_rfl) ?_; simp only [Act.put, Sa, Sz, Ss])
  go_wp2_with fail
  refine HC.out.mono ?_
  rintro e w1 ⟨rfl, x1⟩
  have E1 := Hd (x1.box D1.out)
  have E2 := Hd (x1.box D2.out)
  have X1 := Hd (Ext.trans HX0.out x1)
  clear x1 D1 D2
  (go_wp2_with (with_reducible refine wl_stop 11 ?_); refine stop_loadG (E2.out) rfl rfl Tryz.underlying60 (by kernel_rfl) ?_; simp only [Act.put, Sa, Sz, Ss])
  go_wp2_with fail
  refine (HFc.out _ X1.out).mono ?_
  rintro e w2 ⟨rfl, x2⟩
  have X2 := Hd (Ext.trans X1.out x2)
  have d1 := bx_cell (x2.box E1.out)
  have d2 := bx_cell (x2.box E2.out)
  have z1 := bx_lt (x2.box E1.out)
  have z2 := bx_lt (x2.box E2.out)
  clear x2 E1 E2 X1 HFc
  cases ff
  ·go_wp2
   go_ret
   exact ⟨ret_bool (by rw [HV.out]; rfl), X2.out⟩
  ·go_wp2
   all_goals
    go_ret
    refine ⟨ret_bool ?_, X2.out⟩
    rw [HV.out]
    (first | (simp [*]; done) | (simp_all; done) | (simp_all; omega))
def RoT (w : World) (R : Rp) (O : List Ot) (V : Value) : Prop := ∃ a A c qs Ao co os, V = .tuple #[Rp.val a A (List.length qs) c R, .slice Ao (List.length os) co] ∧ RpR w a A c qs R ∧ OsR w Ao co os ∧ List.map Prod.snd os = O ∧
 ∀ (w' : World) (p : Nat) (cs : Array Value), w.heap[p]? = some (.cells cs 43 (0, 0)) → Chg w w' [p] → RpR w' a A c qs R ∧ OsR w' Ao co os
def LgV8 (B : Nat) (l : Lg) (v : Value) (W : World) : Prop := ∃ a, v = Lg.val a l ∧ LgF W B a l
theorem LgV8.mono (B : Nat) (l : Lg) (p : Nat) (obj : Obj) (hp : p < B) : Rm.Mono (relS p obj B hp) (LgV8 B l) := fun v w w' ⟨a, h, hf⟩ hx => ⟨a, h, hf.chg1 hx.1 hp⟩
theorem LgV8.inv {B : Nat} {l : Lg} {a : LAd} {W : World} (h : LgV8 B l (Lg.val a l) W) : LgF W B a l := by
 obtain ⟨b, he, hf⟩ := h
 obtain ⟨a1, a2, a3, a4, a5, a6⟩ := a
 obtain ⟨b1, b2, b3, b4, b5, b6⟩ := b
 simp only [Value.agg.injEq, Array.mk.injEq, List.cons.injEq, Value.slice.injEq, true_and, and_true] at he
 obtain ⟨⟨rfl, rfl⟩, ⟨rfl, rfl⟩, rfl, rfl⟩ := he
 exact hf
set_option maxHeartbeats 1000000 in
theorem c_markMsg (a : LAd) (m : Mg) (B T : Nat) (k : Int) (w : World) (h : LgO w B T a m.log) (h0 : 0 ≤ k) (h1 : k ≤ 1000000000) (hs : m.log.small) :
  Calls Tryz.prog 27 #[Mg.val a m, .int .i64 k] w fun e w' => e = .returned (.int .i64 (k + m.log.mN)) ∧ Chg w w' a.fp := by
 have X0 := ext_alloc w (Mg.obj a m)
 have HL := Hd (h.kept X0)
 have HS := Hd hs
 clear h hs
 go_enter Tryz.func27, Tryz.ntmps27
 go_wp2_with fail
 refine (c_markLog a m.log B T k _ HL.out h0 h1 HS.out).mono ?_
 rintro e w1 ⟨rfl, o1, c1⟩
 have C1 := Hd c1
 clear o1 c1
 go_wp2
 go_ret
 exact ⟨rfl, (chg_ext _ X0).trans C1.out⟩
def MgV (m : Mg) (v : Value) (w : World) : Prop := ∃ a, v = Mg.val a m ∧ LgR w a m.log
theorem MgV.mono (m : Mg) : Mono (MgV m) := fun v w w' ⟨a, h, hr⟩ hx => ⟨a, h, hr.keep hx⟩
theorem c_eqMsgNew (b : LAd) (v : Value) (m : Mg) (hs : m.log.small) (W : World) (hb : LgR W b m.log) (hv : MgV m v W) : Calls Tryz.prog 26 #[Mg.val b m, v] W (fun e w' => e = .returned (.bool true) ∧ Ext W w') := by
 obtain ⟨c, rfl, hc⟩ := hv
 exact c_eqMsg_same b c m hs W hb hc
def RoV (R : Rp) (O : List Ot) (v : Value) (w : World) : Prop := RoT w R O v
theorem RoV.mono (R : Rp) (O : List Ot) : Mono (RoV R O) := fun v w w' ⟨a, A, c, qs, Ao, co, os, h1, h2, h3, h4, h5⟩ hx => ⟨a, A, c, qs, Ao, co, os, h1, h2.keep hx, h3.keep hx, h4, fun w2 p cs hp hc => by
 by_cases hlt : p < w.heap.size
 ·exact h5 w2 p cs ((hx.block p hlt).symm.trans hp) ((chg_ext [p] hx).trans hc)
 ·have hx2 : Ext w w2 := ext_chg hx hc (fun g hg => by rw [Mi] at hg; omega)
  exact ⟨h2.keep hx2, h3.keep hx2⟩⟩
theorem RoV.inv {R : Rp} {O : List Ot} {a : LAd} {A : Option Addr} {n c : Nat} {Ao : Option Addr} {k co : Nat} {W : World} (h : RoV R O (.tuple #[Rp.val a A n c R, .slice Ao k co]) W) : ∃ qs os, List.length qs = n ∧ List.length os = k ∧ List.map Prod.snd os = O ∧
  ∀ (w' : World) (p : Nat) (cs : Array Value), W.heap[p]? = some (.cells cs 43 (0, 0)) → Chg W w' [p] → RpR w' a A c qs R ∧ OsR w' Ao co os := by
 obtain ⟨b, A', c', qs, Ao', co', os, he, h1, h2, h3, h4⟩ := h
 obtain ⟨a1, a2, a3, a4, a5, a6⟩ := a
 obtain ⟨b1, b2, b3, b4, b5, b6⟩ := b
 simp only [Value.tuple.injEq, Array.mk.injEq, List.cons.injEq, Value.agg.injEq, Value.slice.injEq, true_and, and_true] at he
 obtain ⟨⟨⟨rfl, rfl⟩, ⟨rfl, rfl⟩, ⟨rfl, rfl⟩, rfl, rfl, rfl⟩, rfl, rfl, rfl⟩ := he
 exact ⟨qs, os, rfl, rfl, h3, h4⟩
theorem vsF_mks (A : Option Addr) (k : Int) (ps : List VtE) : vsF A (VtE.mks k ps) = vsF A ps := by
 have h : (VtE.mks k ps).map Prod.fst = ps.map Prod.fst := List.ext_getElem (by simp [VtE.mks_length]) (fun i h1 h2 => by
  rw [List.length_map] at h2
  simp only [List.getElem_map]
  rw [VtE.mks_at k h2])
 have e : ∀ l : List VtE, l.flatMap (fun p => p.1.fp) = (l.map Prod.fst).flatMap LAd.fp := fun l => by rw [List.flatMap_map]
 unfold vsF
 rw [e, e, h]
theorem RpHO.chgN {w w' : World} {B T : Nat} {a : LAd} {A : Option Addr} {c : Nat} {ps : List VtE} {r : Rp} {k : Int} {S : List Nat} (h : RpHO w B T a A c ps r k) (hg : Chg w w' S) (hne : ∀ x ∈ a.fp ++ vsF A ps, x ∉ S) : RpHO w' B T a A c ps r k :=
 ⟨h.l.chg hg (fun x hx => hne x (List.mem_append_left _ hx)), h.v.chg hg (fun x hx => hne x (List.mem_append_right _ (by rw [vsF_mks] at hx; exact hx)))⟩
theorem hear_small2 {ps : List VtE} {r : Rp} {m : Mg} {kind : Int} {R2 : Rp} {O : List Ot} (he : ps.map Prod.snd = r.votes) (hn : rpN ps r ≤ 1048576) (hlog : r.log.small) (hvs : LgS ps) (h : rpOk r = true → hearB r m kind = true → RoS ps R2 O) : RoS ps (hearR2 r m kind R2) (hearO r m kind O) := by
 unfold hearR2 hearO
 cases q : rpOk r
 ·exact RoS.nil rfl rfl rfl
 ·simp only [if_true, Bool.true_and]
  cases q2 : hearB r m kind
  ·exact RoS.same he hn hlog hvs rfl rfl (by simp) (by simp)
  ·simpa using h q q2
theorem RoY.rov {w : World} {B : Nat} {R : Rp} {O : List Ot} {v : Value} (h : RoY w B R O v) : RoT w R O v := by
 obtain ⟨a, A, c, qs, Ao, co, os, h1, h2, h3, h4, _⟩ := h
 refine ⟨a, A, c, qs, Ao, co, os, h1, h2.rd, h3.rd, h4, fun w' p cs hp hc => ⟨?_, ?_⟩⟩
 ·exact RpO.rd (h2.chgN hc (fun k hk hm => by rw [Mi] at hm; subst hm; exact h2.apartB hp (by decide) (by decide) (by decide) (by decide) hk))
 ·refine (h3.chg hc (fun k hk hm => ?_)).rd
  rw [Mi] at hm; subst hm
  rcases List.mem_append.1 hk with hk | hk
  ·exact box_apart hp h3.r (by decide) hk
  ·obtain ⟨q, hq, hk⟩ := List.mem_flatMap.1 hk
   exact lg_box_apart hp (h3.l q hq) (by decide) (by decide) (by decide) hk
theorem RoY.kept0 {w w' : World} {B p : Nat} {R : Rp} {O : List Ot} {a : LAd} {A : Option Addr} {c : Nat} {qs : List VtE} {Ao : Option Addr} {co : Nat} {os : List OtE} (h1 : RpO w B w.heap.size a A c qs R) (h2 : OsO w B w.heap.size Ao co os) (h3 : List.map Prod.snd os = O) (h4 : ∀ x ∈ a.fp ++ vsF A qs, x ∉ OtE.fps Ao os) (hg : Chg w w' [p]) (hp : p < B) {B' : Nat} (hB : B' ≤ B) :
  RoY w' B' R O (.tuple #[Rp.val a A (List.length qs) c R, .slice Ao (List.length os) co]) :=
 ⟨a, A, c, qs, Ao, co, os, rfl, (h1.chgAny hg (fun k hk _ hm => by rw [Mi] at hm; omega)).wide hB hg.size, (h2.chg hg (fun k hk hm => by rw [Mi] at hm; have := h2.low k hk; omega)).wide hB hg.size, h3, h4⟩
end Go.Proofs.YtkenlhdiehaemaaGreat
