/- Marks of replicas and of what is sent: they stay in their own blocks; their numbers stay small. -/
import Derived.Test.YtkenlhdiehaemaaGreatGg
import Derived.Test.YtkenlhdiehaemaaGreatGf
namespace Go.Proofs.YtkenlhdiehaemaaGreat
open Go.ChangeShapes Go.WideShapes Go.ChangeAt Go.RowKit Go.Sort
set_option linter.unusedVariables false
set_option linter.unusedSimpArgs false

/-- how an own replica is when it is marked -/
structure RpHO (w : World) (B T : Nat) (a : LAd) (A : Option Addr) (c : Nat) (ps : List VtE) (r : Rp) (k : Int) : Prop where
  l : LgO w B T a (r.log.mk' k r.log.base)
  v : VsO w B T A c (VtE.mks (k + r.log.mN) ps)
theorem RpHO.rd {w : World} {B T : Nat} {a : LAd} {A : Option Addr} {c : Nat} {ps : List VtE} {r : Rp} {k : Int} (h : RpHO w B T a A c ps r k) : RpH w a A c ps r k := ⟨h.l.rd, h.v.rd⟩
theorem RpHO.kept {w w' : World} {B T : Nat} {a : LAd} {A : Option Addr} {c : Nat} {ps : List VtE} {r : Rp} {k : Int} (h : RpHO w B T a A c ps r k) (hx : Ext w w') : RpHO w' B T a A c ps r k := ⟨h.l.kept hx, h.v.kept hx⟩
theorem RpHO.chg {w w' : World} {B T : Nat} {a : LAd} {A : Option Addr} {c : Nat} {ps : List VtE} {r : Rp} {k : Int} {S : List Nat} (h : RpHO w B T a A c ps r k) (hg : Chg w w' S) (hne : ∀ x, B ≤ x → x < T → x ∉ S) : RpHO w' B T a A c ps r k :=
  ⟨h.l.chg hg (fun x hx => hne x (h.l.low x hx) (h.l.top x hx)), h.v.chg hg (fun x hx => hne x (h.v.low x hx).1 (h.v.top x hx))⟩
set_option maxHeartbeats 1000000 in
theorem c_markReplicaO (a : LAd) (A : Option Addr) (c : Nat) (ps : List VtE) (r : Rp) (B T : Nat) (k : Int) (w : World) (h : RpO w B T a A c ps r) (h0 : 0 ≤ k) (hk : rpK k ps r ≤ 1000000000) (hs : r.log.small) (hv : LgS ps) (hn : ps.length ≤ 1048576) :
    Calls Tryz.prog 18 #[Rp.val a A ps.length c r, .int .i64 k] w fun e w' => e = .returned (.int .i64 (rpK k ps r)) ∧ RpHO w' B T a A c ps r k ∧ Chg w w' (a.fp ++ vsF A ps) := by
  have X0 := ext_alloc w (Rp.obj a A ps.length c r)
  have hm := r.log.mN_pos
  have hg := VtE.Ks_ge (k + r.log.mN) ps ps.length
  have hk1 : k ≤ 1000000000 := by unfold rpK at hk; omega
  have H := Lib.hid h
  have HL := Lib.hid (h.l.kept X0)
  have HV := Lib.hid (h.v.kept X0)
  have HS := Lib.hid hs
  have HVS := Lib.hid hv
  have HK := Lib.hid hk
  clear h hs hv hk hg
  go_enter Tryz.func18, Tryz.ntmps18
  go_wp2_with fail
  refine (c_markLog a r.log B T k _ HL.out h0 hk1 HS.out).mono ?_
  rintro e w1 ⟨rfl, o1, c1⟩
  have B1 := (c1.block w.heap.size (by simp) (fun hm => by have := H.out.l.lt _ hm; omega)).trans (hNew (w := w) (o := Rp.obj a A ps.length c r) rfl)
  have b1 := bx_cell B1
  have f1 := bx_frozen B1
  have z1 := bx_lt B1
  have O1 := Lib.hid o1
  have C1 := Lib.hid c1
  have HV1 := Lib.hid (HV.out.chg c1 (fun x hx hm => H.out.d x hm hx))
  clear o1 c1 B1
  go_wp2_with fail
  refine (c_markVoteS A c ps B T (k + r.log.mN) _ HV1.out (by omega) HK.out HVS.out hn).mono ?_
  rintro e w2 ⟨rfl, o2, c2⟩
  have O2 := Lib.hid o2
  have C2 := Lib.hid (show Chg w1 w2 (vsF A ps) from c2)
  clear o2 c2
  go_wp2
  go_ret
  refine ⟨rfl, ⟨O1.out.chg C2.out (fun x hx hm => H.out.d x hx hm), O2.out⟩, ?_⟩
  exact (chg_ext _ X0).trans ((C1.out.more (fun x hx => List.mem_append_left _ hx)).trans (C2.out.more (fun x hx => List.mem_append_right _ hx)))
theorem rpK_less {ps qs : List VtE} {r : Rp} (h : ps.map Prod.snd = qs.map Prod.snd) (hn : rpN ps r ≤ 1048576) : rpK 1 qs r ≤ 20000000 := by
  have hl : qs.length = ps.length := by simpa using (congrArg List.length h).symm
  have h1 := Ks_bound (1 + r.log.mN) qs qs.length (Nat.le_refl _)
  have h2 := mN_lgN r.log
  have h3 := vsN_congr h ps.length
  unfold rpK
  unfold rpN at hn
  rw [hl] at h1 ⊢
  rw [← h3] at h1
  omega
theorem OKs_bound (k : Int) (os : List OtE) (hs : ∀ p ∈ os, p.2.msg.log.small) : ∀ j, j ≤ os.length → OtE.Ks k os j ≤ k + 10485775 * j
  | 0, _ => by simp [OtE.Ks]
  | j + 1, hj => by
    have ih := OKs_bound k os hs j (by omega)
    have h1 := OtE.Ks_next k (ps := os) (j := j) (by omega)
    have h2 := Lg.mN_small _ (hs _ (List.getElem_mem (show j < os.length by omega)))
    have h4 : (os[j]'(by omega)).2.mN = 15 + (os[j]'(by omega)).2.msg.log.mN := rfl
    rw [h1, h4]
    omega
/-- what the marks need: of the replica R and what is sent O -/
structure RoS (ps : List VtE) (R : Rp) (O : List Ot) : Prop where
  log : R.log.small
  vs : ∀ qs : List VtE, qs.map Prod.snd = R.votes → LgS qs ∧ qs.length ≤ 1048576 ∧ rpK 1 qs R ≤ 20000000
  os : ∀ o ∈ O, o.msg.log.small
  len : O.length ≤ 10
theorem RoS.outs {ps : List VtE} {R : Rp} {O : List Ot} (h : RoS ps R O) {os : List OtE} (he : os.map Prod.snd = O) : (∀ p ∈ os, p.2.msg.log.small) ∧ os.length ≤ 1048576 ∧ ∀ k : Int, k ≤ 20000000 → OtE.Ks k os os.length ≤ 1000000000 := by
  have h1 : ∀ p ∈ os, p.2.msg.log.small := fun p hp => h.os _ (by rw [← he]; exact List.mem_map_of_mem hp)
  have h2 : os.length ≤ 10 := by have := h.len; rw [← he, List.length_map] at this; exact this
  refine ⟨h1, by omega, fun k hk => ?_⟩
  have := OKs_bound k os h1 os.length (Nat.le_refl _)
  omega
theorem OtE.fps_in {w : World} {B T : Nat} {A : Option Addr} {c : Nat} {ps : List OtE} (h : OsO w B T A c ps) : ∀ k ∈ OtE.fps A ps, B ≤ k ∧ k < T := fun k hk => ⟨h.low k hk, h.top k hk⟩
theorem RoS.same {ps : List VtE} {r : Rp} {O : List Ot} (he : ps.map Prod.snd = r.votes) (hn : rpN ps r ≤ 1048576) (hlog : r.log.small) (hvs : LgS ps) {R : Rp} (h1 : R.log = r.log) (h2 : R.votes = r.votes) (h3 : ∀ o ∈ O, o.msg.log.small) (h4 : O.length ≤ 10) : RoS ps R O := by
  refine ⟨by rw [h1]; exact hlog, fun qs hq => ?_, h3, h4⟩
  rw [h2] at hq
  refine ⟨LgS.congr (he.trans hq.symm) hvs, ?_, ?_⟩
  · have := congrArg List.length (he.trans hq.symm)
    simp at this
    unfold rpN at hn
    omega
  · have := rpK_less (he.trans hq.symm) hn
    unfold rpK at this ⊢
    rw [h1]
    exact this
theorem RoS.nil {ps : List VtE} {R : Rp} {O : List Ot} (h1 : R.log = Lg.none) (h2 : R.votes = []) (h3 : O = []) : RoS ps R O := by
  subst h3
  refine ⟨by rw [h1]; exact ⟨by decide, by decide, by decide⟩, fun qs hq => ?_, by simp, by simp⟩
  rw [h2] at hq
  obtain rfl : qs = [] := by simpa using hq
  refine ⟨fun p hp => (List.not_mem_nil hp).elim, Nat.zero_le _, ?_⟩
  unfold rpK
  rw [h1]
  decide
theorem allTo_log {me : Int} {m : Mg} : ∀ k, ∀ o ∈ allTo me m k, o.msg = m
  | 0, o, h => (List.not_mem_nil h).elim
  | k + 1, o, h => by
    rw [allTo_next, List.mem_append] at h
    rcases h with h | h
    · exact allTo_log k o h
    · split at h
      · rw [List.mem_singleton] at h; rw [h]
      · exact (List.not_mem_nil h).elim
end Go.Proofs.YtkenlhdiehaemaaGreat
