/- The messages to all others, of the reference. -/
import Derived.Test.YtmpjokdidomafaaGreatRs
namespace Go.Proofs.YtmpjokdidomafaaGreat
open Go.ChangeShapes Go.WideShapes Go.ChangeAt Go.RowKit Go.Sort
set_option linter.unusedVariables false
set_option linter.unusedSimpArgs false

theorem LgF.besideO {w w' : World} {B B' : Nat} {a : LAd} {l : Lg} {A : Option Addr} {n c : Nat} {qs : List OtE} (h : LgF w B a l) (k : Ow OtE.enc 83 18 w B' (.slice A n c) qs) (hg : Chg w w' (blk A)) : LgF w' B a l :=
  ⟨h.c.chg Cel.len hg (fun hl x hx => (h.c.2 hl).apart k (by decide) x hx), h.s.chg Sea.len hg (fun hl x hx => (h.s.2 hl).apart k (by decide) x hx), h.e.chg Ent.len hg (fun hl x hx => (h.e.2 hl).apart k (by decide) x hx)⟩
theorem LgF.chg1 {w w' : World} {B g : Nat} {a : LAd} {l : Lg} (h : LgF w B a l) (hg : Chg w w' [g]) (hlt : g < B) : LgF w' B a l := h.chg hg (fun k hk => by rw [List.mem_singleton] at hk; omega)
/-- what is sent reads so, its rows in new blocks -/
def OsF (w : World) (B : Nat) (os : List OtE) : Prop := ∀ p ∈ os, LgF w B p.1 p.2.msg.log

set_option maxRecDepth 100000 in
set_option maxHeartbeats 4000000 in
theorem c_l6All (a : LAd) (A : Option Addr) (n c : Nat) (r : Rp) (am : LAd) (m : Mg) (w : World) (N : Nat) (hN : r.of = (N : Int)) (hN10 : N ≤ 10) (hm : LgR w am m.log) (hs : m.log.small) :
    Calls Tryz.prog 34 #[Rp.val a A n c r, Mg.val am m] w fun e w' => ∃ A' c' os, e = .returned (.slice A' (List.length os) c') ∧ List.map Prod.snd os = allTo r.me m N ∧ Ow OtE.enc 83 18 w' w.heap.size (.slice A' (List.length os) c') os ∧ OsF w' w.heap.size os ∧ Ext w w' := by
  obtain ⟨i0, hi, hz0, hz1, hz2⟩ := info_parts Tryz.infoOt
  have X0 : Ext w ((w.alloc (Rp.obj a A n c r)).alloc (Mg.obj am m)) := ext_to (ext_alloc _ _) _
  have HX0 := Lib.hid X0
  have HM := Lib.hid hm
  have HN := Lib.hid hN
  have D1 := Lib.hid (hOld (o := Mg.obj am m) (hNew (w := w) (o := Rp.obj a A n c r) rfl))
  have D2 := hNew (w := w.alloc (Rp.obj a A n c r)) (o := Mg.obj am m) rfl
  rw [sz_alloc] at D2
  have HD2 := Lib.hid D2
  clear X0 hm hN D2
  go_enter Tryz.func34, Tryz.ntmps34
  go_wp2
  go_loopw [5, 6] (fun v i wr => ∃ (k : Nat) (os : List OtE), k ≤ N ∧ i = .int .i64 k ∧ List.map Prod.snd os = allTo r.me m k ∧ Ow OtE.enc 83 18 wr (w.heap.size + 1 + 1) v os ∧ OsF wr (w.heap.size + 1 + 1) os ∧ Ext ((w.alloc (Rp.obj a A n c r)).alloc (Mg.obj am m)) wr) (fun _ i _ => N - (intOf i).toNat)
  case atStart => exact ⟨0, [], Nat.zero_le _, rfl, rfl, own_empty (hNew (by simp)) (by simp), fun p hp => (List.not_mem_nil hp).elim, ext_alloc _ _⟩
  case round =>
    obtain ⟨k, os, hkN, rfl, hos, ho, hF, X⟩ := hrel
    obtain ⟨A1, c1, rfl⟩ := ho.form
    have HOS := Lib.hid hos
    have HO := Lib.hid ho
    have HF := Lib.hid hF
    have hl' : os.length ≤ k := by
      have h1 := congrArg List.length hos
      rw [List.length_map] at h1
      have := allTo_len r.me m k
      omega
    have E1 := Lib.hid (X.box D1.out)
    have E2 := Lib.hid (X.box HD2.out)
    have b1 := bx_cell E1.out
    have z1 := bx_lt E1.out
    have hsz := X.size
    simp only [sz_alloc] at hsz
    have HX := Lib.hid X
    clear ho hF hos X
    by_cases hlt : k < N
    · have hg : decide ((k : Int) < r.of) = true := by have := HN.out; simp; omega
      cases hb : ((k : Int) != r.me)
      · have HN' := Lib.hid (HOS.out.trans (allTo_no hb).symm)
        go_wp2
        go_roundw
        case rel => exact ⟨k + 1, os, by omega, by go_num, HN'.out, HO.out, HF.out, HX.out⟩
        case measure => simp [intOf] <;> omega
      · (go_wp2_with (with_reducible refine wl_stop 19 ?_); refine stop_load (E2.out) rfl Tryz.underlying63 (by kernel_rfl) ?_; simp only [Act.put, List.setIfInBounds_toArray, List.set_cons_zero, List.set_cons_succ])
        have Z := Lib.hid (hNew (w := wr) (o := Mg.zobj) rfl)
        (go_wp2_with (with_reducible refine wl_stopS 63 ?_); refine stop_store (wr.heap.size) (Mg.cs am m) rfl rfl (Z.out) (by kernel_rfl) rfl (by simp [Value.oneCell']) ?_)
        intro W3 e3 k3
        have x3 := chg_new (ext_alloc wr Mg.zobj) k3 (Nat.le_refl _)
        have E3 := Lib.hid e3
        have F2 := Lib.hid (x3.box E2.out)
        have HX3 := Lib.hid x3
        have hs3 := bx_lt e3
        clear b1 z1 e3 k3 x3 Z
        have f2 := bx_cell F2.out
        have y2 := bx_lt F2.out
        go_wp2_with fail
        refine (c_l3Copy am m.log hs W3 (HM.out.keep (Ext.trans HX0.out (Ext.trans HX.out HX3.out)))).mono ?_
        rintro e w4 ⟨a4, rfl, o4, x4⟩
        have G3 := x4.box E3.out
        have g3 := bx_cell G3
        have h3 := bx_frozen G3
        have y3 := bx_lt G3
        have P3 := box_put (box_put (box_put (box_put G3 13 (.int .i64 m.log.base)) 14 (.slice a4.cA m.log.cells.length a4.cc)) 15 (.slice a4.sA m.log.seats.length a4.sc)) 16 (.slice a4.eA m.log.ents.length a4.ec)
        simp only [List.setIfInBounds_toArray, List.set_cons_zero, List.set_cons_succ] at P3
        have hcs := chg_set (chg_set (chg_set (chg_set (Chg.refl w4 [wr.heap.size]) (p := ⟨wr.heap.size, 13, none⟩) (by simp) (.int .i64 m.log.base)) (p := ⟨wr.heap.size, 14, none⟩) (by simp) (.slice a4.cA m.log.cells.length a4.cc)) (p := ⟨wr.heap.size, 15, none⟩) (by simp) (.slice a4.sA m.log.seats.length a4.sc)) (p := ⟨wr.heap.size, 16, none⟩) (by simp) (.slice a4.eA m.log.ents.length a4.ec)
        have x34 := Ext.trans HX3.out x4
        have HP3 := Lib.hid P3
        have HL4 := Lib.hid ((o4.less (B' := wr.heap.size + 1) (by omega)).chg1 hcs (by omega))
        have HX5 := Lib.hid (chg_new x34 hcs (Nat.le_refl _))
        clear f2 y2 G3 P3 hcs x34 x4 o4
        go_wp2_with (with_reducible refine wl_stop 26 ?_)
        refine stop_go (F := fun W => W.heap[wr.heap.size]? = some (Mg.obj a4 m) ∧ LgF W (wr.heap.size + 1) a4 m.log ∧ Ext wr W) ⟨HP3.out, HL4.out, HX5.out⟩ ?_
        intro W6 ⟨E6, L6, X6⟩
        have HE6 := Lib.hid E6
        have HR6 := Lib.hid (HO.out.kept X6)
        have HF6 := Lib.hid (show OsF W6 (w.heap.size + 1 + 1) (os ++ [(a4, (⟨k, m⟩ : Ot))]) from fun p hp => by
          rcases List.mem_append.1 hp with hp | hp
          · exact (HF.out p hp).keep X6
          · rw [List.mem_singleton] at hp
            subst hp
            exact L6.less (by omega))
        have HX6 := Lib.hid (Ext.trans HX.out X6)
        have hs6 := X6.size
        clear g3 h3 y3 E6 L6 X6 HL4 HP3 HX5
        refine stop_load (HE6.out) rfl Tryz.underlying63 (by kernel_rfl) ?_
        simp only [Act.put, List.setIfInBounds_toArray, List.set_cons_zero, List.set_cons_succ]
        go_wp2_with (at_builtin; refine wl_app (enc := OtE.enc) rfl _ _ 43 rfl (w.heap.size + 1 + 1) 83 i0 Ot.zero 18 192 Tryz.underlying43 hi hz0 hz1 hz2 rfl (by decide) OtE.len OtE.one (.slice A1 os.length c1) os rfl (HR6.out.kept (ext_alloc _ _)) (some ⟨W6.heap.size, 0, none⟩) 1 [(a4, (⟨k, m⟩ : Ot))] 1 rfl rfl (Rd.one (hNew rfl) rfl) ?c1 ?c2 ?c3 ?_)
        case c1 => unfold maxLen; simp; omega
        case c2 => simp; omega
        case c3 => simp; omega
        intro v' w7 ho7 hg7
        have c7 := chg_grown hg7
        have HX7 := Lib.hid (ext_chg (ext_to HX6.out (.cells (OtE.cells a4 ⟨k, m⟩) 83)) c7 (fun g hg => by have := (HR6.out.inB g hg).1; simp only [sz_alloc]; omega))
        have HF7 := Lib.hid (show OsF w7 (w.heap.size + 1 + 1) (os ++ [(a4, (⟨k, m⟩ : Ot))]) from fun p hp => ((HF6.out p hp).keep (ext_alloc _ (.cells (OtE.cells a4 ⟨k, m⟩) 83))).besideO (HR6.out.kept (ext_alloc _ _)) c7)
        have HO7 := Lib.hid ho7
        have HN' := Lib.hid (show List.map Prod.snd (os ++ [(a4, (⟨k, m⟩ : Ot))]) = allTo r.me m (k + 1) by rw [allTo_yes hb, ← HOS.out]; simp)
        clear ho7 hg7 c7
        go_wp2
        go_roundw
        case rel => exact ⟨k + 1, _, by omega, by go_num, HN'.out, HO7.out, HF7.out, HX7.out⟩
        case measure => simp [intOf] <;> omega
    · obtain rfl : k = N := by omega
      have hg : decide ((k : Int) < r.of) = false := by have := HN.out; simp; omega
      go_wp2
      go_ret
      exact ⟨A1, c1, os, rfl, HOS.out, HO.out.less (by omega), fun p hp => (HF.out p hp).less (by omega), Ext.trans HX0.out HX.out⟩
end Go.Proofs.YtmpjokdidomafaaGreat
