/- l6Same of the reference. -/
import Derived.Test.YtkenlhdiehaemaaGreatC6
namespace Go.Proofs.YtkenlhdiehaemaaGreat
open Go.ChangeShapes Go.WideShapes Go.ChangeAt Go.RowKit Go.Sort
set_option linter.unusedVariables false
set_option linter.unusedSimpArgs false

def Rp.zero : Rp := ⟨0, 0, 0, 0, 0, 0, Lg.none, [], 0, 0⟩
def Rp.fallen (r : Rp) : Rp := ⟨r.me, r.of, 0, 0, 0, 0, Lg.none, [], r.cell, r.nonce⟩
def sameR (r : Rp) : Rp := if rpOk r = true then r else Rp.zero
def crashR (r : Rp) : Rp := if rpOk r = true then (if (r.mode == 0) = true then r else r.fallen) else Rp.zero
/-- a value that reads as that replica, of which no row lies below B -/
def RpW (w : World) (B : Nat) (R : Rp) (v : Value) : Prop := ∃ a A c qs, v = Rp.val a A (List.length qs) c R ∧ RpF w B a A c qs R
/-- a value that is that replica, the call's own -/
def RpX (w : World) (B T : Nat) (R : Rp) (v : Value) : Prop := ∃ a A c qs, v = Rp.val a A (List.length qs) c R ∧ RpO w B T a A c qs R
theorem RpF.none (w : World) (B : Nat) (R : Rp) (hl : R.log = Lg.none) (hv : R.votes = []) : RpF w B LAd.none Option.none 0 [] R := ⟨by rw [hl]; exact LgF.zero _ _, RdF.nil _ _ _ _ _, by simp, by rw [hv]; rfl⟩
theorem LgO.none (w : World) (B T : Nat) : LgO w B T LAd.none Lg.none := ⟨World.ownsRow_nil _ _ _ _, World.ownsRow_nil _ _ _ _, World.ownsRow_nil _ _ _ _, by simp [LAd.fp, LAd.none, blk], by simp [LAd.fp, LAd.none, blk]⟩
theorem RpO.none (w : World) (B T : Nat) (R : Rp) (hl : R.log = Lg.none) (hv : R.votes = []) : RpO w B T LAd.none Option.none 0 [] R := ⟨by rw [hl]; exact LgO.none _ _ _, ⟨World.ownsRow_nil _ _ _ _, by simp, by simp [blk], by simp [blk]⟩, by rw [hv]; rfl, by simp [LAd.fp, LAd.none, blk]⟩
theorem RpO.chg1 {w w' : World} {B T g : Nat} {a : LAd} {A : Option Addr} {c : Nat} {ps : List VtE} {r : Rp} (h : RpO w B T a A c ps r) (hg : Chg w w' [g]) (hlt : g < B) : RpO w' B T a A c ps r :=
  ⟨h.l.chg1 hg hlt, h.v.chg hg (fun k hk hm => by rw [List.mem_singleton] at hm; have := (h.v.low k hk).1; omega), h.e, h.d⟩
theorem RpO.wide {w : World} {B B' T T' : Nat} {a : LAd} {A : Option Addr} {c : Nat} {ps : List VtE} {r : Rp} (h : RpO w B T a A c ps r) (hB : B' ≤ B) (hT : T ≤ T') : RpO w B' T' a A c ps r := ⟨h.l.wide hB hT, h.v.wide hB hT, h.e, h.d⟩

set_option maxRecDepth 100000 in
set_option maxHeartbeats 4000000 in
theorem c_l6Same (a : LAd) (A : Option Addr) (c : Nat) (ps : List VtE) (r : Rp) (w : World) (hr : RpR w a A c ps r) (hs : r.log.small) (hn : ps.length ≤ 1048576) (hv : LgS ps) :
    Calls Tryz.prog 63 #[Rp.val a A ps.length c r] w fun e w' => ∃ v, e = .returned v ∧ RpW w' w.heap.size (sameR r) v ∧ Ext w w' := by
  have X0 : Ext w ((w.alloc (Rp.obj a A ps.length c r)).alloc Rp.zobj) := ext_to (ext_alloc _ _) _
  have hcon := c_sReplicaOk a A c ps r _ (hr.keep X0) hs hn hv
  have HCp := Lib.hid (fun W (h : Ext w W) => c_l6Copy a A c ps r W (hr.keep h) hs hn hv)
  cases q : rpOk r
  · rw [q] at hcon
    have HC := Lib.hid hcon
    have HR := Lib.hid (show sameR r = Rp.zero by simp [sameR, q])
    clear q hcon hr hs hv
    go_enter Tryz.func63, Tryz.ntmps63
    go_wp2_with fail
    refine HC.out.mono ?_
    rintro e w1 ⟨rfl, x1⟩
    have B2 := x1.box (hNew (w := w.alloc (Rp.obj a A ps.length c r)) (o := Rp.zobj) rfl)
    rw [sz_alloc] at B2
    have HB := Lib.hid B2
    clear B2
    go_wp2_with (with_reducible refine wl_stopS 43 ?_)
    refine stop_store (w.heap.size + 1) #[.int .i64 0, .int .i64 0, .int .i64 0, .int .i64 0, .int .i64 0, .int .i64 0, .int .i64 0, .slice none 0 0, .slice none 0 0, .slice none 0 0, .slice none 0 0, .int .i64 0, .int .i64 0] rfl rfl HB.out (by kernel_rfl) rfl (by simp [Value.oneCell']) ?_
    intro W4 E4 C4
    have hX4 := Lib.hid (chg_new (Ext.trans X0 x1) C4 (by omega))
    go_wp2
    refine bodyPost_ret (results_box Tryz.results63 rfl Tryz.underlying43 (by kernel_rfl) E4) rfl ⟨_, rfl, ?_, hX4.out⟩
    rw [HR.out]
    exact ⟨LAd.none, none, 0, [], rfl, RpF.none _ _ _ rfl rfl⟩
  · rw [q] at hcon
    have HC := Lib.hid hcon
    have HR := Lib.hid (show sameR r = r by simp [sameR, q])
    clear q hcon hr hs hv
    go_enter Tryz.func63, Tryz.ntmps63
    go_wp2_with fail
    refine HC.out.mono ?_
    rintro e w1 ⟨rfl, x1⟩
    have b1 := bx_cell (x1.box (hOld (o := Rp.zobj) (hNew (w := w) (o := Rp.obj a A ps.length c r) rfl)))
    go_wp2_with fail
    refine (HCp.out _ (Ext.trans X0 x1)).mono ?_
    rintro e w2 ⟨a', A', c', qs, rfl, hl, hF, x2⟩
    have B2 := x2.box (x1.box (hNew (w := w.alloc (Rp.obj a A ps.length c r)) (o := Rp.zobj) rfl))
    rw [sz_alloc] at B2
    have HB := Lib.hid B2
    have HF := Lib.hid hF
    have hsz : w.heap.size + 1 + 1 ≤ w1.heap.size := by have := x1.size; simp only [sz_alloc] at this; omega
    have HX := Lib.hid (Ext.trans (Ext.trans X0 x1) x2)
    clear B2 hF b1
    go_wp2_with (with_reducible refine wl_stopS 43 ?_)
    refine stop_store (w.heap.size + 1) #[.int .i64 r.me, .int .i64 r.of, .int .i64 r.mode, .int .i64 r.view, .int .i64 r.normal, .int .i64 r.commit, .int .i64 r.log.base, .slice a'.cA r.log.cells.length a'.cc, .slice a'.sA r.log.seats.length a'.sc, .slice a'.eA r.log.ents.length a'.ec, .slice A' ps.length c', .int .i64 r.cell, .int .i64 r.nonce] rfl rfl HB.out (by kernel_rfl) rfl (by simp [Value.oneCell']) ?_
    intro W4 E4 C4
    have hX4 := Lib.hid (chg_new HX.out C4 (by omega))
    have hF4 := Lib.hid ((HF.out.chg C4 (fun k hk => by simp only [List.mem_singleton] at hk; omega)).less (show w.heap.size ≤ w1.heap.size by omega))
    clear C4
    go_wp2
    refine bodyPost_ret (results_box Tryz.results63 rfl Tryz.underlying43 (by kernel_rfl) E4) rfl ⟨_, rfl, ?_, hX4.out⟩
    rw [HR.out]
    exact ⟨a', A', c', qs, by rw [hl], hF4.out⟩

theorem RpW.chg {w w' : World} {B : Nat} {R : Rp} {v : Value} {S : List Nat} (h : RpW w B R v) (hg : Chg w w' S) (hS : ∀ k ∈ S, k < B) : RpW w' B R v := by
  obtain ⟨a, A, c, qs, hv, hF⟩ := h
  exact ⟨a, A, c, qs, hv, hF.chg hg hS⟩
theorem RpW.less {w : World} {B B' : Nat} {R : Rp} {v : Value} (h : RpW w B R v) (hB : B' ≤ B) : RpW w B' R v := by
  obtain ⟨a, A, c, qs, hv, hF⟩ := h
  exact ⟨a, A, c, qs, hv, hF.less hB⟩
end Go.Proofs.YtkenlhdiehaemaaGreat
