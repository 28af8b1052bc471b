/- The laws' own functions on votes. -/
import Derived.Test.YtmphedkbdlckhaaGreatDm
namespace Go.Proofs.YtmphedkbdlckhaaGreat
open Go.ChangeShapes Go.WideShapes Go.ChangeAt Go.RowKit Go.Sort
set_option linter.unusedVariables false
set_option linter.unusedSimpArgs false

set_option maxHeartbeats 1000000 in
theorem c_toVote (a : LAd) (v : Vt) (w : World) (hr : LgR w a v.log) (hn : v.log.cells.length ≤ 1048576) (hm : v.log.seats.length ≤ 1048576) (ho : v.log.ents.length ≤ 1048576) :
    Calls Tryz.prog 108 #[.agg #[.int .i64 v.kind, .int .i64 v.frm, .int .i64 v.view, .int .i64 v.normal, .int .i64 v.op, .int .i64 v.commit, .int .i64 v.log.base, .slice a.cA v.log.cells.length a.cc, .slice a.sA v.log.seats.length a.sc, .slice a.eA v.log.ents.length a.ec]] w fun e w' => ∃ a' : LAd, e = .returned (.agg #[.int .i64 v.kind, .int .i64 v.frm, .int .i64 v.view, .int .i64 v.normal, .int .i64 v.op, .int .i64 v.commit, .int .i64 v.log.base, .slice a'.cA v.log.cells.length a'.cc, .slice a'.sA v.log.seats.length a'.sc, .slice a'.eA v.log.ents.length a'.ec]) ∧
      LgO w' w.heap.size w'.heap.size a' v.log ∧ Ext w w' := by
  have X0 : Ext w (((w.alloc (.cells #[.int .i64 v.kind, .int .i64 v.frm, .int .i64 v.view, .int .i64 v.normal, .int .i64 v.op, .int .i64 v.commit, .int .i64 v.log.base, .slice a.cA v.log.cells.length a.cc, .slice a.sA v.log.seats.length a.sc, .slice a.eA v.log.ents.length a.ec] 138)).alloc (.cells #[.int .i64 0, .int .i64 0, .int .i64 0, .int .i64 0, .int .i64 0, .int .i64 0, .int .i64 0, .slice none 0 0, .slice none 0 0, .slice none 0 0] 93)).alloc (.cells #[.int .i64 v.kind, .int .i64 v.frm, .int .i64 v.view, .int .i64 v.normal, .int .i64 v.op, .int .i64 v.commit, .int .i64 0, .slice none 0 0, .slice none 0 0, .slice none 0 0] 93)) := ext_to (ext_to (ext_alloc _ _) _) _
  go_enter Tryz.func108, Tryz.ntmps108
  go_wp2_with fail
  refine (c_toLog a v.log _ (hr.keep X0) hn hm ho).mono ?_
  rintro e w1 ⟨a', rfl, o1, x1⟩
  simp only [sz_alloc] at o1
  have B1 := x1.box (hOld (o := .cells #[.int .i64 v.kind, .int .i64 v.frm, .int .i64 v.view, .int .i64 v.normal, .int .i64 v.op, .int .i64 v.commit, .int .i64 0, .slice none 0 0, .slice none 0 0, .slice none 0 0] 93) (hNew (w := w.alloc (.cells #[.int .i64 v.kind, .int .i64 v.frm, .int .i64 v.view, .int .i64 v.normal, .int .i64 v.op, .int .i64 v.commit, .int .i64 v.log.base, .slice a.cA v.log.cells.length a.cc, .slice a.sA v.log.seats.length a.sc, .slice a.eA v.log.ents.length a.ec] 138)) (o := .cells #[.int .i64 0, .int .i64 0, .int .i64 0, .int .i64 0, .int .i64 0, .int .i64 0, .int .i64 0, .slice none 0 0, .slice none 0 0, .slice none 0 0] 93) rfl))
  have B2 := x1.box (hNew (w := (w.alloc (.cells #[.int .i64 v.kind, .int .i64 v.frm, .int .i64 v.view, .int .i64 v.normal, .int .i64 v.op, .int .i64 v.commit, .int .i64 v.log.base, .slice a.cA v.log.cells.length a.cc, .slice a.sA v.log.seats.length a.sc, .slice a.eA v.log.ents.length a.ec] 138)).alloc (.cells #[.int .i64 0, .int .i64 0, .int .i64 0, .int .i64 0, .int .i64 0, .int .i64 0, .int .i64 0, .slice none 0 0, .slice none 0 0, .slice none 0 0] 93)) (o := .cells #[.int .i64 v.kind, .int .i64 v.frm, .int .i64 v.view, .int .i64 v.normal, .int .i64 v.op, .int .i64 v.commit, .int .i64 0, .slice none 0 0, .slice none 0 0, .slice none 0 0] 93) rfl)
  rw [sz_alloc] at B1
  rw [sz_alloc, sz_alloc] at B2
  have X1 := Ext.trans X0 x1
  have b1 := bx_cell B1
  have b2 := bx_cell B2
  have f1 := bx_frozen B1
  have f2 := bx_frozen B2
  have z1 := bx_lt B1
  have z2 := bx_lt B2
  have O1 := Lib.hid o1
  clear B1 B2 o1
  go_wp2
  refine bodyPost_ret (v := .agg #[.int .i64 v.kind, .int .i64 v.frm, .int .i64 v.view, .int .i64 v.normal, .int .i64 v.op, .int .i64 v.commit, .int .i64 v.log.base, .slice a'.cA v.log.cells.length a'.cc, .slice a'.sA v.log.seats.length a'.sc, .slice a'.eA v.log.ents.length a'.ec]) (by simp [results, Tryz.results108, go_sem, *]) rfl ⟨a', rfl, ?_, ?_⟩
  · refine LgO.wide (B := w.heap.size + 1 + 1 + 1) (T := w1.heap.size) ?_ (by omega) (by simp)
    repeat (first | with_reducible exact O1.out | refine LgO.set ?_ (by dsimp only; omega) _)
  · (repeat (first | with_reducible exact ext_refl _ | with_reducible refine ext_to ?_ _ | with_reducible refine ext_set ?_ (by first | (simp; done) | (simp; omega) | omega) _ | with_reducible refine ext_drew ?_ | with_reducible refine Ext.trans ?_ (by assumption)))

theorem Rd.atVtE {w : World} {A : Option Addr} {c : Nat} {l : List VtE} (h : Rd VtE.enc 10 w A c l) {k : Nat} (hk : k < l.length) : ∃ b o, A = some ⟨b, o, none⟩ ∧ b < w.heap.size ∧
    w.cell? ⟨b, o + k * 10, none⟩ = some (.int .i64 l[k].2.kind) ∧ w.cell? ⟨b, o + k * 10 + 1, none⟩ = some (.int .i64 l[k].2.frm) ∧ w.cell? ⟨b, o + k * 10 + 2, none⟩ = some (.int .i64 l[k].2.view) ∧ w.cell? ⟨b, o + k * 10 + 3, none⟩ = some (.int .i64 l[k].2.normal) ∧ w.cell? ⟨b, o + k * 10 + 4, none⟩ = some (.int .i64 l[k].2.op) ∧ w.cell? ⟨b, o + k * 10 + 5, none⟩ = some (.int .i64 l[k].2.commit) ∧ w.cell? ⟨b, o + k * 10 + 6, none⟩ = some (.int .i64 l[k].2.log.base) ∧
    w.cell? ⟨b, o + k * 10 + 7, none⟩ = some (.slice l[k].1.cA l[k].2.log.cells.length l[k].1.cc) ∧ w.cell? ⟨b, o + k * 10 + 8, none⟩ = some (.slice l[k].1.sA l[k].2.log.seats.length l[k].1.sc) ∧ w.cell? ⟨b, o + k * 10 + 9, none⟩ = some (.slice l[k].1.eA l[k].2.log.ents.length l[k].1.ec) := by
  obtain ⟨b, o, e, hlt, hc⟩ := h.2.2 (by omega)
  exact ⟨b, o, e, hlt, hc k hk 0 _ rfl, hc k hk 1 _ rfl, hc k hk 2 _ rfl, hc k hk 3 _ rfl, hc k hk 4 _ rfl, hc k hk 5 _ rfl, hc k hk 6 _ rfl, hc k hk 7 _ rfl, hc k hk 8 _ rfl, hc k hk 9 _ rfl⟩

/-- how great a row of votes is: the rows of its logs -/
def lgN (l : Lg) : Nat := l.cells.length + l.seats.length + l.ents.length
def vsN (ps : List VtE) : Nat → Nat
  | 0 => 0
  | k + 1 => vsN ps k + match ps[k]? with | some p => lgN p.2.log | none => 0
theorem vsN_next {ps : List VtE} {k : Nat} (h : k < ps.length) : vsN ps (k + 1) = vsN ps k + lgN ps[k].2.log := by
  simp [vsN, h]
theorem vsN_up (ps : List VtE) (k : Nat) : ∀ d, vsN ps k ≤ vsN ps (k + d)
  | 0 => Nat.le_refl _
  | d + 1 => by
    have ih := vsN_up ps k d
    show _ ≤ vsN ps (k + d) + _
    omega
theorem lgR_le {w : World} {a : LAd} {l : Lg} (h : LgR w a l) : (l.cells.length : Int) ≤ 9223372036854775807 ∧ (l.seats.length : Int) ≤ 9223372036854775807 ∧ (l.ents.length : Int) ≤ 9223372036854775807 := ⟨rd_len h.1, rd_len h.2.1, rd_len h.2.2⟩

set_option maxHeartbeats 1000000 in
theorem c_szVoteS (A : Option Addr) (c : Nat) (ps : List VtE) (left : Int) (h0 : 0 ≤ left) (h1 : left ≤ 1048576) (w : World) (hr : VsR w A c ps) :
    Calls Tryz.prog 83 #[.slice A ps.length c, .int .i64 left] w fun e w' => e = .returned (.int .i64 (szV (ps.length + vsN ps ps.length) left)) ∧ Ext w w' := by
  have hL := rd_len hr.1
  by_cases ha : (ps.length : Int) ≤ left
  · go_enter Tryz.func83, Tryz.ntmps83
    go_wp2
    go_loopw [1, 5] (fun q i wr => ∃ k : Nat, k ≤ ps.length ∧ i = .int .i64 k ∧ q = .int .i64 (left - ps.length - vsN ps k) ∧ (ps.length : Int) + vsN ps k ≤ left ∧ Ext w wr) (fun _ i _ => ps.length - (intOf i).toNat)
    case atStart => exact ⟨0, Nat.zero_le _, rfl, by simp [vsN], by simpa [vsN] using ha, ext_refl _⟩
    case round =>
      obtain ⟨k, hk, rfl, rfl, hle, X⟩ := hrel
      by_cases hlt : k < ps.length
      · obtain ⟨ab, ao, rfl, hab, a0, a1, a2, a3, a4, a5, a6, a7, a8, a9⟩ := (hr.1.keep X).atVtE hlt
        have hll := lgR_le (hr.2 ps[k] (List.getElem_mem hlt))
        have hnx := vsN_next hlt
        have hup := vsN_up ps (k + 1) (ps.length - (k + 1))
        rw [show k + 1 + (ps.length - (k + 1)) = ps.length by omega] at hup
        obtain ⟨q, hq, q0, q1⟩ : ∃ q, left - (ps.length : Int) - vsN ps k = q ∧ 0 ≤ q ∧ q ≤ 1048576 := ⟨_, rfl, by omega, by omega⟩
        have hcon := c_szVote ps[k].2.kind ps[k].2.frm ps[k].2.view ps[k].2.normal ps[k].2.op ps[k].2.commit ps[k].2.log.base ps[k].1.cA ps[k].2.log.cells.length ps[k].1.cc ps[k].1.sA ps[k].2.log.seats.length ps[k].1.sc ps[k].1.eA ps[k].2.log.ents.length ps[k].1.ec q q0 q1 hll.1 hll.2.1 hll.2.2 wr
        rw [hq]
        have hlg : ps[k].2.log.cells.length + ps[k].2.log.seats.length + ps[k].2.log.ents.length = lgN ps[k].2.log := rfl
        rw [hlg] at hcon
        by_cases hb : ((lgN ps[k].2.log : Nat) : Int) ≤ q
        · rw [szV_le hb] at hcon
          have HV := Lib.hid (show q - lgN ps[k].2.log = left - ps.length - vsN ps (k + 1) by omega)
          have HL := Lib.hid (show (ps.length : Int) + vsN ps (k + 1) ≤ left by omega)
          clear hq hnx hup hlg hle
          go_wp2_with fail
          refine hcon.mono ?_
          rintro e w1 ⟨rfl, x1⟩
          clear hcon
          go_wp2
          go_roundw
          case rel => exact ⟨k + 1, by omega, by go_num, by rw [HV.out], HL.out, Ext.trans X x1⟩
          case measure => simp [intOf] <;> omega
        · rw [szV_gt hb] at hcon
          have HV := Lib.hid (show -1 = szV (ps.length + vsN ps ps.length) left by rw [szV_gt (by omega)])
          clear hq hnx hup hlg hle
          go_wp2_with fail
          refine hcon.mono ?_
          rintro e w1 ⟨rfl, x1⟩
          clear hcon
          go_wp2
          go_ret
          exact ⟨ret_int HV.out, Ext.trans X x1⟩
      · obtain rfl : k = ps.length := by omega
        have HV := Lib.hid (show left - ps.length - vsN ps ps.length = szV (ps.length + vsN ps ps.length) left by rw [szV_le (by omega)]; omega)
        go_wp2
        go_ret
        exact ⟨ret_int HV.out, X⟩
  · have HV := Lib.hid (show -1 = szV (ps.length + vsN ps ps.length) left by rw [szV_gt (by omega)])
    go_enter Tryz.func83, Tryz.ntmps83
    go_wp2
    go_ret
    exact ⟨ret_int HV.out, ext_refl _⟩
end Go.Proofs.YtmphedkbdlckhaaGreat
