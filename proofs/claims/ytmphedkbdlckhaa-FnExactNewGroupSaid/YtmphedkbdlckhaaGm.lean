/- Flights, replies, rows of replicas, groups: what they are, how they lie in memory, and the laws' own functions on them. -/
import Derived.Test.YtmphedkbdlckhaaRo
import Derived.Test.YtmphedkbdlckhaaGg
namespace Go.Proofs.Ytmphedkbdlckhaa
open Go.ChangeShapes Go.WideShapes Go.ChangeAt Go.RowKit Go.Sort
set_option linter.unusedVariables false
set_option linter.unusedSimpArgs false

structure Fl where
  id : Int
  to : Int
  bytes : ByteArray
deriving DecidableEq
def Fl.enc (r : Fl) : List Value := [.int .i64 r.id, .int .i64 r.to, .string r.bytes]
theorem ba_eq {a b : ByteArray} : a.toList = b.toList ↔ a = b := ⟨fun h => Go.WideShapes.bytes_inj (by rwa [ByteArray.toList_eq, ByteArray.toList_eq] at h), fun h => by rw [h]⟩
theorem Fl.enc_len (r : Fl) : r.enc.length = 3 := rfl

theorem Rd.atFl {w : World} {A : Option Addr} {c : Nat} {l : List Fl} (h : Rd Fl.enc 3 w A c l) {k : Nat} (hk : k < l.length) : ∃ b o, A = some ⟨b, o, none⟩ ∧ b < w.heap.size ∧
    w.cell? ⟨b, o + k * 3, none⟩ = some (.int .i64 l[k].id) ∧ w.cell? ⟨b, o + k * 3 + 1, none⟩ = some (.int .i64 l[k].to) ∧ w.cell? ⟨b, o + k * 3 + 2, none⟩ = some (.string l[k].bytes) := by
  obtain ⟨b, o, e, hlt, hc⟩ := h.2.2 (by omega)
  exact ⟨b, o, e, hlt, hc k hk 0 _ rfl, hc k hk 1 _ rfl, hc k hk 2 _ rfl⟩

theorem c_eqFlight' (id to : Int) (bytes : ByteArray) (id' to' : Int) (bytes' : ByteArray) (w : World) : Calls Try.prog 51 #[.agg #[.int .i64 id, .int .i64 to, .string bytes], .agg #[.int .i64 id', .int .i64 to', .string bytes']] w fun e w' => e = .returned (.bool (eqB (⟨id, to, bytes⟩ : Fl) ⟨id', to', bytes'⟩)) ∧ Ext w w' := by
  go_enter Try.func51, Try.ntmps51
  go_wp2
  all_goals
    go_ret
    refine ⟨ret_bool ?_, ?_⟩
    · simp [eqB, *]
      try (simp at *; simp [*])
      try (rw [← ba_eq]; assumption)
    · (repeat (first | with_reducible exact ext_refl _ | with_reducible refine ext_to ?_ _ | with_reducible refine ext_set ?_ (by first | (simp; done) | (simp; omega) | omega) _ | with_reducible refine ext_drew ?_ | with_reducible refine Ext.trans ?_ (by assumption)))

theorem Try.infoFl : (Try.prog.info? 73).map (fun i => (i.zero, i.size, i.bytes)) = some (some (.agg #[.int .i64 0, .int .i64 0, .string ⟨#[]⟩]), 3, 32) := by kernel_rfl

set_option maxHeartbeats 1000000 in
theorem c_eqFlightS (A B : Option Addr) (ca cb : Nat) (a b : List Fl) (w : World) (ha : Rd Fl.enc 3 w A ca a) (hb : Rd Fl.enc 3 w B cb b) (hn : a.length ≤ 1099511627776) (hn2 : b.length ≤ 1099511627776) :
    Calls Try.prog 25 #[.slice A a.length ca, .slice B b.length cb] w fun e w' => e = .returned (.bool (eqB a b)) ∧ Ext w w' := by
  by_cases hl : a.length = b.length
  · have hl' : ((a.length : Int) != (b.length : Int)) = false := by simp [hl]
    have HL := Lib.hid hl
    clear hl
    go_enter Try.func25, Try.ntmps25
    go_wp2
    go_loopw [5] (fun i wr => ∃ k : Nat, k ≤ a.length ∧ i = .int .i64 k ∧ a.take k = b.take k ∧ Ext w wr) (fun i _ => a.length - (intOf i).toNat)
    case atStart => exact ⟨0, Nat.zero_le _, rfl, by simp, ext_refl _⟩
    case round =>
      obtain ⟨k, hk, rfl, ht, hx⟩ := hrel
      have HT := Lib.hid ht
      clear ht
      by_cases hlt : k < a.length
      · have hltb : k < b.length := by have := HL.out; omega
        obtain ⟨ab, ao, rfl, hab, a0, a1, a2⟩ := (ha.keep hx).atFl hlt
        obtain ⟨bb, bo, rfl, hbb, b0, b1, b2⟩ := (hb.keep hx).atFl hltb
        by_cases he : a[k] = b[k]
        · have he' : eqB (⟨a[k].id, a[k].to, a[k].bytes⟩ : Fl) ⟨b[k].id, b[k].to, b[k].bytes⟩ = true := eqB_true he
          have HE := Lib.hid he
          clear he
          go_wp2
          (refine wp_region_mix' (fun _ _ _ _ _ hq => hq) 10 (by kernel_rfl) (by kernel_rfl) (fun hg => ?_); simp only [headOps, List.take_succ_cons, List.take_zero, List.filter_cons, List.filter_nil, isAlloc, Bool.not_false, Bool.false_eq_true, if_true, if_false, List.append_nil, List.drop_succ_cons, List.drop_zero])
          (repeat (refine wpMix_plain rfl rfl ?_; go_big_quiet_step (fail); refine wpQuiet_nil ?_))
          (refine wpMix_det rfl rfl rfl (enters Try.func51 (by kernel_rfl) rfl) (fun W hW => c_eqFlight' _ _ _ _ _ _ W) rfl ?_; simp only [Act.put, List.setIfInBounds_toArray, List.set_cons_zero, List.set_cons_succ])
          (repeat (refine wpMix_plain rfl rfl ?_; go_big_quiet_step (fail); refine wpQuiet_nil ?_))
          refine wpMix_nil ?_
          intro w2 hx2
          go_wp2
          go_roundw
          case rel => exact ⟨k + 1, by omega, by go_num, take_eq_next hlt hltb HT.out HE.out, Ext.trans hx hx2⟩
          case measure => simp [intOf]; omega
        · have he' : eqB (⟨a[k].id, a[k].to, a[k].bytes⟩ : Fl) ⟨b[k].id, b[k].to, b[k].bytes⟩ = false := eqB_false he
          have hne : eqB a b = false := eqB_false (by rintro rfl; exact he rfl)
          have HN := Lib.hid hne
          clear he hne
          go_wp2
          (refine wp_region_mix' (fun _ _ _ _ _ hq => hq) 10 (by kernel_rfl) (by kernel_rfl) (fun hg => ?_); simp only [headOps, List.take_succ_cons, List.take_zero, List.filter_cons, List.filter_nil, isAlloc, Bool.not_false, Bool.false_eq_true, if_true, if_false, List.append_nil, List.drop_succ_cons, List.drop_zero])
          (repeat (refine wpMix_plain rfl rfl ?_; go_big_quiet_step (fail); refine wpQuiet_nil ?_))
          (refine wpMix_det rfl rfl rfl (enters Try.func51 (by kernel_rfl) rfl) (fun W hW => c_eqFlight' _ _ _ _ _ _ W) rfl ?_; simp only [Act.put, List.setIfInBounds_toArray, List.set_cons_zero, List.set_cons_succ])
          (repeat (refine wpMix_plain rfl rfl ?_; go_big_quiet_step (fail); refine wpQuiet_nil ?_))
          refine wpMix_nil ?_
          intro w2 hx2
          go_wp2
          go_ret
          exact ⟨ret_bool (by rw [HN.out]), Ext.trans hx hx2⟩
      · have hkl : k = a.length := by omega
        go_wp2
        go_ret
        refine ⟨ret_bool ?_, hx⟩
        have h1 := HT.out
        rw [hkl, List.take_length, HL.out, List.take_length] at h1
        exact (eqB_true h1).symm
  · have hl' : ((a.length : Int) != (b.length : Int)) = true := by simp; omega
    have hne : eqB a b = false := eqB_false (by rintro rfl; exact hl rfl)
    have HN := Lib.hid hne
    clear hl hne
    go_enter Try.func25, Try.ntmps25
    go_wp2
    go_ret
    exact ⟨ret_bool (by rw [HN.out]), ext_refl _⟩

structure Ry where
  client : Int
  req : Int
  answer : Int
deriving DecidableEq

def Ry.enc (r : Ry) : List Value := [.int .i64 r.client, .int .i64 r.req, .int .i64 r.answer]

theorem Ry.enc_len (r : Ry) : r.enc.length = 3 := rfl

theorem Rd.atRy {w : World} {A : Option Addr} {c : Nat} {l : List Ry} (h : Rd Ry.enc 3 w A c l) {k : Nat} (hk : k < l.length) : ∃ b o, A = some ⟨b, o, none⟩ ∧ b < w.heap.size ∧
    w.cell? ⟨b, o + k * 3, none⟩ = some (.int .i64 l[k].client) ∧ w.cell? ⟨b, o + k * 3 + 1, none⟩ = some (.int .i64 l[k].req) ∧ w.cell? ⟨b, o + k * 3 + 2, none⟩ = some (.int .i64 l[k].answer) := by
  obtain ⟨b, o, e, hlt, hc⟩ := h.2.2 (by omega)
  exact ⟨b, o, e, hlt, hc k hk 0 _ rfl, hc k hk 1 _ rfl, hc k hk 2 _ rfl⟩

theorem c_eqReply' (client req answer client' req' answer' : Int) (w : World) : Calls Try.prog 26 #[.agg #[.int .i64 client, .int .i64 req, .int .i64 answer], .agg #[.int .i64 client', .int .i64 req', .int .i64 answer']] w fun e w' => e = .returned (.bool (eqB (⟨client, req, answer⟩ : Ry) ⟨client', req', answer'⟩)) ∧ Ext w w' := by
  go_enter Try.func26, Try.ntmps26
  go_wp2
  all_goals
    go_ret
    refine ⟨ret_bool ?_, ?_⟩
    · simp [eqB, *]
      try (simp at *; simp [*])
    · (repeat (first | with_reducible exact ext_refl _ | with_reducible refine ext_to ?_ _ | with_reducible refine ext_set ?_ (by first | (simp; done) | (simp; omega) | omega) _ | with_reducible refine ext_drew ?_ | with_reducible refine Ext.trans ?_ (by assumption)))

theorem Try.infoRy : (Try.prog.info? 55).map (fun i => (i.zero, i.size, i.bytes)) = some (some (.agg #[.int .i64 0, .int .i64 0, .int .i64 0]), 3, 24) := by kernel_rfl

set_option maxHeartbeats 1000000 in
theorem c_eqReplyS (A B : Option Addr) (ca cb : Nat) (a b : List Ry) (w : World) (ha : Rd Ry.enc 3 w A ca a) (hb : Rd Ry.enc 3 w B cb b) (hn : a.length ≤ 1099511627776) (hn2 : b.length ≤ 1099511627776) :
    Calls Try.prog 15 #[.slice A a.length ca, .slice B b.length cb] w fun e w' => e = .returned (.bool (eqB a b)) ∧ Ext w w' := by
  by_cases hl : a.length = b.length
  · have hl' : ((a.length : Int) != (b.length : Int)) = false := by simp [hl]
    have HL := Lib.hid hl
    clear hl
    go_enter Try.func15, Try.ntmps15
    go_wp2
    go_loopw [5] (fun i wr => ∃ k : Nat, k ≤ a.length ∧ i = .int .i64 k ∧ a.take k = b.take k ∧ Ext w wr) (fun i _ => a.length - (intOf i).toNat)
    case atStart => exact ⟨0, Nat.zero_le _, rfl, by simp, ext_refl _⟩
    case round =>
      obtain ⟨k, hk, rfl, ht, hx⟩ := hrel
      have HT := Lib.hid ht
      clear ht
      by_cases hlt : k < a.length
      · have hltb : k < b.length := by have := HL.out; omega
        obtain ⟨ab, ao, rfl, hab, a0, a1, a2⟩ := (ha.keep hx).atRy hlt
        obtain ⟨bb, bo, rfl, hbb, b0, b1, b2⟩ := (hb.keep hx).atRy hltb
        by_cases he : a[k] = b[k]
        · have he' : eqB (⟨a[k].client, a[k].req, a[k].answer⟩ : Ry) ⟨b[k].client, b[k].req, b[k].answer⟩ = true := eqB_true he
          have HE := Lib.hid he
          clear he
          go_wp2
          (refine wp_region_mix' (fun _ _ _ _ _ hq => hq) 10 (by kernel_rfl) (by kernel_rfl) (fun hg => ?_); simp only [headOps, List.take_succ_cons, List.take_zero, List.filter_cons, List.filter_nil, isAlloc, Bool.not_false, Bool.false_eq_true, if_true, if_false, List.append_nil, List.drop_succ_cons, List.drop_zero])
          (repeat (refine wpMix_plain rfl rfl ?_; go_big_quiet_step (fail); refine wpQuiet_nil ?_))
          (refine wpMix_det rfl rfl rfl (enters Try.func26 (by kernel_rfl) rfl) (fun W hW => c_eqReply' _ _ _ _ _ _ W) rfl ?_; simp only [Act.put, List.setIfInBounds_toArray, List.set_cons_zero, List.set_cons_succ])
          (repeat (refine wpMix_plain rfl rfl ?_; go_big_quiet_step (fail); refine wpQuiet_nil ?_))
          refine wpMix_nil ?_
          intro w2 hx2
          go_wp2
          go_roundw
          case rel => exact ⟨k + 1, by omega, by go_num, take_eq_next hlt hltb HT.out HE.out, Ext.trans hx hx2⟩
          case measure => simp [intOf]; omega
        · have he' : eqB (⟨a[k].client, a[k].req, a[k].answer⟩ : Ry) ⟨b[k].client, b[k].req, b[k].answer⟩ = false := eqB_false he
          have hne : eqB a b = false := eqB_false (by rintro rfl; exact he rfl)
          have HN := Lib.hid hne
          clear he hne
          go_wp2
          (refine wp_region_mix' (fun _ _ _ _ _ hq => hq) 10 (by kernel_rfl) (by kernel_rfl) (fun hg => ?_); simp only [headOps, List.take_succ_cons, List.take_zero, List.filter_cons, List.filter_nil, isAlloc, Bool.not_false, Bool.false_eq_true, if_true, if_false, List.append_nil, List.drop_succ_cons, List.drop_zero])
          (repeat (refine wpMix_plain rfl rfl ?_; go_big_quiet_step (fail); refine wpQuiet_nil ?_))
          (refine wpMix_det rfl rfl rfl (enters Try.func26 (by kernel_rfl) rfl) (fun W hW => c_eqReply' _ _ _ _ _ _ W) rfl ?_; simp only [Act.put, List.setIfInBounds_toArray, List.set_cons_zero, List.set_cons_succ])
          (repeat (refine wpMix_plain rfl rfl ?_; go_big_quiet_step (fail); refine wpQuiet_nil ?_))
          refine wpMix_nil ?_
          intro w2 hx2
          go_wp2
          go_ret
          exact ⟨ret_bool (by rw [HN.out]), Ext.trans hx hx2⟩
      · have hkl : k = a.length := by omega
        go_wp2
        go_ret
        refine ⟨ret_bool ?_, hx⟩
        have h1 := HT.out
        rw [hkl, List.take_length, HL.out, List.take_length] at h1
        exact (eqB_true h1).symm
  · have hl' : ((a.length : Int) != (b.length : Int)) = true := by simp; omega
    have hne : eqB a b = false := eqB_false (by rintro rfl; exact hl rfl)
    have HN := Lib.hid hne
    clear hl hne
    go_enter Try.func15, Try.ntmps15
    go_wp2
    go_ret
    exact ⟨ret_bool (by rw [HN.out]), ext_refl _⟩

/-- a replica and where its slices lie -/
structure RpE where
  a : LAd
  A : Option Addr
  c : Nat
  ps : List VtE
  r : Rp
abbrev RpE.enc (q : RpE) : List Value := [.int .i64 q.r.me, .int .i64 q.r.of, .int .i64 q.r.mode, .int .i64 q.r.view, .int .i64 q.r.normal, .int .i64 q.r.commit, .int .i64 q.r.log.base, .slice q.a.cA q.r.log.cells.length q.a.cc, .slice q.a.sA q.r.log.seats.length q.a.sc, .slice q.a.eA q.r.log.ents.length q.a.ec, .slice q.A q.ps.length q.c, .int .i64 q.r.cell, .int .i64 q.r.nonce]
theorem RpE.len (q : RpE) : (RpE.enc q).length = 13 := rfl
abbrev RpE.val (q : RpE) : Value := Rp.val q.a q.A q.ps.length q.c q.r
def RpE.rd (w : World) (q : RpE) : Prop := RpR w q.a q.A q.c q.ps q.r
/-- the replicas read so -/
def RpsR (w : World) (A : Option Addr) (c : Nat) (qs : List RpE) : Prop := Rd RpE.enc 13 w A c qs ∧ ∀ q ∈ qs, q.rd w
theorem RpsR.keep {w w' : World} {A : Option Addr} {c : Nat} {qs : List RpE} (h : RpsR w A c qs) (hx : Ext w w') : RpsR w' A c qs := ⟨h.1.keep hx, fun p hp => (h.2 p hp).keep hx⟩
/-- small enough for the walks -/
def RpE.small (q : RpE) : Prop := q.r.log.small ∧ q.ps.length ≤ 1048576 ∧ LgS q.ps
def RpsS (qs : List RpE) : Prop := ∀ q ∈ qs, q.small
theorem Rd.atRpE {w : World} {A : Option Addr} {c : Nat} {l : List RpE} (h : Rd RpE.enc 13 w A c l) {k : Nat} (hk : k < l.length) : ∃ b o, A = some ⟨b, o, none⟩ ∧ b < w.heap.size ∧
    w.cell? ⟨b, o + k * 13, none⟩ = some (.int .i64 l[k].r.me) ∧ w.cell? ⟨b, o + k * 13 + 1, none⟩ = some (.int .i64 l[k].r.of) ∧ w.cell? ⟨b, o + k * 13 + 2, none⟩ = some (.int .i64 l[k].r.mode) ∧ w.cell? ⟨b, o + k * 13 + 3, none⟩ = some (.int .i64 l[k].r.view) ∧ w.cell? ⟨b, o + k * 13 + 4, none⟩ = some (.int .i64 l[k].r.normal) ∧ w.cell? ⟨b, o + k * 13 + 5, none⟩ = some (.int .i64 l[k].r.commit) ∧ w.cell? ⟨b, o + k * 13 + 6, none⟩ = some (.int .i64 l[k].r.log.base) ∧ w.cell? ⟨b, o + k * 13 + 7, none⟩ = some (.slice l[k].a.cA l[k].r.log.cells.length l[k].a.cc) ∧ w.cell? ⟨b, o + k * 13 + 8, none⟩ = some (.slice l[k].a.sA l[k].r.log.seats.length l[k].a.sc) ∧ w.cell? ⟨b, o + k * 13 + 9, none⟩ = some (.slice l[k].a.eA l[k].r.log.ents.length l[k].a.ec) ∧ w.cell? ⟨b, o + k * 13 + 10, none⟩ = some (.slice l[k].A l[k].ps.length l[k].c) ∧ w.cell? ⟨b, o + k * 13 + 11, none⟩ = some (.int .i64 l[k].r.cell) ∧ w.cell? ⟨b, o + k * 13 + 12, none⟩ = some (.int .i64 l[k].r.nonce) := by
  obtain ⟨b, o, e, hlt, hc⟩ := h.2.2 (by omega)
  exact ⟨b, o, e, hlt, hc k hk 0 _ rfl, hc k hk 1 _ rfl, hc k hk 2 _ rfl, hc k hk 3 _ rfl, hc k hk 4 _ rfl, hc k hk 5 _ rfl, hc k hk 6 _ rfl, hc k hk 7 _ rfl, hc k hk 8 _ rfl, hc k hk 9 _ rfl, hc k hk 10 _ rfl, hc k hk 11 _ rfl, hc k hk 12 _ rfl⟩
/-- the row of a group's parts -/
structure GAd where
  RA : Option Addr
  Rc : Nat
  FA : Option Addr
  Fc : Nat
  YA : Option Addr
  Yc : Nat
structure Gp where
  of : Int
  reps : List Rp
  next : Int
  fls : List Fl
  rys : List Ry
abbrev Gp.cs (a : GAd) (n : Nat) (g : Gp) : Array Value := #[.int .i64 g.of, .slice a.RA n a.Rc, .int .i64 g.next, .slice a.FA g.fls.length a.Fc, .slice a.YA g.rys.length a.Yc]
abbrev Gp.val (a : GAd) (n : Nat) (g : Gp) : Value := .agg (Gp.cs a n g)
abbrev Gp.obj (a : GAd) (n : Nat) (g : Gp) : Obj := .cells (Gp.cs a n g) 28
abbrev Gp.zobj : Obj := .cells #[.int .i64 0, .slice none 0 0, .int .i64 0, .slice none 0 0, .slice none 0 0] 28
abbrev Gp.hobj (g : Gp) : Obj := .cells #[.int .i64 g.of, .slice none 0 0, .int .i64 0, .slice none 0 0, .slice none 0 0] 28
/-- the group reads so -/
structure GpR (w : World) (a : GAd) (qs : List RpE) (g : Gp) : Prop where
  r : RpsR w a.RA a.Rc qs
  f : Rd Fl.enc 3 w a.FA a.Fc g.fls
  y : Rd Ry.enc 3 w a.YA a.Yc g.rys
  e : qs.map RpE.r = g.reps
theorem GpR.keep {w w' : World} {a : GAd} {qs : List RpE} {g : Gp} (h : GpR w a qs g) (hx : Ext w w') : GpR w' a qs g := ⟨h.r.keep hx, h.f.keep hx, h.y.keep hx, h.e⟩
theorem GpR.len {w : World} {a : GAd} {qs : List RpE} {g : Gp} (h : GpR w a qs g) : qs.length = g.reps.length := by rw [← h.e, List.length_map]

/-! ### sizes -/
def rpsN (qs : List RpE) : Nat → Nat
  | 0 => 0
  | k + 1 => rpsN qs k + match qs[k]? with | some q => rpN q.ps q.r | none => 0
theorem rpsN_next {qs : List RpE} {k : Nat} (h : k < qs.length) : rpsN qs (k + 1) = rpsN qs k + rpN qs[k].ps qs[k].r := by simp [rpsN, h]
theorem rpsN_up (qs : List RpE) (k : Nat) : ∀ d, rpsN qs k ≤ rpsN qs (k + d)
  | 0 => Nat.le_refl _
  | d + 1 => by
    have ih := rpsN_up qs k d
    show _ ≤ rpsN qs (k + d) + _
    omega
theorem rpsN_small (qs : List RpE) (n : Nat) (h : qs.length + rpsN qs qs.length ≤ n) (hn : n ≤ 1048576) : RpsS qs := fun q hq => by
  obtain ⟨k, hk, rfl⟩ := List.mem_iff_getElem.1 hq
  have h1 := rpsN_next hk
  have h2 := rpsN_up qs (k + 1) (qs.length - (k + 1))
  rw [show k + 1 + (qs.length - (k + 1)) = qs.length by omega] at h2
  have h3 : rpN qs[k].ps qs[k].r ≤ 1048576 := by omega
  unfold rpN at h3
  exact ⟨lgN_small (n := 1048576) (by omega) (by omega), by omega, vsN_small _ 1048576 (by omega) (by omega)⟩
def flsN (l : List Fl) : Nat → Nat
  | 0 => 0
  | k + 1 => flsN l k + match l[k]? with | some f => f.bytes.size | none => 0
theorem flsN_next {l : List Fl} {k : Nat} (h : k < l.length) : flsN l (k + 1) = flsN l k + l[k].bytes.size := by simp [flsN, h]
theorem flsN_up (l : List Fl) (k : Nat) : ∀ d, flsN l k ≤ flsN l (k + d)
  | 0 => Nat.le_refl _
  | d + 1 => by
    have ih := flsN_up l k d
    show _ ≤ flsN l (k + d) + _
    omega
/-- the strings are no longer than memory may be -/
def FlsM (l : List Fl) : Prop := ∀ f ∈ l, f.bytes.size ≤ 9223372036854775807

theorem szV_or (n : Nat) (left : Int) : szV n left = -1 ∨ 0 ≤ szV n left := by
  by_cases h : (n : Int) ≤ left
  · rw [szV_le h]; omega
  · rw [szV_gt h]; omega
theorem szV_hi (n : Nat) (left : Int) (h : left ≤ 1048576) : szV n left ≤ 1048576 := by
  by_cases h : (n : Int) ≤ left
  · rw [szV_le h]; omega
  · rw [szV_gt h]; omega
theorem szV_no (b : Nat) {a : Nat} {left : Int} (h : ¬ (a : Int) ≤ left) : szV (a + b) left = -1 := szV_gt (by omega)
/-- how great a group is -/
def gpN (qs : List RpE) (g : Gp) : Nat := (qs.length + rpsN qs qs.length) + (g.fls.length + flsN g.fls g.fls.length) + g.rys.length
end Go.Proofs.Ytmphedkbdlckhaa
