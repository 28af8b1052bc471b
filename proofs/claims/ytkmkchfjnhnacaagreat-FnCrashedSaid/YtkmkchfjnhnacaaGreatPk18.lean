/- The keeper, with all that it holds its own. -/
import Derived.Test.YtkmkchfjnhnacaaGreatPk17
import Derived.Test.YtkmkchfjnhnacaaGreatPk13
import Derived.Test.YtkmkchfjnhnacaaGreatPk14
import Derived.Lib.MinMax
import Derived.Test.YtkmkchfjnhnacaaGreatRows
import Derived.Test.YtkmkchfjnhnacaaGreatPk1
import Derived.OpenShut
import Derived.Carry
import Derived.Lib.SmallJoins
import Derived.Deep.Slices
import Derived.Deep.Fields
import Derived.Test.YtkmkchfjnhnacaaGreatPk6
import Derived.Test.YtkmkchfjnhnacaaGreatPk10
namespace Go.Proofs.YtkmkchfjnhnacaaGreat
open Go.ChangeShapes Go.WideShapes Go.ChangeAt Go.RowKit Go.Sort
set_option linter.unusedVariables false
set_option linter.unusedSimpArgs false
theorem RpO.chgN {w w' : World} {B T : Nat} {a : LAd} {A : Option Addr} {c : Nat} {ps : List VtE} {r : Rp} {S : List Nat} (h : RpO w B T a A c ps r) (hg : Chg w w' S) (hne : ∀ k ∈ a.fp ++ vsF A ps, k ∉ S) : RpO w' B T a A c ps r :=
 ⟨h.l.chg hg (fun k hk => hne k (List.mem_append_left _ hk)), h.v.chg hg (fun k hk => hne k (List.mem_append_right _ hk)), h.e, h.d⟩
theorem RpO.apartO {w : World} {B B' T : Nat} {a : LAd} {A : Option Addr} {c : Nat} {ps : List VtE} {r : Rp} {Ao : Option Addr} {n co : Nat} {os : List OtE} (h : RpO w B T a A c ps r) (k : Ow OtE.enc 47 18 w B' (.slice Ao n co) os) : ∀ x ∈ a.fp ++ vsF A ps, x ∉ blk Ao := fun x hx => by
 rcases List.mem_append.1 hx with hx | hx
 ·exact lg_apartO h.l k x hx
 ·rcases List.mem_append.1 hx with hx | hx
  ·exact h.v.r.apart k (by decide) x hx
  ·obtain ⟨q, hq, hx⟩ := List.mem_flatMap.1 hx
   exact lg_apartO (h.v.l q hq) k x hx
theorem RpO.apartB {w : World} {B T : Nat} {a : LAd} {A : Option Addr} {c : Nat} {ps : List VtE} {r : Rp} {p : Nat} {cs : Array Value} {t : TypeId} (h : RpO w B T a A c ps r) (hb : w.heap[p]? = some (.cells cs t (0, 0))) (h1 : t ≠ 101) (h2 : t ≠ 103) (h3 : t ≠ 70) (h4 : t ≠ 53) : p ∉ a.fp ++ vsF A ps := fun hx => by
 rcases List.mem_append.1 hx with hx | hx
 ·exact lg_box_apart hb h.l h1 h2 h3 hx
 ·rcases List.mem_append.1 hx with hx | hx
  ·exact box_apart hb h.v.r h4 hx
  ·obtain ⟨q, hq, hx⟩ := List.mem_flatMap.1 hx
   exact lg_box_apart hb (h.v.l q hq) h1 h2 h3 hx
structure KZ (W0 w : World) (p : Nat) (a : LAd) (A : Option Addr) (c : Nat) (qs : List VtE) (R : Rp) (Ao : Option Addr) (co : Nat) (os : List OtE) : Prop where
 box : w.heap[p]? = some (Kp.obj a A qs.length c R (.slice Ao os.length co))
 x : Ext W0 w
 low : W0.heap.size ≤ p
 rp : RpO w W0.heap.size w.heap.size a A c qs R
 row : Ow OtE.enc 47 18 w W0.heap.size (.slice Ao os.length co) os
 logs : OsQ w W0.heap.size os
 d : ∀ x ∈ a.fp ++ vsF A qs, ∀ q ∈ os, x ∉ q.1.fp
def KO (W0 w : World) (p : Nat) (R : Rp) (O : List Ot) : Prop := ∃ a A c qs Ao co os, KZ W0 w p a A c qs R Ao co os ∧ os.map Prod.snd = O
section
variable {W0 w w' : World} {p : Nat} {a : LAd} {A : Option Addr} {c : Nat} {qs : List VtE} {R R' : Rp} {Ao : Option Addr} {co : Nat} {os : List OtE}
theorem KZ.keep (h : KZ W0 w p a A c qs R Ao co os) (hx : Ext w w') : KZ W0 w' p a A c qs R Ao co os :=
 ⟨hx.box h.box, Ext.trans h.x hx, h.low, (h.rp.kept hx).wide (Nat.le_refl _) hx.size, h.row.kept hx, h.logs.kept hx, h.d⟩
theorem KO.keep {O : List Ot} (h : KO W0 w p R O) (hx : Ext w w') : KO W0 w' p R O := by
 obtain ⟨a, A, c, qs, Ao, co, os, h, e⟩ := h
 exact ⟨a, A, c, qs, Ao, co, os, h.keep hx, e⟩
theorem KZ.pB (h : KZ W0 w p a A c qs R Ao co os) : p ∉ a.fp ++ vsF A qs := h.rp.apartB h.box (by decide) (by decide) (by decide) (by decide)
theorem KZ.pO (h : KZ W0 w p a A c qs R Ao co os) : p ∉ blk Ao := box_apart h.box h.row (by decide)
theorem KZ.pL (h : KZ W0 w p a A c qs R Ao co os) : ∀ q ∈ os, p ∉ q.1.fp := fun q hq => lg_box_apart h.box (h.logs.l q hq) (by decide) (by decide) (by decide)
theorem KZ.put (h : KZ W0 w p a A c qs R Ao co os) (hg : Chg w w' [p]) (hb : w'.heap[p]? = some (Kp.obj a A qs.length c R' (.slice Ao os.length co))) (hl : R'.log = R.log) (hv : R'.votes = R.votes) : KZ W0 w' p a A c qs R' Ao co os := by
 have hr := (h.rp.chgN hg (fun k hk hm => by rw [Mi] at hm; subst hm; exact h.pB hk)).wide (Nat.le_refl _) hg.size
 refine ⟨hb, chg_new h.x hg h.low, h.low, ⟨by rw [hl]; exact hr.l, hr.v, by rw [hv]; exact hr.e, hr.d⟩, h.row.chg hg (fun k hk hm => by rw [Mi] at hm; subst hm; exact h.pO hk), h.logs.chg hg (fun q hq k hk hm => by rw [Mi] at hm; subst hm; exact h.pL q hq hk), h.d⟩
theorem KZ.sent {A' : Option Addr} {c' : Nat} {a' : LAd} {v : Ot} {w1 : World} (h : KZ W0 w p a A c qs R Ao co os) (hx : Ext w w1) (ho : LgO w1 w.heap.size w1.heap.size a' v.msg.log) (hg : Chg w1 w' (p :: blk Ao)) (hb : w'.heap[p]? = some (Kp.obj a A qs.length c R (.slice A' (os ++ [(a', v)]).length c')))
  (hrow : Ow OtE.enc 47 18 w' W0.heap.size (.slice A' (os ++ [(a', v)]).length c') (os ++ [(a', v)])) : KZ W0 w' p a A c qs R A' c' (os ++ [(a', v)]) := by
 have h1 := h.keep hx
 have hlo := h1.logs.l
 have hst : OsQ w1 W0.heap.size (os ++ [(a', v)]) := h.logs.step h.x.size ho hx
 have hne : ∀ q ∈ os ++ [(a', v)], ∀ k ∈ q.1.fp, k ∉ p :: blk Ao := fun q hq k hk hm => by
  rcases List.mem_cons.1 hm with e | hm
  ·subst e
   exact lg_box_apart h1.box (hst.l q hq) (by decide) (by decide) (by decide) hk
  ·exact lg_apartO (hst.l q hq) h1.row k hk hm
 refine ⟨hb, ext_chg h1.x hg (fun g hg => ?_), h.low, (h1.rp.chgN hg (fun k hk hm => ?_)).wide (Nat.le_refl _) hg.size, hrow, hst.chg hg hne, fun x hx q hq hm => ?_⟩
 ·rcases List.mem_cons.1 hg with e | hg
  ·rw [e]; exact h.low
  ·exact (h1.row.inB g hg).1
 ·rcases List.mem_cons.1 hm with e | hm
  ·rw [e] at hk; exact h1.pB hk
  ·exact h1.rp.apartO h1.row k hk hm
 ·rcases List.mem_append.1 hq with hq | hq
  ·exact h.d x hx q hq hm
  ·rw [Mi] at hq
   subst hq
   have h2 := (h.rp.fpIn x hx).2
   have h3 := ho.low x hm
   omega
end
def sHas (s : ByteArray) (b : Int) : Bool := (List.range s.size).any (fun i => if h : i < s.size then (s[i].toNat : Int) == b else false)
def sTo (s : ByteArray) (b : Int) (k : Nat) : Prop := ∀ j (h : j < s.size), j < k → ((s[j].toNat : Int) == b) = false
theorem sTo.next {s : ByteArray} {b : Int} {k : Nat} (h : sTo s b k) (hk : k < s.size) (hs : ((s[k].toNat : Int) == b) = false) : sTo s b (k + 1) := fun j hj hjk => by
 by_cases he : j = k
 ·subst he; exact hs
 ·exact h j hj (by omega)
theorem sHas_yes {s : ByteArray} {b : Int} {k : Nat} (hk : k < s.size) (hs : ((s[k].toNat : Int) == b) = true) : sHas s b = true := by
 unfold sHas
 rw [List.any_eq_true]
 exact ⟨k, by simpa using hk, by rw [dif_pos hk]; exact hs⟩
theorem sHas_no {s : ByteArray} {b : Int} (h : sTo s b s.size) : sHas s b = false := by
 unfold sHas
 rw [List.any_eq_false]
 intro j hj
 have hj' : j < s.size := by simpa using hj
 rw [dif_pos hj', h j hj' hj']
 simp
theorem c_l4In (s : ByteArray) (b : Int) (hs : s.size ≤ 100) (w : World) : Calls Tryz.prog 78 #[.string s, .int .u8 b] w fun e w' => e = .returned (.bool (sHas s b)) ∧ Ext w w' := by
 go_enter Tryz.func78, Tryz.ntmps78
 go_wp2
 go_loopw [5] (fun i wr => ∃ k : Nat, k ≤ s.size ∧ i = .int .i64 k ∧ sTo s b k ∧ Ext w wr) (fun i _ => s.size - (intOf i).toNat)
 case atStart => exact ⟨0, Nat.zero_le _, rfl, fun j hj hjk => absurd hjk (by omega), ext_refl _⟩
 case round =>
  obtain ⟨k, hk, rfl, ht, X⟩ := hrel
  have HT := Hd ht
  clear ht
  by_cases hlt : k < s.size
  ·cases q : ((s[k].toNat : Int) == b)
   ·have HN := Hd (HT.out.next hlt q)
    go_wp2
    go_roundw
    case rel => exact ⟨k + 1, by omega, by go_num, HN.out, X⟩
    case measure => simp [intOf] <;> omega
   ·have HN := Hd (sHas_yes hlt q)
    go_wp2
    go_ret
    exact ⟨ret_bool HN.out.symm, X⟩
  ·obtain rfl : k = s.size := by omega
   have HN := Hd (sHas_no HT.out)
   go_wp2
   go_ret
   exact ⟨ret_bool HN.out.symm, X⟩
def numOk (h : Bool) (x lo hi : Int) : Bool := h && inB x lo hi || !h && x == 0
theorem c_l4Num (h : Bool) (x lo hi : Int) (w : World) : Calls Tryz.prog 111 #[.bool h, .int .i64 x, .int .i64 lo, .int .i64 hi] w fun e w' => e = .returned (.bool (numOk h x lo hi)) ∧ Ext w w' := by
 cases h
 ·go_enter Tryz.func111, Tryz.ntmps111
  go_wp2
  all_goals
   go_ret
   exact ⟨ret_bool (by first | (simp [numOk, *]; done) | (simp_all [numOk]; done)), ext_refl _⟩
 ·go_enter Tryz.func111, Tryz.ntmps111
  go_wp2_with (go_at_call 15; refine (c_l1In _ _ _ _).mono ?_; rintro e w1 ⟨rfl, hx⟩; obtain ⟨hc1, hf1, hs1⟩ := hx.rules; (try simp at hs1))
  all_goals
   go_ret
   refine ⟨ret_bool ?_, ?_⟩
   ·(first | (simp [numOk, *]; done) | (simp_all [numOk]; done))
   ·(repeat (first | with_reducible exact ext_refl _ | with_reducible refine ext_to ?_ _ | with_reducible refine ext_set ?_ (by first | (simp; done) | (simp; omega) | omega) _ | with_reducible refine ext_drew ?_ | with_reducible refine Ext.trans ?_ (by assumption)))
def sForm (k : Int) : ByteArray := if k = 1 then ⟨#[67, 82, 100]⟩ else if k = 2 then ⟨#[102, 118, 111, 99, 67, 82, 100]⟩ else if k = 3 ∨ k = 10 then ⟨#[102, 118, 111]⟩ else if k = 4 then ⟨#[102, 118, 99]⟩ else if k = 5 then ⟨#[102, 118]⟩ else if k = 6 then ⟨#[102, 118, 110, 99, 108]⟩ else if k = 7 ∨ k = 11 then ⟨#[102, 118, 99, 108]⟩ else if k = 8 then ⟨#[102, 107]⟩ else if k = 9 then ⟨#[102, 118, 107, 99, 108]⟩ else if k = 12 then ⟨#[118, 67, 82, 65]⟩ else ⟨#[]⟩
theorem c_l4Has (k : Int) (w : World) : Calls Tryz.prog 68 #[.int .i64 k] w fun e w' => e = .returned (.string (sForm k)) ∧ Ext w w' := by
 go_enter Tryz.func68, Tryz.ntmps68
 go_wp2
 all_goals
  go_ret
  refine ⟨?_, ext_refl _⟩
  (first | (simp [sForm, *]; done) | (simp_all [sForm]; done))
def fOk (b n : Int) : Bool := if b = 70 then inB n 0 4 else if b = 114 then inB n 1 1000000000 else if b = 65 then inB n (-1) 1000000000 else inB n 0 1000000000
theorem sForm_small (k : Int) : (sForm k).size ≤ 100 := by unfold sForm; (repeat' split) <;> decide
def fOne (h : Bool) (b n : Int) : Bool := h && fOk b n || !h && n == 0
def iLet (k : Nat) : Int := if h : k < 9 then (((⟨#[70, 86, 79, 67, 78, 110, 99, 114, 65]⟩ : ByteArray)[k]'h).toNat : Int) else 0
def iVal (m : Mg) : Nat → Int
 | 0 => m.frm
 | 1 => m.view
 | 2 => m.op
 | 3 => m.commit
 | 4 => m.normal
 | 5 => m.nonce
 | 6 => m.client
 | 7 => m.req
 | _ => m.answer
def Mg.cells (a : LAd) (m : Mg) : Array Value := match Mg.val a m with | .agg x => x | _ => #[]
def iFld (m : Mg) (f : ByteArray) (k : Nat) : Bool := fOne (sHas f (iLet k)) (iLet k) (iVal m k)
def iTo (m : Mg) (f : ByteArray) (k : Nat) : Prop := ∀ j, j < k → iFld m f j = true
instance (m : Mg) (f : ByteArray) (k : Nat) : Decidable (iTo m f k) := inferInstanceAs (Decidable (∀ j, j < k → _))
theorem iTo.next {m : Mg} {f : ByteArray} {k : Nat} (h : iTo m f k) (hs : iFld m f k = true) : iTo m f (k + 1) := fun j hj => by
 by_cases he : j = k
 ·subst he; exact hs
 ·exact h j (by omega)
abbrev Lg.cs (a : LAd) (l : Lg) : Array Value := #[.int .i64 l.base, .slice a.cA l.cells.length a.cc, .slice a.sA l.seats.length a.sc, .slice a.eA l.ents.length a.ec]
def liveB (r : Rp) : Bool := (r.mode == 1) || (r.mode == 2)
def leadsB (r : Rp) : Bool := r.me == r.view % r.of
def askM2 (r : Rp) (view op : Int) : Mg := ⟨10, r.me, view, op, 0, 0, 0, 0, 0, 0, 0, 0, 0, Lg.none⟩
def Rp.lead (r : Rp) (view : Int) (l : Lg) (commit : Int) : Rp := ⟨r.me, r.of, 1, view, view, min commit l.fin, l, [], view, r.nonce⟩
structure RpGood (r : Rp) : Prop where
 of : r.of = 1 ∨ r.of = 3 ∨ r.of = 5
 me0 : 0 ≤ r.me
 me1 : r.me < r.of
 view0 : 0 ≤ r.view
 view1 : r.view ≤ 1000000000
 lok : logOk r.log = true
 base0 : 0 ≤ r.log.base
 base1 : r.log.base ≤ 1000000000
 ents : r.log.ents.length ≤ 60
 fin : r.log.fin ≤ 1000000000
 c0 : r.log.base ≤ r.commit
 c1 : r.commit ≤ r.log.fin
 votes : r.votes.length ≤ 20
section
variable {W0 w : World} {p : Nat} {a : LAd} {A : Option Addr} {c : Nat} {qs : List VtE} {R : Rp} {Ao : Option Addr} {co : Nat} {os : List OtE}
theorem none_small : Lg.none.small := ⟨by simp [Lg.none], by simp [Lg.none], by simp [Lg.none]⟩
end
end Go.Proofs.YtkmkchfjnhnacaaGreat
namespace Go.Proofs.YtkmkchfjnhnacaaGreat
open Go.ChangeShapes Go.WideShapes Go.ChangeAt Go.RowKit Go.Joins Go.Deep
set_option linter.unusedVariables false
theorem own : ownKnob Tryz.prog.godebug = none := by kernel_rfl
theorem laidOut : laidOutB Tryz.prog = true := by kernel_rfl
theorem trodAll_stays {P : Program} (laid : laidOutB P = true) {H : Type} {enc : TypeId × Value → H} {W W' : World} (hx : Ext W W') : ∀ (ts : List TypeId) (vs : List Value) (ds : List (DataW H)) (ps : List MemPlace),
  (ts.all fun t => P.readableRec t && decide (t < P.types.size)) = true → (∀ x ∈ ps, x.block < W.heap.size) → DataW.TrodAll enc P W 0 (fun _ => true) true ts vs ds ps →
  DataW.TrodAll enc P W' 0 (fun b => decide (b < W.heap.size)) true ts vs ds ps
 | [], [], [], ps, _, _, h => h
 | t :: ts, v :: vs, d :: ds, ps, hr, hlt, h => by
  obtain ⟨p, q, h1, h2, rfl⟩ := h
  simp only [List.all_cons, Bool.and_eq_true, decide_eq_true_eq] at hr
  exact ⟨p, q, Below.trod laid hr.1.1 hr.1.2 h1 hx (fun x hx => hlt x (List.mem_append_left _ hx)), trodAll_stays laid hx ts vs ds q hr.2 (fun x hx => hlt x (List.mem_append_right _ hx)) h2, rfl⟩
 | [], [], _ :: _, _, _, _, h => h.elim
 | [], _ :: _, [], _, _, _, h => h.elim
 | [], _ :: _, _ :: _, _, _, _, h => h.elim
 | _ :: _, [], [], _, _, _, h => h.elim
 | _ :: _, [], _ :: _, _, _, _, h => h.elim
 | _ :: _, _ :: _, [], _, _, _, h => h.elim
theorem law_post {P : Program} {T : TypeId} (laid : laidOutB P = true) (hbool : P.underlying T = some .bool) {H : Type} {enc : TypeId × Value → H} {s : ChangeSpec} {f : Func} {W W' : World} {args : Array Value} {ds : List (DataW H)} {before : List MemPlace}
  (hW : DataW.Whole enc P f.params.toList s.vars false W args.toList ds [] before) (hx : Ext W W') (hv : s.vars = []) (hr : (s.fn H (ds ++ [])).results = [.lit (.bool true)]) (ha : (s.fn H (ds ++ [])).args = ds) (hvs : (s.fn H (ds ++ [])).vars = [])
  (hts : (f.params.toList.all fun t => P.readableRec t && decide (t < P.types.size)) = true) (hres : f.resultTypes = #[T]) :
  s.post enc P f false true false false W args (.bool true) W' := by
 have hlt : ∀ x ∈ before, x.block < W.heap.size := fun x hx => hW.lt x hx
 have hW2 := hW
 obtain ⟨p, q, hA, hV, rfl, hfz, hnd⟩ := hW
 have hq : q = [] := by
  rw [hv] at hV
  exact hV
 subst hq
 refine ⟨ds, [], _, [], p, [], hW2, ?_, ?_, ?_, hx.frame _, fun h => by cases h⟩
 ·rw [hr, hres]
  exact trodAll_mk1 (shut_bool hbool _)
 ·rw [ha]
  exact trodAll_stays laid hx _ _ _ _ hts (fun x hx => hlt x (List.mem_append_left _ hx)) hA
 ·rw [hvs, hv]
  rfl
def leafTy (P : Program) : Nat → TypeId → Nat → Option TypeId
 | 0, _, _ => none
 | n + 1, t, j => match P.underlying t with
  | some (.struct fs) => match (List.range fs.size).find? (fun i => match fs[i]? with | some f => decide (f.offset ≤ j) && decide (j < f.offset + P.cellsOf f.type) | none => false) with
   | some i => match fs[i]? with
    | some f => leafTy P n f.type (j - f.offset)
    | none => none
   | none => none
  | some (.int .i64) => if j = 0 then some t else none
  | some (.slice _) => if j = 0 then some t else none
  | some .string => if j = 0 then some t else none
  | _ => none
theorem trod_leaf {H : Type} {enc : TypeId × Value → H} {P : Program} {w : World} {base : Nat} {spare : Nat → Bool} {held : Bool} : ∀ (n : Nat) (t lt : TypeId) (fuel : Nat) (cs : List Value) (x : DataW H × List MemPlace) (j : Nat),
  leafTy P n t j = some lt → DataW.trod enc P w base spare held fuel t cs = some x → ∃ (v : Value) (fuel' : Nat) (x' : DataW H × List MemPlace), cs[j]? = some v ∧ DataW.trod enc P w base spare held fuel' lt [v] = some x'
 | 0, _, _, _, _, _, _, h, _ => by simp [leafTy] at h
 | n + 1, t, lt, fuel, cs, x, j, h, ht => by
  unfold leafTy at h
  split at h
  ·rename_i fs hu
   split at h
   ·rename_i i hfi
    have hp := List.find?_some hfi
    have hm := List.mem_of_find?_eq_some hfi
    split at h
    ·rename_i f hf
     rw [hf] at hp
     simp only [Bool.and_eq_true, decide_eq_true_eq] at hp
     obtain ⟨ys, m, rfl, hy, hlen, hyl, hff⟩ := DataW.trod_struct hu ht
     have h6 := hff i f hf
     have hil : i < ys.length := by rw [hyl]; exact (List.mem_range.1 hm)
     rw [List.getElem?_eq_getElem hil] at h6
     obtain ⟨v, f', x', hv, hx'⟩ := trod_leaf n f.type lt m _ _ (j - f.offset) h h6
     refine ⟨v, f', x', ?_, hx'⟩
     rw [List.getElem?_take, List.getElem?_drop] at hv
     split at hv
     ·rwa [show f.offset + (j - f.offset) = j by omega] at hv
     ·cases hv
    ·cases h
   ·cases h
  ·rename_i hu
   split at h
   ·simp only [Option.some.injEq] at h
    subst h
    rename_i hj
    subst hj
    obtain ⟨z, rfl, _⟩ := DataW.trod_int hu ht
    exact ⟨_, _, _, rfl, ht⟩
   ·cases h
  ·rename_i e hu
   split at h
   ·simp only [Option.some.injEq] at h
    subst h
    rename_i hj
    subst hj
    rcases open_slice hu ht with ⟨rfl, _⟩ | ⟨a, len, cap, m, n, D, Pl, rfl, _⟩
    ·exact ⟨_, _, _, rfl, ht⟩
    ·exact ⟨_, _, _, rfl, ht⟩
   ·cases h
  ·rename_i hu
   split at h
   ·simp only [Option.some.injEq] at h
    subst h
    rename_i hj
    subst hj
    obtain ⟨s, rfl, _⟩ := DataW.trod_string hu ht
    exact ⟨_, _, _, rfl, ht⟩
   ·cases h
  ·cases h
section
variable {H : Type} {enc : TypeId × Value → H} {P : Program} {w : World} {base : Nat} {spare : Nat → Bool} {held : Bool}
def Tr (enc : TypeId × Value → H) (P : Program) (w : World) (base : Nat) (spare : Nat → Bool) (held : Bool) (t : TypeId) (cs : List Value) : Prop := ∃ fuel x, DataW.trod enc P w base spare held fuel t cs = some x
theorem Tr.int {n : Nat} {t lt : TypeId} {cs : List Value} (h : Tr enc P w base spare held t cs) (j : Nat) (hl : leafTy P n t j = some lt) (hu : P.underlying lt = some (.int .i64)) : ∃ z : Int, cs[j]? = some (.int .i64 z) ∧ (Lit.int .i64 z).wf = true := by
 obtain ⟨fuel, x, hx⟩ := h
 obtain ⟨v, f', x', hv, hx'⟩ := trod_leaf n t lt fuel cs x j hl hx
 obtain ⟨z, hz, _, hwf⟩ := DataW.trod_int hu hx'
 simp only [List.cons.injEq, and_true] at hz
 subst hz
 exact ⟨z, hv, hwf⟩
theorem Tr.str {n : Nat} {t lt : TypeId} {cs : List Value} (h : Tr enc P w base spare held t cs) (j : Nat) (hl : leafTy P n t j = some lt) (hu : P.underlying lt = some .string) : ∃ s : ByteArray, cs[j]? = some (.string s) ∧ s.size ≤ maxLen := by
 obtain ⟨fuel, x, hx⟩ := h
 obtain ⟨v, f', x', hv, hx'⟩ := trod_leaf n t lt fuel cs x j hl hx
 obtain ⟨s, hs, _, hsz⟩ := DataW.trod_string hu hx'
 simp only [List.cons.injEq, and_true] at hs
 subst hs
 exact ⟨s, hv, hsz⟩
theorem Tr.slice {n : Nat} {t lt e : TypeId} {cs : List Value} (h : Tr enc P w base spare held t cs) (j : Nat) (hl : leafTy P n t j = some lt) (hu : P.underlying lt = some (.slice e)) : ∃ A m c, cs[j]? = some (.slice A m c) ∧ Tr enc P w base spare held lt [.slice A m c] := by
 obtain ⟨fuel, x, hx⟩ := h
 obtain ⟨v, f', x', hv, hx'⟩ := trod_leaf n t lt fuel cs x j hl hx
 rcases open_slice hu hx' with ⟨he, _⟩ | ⟨a, len, cap, m, n, D, Pl, he, _⟩
 ·simp only [List.cons.injEq, and_true] at he
  subst he
  exact ⟨_, _, _, hv, f', x', hx'⟩
 ·simp only [List.cons.injEq, and_true] at he
  subst he
  exact ⟨_, _, _, hv, f', x', hx'⟩
theorem Tr.rows {t e : TypeId} {A : Option Addr} {len cap C : Nat} (h : Tr enc P w base spare held t [.slice A len cap]) (ht : P.underlying t = some (.slice e)) (hC : P.cellsOf e = C) (hpos : 0 < C) :
  len ≤ cap ∧ cap ≤ maxLen ∧ (0 < len → ∃ b o, A = some ⟨b, o, none⟩ ∧ b < w.heap.size ∧ ∀ k, k < len → ∃ cs : List Value, cs.length = C ∧ Tr enc P w base spare held e cs ∧ ∀ j u, cs[j]? = some u → w.cell? ⟨b, o + k * C + j, none⟩ = some u) := by
 obtain ⟨fuel, x, hx⟩ := h
 rcases open_slice ht hx with ⟨hcs, _⟩ | ⟨a, len', cap', m, n, D, Pl, hcs, hb, hl, hm, hmm, _, hi⟩
 ·simp only [List.cons.injEq, and_true, Value.slice.injEq] at hcs
  obtain ⟨rfl, rfl, rfl⟩ := hcs
  exact ⟨Nat.le_refl _, by unfold maxLen; omega, fun h => absurd h (by simp)⟩
 ·simp only [List.cons.injEq, and_true, Value.slice.injEq] at hcs
  obtain ⟨rfl, rfl, rfl⟩ := hcs
  have hlm : len ≤ m := by rw [hmm]; split <;> omega
  refine ⟨hl, hm, fun h0 => ?_⟩
  obtain ⟨b, o, s⟩ := a
  obtain ⟨cs0, hc0, _⟩ := hi 0 (by omega)
  rw [hC] at hc0
  obtain ⟨_, hcl, hat⟩ := World.cells?_some hc0
  have h1 := hat 0 (by omega)
  rw [List.getElem?_eq_getElem (by omega)] at h1
  have hs : s = none := by
   cases s with
   | none => rfl
   | some q =>
    exfalso
    simp [Addr.add, World.cell?] at h1
    split at h1 <;> simp at h1
  subst hs
  have hadd : ∀ x y : Nat, ((⟨b, o, none⟩ : Addr).add x).add y = ⟨b, o + x + y, none⟩ := fun x y => by
   unfold Addr.add
   by_cases hx : x = 0 <;> by_cases hy : y = 0 <;> simp [hx, hy]
  have hlt : b < w.heap.size := by
   have := block_lt_of_cell h1
   rw [hadd] at this
   exact this
  refine ⟨b, o, rfl, hlt, fun k hk => ?_⟩
  obtain ⟨cs, hc, ht'⟩ := hi k (by omega)
  rw [hC] at hc
  obtain ⟨_, hcl', hat'⟩ := World.cells?_some hc
  refine ⟨cs, hcl', ⟨_, _, ht'⟩, fun j u hu => ?_⟩
  have hj : j < C := by
   have := (List.getElem?_eq_some_iff.1 hu).1
   omega
  rw [← hadd, hat' j hj, hu]
theorem pick_list {α : Type} (Q : Nat → α → Prop) : ∀ n, (∀ i, i < n → ∃ x, Q i x) → ∃ l : List α, l.length = n ∧ ∀ i (hi : i < l.length), Q i l[i]
 | 0, _ => ⟨[], rfl, fun i hi => absurd hi (by simp)⟩
 | n + 1, h => by
  obtain ⟨l, hl, hp⟩ := pick_list Q n (fun i hi => h i (by omega))
  obtain ⟨x, hx⟩ := h n (by omega)
  refine ⟨l ++ [x], by simp [hl], fun i hi => ?_⟩
  by_cases hin : i < l.length
  ·rw [List.getElem_append_left hin]; exact hp i hin
  ·have : i = n := by simp at hi; omega
   subst this
   rw [List.getElem_append_right (by omega)]
   simpa [hl] using hx
theorem Tr.list {t e : TypeId} {A : Option Addr} {len cap C : Nat} (h : Tr enc P w base spare held t [.slice A len cap]) (ht : P.underlying t = some (.slice e)) (hC : P.cellsOf e = C) (hpos : 0 < C) {α : Type} (eα : α → List Value) (R : α → Prop)
  (hq : ∀ cs : List Value, cs.length = C → Tr enc P w base spare held e cs → ∃ a : α, eα a = cs ∧ R a) : ∃ l : List α, l.length = len ∧ Rd eα C w A cap l ∧ ∀ a ∈ l, R a := by
 obtain ⟨hl, hm, hr⟩ := h.rows ht hC hpos
 by_cases h0 : 0 < len
 ·obtain ⟨b, o, rfl, hb, hk⟩ := hr h0
  obtain ⟨l, hll, hp⟩ := pick_list (fun k (a : α) => R a ∧ ∀ j u, (eα a)[j]? = some u → w.cell? ⟨b, o + k * C + j, none⟩ = some u) len (fun k hkl => by
   obtain ⟨cs, h1, h2, h3⟩ := hk k hkl
   obtain ⟨a, ha, hR⟩ := hq cs h1 h2
   exact ⟨a, hR, by rw [ha]; exact h3⟩)
  refine ⟨l, hll, ⟨by omega, hm, fun _ => ⟨b, o, rfl, hb, fun k hkk j u hu => (hp k hkk).2 j u hu⟩⟩, fun a ha => ?_⟩
  obtain ⟨i, hi, rfl⟩ := List.getElem_of_mem ha
  exact (hp i hi).1
 ·obtain rfl : len = 0 := by omega
  exact ⟨[], rfl, ⟨by simp, hm, fun h => absurd h (by simp)⟩, by simp⟩
end
section
variable {H : Type} {enc : TypeId × Value → H} {w : World} {base : Nat} {spare : Nat → Bool} {held : Bool}
end
section
variable {H : Type} {enc : TypeId × Value → H} {w : World} {base : Nat} {spare : Nat → Bool} {held : Bool}
end
theorem vsN_congr {ps qs : List VtE} (h : ps.map Prod.snd = qs.map Prod.snd) : ∀ k, vsN ps k = vsN qs k
 | 0 => rfl
 | k + 1 => by
  have ih := vsN_congr h k
  have hat : ps[k]?.map Prod.snd = qs[k]?.map Prod.snd := by
   have := congrArg (fun l => l[k]?) h
   simpa using this
  unfold vsN
  rw [ih]
  congr 1
  revert hat
  cases ps[k]? <;> cases qs[k]? <;> intro hat
  ·rfl
  ·simp at hat
  ·simp at hat
  ·simp at hat
   simp only [hat]
end Go.Proofs.YtkmkchfjnhnacaaGreat
namespace Go.Proofs.YtkmkchfjnhnacaaGreat
open Go.ChangeShapes Go.WideShapes Go.ChangeAt Go.RowKit Go.Sort
set_option linter.unusedVariables false
set_option linter.unusedSimpArgs false
def rpK (k : Int) (ps : List VtE) (r : Rp) : Int := VtE.Ks (k + r.log.mN) ps ps.length
structure RpH (w : World) (a : LAd) (A : Option Addr) (c : Nat) (ps : List VtE) (r : Rp) (k : Int) : Prop where
 l : LgR w a (r.log.mk' k r.log.base)
 v : VsR w A c (VtE.mks (k + r.log.mN) ps)
theorem RpH.keep {w w' : World} {a : LAd} {A : Option Addr} {c : Nat} {ps : List VtE} {r : Rp} {k : Int} (h : RpH w a A c ps r k) (hx : Ext w w') : RpH w' a A c ps r k := ⟨h.l.keep hx, h.v.keep hx⟩
theorem LgS.congr {ps qs : List VtE} (h : ps.map Prod.snd = qs.map Prod.snd) (hs : LgS ps) : LgS qs := fun q hq => by
 have h1 : q.2 ∈ qs.map Prod.snd := List.mem_map_of_mem hq
 rw [← h] at h1
 obtain ⟨p, hp, he⟩ := List.mem_map.1 h1
 rw [← he]
 exact hs p hp
theorem mN_lgN (l : Lg) : l.mN ≤ 5 * lgN l := by unfold Lg.mN lgN; omega
theorem Ks_bound (k : Int) (ps : List VtE) : ∀ j, j ≤ ps.length → VtE.Ks k ps j ≤ k + 7 * j + 5 * vsN ps j
 | 0, _ => by simp [VtE.Ks, vsN]
 | j + 1, hj => by
  have ih := Ks_bound k ps j (by omega)
  have h1 := VtE.Ks_next k (ps := ps) (j := j) (by omega)
  have h2 := vsN_next (ps := ps) (k := j) (by omega)
  have h3 := mN_lgN (ps[j]'(by omega)).2.log
  have h4 : (ps[j]'(by omega)).2.mN = 7 + (ps[j]'(by omega)).2.log.mN := rfl
  rw [h1, h2, h4]
  omega
def RpV (n : Nat) (r : Rp) (v : Value) (w : World) : Prop := ∃ a g qs, v = Rp.val a (some ⟨g, 0, none⟩) n n r ∧ List.length qs = n ∧ RpR w a (some ⟨g, 0, none⟩) n qs r
theorem RpV.mono (n : Nat) (r : Rp) : Mono (RpV n r) := fun v w w' ⟨a, g, qs, h, hl, hr⟩ hx => ⟨a, g, qs, h, hl, hr.keep hx⟩
end Go.Proofs.YtkmkchfjnhnacaaGreat
