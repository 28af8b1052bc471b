/- The laws' own functions on images, logs, votes: how great they are, and made anew. -/
import Derived.Test.YtikelfmmldafpaaGreatPk1
import Derived.Test.YtikelfmmldafpaaGreatPk2
import Derived.Laws.Tables
import Derived.Test.YtikelfmmldafpaaGreatPk0
import Derived.Laws.Rows
namespace Go.Proofs.YtikelfmmldafpaaGreat
open Go.ChangeShapes Go.WideShapes Go.ChangeAt Go.RowKit Go.Sort
set_option linter.unusedVariables false
set_option linter.unusedSimpArgs false
theorem Rd.atVtE {w:World} {A:Option Addr} {c:Nat} {l:List VtE} (h:Rd VtE.enc 10 w A c l) {k:Nat} (hk:k < l.length):∃ b o,A=some ⟨b,o,none⟩∧b < w.heap.size ∧
  w.cell? ⟨b,o+k * 10,none⟩=some (.int .i64 l[k].2.kind)∧w.cell? ⟨b,o+k * 10+1,none⟩=some (.int .i64 l[k].2.frm)∧w.cell? ⟨b,o+k * 10+2,none⟩=some (.int .i64 l[k].2.view)∧w.cell? ⟨b,o+k * 10+3,none⟩=some (.int .i64 l[k].2.normal)∧w.cell? ⟨b,o+k * 10+4,none⟩=some (.int .i64 l[k].2.op)∧w.cell? ⟨b,o+k * 10+5,none⟩=some (.int .i64 l[k].2.commit)∧w.cell? ⟨b,o+k * 10+6,none⟩=some (.int .i64 l[k].2.log.base) ∧
  w.cell? ⟨b,o+k * 10+7,none⟩=some (.slice l[k].1.cA l[k].2.log.cells.length l[k].1.cc)∧w.cell? ⟨b,o+k * 10+8,none⟩=some (.slice l[k].1.sA l[k].2.log.seats.length l[k].1.sc)∧w.cell? ⟨b,o+k * 10+9,none⟩=some (.slice l[k].1.eA l[k].2.log.ents.length l[k].1.ec):=by
 obtain ⟨b,o,e,hlt,hc⟩:=h.2.2 (by omega)
 exact ⟨b,o,e,hlt,hc k hk 0 _ rfl,hc k hk 1 _ rfl,hc k hk 2 _ rfl,hc k hk 3 _ rfl,hc k hk 4 _ rfl,hc k hk 5 _ rfl,hc k hk 6 _ rfl,hc k hk 7 _ rfl,hc k hk 8 _ rfl,hc k hk 9 _ rfl⟩
def Lg.small (l:Lg):Prop:=l.cells.length≤1048576∧l.seats.length≤1048576∧l.ents.length≤1048576
abbrev VtE.val (a:LAd) (v:Vt):Value := .agg #[.int .i64 v.kind, .int .i64 v.frm, .int .i64 v.view, .int .i64 v.normal, .int .i64 v.op, .int .i64 v.commit, .int .i64 v.log.base, .slice a.cA v.log.cells.length a.cc, .slice a.sA v.log.seats.length a.sc, .slice a.eA v.log.ents.length a.ec]
abbrev Vt.zero:Value := .agg #[.int .i64 0, .int .i64 0, .int .i64 0, .int .i64 0, .int .i64 0, .int .i64 0, .int .i64 0, .slice none 0 0, .slice none 0 0, .slice none 0 0]
theorem Tryz.infoVt:(Tryz.prog.info? 57).map (fun i=>(i.zero,i.size,i.bytes))=some (some Vt.zero,10,128):=by kernel_rfl
def VsS (ps qs:List VtE) (k:Nat):Prop:=qs.map Prod.snd=(ps.take k).map Prod.snd
theorem VsS.length {ps qs:List VtE} {k:Nat} (h:VsS ps qs k) (hk:k≤ps.length):qs.length=k:=by
 have:=congrArg List.length h
 simp at this
 omega
theorem VsS.next {ps qs:List VtE} {k:Nat} (h:VsS ps qs k) (hk:k < ps.length) (a:LAd):VsS ps (qs++[(a,ps[k].2)]) (k+1):=by
 unfold VsS at h ⊢
 rw [List.map_append,h,List.take_succ_eq_append_getElem hk,List.map_append]
 rfl
def LgS (ps:List VtE):Prop:=∀ p∈ps,p.2.log.small
abbrev Lg.val (a:LAd) (l:Lg):Value := .agg #[.int .i64 l.base, .slice a.cA l.cells.length a.cc, .slice a.sA l.seats.length a.sc, .slice a.eA l.ents.length a.ec]
abbrev Lg.obj (a:LAd) (l:Lg):Obj := .cells #[.int .i64 l.base, .slice a.cA l.cells.length a.cc, .slice a.sA l.seats.length a.sc, .slice a.eA l.ents.length a.ec] 30
set_option maxHeartbeats 2000000 in
theorem c_idxEnt (g:Nat) (lb:Array Value) (p:Ent→Bool) (eg:∀ args w,(callFunc g args).run Tryz.prog w = .ok (.enter g args) w) (A:Option Addr) (c:Nat) (l:List Ent) (w:World) (ha:Rd Ent.enc 5 w A c l) (hn:l.length≤1099511627776)
  (hp:∀ W,Ext w W→∀ k (hk:k < l.length),Calls Tryz.prog g (#[.agg #[.int .i64 l[k].client, .int .i64 l[k].req, .int .i64 l[k].kind, .int .i64 l[k].key, .int .i64 l[k].value]]++lb) W fun e w'=>e = .returned (.bool (p l[k]))∧Ext W w') :
  Calls Tryz.prog 102 #[.slice A l.length c, .func (.func g) #[] lb] w fun e w'=>e = .returned (.int .i64 (idxOf p l))∧Ext w w':=by
 have HP:=Hd hp
 clear hp
 go_enter Tryz.func102,Tryz.ntmps102
 go_wp2
 go_loopw [8] (fun i wr=>∃ k:Nat,k≤l.length∧i = .int .i64 k∧(∀ j (hj:j < l.length),j < k→p l[j]=false)∧Ext w wr) (fun i _=>l.length - (intOf i).toNat)
 case atStart=>exact ⟨0,Nat.zero_le _,rfl,fun j hj h=>absurd h (by omega),ext_refl _⟩
 case round =>
  obtain ⟨k,hk,rfl,ht,hx0⟩:=hrel
  have HT:=Hd ht
  clear ht
  by_cases hlt:k < l.length
  ·have hcall:=HP.out wr hx0 k hlt
   obtain ⟨ab,ao,rfl,hab,a0,a1,a2,a3,a4⟩:=(ha.keep hx0).atEnt hlt
   cases hq:p l[k]
   ·rw [hq] at hcall
    have HQ:=Hd hq
    clear hq HP
    go_wp2_with fail
    refine hcall.mono ?_
    rintro e w1 ⟨rfl,hx⟩
    clear hcall
    go_wp2
    go_roundw
    case rel=>exact ⟨k+1,by omega,by go_num,no_next HT.out (fun _=>HQ.out),Ext.trans hx0 hx⟩
    case measure=>simp [intOf] <;> omega
   ·rw [hq] at hcall
    have HQ:=Hd hq
    clear hq HP
    go_wp2_with fail
    refine hcall.mono ?_
    rintro e w1 ⟨rfl,hx⟩
    clear hcall
    go_wp2
    go_ret
    exact ⟨ret_int (idx_hit hlt HQ.out HT.out).symm,Ext.trans hx0 hx⟩
  ·have HV:=Hd (idx_miss (p:=p) (l:=l) (fun j hj=>HT.out j hj (by omega)))
   go_wp2
   go_ret
   exact ⟨ret_int HV.out.symm,hx0⟩
theorem c_anyEnt (g:Nat) (lb:Array Value) (p:Ent→Bool) (eg:∀ args w,(callFunc g args).run Tryz.prog w = .ok (.enter g args) w) (A:Option Addr) (c:Nat) (l:List Ent) (w:World) (ha:Rd Ent.enc 5 w A c l) (hn:l.length≤1099511627776)
  (hp:∀ W,Ext w W→∀ k (hk:k < l.length),Calls Tryz.prog g (#[.agg #[.int .i64 l[k].client, .int .i64 l[k].req, .int .i64 l[k].kind, .int .i64 l[k].key, .int .i64 l[k].value]]++lb) W fun e w'=>e = .returned (.bool (p l[k]))∧Ext W w') :
  Calls Tryz.prog 64 #[.slice A l.length c, .func (.func g) #[] lb] w fun e w'=>e = .returned (.bool (l.any p))∧Ext w w':=by
 have hcon:=c_idxEnt g lb p eg A c l w ha hn hp
 rw [←idxOf_any]
 obtain ⟨z,hz⟩:∃ z,idxOf p l=z:=⟨_,rfl⟩
 rw [hz] at hcon ⊢
 clear hz hp
 go_enter Tryz.func64,Tryz.ntmps64
 go_wp2_with fail
 refine hcon.mono ?_
 rintro e w1 ⟨rfl,x1⟩
 go_wp2
 go_ret
 exact ⟨rfl,x1⟩
def LogOk (l:Lg):Prop:=inB l.base 0 1000000000=true∧imageOk l.cells l.seats=true∧l.ents.length≤60∧inB (l.base+l.ents.length) 0 1000000000=true∧∀ e∈l.ents,e.ok=true
instance (l:Lg):Decidable (LogOk l):=inferInstanceAs (Decidable (_∧_))
def logOk (l:Lg):Bool:=decide (LogOk l)
theorem logOk_1 {l:Lg} (h:inB l.base 0 1000000000=false):logOk l=false:=decide_eq_false fun hp=>by have:=hp.1;rw [h] at this;cases this
theorem logOk_2 {l:Lg} (h:imageOk l.cells l.seats=false):logOk l=false:=decide_eq_false fun hp=>by have:=hp.2.1;rw [h] at this;cases this
theorem logOk_3 {l:Lg} (h:¬ l.ents.length≤60):logOk l=false:=decide_eq_false fun hp=>h hp.2.2.1
theorem logOk_4 {l:Lg} (h:inB (l.base+l.ents.length) 0 1000000000=false):logOk l=false:=decide_eq_false fun hp=>by have:=hp.2.2.2.1;rw [h] at this;cases this
theorem logOk_5 {l:Lg} {k:Nat} (hk:k < l.ents.length) (h:l.ents[k].ok=false):logOk l=false:=decide_eq_false fun hp=>by have:=hp.2.2.2.2 _ (List.getElem_mem hk);rw [h] at this;cases this
theorem logOk_any {l:Lg} (h1:inB l.base 0 1000000000=true) (h2:imageOk l.cells l.seats=true) (h3:l.ents.length≤60) (h4:inB (l.base+l.ents.length) 0 1000000000=true):logOk l=!l.ents.any (fun e=>!e.ok):=by
 unfold logOk
 rw [Bool.eq_iff_iff,decide_eq_true_eq]
 simp only [Bool.not_eq_true',List.any_eq_false,Bool.not_eq_true,Bool.not_eq_false']
 exact ⟨fun h e he=>by simpa using h.2.2.2.2 e he,fun h=>⟨h1,h2,h3,h4,fun e he=>by simpa using h e he⟩⟩
theorem logOk_any' {l:Lg} (h:l.ents.any (fun e=>!e.ok)=true):logOk l=false:=decide_eq_false fun hp=>by
 rw [List.any_eq_true] at h
 obtain ⟨e,he,hn⟩:=h
 have:=hp.2.2.2.2 e he
 rw [this] at hn
 cases hn
def ETo (l:List Ent) (k:Nat):Prop:=∀ j (h:j < l.length),j < k→l[j].ok=true
theorem ETo.next {l:List Ent} {k:Nat} (h:ETo l k) (hk:k < l.length) (hs:l[k].ok=true):ETo l (k+1):=fun j hj hjk=>by
 by_cases he:j=k
 ·subst he;exact hs
 ·exact h j hj (by omega)
theorem ETo.all {l:List Ent} (h:ETo l l.length):∀ e∈l,e.ok=true:=fun e he=>by
 obtain ⟨k,hk,rfl⟩:=List.mem_iff_getElem.1 he
 exact h k hk hk
set_option maxRecDepth 100000 in
set_option maxHeartbeats 8000000 in
theorem c_sLogOk (a:LAd) (l:Lg) (s1:l.cells.length≤1048576) (s2:l.seats.length≤1048576) (s3:l.ents.length≤1048576) (w:World) (hr:LgR w a l) :
  Calls Tryz.prog 26 #[Lg.val a l] w fun e w'=>e = .returned (.bool (logOk l))∧Ext w w':=by
 have X0:=ext_alloc w (Lg.obj a l)
 cases q1:inB l.base 0 1000000000
 ·have HN:=Hd (logOk_1 q1)
  go_enter Tryz.func26,Tryz.ntmps26
  go_wp2_with fail
  refine (c_l1Whole _ _).mono ?_
  rintro e w1 ⟨rfl,x1⟩
  go_wp2
  go_ret
  exact ⟨ret_bool HN.out.symm,Ext.trans X0 x1⟩
 have hI:=fun W (h:Ext (w.alloc (Lg.obj a l)) W)=>c_sImageOk a.cA a.cc l.cells a.sA a.sc l.seats W (hr.1.keep (Ext.trans X0 h)) (hr.2.1.keep (Ext.trans X0 h)) (by omega) (by omega)
 cases q2:imageOk l.cells l.seats
 ·have HN:=Hd (logOk_2 q2)
  rw [q2] at hI
  have HI:=Hd hI
  clear hI q2
  go_enter Tryz.func26,Tryz.ntmps26
  go_wp2_with fail
  refine (c_l1Whole _ _).mono ?_
  rintro e w1 ⟨rfl,x1⟩
  have b1:=bx_cell (x1.box (hNew (w:=w) (o:=Lg.obj a l) rfl))
  go_wp2_with fail
  refine (HI.out _ x1).mono ?_
  rintro e w2 ⟨rfl,x2⟩
  go_wp2
  go_ret
  exact ⟨ret_bool HN.out.symm,Ext.trans X0 (Ext.trans x1 x2)⟩
 have Q2:=Hd q2
 rw [q2] at hI
 have HI:=Hd hI
 clear hI q2
 by_cases h3:l.ents.length≤60
 ·have g3:decide ((60:Int) < (l.ents.length:Int))=false:=by simp;omega
  have hb:=(inB_yes _ _ _).1 q1
  obtain ⟨hb0,hb1⟩:=hb
  cases q4:inB (l.base+l.ents.length) 0 1000000000
  ·have HN:=Hd (logOk_4 q4)
   go_enter Tryz.func26,Tryz.ntmps26
   go_wp2_with fail
   refine (c_l1Whole _ _).mono ?_
   rintro e w1 ⟨rfl,x1⟩
   have b1:=bx_cell (x1.box (hNew (w:=w) (o:=Lg.obj a l) rfl))
   go_wp2_with fail
   refine (HI.out _ x1).mono ?_
   rintro e w2 ⟨rfl,x2⟩
   have b2:=bx_cell ((Ext.trans x1 x2).box (hNew (w:=w) (o:=Lg.obj a l) rfl))
   clear b1
   go_wp2_with fail
   refine (c_l1Whole _ _).mono ?_
   rintro e w3 ⟨rfl,x3⟩
   go_wp2
   go_ret
   exact ⟨ret_bool HN.out.symm,Ext.trans X0 (Ext.trans x1 (Ext.trans x2 x3))⟩
  ·go_enter Tryz.func26,Tryz.ntmps26
   go_wp2_with fail
   refine (c_l1Whole _ _).mono ?_
   rintro e w1 ⟨rfl,x1⟩
   have b1:=bx_cell (x1.box (hNew (w:=w) (o:=Lg.obj a l) rfl))
   go_wp2_with fail
   refine (HI.out _ x1).mono ?_
   rintro e w2 ⟨rfl,x2⟩
   have b2:=bx_cell ((Ext.trans x1 x2).box (hNew (w:=w) (o:=Lg.obj a l) rfl))
   clear b1
   go_wp2_with fail
   refine (c_l1Whole _ _).mono ?_
   rintro e w3 ⟨rfl,x3⟩
   have hw2:=Ext.trans x1 (Ext.trans x2 x3)
   have Q1:=Hd q1
   have Q4:=Hd q4
   go_wp2
   clear b2 q1 q4 hb0 hb1 x1 x2 x3
   go_loopw [3] (fun i wr=>∃ k:Nat,k≤l.ents.length∧i = .int .i64 k∧ETo l.ents k∧Ext (w.alloc (Lg.obj a l)) wr) (fun i _=>l.ents.length - (intOf i).toNat)
   case atStart=>exact ⟨0,Nat.zero_le _,rfl,fun j hj hjk=>absurd hjk (by omega),hw2⟩
   case round =>
    obtain ⟨k,hk,rfl,ht,hx0⟩:=hrel
    have HT:=Hd ht
    clear ht
    have B1:=hx0.box (hNew (w:=w) (o:=Lg.obj a l) rfl)
    have b1:=bx_cell B1
    have f1:=bx_frozen B1
    have z1:=bx_lt B1
    have X1:=Ext.trans X0 hx0
    by_cases hlt:k < l.ents.length
    ·obtain ⟨ab,ao,hA,hab,a0,a1,a2,a3,a4⟩:=(hr.2.2.keep X1).atEnt hlt
     have hcon:=c_sEntryOk l.ents[k]
     cases q5:l.ents[k].ok
     ·rw [q5] at hcon
      have HN:=Hd (logOk_5 hlt q5)
      clear q5
      rw [hA] at b1
      have HA:=Hd hA
      clear hA
      go_wp2_with fail
      refine (hcon _).mono ?_
      rintro e w3 ⟨rfl,x3⟩
      go_wp2
      go_ret
      exact ⟨ret_bool (by rw [HN.out]),Ext.trans X1 x3⟩
     ·rw [q5] at hcon
      have HQ:=Hd (HT.out.next hlt q5)
      clear q5
      rw [hA] at b1
      have HA:=Hd hA
      clear hA
      go_wp2_with fail
      refine (hcon _).mono ?_
      rintro e w3 ⟨rfl,x3⟩
      go_wp2
      go_roundw
      case rel=>exact ⟨k+1,by omega,by go_num,HQ.out,Ext.trans hx0 x3⟩
      case measure=>simp [intOf] <;> omega
    ·have hkl:k=l.ents.length:=by omega
     subst hkl
     have HV:=Hd (show logOk l=true from decide_eq_true ⟨Q1.out,Q2.out,h3,Q4.out,HT.out.all⟩)
     go_wp2
     go_ret
     exact ⟨ret_bool HV.out.symm,X1⟩
 ·have g3:decide ((60:Int) < (l.ents.length:Int))=true:=by simp;omega
  have HN:=Hd (logOk_3 h3)
  clear h3
  go_enter Tryz.func26,Tryz.ntmps26
  go_wp2_with fail
  refine (c_l1Whole _ _).mono ?_
  rintro e w1 ⟨rfl,x1⟩
  have b1:=bx_cell (x1.box (hNew (w:=w) (o:=Lg.obj a l) rfl))
  go_wp2_with fail
  refine (HI.out _ x1).mono ?_
  rintro e w2 ⟨rfl,x2⟩
  have b2:=bx_cell ((Ext.trans x1 x2).box (hNew (w:=w) (o:=Lg.obj a l) rfl))
  clear b1
  go_wp2
  go_ret
  exact ⟨ret_bool HN.out.symm,Ext.trans X0 (Ext.trans x1 x2)⟩
set_option maxHeartbeats 8000000 in
theorem c_iLogOk (a:LAd) (l:Lg) (s1:l.cells.length≤1048576) (s2:l.seats.length≤1048576) (s3:l.ents.length≤1048576) (w:World) (hr:LgR w a l) :
  Calls Tryz.prog 35 #[Lg.val a l] w fun e w'=>e = .returned (.bool (logOk l))∧Ext w w':=by
 have X0:=ext_alloc w (Lg.obj a l)
 cases q1:inB l.base 0 1000000000
 ·have HN:=Hd (logOk_1 q1)
  go_enter Tryz.func35,Tryz.ntmps35
  go_wp2_with fail
  refine (c_isWhole _ _).mono ?_
  rintro e w1 ⟨rfl,x1⟩
  go_wp2
  go_ret
  exact ⟨ret_bool HN.out.symm,Ext.trans X0 x1⟩
 have hI:=fun W (h:Ext (w.alloc (Lg.obj a l)) W)=>c_iImageOk a.cA a.cc l.cells a.sA a.sc l.seats W (hr.1.keep (Ext.trans X0 h)) (hr.2.1.keep (Ext.trans X0 h)) (by omega) (by omega)
 cases q2:imageOk l.cells l.seats
 ·have HN:=Hd (logOk_2 q2)
  rw [q2] at hI
  have HI:=Hd hI
  clear hI q2
  go_enter Tryz.func35,Tryz.ntmps35
  go_wp2_with fail
  refine (c_isWhole _ _).mono ?_
  rintro e w1 ⟨rfl,x1⟩
  have b1:=bx_cell (x1.box (hNew (w:=w) (o:=Lg.obj a l) rfl))
  go_wp2_with fail
  refine (HI.out _ x1).mono ?_
  rintro e w2 ⟨rfl,x2⟩
  go_wp2
  go_ret
  exact ⟨ret_bool HN.out.symm,Ext.trans X0 (Ext.trans x1 x2)⟩
 have Q2:=Hd q2
 rw [q2] at hI
 have HI:=Hd hI
 clear hI q2
 have hb:=(inB_yes _ _ _).1 q1
 obtain ⟨hb0,hb1⟩:=hb
 by_cases h3:l.ents.length≤60
 ·have g3:decide ((l.ents.length:Int)≤60)=true:=by simp;omega
  have hA:=fun W (h:Ext (w.alloc (Lg.obj a l)) W)=>c_anyEnt 65 #[] (fun e=>!e.ok) (enters Tryz.func65 (by kernel_rfl) rfl) a.eA a.ec l.ents W (hr.2.2.keep (Ext.trans X0 h)) (by omega) (fun W2 _ k hk=>c_badEntry l.ents[k] W2)
  cases q5:l.ents.any (fun e=>!e.ok)
  ·rw [q5] at hA
   have HA:=Hd hA
   clear hA
   have HV:=Hd (show inB (l.base+l.ents.length) 0 1000000000=logOk l by
    cases q4:inB (l.base+l.ents.length) 0 1000000000
    ·exact (logOk_4 q4).symm
    ·rw [logOk_any q1 Q2.out h3 q4,q5];rfl)
   clear q5
   go_enter Tryz.func35,Tryz.ntmps35
   go_wp2_with fail
   refine (c_isWhole _ _).mono ?_
   rintro e w1 ⟨rfl,x1⟩
   have b1:=bx_cell (x1.box (hNew (w:=w) (o:=Lg.obj a l) rfl))
   go_wp2_with fail
   refine (HI.out _ x1).mono ?_
   rintro e w2 ⟨rfl,x2⟩
   have X2:=Ext.trans x1 x2
   have b2:=bx_cell (X2.box (hNew (w:=w) (o:=Lg.obj a l) rfl))
   clear b1
   go_wp2_with fail
   refine (HA.out _ X2).mono ?_
   rintro e w3 ⟨rfl,x3⟩
   have X3:=Ext.trans X2 x3
   have b3:=bx_cell (X3.box (hNew (w:=w) (o:=Lg.obj a l) rfl))
   clear b2
   go_wp2_with fail
   refine (c_isWhole _ _).mono ?_
   rintro e w4 ⟨rfl,x4⟩
   go_wp2
   go_ret
   exact ⟨ret_bool HV.out,Ext.trans X0 (Ext.trans X3 x4)⟩
  ·rw [q5] at hA
   have HA:=Hd hA
   have HN:=Hd (logOk_any' q5)
   clear hA q5
   go_enter Tryz.func35,Tryz.ntmps35
   go_wp2_with fail
   refine (c_isWhole _ _).mono ?_
   rintro e w1 ⟨rfl,x1⟩
   have b1:=bx_cell (x1.box (hNew (w:=w) (o:=Lg.obj a l) rfl))
   go_wp2_with fail
   refine (HI.out _ x1).mono ?_
   rintro e w2 ⟨rfl,x2⟩
   have X2:=Ext.trans x1 x2
   have b2:=bx_cell (X2.box (hNew (w:=w) (o:=Lg.obj a l) rfl))
   clear b1
   go_wp2_with fail
   refine (HA.out _ X2).mono ?_
   rintro e w3 ⟨rfl,x3⟩
   go_wp2
   go_ret
   exact ⟨ret_bool HN.out.symm,Ext.trans X0 (Ext.trans X2 x3)⟩
 ·have g3:decide ((l.ents.length:Int)≤60)=false:=by simp;omega
  have HN:=Hd (logOk_3 h3)
  clear h3
  go_enter Tryz.func35,Tryz.ntmps35
  go_wp2_with fail
  refine (c_isWhole _ _).mono ?_
  rintro e w1 ⟨rfl,x1⟩
  have b1:=bx_cell (x1.box (hNew (w:=w) (o:=Lg.obj a l) rfl))
  go_wp2_with fail
  refine (HI.out _ x1).mono ?_
  rintro e w2 ⟨rfl,x2⟩
  have b2:=bx_cell ((Ext.trans x1 x2).box (hNew (w:=w) (o:=Lg.obj a l) rfl))
  clear b1
  go_wp2
  go_ret
  exact ⟨ret_bool HN.out.symm,Ext.trans X0 (Ext.trans x1 x2)⟩
def Lg.fin (l:Lg):Int:=l.base+l.ents.length
theorem c_end (a:LAd) (l:Lg) (w:World) (h0:-1000000000000≤l.base) (h1:l.base≤1000000000000) (s3:l.ents.length≤1048576):Calls Tryz.prog 30 #[Lg.val a l] w fun e w'=>e = .returned (.int .i64 l.fin)∧Ext w w':=by
 go_enter Tryz.func30,Tryz.ntmps30
 go_wp2
 go_ret
 exact ⟨rfl,ext_alloc _ _⟩
theorem c_sLogEnd (a:LAd) (l:Lg) (s1:l.cells.length≤1048576) (s2:l.seats.length≤1048576) (s3:l.ents.length≤1048576) (w:World) (hr:LgR w a l) (hok:logOk l=true) :
  Calls Tryz.prog 9 #[Lg.val a l] w fun e w'=>e = .returned (.int .i64 l.fin)∧Ext w w':=by
 have X0:=ext_alloc w (Lg.obj a l)
 have hb:=(inB_yes _ _ _).1 (of_decide_eq_true hok).1
 obtain ⟨hb0,hb1⟩:=hb
 have hcon:=c_sLogOk a l s1 s2 s3 _ (hr.keep X0)
 rw [hok] at hcon
 go_enter Tryz.func9,Tryz.ntmps9
 go_wp2_with fail
 refine hcon.mono ?_
 rintro e w1 ⟨rfl,x1⟩
 have b1:=bx_cell (x1.box (hNew (w:=w) (o:=Lg.obj a l) rfl))
 clear hcon
 go_wp2
 go_ret
 exact ⟨rfl,Ext.trans X0 x1⟩
def Stop (p:Prop):Prop:=p
theorem wl_stop {P:Program} {ops:Array Oper} {Q:Exit→Act→World→Prop} {l:List Oper} {a:Act} {w:World} (d:Nat) {op:Op} {ty:TypeId} {pos:String} {af:Array Edge} {gu:Option (Nat×Bool)} (h:Stop (wpList P ops Q ({ dst:=some d,op:=op,type:=ty,pos:=pos,after:=af,guard:=gu } :: l) a w)) :
  wpList P ops Q ({ dst:=some d,op:=op,type:=ty,pos:=pos,after:=af,guard:=gu } :: l) a w:=h
theorem stop_go {P:Program} {ops:Array Oper} {Q:Exit→Act→World→Prop} {l:List Oper} {a:Act} {w:World} (F:World→Prop) (hF:F w) (h:∀ W,F W→wpList P ops Q l a W):Stop (wpList P ops Q l a w):=h w hF
theorem isAgg_struct {P:Program} {t:TypeId} {fs:Array Field} (h:P.underlying t=some (.struct fs)) (w:World):(isAgg t).run P w = .ok true w:=by
 simp_all [isAgg,run_underlying h]
theorem wl_stopS {P:Program} {ops:Array Oper} {Q:Exit→Act→World→Prop} {l:List Oper} {a:Act} {w:World} (T:TypeId) {x y:Operand} {ty:TypeId} {pos:String} {af:Array Edge} {gu:Option (Nat×Bool)} (h:Stop (wpList P ops Q ({ dst:=none,op := .store T x y,type:=ty,pos:=pos,after:=af,guard:=gu } :: l) a w)) :
  wpList P ops Q ({ dst:=none,op := .store T x y,type:=ty,pos:=pos,after:=af,guard:=gu } :: l) a w:=h
theorem chg_setRow (w:World) (g:Nat) (cs:Array Value):Chg w (w.setRow g cs) [g]:=by
 refine ⟨rfl,rfl,rfl, ?_,fun k hk hn=>?_⟩
 ·simp [World.setRow]
 ·have hn':¬ g=k:=fun e=>hn (by simp [e])
  simp [World.setRow,Array.getElem?_modify,hn']
theorem stop_store {P:Program} {ops:Array Oper} {Q:Exit→Act→World→Prop} {l:List Oper} {a:Act} {w:World} {T t:TypeId} {x y:Operand} {ty:TypeId} {pos:String} {af:Array Edge} {old:Array Value} (g:Nat) (cells:Array Value)
  (hx:a.eval x = .pointer (some ⟨g,0,none⟩)) (hy:a.eval y = .agg cells) (hg:w.heap[g]?=some (.cells old t (0,0))) (hi:(P.info? T).map (·.size)=some cells.size) (hold:old.size=cells.size) (h1:cells.all (·.oneCell')=true)
  (h:∀ W,W.heap[g]?=some (.cells cells t (0,0))→Chg w W [g]→wpList P ops Q l (a.put none undef) W):Stop (wpList P ops Q ({ dst:=none,op := .store T x y,type:=ty,pos:=pos,after:=af,guard:=none } :: l) a w) :=
 wpList_store_row rfl T x y rfl g cells hx hy t old hg hi hold h1 (h _ (setRow_heap w g old cells t (0,0) hg) (chg_setRow w g cells))
theorem chg_new {a b c:World} {g:Nat} (h:Ext a b) (k:Chg b c [g]) (hg:a.heap.size≤g):Ext a c:=ext_chg h k (fun x hx=>by rw [Mi] at hx;omega)
theorem LgO.chg1 {w w':World} {B T g:Nat} {a:LAd} {l:Lg} (h:LgO w B T a l) (hg:Chg w w' [g]) (hlt:g < B):LgO w' B T a l:=h.chg hg (fun k hk hm=>by rw [Mi] at hm;have:=h.low k hk;omega)
theorem box_chg {w w':World} {g k:Nat} {o:Obj} (h:w.heap[k]?=some o) (hg:Chg w w' [g]) (hne:k≠g):w'.heap[k]?=some o:=(hg.block k (bx_lt h) (fun hm=>hne (by simpa using hm))).trans h
theorem results_box {P:Program} {fn:Func} {tmps:Array Value} {w:World} {p k:Nat} {cs:Array Value} {t T:TypeId} {fs:Array Field} (hr:fn.results=#[.cell k t]) (ht:tmps[k]?=some (.pointer (some ⟨p,0,none⟩)))
  (hu:P.underlying t=some (.struct fs)) (hie:(P.info? t).map (·.size)=some cs.size) (hb:w.heap[p]?=some (.cells cs T (0,0))):(results fn tmps).run P w = .ok (.agg cs) w:=by
 have h1:=run_loadCells_list (P:=P) w ⟨p,0,none⟩ cs.toList (fun j v h=>by rw [Addr.add_lit,Nat.zero_add,bx_cell hb j];simpa using h)
 obtain ⟨ie,hie,hs⟩:=Option.map_eq_some_iff.1 hie
 rw [Array.length_toList] at h1
 have hagg:=isAgg_struct hu w
 have hti:(typeInfo t).run P w = .ok ie w:=by simp [typeInfo,hie,go_sem]
 have hload:(loadVar t ⟨p,0,none⟩).run P w = .ok (.agg cs) w:=by
  simp [loadVar,hagg,sizeOf,hti,hs,h1,Result.andThen]
 simp [results,hr,ht,asAddr,hload]
end Go.Proofs.YtikelfmmldafpaaGreat
namespace Go.Proofs.YtikelfmmldafpaaGreat
open Go.RowKit Go.Sort
set_option linter.unusedVariables false
section
variable {P:Program} {ops:Array Oper} {md:Region.Mode}
theorem waits_up:∀ (f j i:Nat),waits md ops f j i=true→waits md ops (f+1) j i=true
 | 0,_,_,h=>by unfold waits at h;cases h
 | f+1,j,i,h=>by
  unfold waits at h ⊢
  cases ho:ops[j]? with
  | none=>simp only [ho] at h;cases h
  | some o =>
   simp only [ho,Bool.or_eq_true,Array.any_eq_true'] at h ⊢
   rcases h with ⟨e,h1,h2⟩ | ⟨e,h1,h2⟩
   ·exact .inl ⟨e,h1,h2⟩
   ·rw [Bool.and_eq_true] at h2
    exact .inr ⟨e,h1,by rw [Bool.and_eq_true];exact ⟨h2.1,waits_up f _ _ h2.2⟩⟩
theorem waits_le {f j i:Nat} (h:waits md ops f j i=true):∀ g,waits md ops (f+g) j i=true
 | 0=>h
 | g+1=>waits_up _ _ _ (waits_le h g)
def mOf (md:Region.Mode) (ms:List Nat):List Edge→Nat
 | []=>0
 | e::r=>if Region.binds md e=true then (mOf md ms r ||| 2 ^ e.on) ||| ms.getD e.on 0 else mOf md ms r
def masks (md:Region.Mode):List Oper→List Nat→List Nat
 | [],ms=>ms
 | o::r,ms=>masks md r (ms++[mOf md ms o.after.toList])
def MsOk (md:Region.Mode) (ops:Array Oper) (ms:List Nat):Prop:=∀ j m i,ms[j]?=some m→m.testBit i=true→waits md ops (j+1) j i=true
theorem mOf_ok {ms:List Nat} (h:MsOk md ops ms) (i:Nat):∀ (es:List Edge),(mOf md ms es).testBit i=true→∃ e∈es,Region.binds md e=true∧(e.on=i∨waits md ops ms.length e.on i=true)
 | [],hb=>by simp [mOf] at hb
 | e::r,hb=>by
  unfold mOf at hb
  split at hb
  ·rename_i he
   rw [Nat.testBit_or,Nat.testBit_or,Bool.or_eq_true,Bool.or_eq_true] at hb
   rcases hb with (hb | hb) | hb
   ·obtain ⟨x,h1,h2⟩:=mOf_ok h i r hb
    exact ⟨x,List.mem_cons_of_mem _ h1,h2⟩
   ·rw [Nat.testBit_two_pow] at hb
    exact ⟨e,List.mem_cons_self,he, .inl (by simpa using hb)⟩
   ·refine ⟨e,List.mem_cons_self,he, .inr ?_⟩
    cases hm:ms[e.on]? with
    | none=>rw [List.getD_eq_getElem?_getD,hm] at hb;simp at hb
    | some m =>
     rw [List.getD_eq_getElem?_getD,hm] at hb
     have h1:=h e.on m i hm hb
     have h2:e.on < ms.length:=(List.getElem?_eq_some_iff.1 hm).1
     have h3:=waits_le h1 (ms.length - (e.on+1))
     rwa [show e.on+1+(ms.length - (e.on+1))=ms.length by omega] at h3
  ·obtain ⟨x,h1,h2⟩:=mOf_ok h i r hb
   exact ⟨x,List.mem_cons_of_mem _ h1,h2⟩
theorem masks_ok:∀ (l:List Oper) (ms:List Nat),MsOk md ops ms→(∀ k o,l[k]?=some o→ops[ms.length+k]?=some o)→MsOk md ops (masks md l ms)
 | [],ms,h,_=>h
 | o::r,ms,h,hl=>by
  unfold masks
  refine masks_ok r _ ?_ ?_
  ·intro j m i hj hb
   by_cases hlt:j < ms.length
   ·rw [List.getElem?_append_left hlt] at hj
    exact h j m i hj hb
   ·rw [List.getElem?_append_right (by omega)] at hj
    by_cases he:j - ms.length=0
    ·rw [he] at hj
     simp at hj
     subst hj
     obtain ⟨e,h1,h2,h3⟩:=mOf_ok h i _ hb
     have hj:j=ms.length:=by omega
     subst hj
     have ho:=hl 0 o rfl
     rw [Nat.add_zero] at ho
     unfold waits
     simp only [ho,Bool.or_eq_true,Array.any_eq_true',Bool.and_eq_true,beq_iff_eq]
     rcases h3 with h3 | h3
     ·exact .inl ⟨e,by simpa using h1,h3,h2⟩
     ·exact .inr ⟨e,by simpa using h1,h2,h3⟩
    ·rw [List.getElem?_eq_none (by simp;omega)] at hj
     cases hj
  ·intro k q hk
   have:=hl (k+1) q (by simpa using hk)
   rw [List.length_append]
   rw [show ms.length + [mOf md ms o.after.toList].length+k=ms.length+(k+1) by simp;omega]
   exact this
def bitOf (mk:List Nat) (j i:Nat):Bool:=(mk.getD j 0).testBit i
theorem bit_waits {l:List Oper} (j i:Nat) (h:bitOf (masks md l []) j i=true):waits md l.toArray l.toArray.size j i=true:=by
 have hok:MsOk md l.toArray (masks md l []):=masks_ok l [] (fun j m i hj=>by simp at hj) (fun k o hk=>by simpa using hk)
 unfold bitOf at h
 cases hm:(masks md l [])[j]? with
 | none=>rw [List.getD_eq_getElem?_getD,hm] at h;simp at h
 | some m =>
  rw [List.getD_eq_getElem?_getD,hm] at h
  have h1:=hok j m i hm h
  by_cases hj:j < l.toArray.size
  ·have:=waits_le h1 (l.toArray.size - (j+1))
   rwa [show j+1+(l.toArray.size - (j+1))=l.toArray.size by omega] at this
  ·unfold waits at h1
   rw [Array.getElem?_eq_none (by omega)] at h1
   cases h1
def mixFreeB (md:Region.Mode) (mk:List Nat) (ops:Array Oper) (n:Nat) (listed:Array Bool) (i:Nat):Bool :=
 match ops[i]? with
 | none=>false
 | some oi=>(List.range ops.size).all fun j=>j == i || listed.getD j true || match ops[j]? with
   | some oj=>(bitOf mk j i || ((decide (j < n) || isLate oi) && oi.apart ops oj && !(isCall oi && isCall oj) && (!isAlloc oi || isAlloc oj))) && (!isLate oi || (oj.after.any fun e=>Region.binds md e && e.on == i) || oi.apart ops oj)
   | none=>true
theorem mixFreeB_ok {l:List Oper} {n:Nat} {listed:Array Bool} {i:Nat} (h:mixFreeB md (masks md l []) l.toArray n listed i=true):mixFree md l.toArray n listed i=true:=by
 unfold mixFreeB at h
 unfold mixFree
 cases ho:l.toArray[i]? with
 | none=>simp only [ho] at h;cases h
 | some oi =>
  simp only [ho] at h ⊢
  rw [List.all_eq_true] at h ⊢
  intro j hj
  have h1:=h j hj
  rw [Bool.or_eq_true] at h1 ⊢
  rcases h1 with h1 | h1
  ·exact .inl h1
  ·refine .inr ?_
   cases hoj:l.toArray[j]? with
   | none=>rfl
   | some oj =>
    simp only [hoj] at h1 ⊢
    rw [Bool.and_eq_true] at h1 ⊢
    refine ⟨?_,h1.2⟩
    have h2:=h1.1
    rw [Bool.or_eq_true] at h2 ⊢
    rcases h2 with h2 | h2
    ·exact .inr (bit_waits j i h2)
    ·exact .inl h2
def lexMixB (md:Region.Mode) (mk:List Nat) (ops:Array Oper) (n g:Nat):List Nat→Array Bool→Bool
 | [],listed=>Region.seqB md ops g n listed
 | i::r,listed=>(Region.ready md ops listed).contains i && decide (i < n) && mixFreeB md mk ops n listed i && lexMixB md mk ops n g r (listed.setIfInBounds i true)
theorem lexMixB_ok {l:List Oper} {n g:Nat}:∀ (is:List Nat) (listed:Array Bool),lexMixB md (masks md l []) l.toArray n g is listed=true→lexMix md l.toArray n g is listed=true
 | [],listed,h=>h
 | i::r,listed,h=>by
  unfold lexMixB at h
  unfold lexMix
  simp only [Bool.and_eq_true] at h ⊢
  exact ⟨⟨h.1.1,mixFreeB_ok h.1.2⟩,lexMixB_ok r _ h.2⟩
def mixBB (l:List Oper) (n:Nat):Bool :=
 Region.noSelect l.toArray && decide (n≤l.toArray.size) && lexMixB .any (masks .any l []) l.toArray n (l.toArray.size - n) (headIdx l.toArray n) (Array.replicate l.toArray.size false)
theorem mixBB_ok {l:List Oper} {n:Nat} (h:mixBB l n=true):mixB l.toArray n=true:=by
 unfold mixBB at h
 unfold mixB
 simp only [Bool.and_eq_true] at h ⊢
 exact ⟨h.1,lexMixB_ok _ _ h.2⟩
end
theorem wp_region_mixb {P:Program} {id:Nat} {Q:Exit→Act→World→Prop} (hQ:∀ (c:_) (a:Act) (d:Nat) (v:Value) (w:World),Q (.panic c) (a.put (some d) v) w→Q (.panic c) a w) {a:Act} {w:World} {l:List Oper} (n:Nat) (hm:P.follows .mixedOrders=true) (hB:mixBB l n=true)
  (h:(∀ (d:Nat) (os:Array Obj) (b o:Nat),b < w.heap.size→(grow (redrawn w d) os).cell? ⟨b,o,none⟩=w.cell? ⟨b,o,none⟩) →
   Mx P l.toArray (Ext w) w.heap.size (fun C a'=>∀ w',C w'→wpList P l.toArray Q (l.drop n) a' w') (headOps l n) (Ext w) [] a):(Code.region id l.toArray true).wp P Q a w :=
 wp_region_mix' hQ n hm (mixBB_ok hB) h
end Go.Proofs.YtikelfmmldafpaaGreat
namespace Go.Proofs.YtikelfmmldafpaaGreat
open Go.ChangeShapes Go.WideShapes Go.ChangeAt Go.RowKit Go.Sort
set_option linter.unusedVariables false
theorem stop_load {P:Program} {ops:Array Oper} {Q:Exit→Act→World→Prop} {l:List Oper} {a:Act} {w:World} {ty:TypeId} {x:Operand} {d:Nat} {rt:TypeId} {pos:String} {af:Array Edge} {g:Nat} {cs:Array Value} {t:TypeId} {fs:Array Field}
  (hg:w.heap[g]?=some (.cells cs t (0,0))) (hx:a.eval x = .pointer (some ⟨g,0,none⟩)) (hu:P.underlying ty=some (.struct fs)) (hi:(P.info? ty).map (·.size)=some cs.size)
  (h:wpList P ops Q l (a.put (some d) (.agg cs)) w):Stop (wpList P ops Q ({ dst:=some d,op := .load ty x,type:=rt,pos:=pos,after:=af,guard:=none } :: l) a w) :=
 wpList_load_row rfl ty x rfl g hx t cs (0,0) _ hg hu rfl hi h
theorem run_loadAgg {P:Program} {W:World} {ty:TypeId} {g o:Nat} {cs:Array Value} {fs:Array Field} (hu:P.underlying ty=some (.struct fs)) (hi:(P.info? ty).map (·.size)=some cs.size) (hc:∀ j v,cs.toList[j]?=some v→W.cell? ⟨g,o+j,none⟩=some v) :
  (loadVar ty ⟨g,o,none⟩).run P W = .ok (.agg cs) W:=by
 have h1:=run_loadCells_list (P:=P) (w:=W) ⟨g,o,none⟩ cs.toList (fun j v h=>by
  have hadd:(⟨g,o,none⟩:Addr).add j=⟨g,o+j,none⟩:=by unfold Addr.add;split <;> simp_all
  rw [hadd];exact hc j v h)
 obtain ⟨ie,hie,hs⟩:=Option.map_eq_some_iff.1 hi
 rw [Array.length_toList] at h1
 have hagg:(isAgg ty).run P W = .ok true W:=by
  unfold isAgg
  rw [Sem.run_bind,run_underlying hu W]
  simp
 have hti:(typeInfo ty).run P W = .ok ie W:=by simp [typeInfo,hie,go_sem]
 simp [loadVar,hagg,sizeOf,hti,hs,h1,Result.andThen]
theorem stop_loadAgg {P:Program} {ops:Array Oper} {Q:Exit→Act→World→Prop} {l:List Oper} {a:Act} {w:World} {ty:TypeId} {x:Operand} {d:Nat} {rt:TypeId} {pos:String} {af:Array Edge} {g k:Nat} {cs:Array Value} {fs:Array Field}
  (hc:∀ j v,cs.toList[j]?=some v→w.cell? ⟨g,k+j,none⟩=some v) (hx:a.eval x = .pointer (some ⟨g,k,none⟩)) (hu:P.underlying ty=some (.struct fs)) (hi:(P.info? ty).map (·.size)=some cs.size)
  (h:wpList P ops Q l (a.put (some d) (.agg cs)) w):Stop (wpList P ops Q ({ dst:=some d,op := .load ty x,type:=rt,pos:=pos,after:=af,guard:=none } :: l) a w) :=
 wpList_plain rfl fun _ hK=>by
  unfold Oper.wp execOp
  simp only [hx,Instr.loadAt,Instr.sureAddr,Sem.run_bind,Sem.run_pure,Result.andThen_ok,run_loadAgg hu hi hc]
  exact hK _ _ h
theorem cells_mid {w:World} {g k:Nat} {CS cs:Array Value} {t:TypeId} (hg:w.heap[g]?=some (.cells CS t (0,0))) (pre post:List Value) (he:CS.toList=pre++cs.toList++post) (hk:pre.length=k):∀ j v,cs.toList[j]?=some v→w.cell? ⟨g,k+j,none⟩=some v:=fun j v h=>by
 rw [bx_cell hg,←Array.getElem?_toList,he]
 subst hk
 have hj:j < cs.toList.length:=(List.getElem?_eq_some_iff.1 h).1
 rw [List.append_assoc,List.getElem?_append_right (by omega),Nat.add_sub_cancel_left,List.getElem?_append_left hj]
 exact h
section
variable {P:Program} {ops:Array Oper} {w:World} {B:Nat} {L:(World→Prop)→Act→Prop} {o:Oper} {rest:List Oper} {C:World→Prop} {ps:List Nat} {a:Act}
theorem wpMix_loadAgg {ty:TypeId} {x:Operand} {g k:Nat} {cs:Array Value} {fs:Array Field} (hlt:g < w.heap.size) (hc:∀ j v,cs.toList[j]?=some v→w.cell? ⟨g,k+j,none⟩=some v) (hop:o.op = .load ty x) (hw:Region.wanted o (yielded ops a.tmps)=true)
  (hx:a.eval x = .pointer (some ⟨g,k,none⟩)) (hu:P.underlying ty=some (.struct fs)) (hi:(P.info? ty).map (·.size)=some cs.size)
  (h:Mx P ops (Ext w) B L rest C ps (a.put o.dst (.agg cs))):Mx P ops (Ext w) B L (o::rest) C ps a:=by
 refine ⟨?_⟩
 unfold wpMix mixStep
 rw [if_neg (by unfold isAlloc;rw [hop];exact Bool.false_ne_true),if_pos hw,if_neg (by unfold isCall isPlain isAlloc;rw [hop];simp)]
 refine ⟨.agg cs,fun W hW=>?_,h.out⟩
 have hc':∀ j v,cs.toList[j]?=some v→W.cell? ⟨g,k+j,none⟩=some v:=fun j v hj=>(Below.cell hW (p:=⟨g,k+j,none⟩) hlt).trans (hc j v hj)
 unfold execOp
 simp only [hop,hx,Instr.loadAt,Instr.sureAddr,Sem.run_bind,Sem.run_pure,Result.andThen_ok,run_loadAgg hu hi hc']
end
end Go.Proofs.YtikelfmmldafpaaGreat
