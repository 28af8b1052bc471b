/- LogOk, LogEnd, end of the reference and of the program. -/
import Derived.Test.YtckfjploafhenaaGreatPk22
import Derived.Test.YtckfjploafhenaaGreatPk21
import Derived.Test.YtckfjploafhenaaGreatPk19
import Derived.Test.YtckfjploafhenaaGreatPk20
set_option maxRecDepth 100000
set_option maxHeartbeats 16000000
set_option linter.unusedVariables false
set_option linter.unusedSimpArgs false
namespace Go.Proofs.YtckfjploafhenaaGreat
open Go.ChangeShapes Go.WideShapes Go.ChangeAt Go.RowKit Go.Sort
theorem c_idxEnt (g:Nat) (lb:Array Value) (p:Ent->Bool) (eg:∀ args w,(callFunc g args).run Tryz.prog w = .ok (.enter g args) w) (A:Option Addr) (c:Nat) (l:List Ent) (w:World) (ha:Rd Ent.enc 5 w A c l) (hn:l.length<=1099511627776)
  (hp:∀ W,Ext w W->∀ k (hk:k < l.length),Calls Tryz.prog g (#[.agg #[.int .i64 l[k].client, .int .i64 l[k].req, .int .i64 l[k].kind, .int .i64 l[k].key, .int .i64 l[k].value]]++lb) W fun e w'=>e = .returned (.bool (p l[k]))/\Ext W w') :
  Calls Tryz.prog 169 #[.slice A l.length c, .func (.func g) #[] lb] w fun e w'=>e = .returned (.int .i64 (idxOf p l))/\Ext w w':=by
 have HP:=Hd hp;clear hp
 go_enter Tryz.func169,Tryz.ntmps169
 go_wp2
 go_loopw [8] (fun i wr=>∃ k:Nat,k<=l.length/\i = .int .i64 k/\(∀ j (hj:j < l.length),j < k->p l[j]=false)/\Ext w wr) (fun i _=>l.length - (intOf i).toNat)
 case atStart=>exact ⟨0,Nat.zero_le _,rfl,fun j hj h=>absurd h (by omega),za4 _⟩
 case round =>
  obtain ⟨k,hk,rfl,ht,hx0⟩:=hrel;have HT:=Hd ht;clear ht;by_cases hlt:k < l.length
  ·have hcall:=HP.out wr hx0 k hlt;obtain ⟨ab,ao,rfl,hab,a0,a1,a2,a3,a4⟩:=(ha.keep hx0).atEnt hlt;cases hq:p l[k]
   ·rw [hq] at hcall;have HQ:=Hd hq;clear hq HP;go_wp2_with fail
    refine hcall.mono ?_;rintro e w1 ⟨rfl,hx⟩;clear hcall;go_wp2
    go_roundw
    case rel=>exact ⟨k+1,by omega,by go_num,no_next HT.out (fun _=>HQ.out),Ext.trans hx0 hx⟩
    case measure=>simp [intOf] <;> omega
   ·rw [hq] at hcall;have HQ:=Hd hq;clear hq HP;go_wp2_with fail
    refine hcall.mono ?_;rintro e w1 ⟨rfl,hx⟩;clear hcall;go_wp2
    go_ret
    exact ⟨zc0 (idx_hit hlt HQ.out HT.out).symm,Ext.trans hx0 hx⟩
  ·have HV:=Hd (idx_miss (p:=p) (l:=l) (fun j hj=>HT.out j hj (by omega)))
   go_wp2
   go_ret
   exact ⟨zc0 HV.out.symm,hx0⟩
theorem c_anyEnt (g:Nat) (lb:Array Value) (p:Ent->Bool) (eg:∀ args w,(callFunc g args).run Tryz.prog w = .ok (.enter g args) w) (A:Option Addr) (c:Nat) (l:List Ent) (w:World) (ha:Rd Ent.enc 5 w A c l) (hn:l.length<=1099511627776)
  (hp:∀ W,Ext w W->∀ k (hk:k < l.length),Calls Tryz.prog g (#[.agg #[.int .i64 l[k].client, .int .i64 l[k].req, .int .i64 l[k].kind, .int .i64 l[k].key, .int .i64 l[k].value]]++lb) W fun e w'=>e = .returned (.bool (p l[k]))/\Ext W w') :
  Calls Tryz.prog 143 #[.slice A l.length c, .func (.func g) #[] lb] w fun e w'=>e = .returned (.bool (l.any p))/\Ext w w':=by
 have hcon:=c_idxEnt g lb p eg A c l w ha hn hp;rw [<-idxOf_any];obtain ⟨z,hz⟩:∃ z,idxOf p l=z:=⟨_,rfl⟩;rw [hz] at hcon ⊢;clear hz hp
 go_enter Tryz.func143,Tryz.ntmps143
 go_wp2_with fail
 refine hcon.mono ?_;rintro e w1 ⟨rfl,x1⟩;go_wp2
 go_ret
 exact ⟨rfl,x1⟩
def LogOk (l:Lg):Prop:=inB l.base 0 1000000000=true/\zbj l.cells l.seats=true/\l.ents.length<=60/\inB (l.base+l.ents.length) 0 1000000000=true/\∀ e∈l.ents,e.ok=true
instance (l:Lg):Decidable (LogOk l):=inferInstanceAs (Decidable (_/\_))
def logOk (l:Lg):Bool:=decide (LogOk l)
theorem logOk_1 {l:Lg} (h:inB l.base 0 1000000000=false):logOk l=false:=decide_eq_false fun hp=>by have:=hp.1;rw [h] at this;cases this
theorem logOk_2 {l:Lg} (h:zbj l.cells l.seats=false):logOk l=false:=decide_eq_false fun hp=>by have:=hp.2.1;rw [h] at this;cases this
theorem logOk_3 {l:Lg} (h:¬ l.ents.length<=60):logOk l=false:=decide_eq_false fun hp=>h hp.2.2.1
theorem logOk_4 {l:Lg} (h:inB (l.base+l.ents.length) 0 1000000000=false):logOk l=false:=decide_eq_false fun hp=>by have:=hp.2.2.2.1;rw [h] at this;cases this
theorem logOk_5 {l:Lg} {k:Nat} (hk:k < l.ents.length) (h:l.ents[k].ok=false):logOk l=false:=decide_eq_false fun hp=>by have:=hp.2.2.2.2 _ (List.getElem_mem hk);rw [h] at this;cases this
theorem logOk_any {l:Lg} (h1:inB l.base 0 1000000000=true) (h2:zbj l.cells l.seats=true) (h3:l.ents.length<=60) (h4:inB (l.base+l.ents.length) 0 1000000000=true):logOk l=!l.ents.any (fun e=>!e.ok):=by
 unfold logOk;rw [Bool.eq_iff_iff,decide_eq_true_eq];simp only [Bool.not_eq_true',List.any_eq_false,Bool.not_eq_true,Bool.not_eq_false'];exact ⟨fun h e he=>by simpa using h.2.2.2.2 e he,fun h=>⟨h1,h2,h3,h4,fun e he=>by simpa using h e he⟩⟩
theorem logOk_any' {l:Lg} (h:l.ents.any (fun e=>!e.ok)=true):logOk l=false:=decide_eq_false fun hp=>by
 rw [List.any_eq_true] at h;obtain ⟨e,he,hn⟩:=h
 have:=hp.2.2.2.2 e he
 rw [this] at hn;cases hn
def ETo (l:List Ent) (k:Nat):Prop:=∀ j (h:j < l.length),j < k->l[j].ok=true
theorem ETo.next {l:List Ent} {k:Nat} (h:ETo l k) (hk:k < l.length) (hs:l[k].ok=true):ETo l (k+1):=fun j hj hjk=>by
 by_cases he:j=k
 ·subst he;exact hs
 ·exact h j hj (by omega)
theorem ETo.all {l:List Ent} (h:ETo l l.length):∀ e∈l,e.ok=true:=fun e he=>by
 obtain ⟨k,hk,rfl⟩:=List.mem_iff_getElem.1 he;exact h k hk hk
theorem zhk (a:LAd) (l:Lg) (s1:l.cells.length<=1048576) (s2:l.seats.length<=1048576) (s3:l.ents.length<=1048576) (w:World) (hr:LgR w a l) :
  Calls Tryz.prog 66 #[Lg.val a l] w fun e w'=>e = .returned (.bool (logOk l))/\Ext w w':=by
 have X0:=za1 w (Lg.obj a l);cases q1:inB l.base 0 1000000000
 ·have HN:=Hd (logOk_1 q1)
  go_enter Tryz.func66,Tryz.ntmps66
  go_wp2_with fail
  refine (zah _ _).mono ?_;rintro e w1 ⟨rfl,x1⟩;go_wp2
  go_ret
  exact ⟨za7 HN.out.symm,Ext.trans X0 x1⟩
 have hI:=fun W (h:Ext (w.alloc (Lg.obj a l)) W)=>zfg a.cA a.cc l.cells a.sA a.sc l.seats W (hr.1.keep (Ext.trans X0 h)) (hr.2.1.keep (Ext.trans X0 h)) (by omega) (by omega)
 cases q2:zbj l.cells l.seats
 ·have HN:=Hd (logOk_2 q2);rw [q2] at hI;have HI:=Hd hI;clear hI q2
  go_enter Tryz.func66,Tryz.ntmps66
  go_wp2_with fail
  refine (zah _ _).mono ?_;rintro e w1 ⟨rfl,x1⟩;have b1:=za2 (x1.box (hNew (w:=w) (o:=Lg.obj a l) rfl));go_wp2_with fail
  refine (HI.out _ x1).mono ?_;rintro e w2 ⟨rfl,x2⟩;go_wp2
  go_ret
  exact ⟨za7 HN.out.symm,Ext.trans X0 (Ext.trans x1 x2)⟩
 have Q2:=Hd q2;rw [q2] at hI;have HI:=Hd hI;clear hI q2;by_cases h3:l.ents.length<=60
 ·have g3:decide ((60:Int) < (l.ents.length:Int))=false:=by simp;omega
  have hb:=(zcu _ _ _).1 q1;obtain ⟨hb0,hb1⟩:=hb;cases q4:inB (l.base+l.ents.length) 0 1000000000
  ·have HN:=Hd (logOk_4 q4)
   go_enter Tryz.func66,Tryz.ntmps66
   go_wp2_with fail
   refine (zah _ _).mono ?_;rintro e w1 ⟨rfl,x1⟩;have b1:=za2 (x1.box (hNew (w:=w) (o:=Lg.obj a l) rfl));go_wp2_with fail
   refine (HI.out _ x1).mono ?_;rintro e w2 ⟨rfl,x2⟩;have b2:=za2 ((Ext.trans x1 x2).box (hNew (w:=w) (o:=Lg.obj a l) rfl));clear b1;go_wp2_with fail
   refine (zah _ _).mono ?_;rintro e w3 ⟨rfl,x3⟩;go_wp2
   go_ret
   exact ⟨za7 HN.out.symm,Ext.trans X0 (Ext.trans x1 (Ext.trans x2 x3))⟩
  ·go_enter Tryz.func66,Tryz.ntmps66
   go_wp2_with fail
   refine (zah _ _).mono ?_;rintro e w1 ⟨rfl,x1⟩;have b1:=za2 (x1.box (hNew (w:=w) (o:=Lg.obj a l) rfl));go_wp2_with fail
   refine (HI.out _ x1).mono ?_;rintro e w2 ⟨rfl,x2⟩;have b2:=za2 ((Ext.trans x1 x2).box (hNew (w:=w) (o:=Lg.obj a l) rfl));clear b1;go_wp2_with fail
   refine (zah _ _).mono ?_;rintro e w3 ⟨rfl,x3⟩;have hw2:=Ext.trans x1 (Ext.trans x2 x3);have Q1:=Hd q1;have Q4:=Hd q4;go_wp2
   clear b2 q1 q4 hb0 hb1 x1 x2 x3
   go_loopw [3] (fun i wr=>∃ k:Nat,k<=l.ents.length/\i = .int .i64 k/\ETo l.ents k/\Ext (w.alloc (Lg.obj a l)) wr) (fun i _=>l.ents.length - (intOf i).toNat)
   case atStart=>exact ⟨0,Nat.zero_le _,rfl,fun j hj hjk=>absurd hjk (by omega),hw2⟩
   case round =>
    obtain ⟨k,hk,rfl,ht,hx0⟩:=hrel;have HT:=Hd ht;clear ht;have B1:=hx0.box (hNew (w:=w) (o:=Lg.obj a l) rfl);have b1:=za2 B1;have f1:=zad B1;have z1:=bx_lt B1;have X1:=Ext.trans X0 hx0;by_cases hlt:k < l.ents.length
    ·obtain ⟨ab,ao,hA,hab,a0,a1,a2,a3,a4⟩:=(hr.2.2.keep X1).atEnt hlt;have hcon:=c_sEntryOk l.ents[k];cases q5:l.ents[k].ok
     ·rw [q5] at hcon;have HN:=Hd (logOk_5 hlt q5);clear q5;rw [hA] at b1;have HA:=Hd hA;clear hA;go_wp2_with fail
      refine (hcon _).mono ?_;rintro e w3 ⟨rfl,x3⟩;go_wp2
      go_ret
      exact ⟨za7 (by rw [HN.out]),Ext.trans X1 x3⟩
     ·rw [q5] at hcon;have HQ:=Hd (HT.out.next hlt q5)
      clear q5;rw [hA] at b1;have HA:=Hd hA;clear hA;go_wp2_with fail
      refine (hcon _).mono ?_;rintro e w3 ⟨rfl,x3⟩;go_wp2
      go_roundw
      case rel=>exact ⟨k+1,by omega,by go_num,HQ.out,Ext.trans hx0 x3⟩
      case measure=>simp [intOf] <;> omega
    ·have hkl:k=l.ents.length:=by omega
     subst hkl;have HV:=Hd (show logOk l=true from decide_eq_true ⟨Q1.out,Q2.out,h3,Q4.out,HT.out.all⟩)
     go_wp2
     go_ret
     exact ⟨za7 HV.out.symm,X1⟩
 ·have g3:decide ((60:Int) < (l.ents.length:Int))=true:=by simp;omega
  have HN:=Hd (logOk_3 h3);clear h3
  go_enter Tryz.func66,Tryz.ntmps66
  go_wp2_with fail
  refine (zah _ _).mono ?_;rintro e w1 ⟨rfl,x1⟩;have b1:=za2 (x1.box (hNew (w:=w) (o:=Lg.obj a l) rfl));go_wp2_with fail
  refine (HI.out _ x1).mono ?_;rintro e w2 ⟨rfl,x2⟩;have b2:=za2 ((Ext.trans x1 x2).box (hNew (w:=w) (o:=Lg.obj a l) rfl));clear b1;go_wp2
  go_ret
  exact ⟨za7 HN.out.symm,Ext.trans X0 (Ext.trans x1 x2)⟩
theorem c_iLogOk (a:LAd) (l:Lg) (s1:l.cells.length<=1048576) (s2:l.seats.length<=1048576) (s3:l.ents.length<=1048576) (w:World) (hr:LgR w a l) :
  Calls Tryz.prog 101 #[Lg.val a l] w fun e w'=>e = .returned (.bool (logOk l))/\Ext w w':=by
 have X0:=za1 w (Lg.obj a l);cases q1:inB l.base 0 1000000000
 ·have HN:=Hd (logOk_1 q1)
  go_enter Tryz.func101,Tryz.ntmps101
  go_wp2_with fail
  refine (zas _ _).mono ?_;rintro e w1 ⟨rfl,x1⟩;go_wp2
  go_ret
  exact ⟨za7 HN.out.symm,Ext.trans X0 x1⟩
 have hI:=fun W (h:Ext (w.alloc (Lg.obj a l)) W)=>c_iImageOk a.cA a.cc l.cells a.sA a.sc l.seats W (hr.1.keep (Ext.trans X0 h)) (hr.2.1.keep (Ext.trans X0 h)) (by omega) (by omega)
 cases q2:zbj l.cells l.seats
 ·have HN:=Hd (logOk_2 q2);rw [q2] at hI;have HI:=Hd hI;clear hI q2
  go_enter Tryz.func101,Tryz.ntmps101
  go_wp2_with fail
  refine (zas _ _).mono ?_;rintro e w1 ⟨rfl,x1⟩;have b1:=za2 (x1.box (hNew (w:=w) (o:=Lg.obj a l) rfl));go_wp2_with fail
  refine (HI.out _ x1).mono ?_;rintro e w2 ⟨rfl,x2⟩;go_wp2
  go_ret
  exact ⟨za7 HN.out.symm,Ext.trans X0 (Ext.trans x1 x2)⟩
 have Q2:=Hd q2;rw [q2] at hI;have HI:=Hd hI;clear hI q2;have hb:=(zcu _ _ _).1 q1;obtain ⟨hb0,hb1⟩:=hb;by_cases h3:l.ents.length<=60
 ·have g3:decide ((l.ents.length:Int)<=60)=true:=by simp;omega
  have hA:=fun W (h:Ext (w.alloc (Lg.obj a l)) W)=>c_anyEnt 144 #[] (fun e=>!e.ok) (enters Tryz.func144 (by kernel_rfl) rfl) a.eA a.ec l.ents W (hr.2.2.keep (Ext.trans X0 h)) (by omega) (fun W2 _ k hk=>c_badEntry l.ents[k] W2)
  cases q5:l.ents.any (fun e=>!e.ok)
  ·rw [q5] at hA;have HA:=Hd hA;clear hA
   have HV:=Hd (show inB (l.base+l.ents.length) 0 1000000000=logOk l by
    cases q4:inB (l.base+l.ents.length) 0 1000000000
    ·exact (logOk_4 q4).symm
    ·rw [logOk_any q1 Q2.out h3 q4,q5];rfl)
   clear q5
   go_enter Tryz.func101,Tryz.ntmps101
   go_wp2_with fail
   refine (zas _ _).mono ?_;rintro e w1 ⟨rfl,x1⟩;have b1:=za2 (x1.box (hNew (w:=w) (o:=Lg.obj a l) rfl));go_wp2_with fail
   refine (HI.out _ x1).mono ?_;rintro e w2 ⟨rfl,x2⟩;have X2:=Ext.trans x1 x2;have b2:=za2 (X2.box (hNew (w:=w) (o:=Lg.obj a l) rfl));clear b1;go_wp2_with fail
   refine (HA.out _ X2).mono ?_;rintro e w3 ⟨rfl,x3⟩;have X3:=Ext.trans X2 x3;have b3:=za2 (X3.box (hNew (w:=w) (o:=Lg.obj a l) rfl));clear b2;go_wp2_with fail
   refine (zas _ _).mono ?_;rintro e w4 ⟨rfl,x4⟩;go_wp2
   go_ret
   exact ⟨za7 HV.out,Ext.trans X0 (Ext.trans X3 x4)⟩
  ·rw [q5] at hA;have HA:=Hd hA;have HN:=Hd (logOk_any' q5);clear hA q5
   go_enter Tryz.func101,Tryz.ntmps101
   go_wp2_with fail
   refine (zas _ _).mono ?_;rintro e w1 ⟨rfl,x1⟩;have b1:=za2 (x1.box (hNew (w:=w) (o:=Lg.obj a l) rfl));go_wp2_with fail
   refine (HI.out _ x1).mono ?_;rintro e w2 ⟨rfl,x2⟩;have X2:=Ext.trans x1 x2;have b2:=za2 (X2.box (hNew (w:=w) (o:=Lg.obj a l) rfl));clear b1;go_wp2_with fail
   refine (HA.out _ X2).mono ?_;rintro e w3 ⟨rfl,x3⟩;go_wp2
   go_ret
   exact ⟨za7 HN.out.symm,Ext.trans X0 (Ext.trans X2 x3)⟩
 ·have g3:decide ((l.ents.length:Int)<=60)=false:=by simp;omega
  have HN:=Hd (logOk_3 h3);clear h3
  go_enter Tryz.func101,Tryz.ntmps101
  go_wp2_with fail
  refine (zas _ _).mono ?_;rintro e w1 ⟨rfl,x1⟩;have b1:=za2 (x1.box (hNew (w:=w) (o:=Lg.obj a l) rfl));go_wp2_with fail
  refine (HI.out _ x1).mono ?_;rintro e w2 ⟨rfl,x2⟩;have b2:=za2 ((Ext.trans x1 x2).box (hNew (w:=w) (o:=Lg.obj a l) rfl));clear b1;go_wp2
  go_ret
  exact ⟨za7 HN.out.symm,Ext.trans X0 (Ext.trans x1 x2)⟩
def Lg.fin (l:Lg):Int:=l.base+l.ents.length
theorem c_end (a:LAd) (l:Lg) (w:World) (h0:-1000000000000<=l.base) (h1:l.base<=1000000000000) (s3:l.ents.length<=1048576):Calls Tryz.prog 15 #[Lg.val a l] w fun e w'=>e = .returned (.int .i64 l.fin)/\Ext w w':=by
 go_enter Tryz.func15,Tryz.ntmps15
 go_wp2
 go_ret
 exact ⟨rfl,za1 _ _⟩
theorem zdy (a:LAd) (l:Lg) (s1:l.cells.length<=1048576) (s2:l.seats.length<=1048576) (s3:l.ents.length<=1048576) (w:World) (hr:LgR w a l) (hok:logOk l=true) :
  Calls Tryz.prog 24 #[Lg.val a l] w fun e w'=>e = .returned (.int .i64 l.fin)/\Ext w w':=by
 have X0:=za1 w (Lg.obj a l);have hb:=(zcu _ _ _).1 (of_decide_eq_true hok).1;obtain ⟨hb0,hb1⟩:=hb;have hcon:=zhk a l s1 s2 s3 _ (hr.keep X0);rw [hok] at hcon
 go_enter Tryz.func24,Tryz.ntmps24
 go_wp2_with fail
 refine hcon.mono ?_;rintro e w1 ⟨rfl,x1⟩;have b1:=za2 (x1.box (hNew (w:=w) (o:=Lg.obj a l) rfl));clear hcon;go_wp2
 go_ret
 exact ⟨rfl,Ext.trans X0 x1⟩
theorem zdz (A:Option Addr) (c:Nat) (l:List Cel) (w:World) (ha:Rd Cel.enc 2 w A c l) (hn:l.length<=1048576) :
  Calls Tryz.prog 145 #[.slice A l.length c] w fun e w'=>∃ v,e = .returned v/\Ow Cel.enc 162 2 w' w.heap.size v l/\Ext w w':=by
 have q22:∀ (w:World) (a:Option Addr) (n c n' c':Nat),(binOp .eql 24 (.slice a n c) (.slice none n' c')).run Tryz.prog w = .ok (.bool a.isNone) w:=fun w a n c n' c'=>Lib.run_eql_slice_nil w _ _ a n c n' c' Tryz.underlying24
 cases A with
 | none =>
  have h0:=ha.none_len
  go_enter Tryz.func145,Tryz.ntmps145
  go_wp2
  go_ret
  refine ⟨_,rfl, ?_,za4 _⟩;obtain rfl:l=[]:=List.eq_nil_of_length_eq_zero h0;exact World.ownsRow_nil _ _ _ _
 | some a =>
  obtain ⟨i0,hi,hz0,hz1,hz2⟩:=info_parts Tryz.infoCel;have HF:=Hd (ha.flat (by decide) Cel.enc_len)
  have hl:=zae Cel.enc_len l;have HL:=Hd hl;clear hl
  go_enter Tryz.func145,Tryz.ntmps145
  go_wp2_with (at_builtin;refine wpList_append_own _ rfl _ _ 24 rfl w.heap.size 162 i0 (.agg #[.int .i64 0, .int .i64 0]) 2 16 Tryz.underlying24 hi hz0 hz1 hz2 rfl (by decide) _ _ _ rfl (World.ownsRow_made w #[] 0 (Nat.le_refl _) (Nat.zero_le _) (by simp)) a l.length c (l.flatMap Cel.enc) rfl ?c1 ?c2 ?c3 ?c4 ?c5 ?c6 ?_)
  case c1=>exact HL.out
  case c2=>intro j u hj;exact Lib.cell?_alloc_some _ (HF.out j u hj)
  case c3=>exact zdr (fun x u hu=>by simp [Cel.enc] at hu;rcases hu with rfl | rfl <;> rfl) l
  case c4=>unfold maxLen;omega
  case c5=>omega
  case c6=>simp
  intro v' w1 hown hgrow hnil;have HN:=Hd hnil;clear hnil hz0 hz1 hz2 hi;go_wp2
  go_ret
  refine ⟨v',rfl, ?_, ?_⟩
  ·unfold Ow;simpa using hown
  ·exact ((Below.refl _ w).alloc (Nat.le_refl _) _).grown hgrow (by simp) (by intro k hk;simp [Value.ownBlock] at hk;omega)
theorem c_cloneSeatS (A:Option Addr) (c:Nat) (l:List Sea) (w:World) (ha:Rd Sea.enc 3 w A c l) (hn:l.length<=1048576) :
  Calls Tryz.prog 146 #[.slice A l.length c] w fun e w'=>∃ v,e = .returned v/\Ow Sea.enc 111 3 w' w.heap.size v l/\Ext w w':=by
 have q22:∀ (w:World) (a:Option Addr) (n c n' c':Nat),(binOp .eql 25 (.slice a n c) (.slice none n' c')).run Tryz.prog w = .ok (.bool a.isNone) w:=fun w a n c n' c'=>Lib.run_eql_slice_nil w _ _ a n c n' c' Tryz.underlying25
 cases A with
 | none =>
  have h0:=ha.none_len
  go_enter Tryz.func146,Tryz.ntmps146
  go_wp2
  go_ret
  refine ⟨_,rfl, ?_,za4 _⟩;obtain rfl:l=[]:=List.eq_nil_of_length_eq_zero h0;exact World.ownsRow_nil _ _ _ _
 | some a =>
  obtain ⟨i0,hi,hz0,hz1,hz2⟩:=info_parts Tryz.infoSea;have HF:=Hd (ha.flat (by decide) Sea.enc_len)
  have hl:=zae Sea.enc_len l;have HL:=Hd hl;clear hl
  go_enter Tryz.func146,Tryz.ntmps146
  go_wp2_with (at_builtin;refine wpList_append_own _ rfl _ _ 25 rfl w.heap.size 111 i0 (.agg #[.int .i64 0, .int .i64 0, .int .i64 0]) 3 24 Tryz.underlying25 hi hz0 hz1 hz2 rfl (by decide) _ _ _ rfl (World.ownsRow_made w #[] 0 (Nat.le_refl _) (Nat.zero_le _) (by simp)) a l.length c (l.flatMap Sea.enc) rfl ?c1 ?c2 ?c3 ?c4 ?c5 ?c6 ?_)
  case c1=>exact HL.out
  case c2=>intro j u hj;exact Lib.cell?_alloc_some _ (HF.out j u hj)
  case c3=>exact zdr (fun x u hu=>by simp [Sea.enc] at hu;rcases hu with rfl | rfl | rfl <;> rfl) l
  case c4=>unfold maxLen;omega
  case c5=>omega
  case c6=>simp
  intro v' w1 hown hgrow hnil;have HN:=Hd hnil;clear hnil hz0 hz1 hz2 hi;go_wp2
  go_ret
  refine ⟨v',rfl, ?_, ?_⟩
  ·unfold Ow;simpa using hown
  ·exact ((Below.refl _ w).alloc (Nat.le_refl _) _).grown hgrow (by simp) (by intro k hk;simp [Value.ownBlock] at hk;omega)
theorem c_cloneEntryS (A:Option Addr) (c:Nat) (l:List Ent) (w:World) (ha:Rd Ent.enc 5 w A c l) (hn:l.length<=1048576) :
  Calls Tryz.prog 103 #[.slice A l.length c] w fun e w'=>∃ v,e = .returned v/\Ow Ent.enc 104 5 w' w.heap.size v l/\Ext w w':=by
 have q22:∀ (w:World) (a:Option Addr) (n c n' c':Nat),(binOp .eql 28 (.slice a n c) (.slice none n' c')).run Tryz.prog w = .ok (.bool a.isNone) w:=fun w a n c n' c'=>Lib.run_eql_slice_nil w _ _ a n c n' c' Tryz.underlying28
 cases A with
 | none =>
  have h0:=ha.none_len
  go_enter Tryz.func103,Tryz.ntmps103
  go_wp2
  go_ret
  refine ⟨_,rfl, ?_,za4 _⟩;obtain rfl:l=[]:=List.eq_nil_of_length_eq_zero h0;exact World.ownsRow_nil _ _ _ _
 | some a =>
  obtain ⟨i0,hi,hz0,hz1,hz2⟩:=info_parts Tryz.infoEnt;have HF:=Hd (ha.flat (by decide) Ent.enc_len)
  have hl:=zae Ent.enc_len l;have HL:=Hd hl;clear hl
  go_enter Tryz.func103,Tryz.ntmps103
  go_wp2_with (at_builtin;refine wpList_append_own _ rfl _ _ 28 rfl w.heap.size 104 i0 (.agg #[.int .i64 0, .int .i64 0, .int .i64 0, .int .i64 0, .int .i64 0]) 5 40 Tryz.underlying28 hi hz0 hz1 hz2 rfl (by decide) _ _ _ rfl (World.ownsRow_made w #[] 0 (Nat.le_refl _) (Nat.zero_le _) (by simp)) a l.length c (l.flatMap Ent.enc) rfl ?c1 ?c2 ?c3 ?c4 ?c5 ?c6 ?_)
  case c1=>exact HL.out
  case c2=>intro j u hj;exact Lib.cell?_alloc_some _ (HF.out j u hj)
  case c3=>exact zdr (fun x u hu=>by simp [Ent.enc] at hu;rcases hu with rfl | rfl | rfl | rfl | rfl <;> rfl) l
  case c4=>unfold maxLen;omega
  case c5=>omega
  case c6=>simp
  intro v' w1 hown hgrow hnil;have HN:=Hd hnil;clear hnil hz0 hz1 hz2 hi;go_wp2
  go_ret
  refine ⟨v',rfl, ?_, ?_⟩
  ·unfold Ow;simpa using hown
  ·exact ((Below.refl _ w).alloc (Nat.le_refl _) _).grown hgrow (by simp) (by intro k hk;simp [Value.ownBlock] at hk;omega)
theorem Ow.apart {α β:Type} {eα:α->List Value} {eβ:β->List Value} {t u:TypeId} {sα sβ:Nat} {w:World} {B B':Nat} {A A':Option Addr} {n n' c c':Nat} {l:List α} {m:List β} (h:Ow eα t sα w B (.slice A n c) l) (k:Ow eβ u sβ w B' (.slice A' n' c') m) (hne:t≠u):∀ x∈blk A,x∉blk A':=fun x hx hy=>by
 have e1:=(zdx A n c x).2 hx;have e2:=(zdx A' n' c' x).2 hy;rcases h.2 with ⟨h2,_⟩ | ⟨g,cap,cur,hv,hb,hh,r⟩
 ·rw [h2] at e1;cases e1
 ·rcases k.2 with ⟨k2,_⟩ | ⟨g',cap',cur',kv,kb,kh,r'⟩
  ·rw [k2] at e2;cases e2
  ·rw [hv] at e1;rw [kv] at e2;simp only [Value.ownBlock,Option.some.injEq] at e1 e2;subst e1;subst e2;rw [hh] at kh;simp at kh;exact hne kh.2
theorem Ow.nodup {α:Type} {eα:α->List Value} {t:TypeId} {sα:Nat} {w:World} {B:Nat} {A:Option Addr} {n c:Nat} {l:List α} (h:Ow eα t sα w B (.slice A n c) l):(blk A).Nodup:=by cases A <;> simp [blk]
theorem Ow.chg1 {α:Type} {enc:α->List Value} {e:TypeId} {sz:Nat} {w w':World} {B g:Nat} {A:Option Addr} {n c:Nat} {l:List α} (h:Ow enc e sz w B (.slice A n c) l) (hg:Chg w w' [g]) (hlt:g < B):Ow enc e sz w' B (.slice A n c) l :=
 h.chg hg (fun k hk hm=>by rw [Mi] at hm;have:=(h.inB k hk).1;omega)
theorem own_mono {α:Type} (enc:α->List Value) (t:TypeId) (sz B:Nat) (l:List α):Mono (fun v w=>Ow enc t sz w B v l):=fun _ _ _ h hx=>h.kept hx
theorem zdc (cA:Option Addr) (cc:Nat) (cs:List Cel) (sA:Option Addr) (sc:Nat) (ss:List Sea) (w:World) (hc:Rd Cel.enc 2 w cA cc cs) (hs:Rd Sea.enc 3 w sA sc ss) (hn:cs.length<=1048576) (hm:ss.length<=1048576) :
  Calls Tryz.prog 102 #[.agg #[.slice cA cs.length cc, .slice sA ss.length sc]] w fun e w'=>∃ A c A' c',e = .returned (.agg #[.slice A cs.length c, .slice A' ss.length c']) /\
   Ow Cel.enc 162 2 w' w.heap.size (.slice A cs.length c) cs/\Ow Sea.enc 111 3 w' w.heap.size (.slice A' ss.length c') ss/\Ext w w':=by
 have X0:Ext w ((w.alloc (.cells #[.slice cA cs.length cc, .slice sA ss.length sc] 27)).alloc (.cells #[.slice none 0 0, .slice none 0 0] 27)):=za9 (za1 _ _) _;have HC:=Hd (fun W (h:Ext ((w.alloc (.cells #[.slice cA cs.length cc, .slice sA ss.length sc] 27)).alloc (.cells #[.slice none 0 0, .slice none 0 0] 27)) W)=>zdz cA cc cs W (hc.keep (Ext.trans X0 h)) hn)
 have HS:=Hd (fun W (h:Ext ((w.alloc (.cells #[.slice cA cs.length cc, .slice sA ss.length sc] 27)).alloc (.cells #[.slice none 0 0, .slice none 0 0] 27)) W)=>c_cloneSeatS sA sc ss W (hs.keep (Ext.trans X0 h)) hm)
 clear hc hs
 go_enter Tryz.func102,Tryz.ntmps102
 go_wp2
 (refine mrx (fun _ _ _=>True) 6 (fun hg=>?_);simp only [Tc,Tz,Dc,Dz])
 (repeat (first | (refine mqu ?_;go_big_quiet_step (fail);refine mnil ?_) | (refine msk ?_;simp only [Act.put,Sa,Sz,Ss])))
 refine mcl Tryz.func145 (fun v W=>Ow Cel.enc 162 2 W (w.heap.size+1+1) v cs) (own_mono _ _ _ _ _) (fun W hW=>(HC.out W hW).mono fun e w' ⟨v,he,ho,hx⟩=>⟨v,he,ho.less (by have:=hW.size;simp at this;omega),hx⟩) (fun v1 hv1=>?_)
 simp only [Act.put,Sa,Sz,Ss]
 (repeat (first | (refine mqu ?_;go_big_quiet_step (fail);refine mnil ?_) | (refine msk ?_;simp only [Act.put,Sa,Sz,Ss])))
 refine mcl Tryz.func146 (fun v W=>Ow Sea.enc 111 3 W (w.heap.size+1+1) v ss) (own_mono _ _ _ _ _) (fun W hW=>(HS.out W hW.1).mono fun e w' ⟨v,he,ho,hx⟩=>⟨v,he,ho.less (by have:=hW.1.size;simp at this;omega),hx⟩) (fun v2 hv2=>?_)
 simp only [Act.put,Sa,Sz,Ss]
 (repeat (first | (refine mqu ?_;go_big_quiet_step (fail);refine mnil ?_) | (refine msk ?_;simp only [Act.put,Sa,Sz,Ss])))
 refine Rm.wpMix_nil ?_;rintro w2 ⟨⟨hw2,o1⟩,o2⟩;obtain ⟨A,c,rfl⟩:=o1.form;obtain ⟨A',c',rfl⟩:=o2.form;have B2:=hw2.box (hNew (w:=w.alloc (.cells #[.slice cA cs.length cc, .slice sA ss.length sc] 27)) (o := .cells #[.slice none 0 0, .slice none 0 0] 27) rfl);rw [zag] at B2;have HB:=Hd B2;have O1:=Hd o1;have O2:=Hd o2;clear B2 o1 o2;go_wp2_with (with_reducible refine za8 27 ?_)
 refine za3 (w.heap.size+1) #[.slice A cs.length c, .slice A' ss.length c'] rfl rfl HB.out (by kernel_rfl) rfl (by simp [Value.oneCell']) ?_
 intro W4 E4 C4;have hX4:=Hd (zac (Ext.trans X0 hw2) C4 (by omega))
 go_wp2
 refine bodyPost_ret (zbm Tryz.results102 rfl Tryz.underlying27 (by kernel_rfl) E4) rfl ⟨A,c,A',c',rfl, ?_, ?_,hX4.out⟩
 ·exact (O1.out.chg1 C4 (by omega)).less (by omega)
 ·exact (O2.out.chg1 C4 (by omega)).less (by omega)
def LgV (w:World) (B:Nat) (cs:List Cel) (ss:List Sea) (v:Value):Prop:=∃ A c A' c',v = .agg #[.slice A cs.length c, .slice A' ss.length c']/\Ow Cel.enc 162 2 w B (.slice A cs.length c) cs/\Ow Sea.enc 111 3 w B (.slice A' ss.length c') ss
theorem LgV.mono (B:Nat) (cs:List Cel) (ss:List Sea):Mono (fun v w=>LgV w B cs ss v):=fun v w w' ⟨A,c,A',c',hv,h1,h2⟩ hx=>⟨A,c,A',c',hv,h1.kept hx,h2.kept hx⟩
theorem lgO_of {w:World} {B:Nat} {cA sA eA:Option Addr} {cc sc ec:Nat} {l:Lg} (h1:Ow Cel.enc 162 2 w B (.slice cA l.cells.length cc) l.cells) (h2:Ow Sea.enc 111 3 w B (.slice sA l.seats.length sc) l.seats) (h3:Ow Ent.enc 104 5 w B (.slice eA l.ents.length ec) l.ents) :
  LgO w B w.heap.size ⟨cA,cc,sA,sc,eA,ec⟩ l:=by
 refine ⟨h1,h2,h3, ?_,fun k hk=>?_⟩
 ·unfold LAd.fp;rw [List.nodup_append,List.nodup_append];refine ⟨⟨h1.nodup,h2.nodup,fun x hx y hy e=>?_⟩,h3.nodup,fun x hx y hy e=>?_⟩
  ·subst e;exact h1.apart h2 (by decide) x hx hy
  ·subst e;rcases List.mem_append.1 hx with hx | hx
   ·exact h1.apart h3 (by decide) x hx hy
   ·exact h2.apart h3 (by decide) x hx hy
 ·unfold LAd.fp at hk;rw [List.mem_append,List.mem_append] at hk;rcases hk with (hk | hk) | hk
  ·exact (h1.inB k hk).2
  ·exact (h2.inB k hk).2
  ·exact (h3.inB k hk).2
theorem c_copyLog (a:LAd) (l:Lg) (hs:l.small) (w:World) (hr:LgR w a l) :
  Calls Tryz.prog 56 #[Lg.val a l] w fun e w'=>∃ a',e = .returned (Lg.val a' l)/\LgO w' w.heap.size w'.heap.size a' l/\Ext w w':=by
 have X0:Ext w ((w.alloc (Lg.obj a l)).alloc (.cells #[.int .i64 0, .slice none 0 0, .slice none 0 0, .slice none 0 0] 30)):=za9 (za1 _ _) _;have HC:=Hd (fun W (h:Ext ((w.alloc (Lg.obj a l)).alloc (.cells #[.int .i64 0, .slice none 0 0, .slice none 0 0, .slice none 0 0] 30)) W)=>zdc a.cA a.cc l.cells a.sA a.sc l.seats W (hr.1.keep (Ext.trans X0 h)) (hr.2.1.keep (Ext.trans X0 h)) hs.1 hs.2.1)
 have HE:=Hd (fun W (h:Ext ((w.alloc (Lg.obj a l)).alloc (.cells #[.int .i64 0, .slice none 0 0, .slice none 0 0, .slice none 0 0] 30)) W)=>c_cloneEntryS a.eA a.ec l.ents W (hr.2.2.keep (Ext.trans X0 h)) hs.2.2)
 clear hr hs
 go_enter Tryz.func56,Tryz.ntmps56
 go_wp2
 (refine mrx (fun _ _ _=>True) 8 (fun hg=>?_);simp only [Tc,Tz,Dc,Dz])
 (repeat (first | (refine mqu ?_;go_big_quiet_step (fail);refine mnil ?_) | (refine msk ?_;simp only [Act.put,Sa,Sz,Ss])))
 refine mcl Tryz.func102 (fun v W=>LgV W (w.heap.size+1+1) l.cells l.seats v) (LgV.mono _ _ _) (fun W hW=>(HC.out W hW).mono fun e w' ⟨A,c,A',c',he,h1,h2,hx⟩=>⟨_,he,⟨A,c,A',c',rfl,h1.less (by have:=hW.size;simp at this;omega),h2.less (by have:=hW.size;simp at this;omega)⟩,hx⟩) (fun v1 hv1=>?_)
 obtain ⟨W1,_,A1,c1,A2,c2,rfl,_⟩:=hv1;simp only [Act.put,Sa,Sz,Ss]
 (repeat (first | (refine mqu ?_;go_big_quiet_step (fail);refine mnil ?_) | (refine msk ?_;simp only [Act.put,Sa,Sz,Ss])))
 refine mcl Tryz.func103 (fun v W=>Ow Ent.enc 104 5 W (w.heap.size+1+1) v l.ents) (own_mono _ _ _ _ _) (fun W hW=>(HE.out W hW.1).mono fun e w' ⟨v,he,ho,hx⟩=>⟨v,he,ho.less (by have:=hW.1.size;simp at this;omega),hx⟩) (fun v2 hv2=>?_)
 simp only [Act.put,Sa,Sz,Ss]
 (repeat (first | (refine mqu ?_;go_big_quiet_step (fail);refine mnil ?_) | (refine msk ?_;simp only [Act.put,Sa,Sz,Ss])))
 refine Rm.wpMix_nil ?_;rintro w2 ⟨⟨hw2,A1',c1',A2',c2',heq,o1,o2⟩,o3⟩;simp only [Value.agg.injEq] at heq;simp at heq;obtain ⟨⟨rfl,rfl⟩,rfl,rfl⟩:=heq;obtain ⟨A3,c3,rfl⟩:=o3.form;have B2:=hw2.box (hNew (w:=w.alloc (Lg.obj a l)) (o := .cells #[.int .i64 0, .slice none 0 0, .slice none 0 0, .slice none 0 0] 30) rfl);rw [zag] at B2;have HB:=Hd B2;have O1:=Hd o1;have O2:=Hd o2;have O3:=Hd o3;clear B2 o1 o2 o3;go_wp2_with (with_reducible refine za8 30 ?_)
 refine za3 (w.heap.size+1) #[.int .i64 l.base, .slice A1 l.cells.length c1, .slice A2 l.seats.length c2, .slice A3 l.ents.length c3] rfl rfl HB.out (by kernel_rfl) rfl (by simp [Value.oneCell']) ?_
 intro W4 E4 C4;have hX4:=Hd (zac (Ext.trans X0 hw2) C4 (by omega))
 go_wp2
 exact bodyPost_ret (zbm Tryz.results56 rfl Tryz.underlying30 (by kernel_rfl) E4) rfl ⟨⟨A1,c1,A2,c2,A3,c3⟩,rfl,(lgO_of (O1.out.chg1 C4 (by omega)) (O2.out.chg1 C4 (by omega)) (O3.out.chg1 C4 (by omega))).wide (by omega) (Nat.le_refl _),hX4.out⟩
end Go.Proofs.YtckfjploafhenaaGreat
