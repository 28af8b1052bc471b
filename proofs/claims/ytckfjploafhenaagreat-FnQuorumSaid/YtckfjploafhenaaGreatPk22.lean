/- ImageOk of the reference and of the program. -/
import Derived.Test.YtckfjploafhenaaGreatPk21
import Derived.Test.YtckfjploafhenaaGreatPk19
set_option maxRecDepth 100000
set_option maxHeartbeats 16000000
set_option linter.unusedVariables false
set_option linter.unusedSimpArgs false
namespace Go.Proofs.YtckfjploafhenaaGreat
open Go.ChangeShapes Go.WideShapes Go.ChangeAt Go.RowKit Go.Sort
abbrev Cel.z:Cel:=⟨0,0⟩
abbrev Sea.z:Sea:=⟨0,0,0⟩
def cLow (l:List Cel):Nat->Int->Bool
 | 0,_=>true
 | i+1,x=>decide ((l.getD i Cel.z).key < x)
def cStep (l:List Cel) (i:Nat):Bool:=wh (l.getD i Cel.z).key && wh (l.getD i Cel.z).value && cLow l i (l.getD i Cel.z).key
def CTo (l:List Cel) (k:Nat):Prop:=∀ j,j < k->cStep l j=true
def sLow (l:List Sea):Nat->Int->Bool
 | 0,_=>true
 | i+1,x=>decide ((l.getD i Sea.z).client < x)
def sStep (l:List Sea) (i:Nat):Bool:=wh (l.getD i Sea.z).client && inB (l.getD i Sea.z).req 1 1000000000 && inB (l.getD i Sea.z).answer (-1) 1000000000 && sLow l i (l.getD i Sea.z).client
def STo (l:List Sea) (k:Nat):Prop:=∀ j,j < k->sStep l j=true
def ImageOk (cs:List Cel) (ss:List Sea):Prop:=cs.length<=40/\ss.length<=10/\CTo cs cs.length/\STo ss ss.length
instance (l:List Cel) (k:Nat):Decidable (CTo l k):=inferInstanceAs (Decidable (∀ j,j < k->cStep l j=true))
instance (l:List Sea) (k:Nat):Decidable (STo l k):=inferInstanceAs (Decidable (∀ j,j < k->sStep l j=true))
instance (cs:List Cel) (ss:List Sea):Decidable (ImageOk cs ss):=inferInstanceAs (Decidable (_/\_))
def zbj (cs:List Cel) (ss:List Sea):Bool:=decide (ImageOk cs ss)
theorem cStep_at {l:List Cel} {k:Nat} (hk:k < l.length):cStep l k=(wh l[k].key && wh l[k].value && cLow l k l[k].key):=by simp [cStep,hk]
theorem sStep_at {l:List Sea} {k:Nat} (hk:k < l.length):sStep l k=(wh l[k].client && inB l[k].req 1 1000000000 && inB l[k].answer (-1) 1000000000 && sLow l k l[k].client):=by simp [sStep,hk]
theorem cLow_at {l:List Cel} {k:Nat} (hk:k < l.length) (x:Int):cLow l (k+1) x=!decide (x<=l[k].key):=by
 rw [Bool.eq_iff_iff];simp [cLow,hk]
theorem sLow_at {l:List Sea} {k:Nat} (hk:k < l.length) (x:Int):sLow l (k+1) x=!decide (x<=l[k].client):=by
 rw [Bool.eq_iff_iff];simp [sLow,hk]
theorem CTo.next {l:List Cel} {k:Nat} (h:CTo l k) (hs:cStep l k=true):CTo l (k+1):=fun j hj=>by
 by_cases he:j=k
 ·rw [he];exact hs
 ·exact h j (by omega)
theorem STo.next {l:List Sea} {k:Nat} (h:STo l k) (hs:sStep l k=true):STo l (k+1):=fun j hj=>by
 by_cases he:j=k
 ·rw [he];exact hs
 ·exact h j (by omega)
theorem zfb {cs:List Cel} {ss:List Sea} {k:Nat} (hk:k < cs.length) (h:cStep cs k=false):zbj cs ss=false:=decide_eq_false fun hp=>by have:=hp.2.2.1 k hk;rw [h] at this;cases this
theorem zdu {cs:List Cel} {ss:List Sea} {k:Nat} (hk:k < ss.length) (h:sStep ss k=false):zbj cs ss=false:=decide_eq_false fun hp=>by have:=hp.2.2.2 k hk;rw [h] at this;cases this
theorem zin {cs:List Cel} {ss:List Sea} (h1:cs.length<=40) (h2:ss.length<=10) (h3:CTo cs cs.length) (h4:STo ss ss.length):zbj cs ss=true:=decide_eq_true ⟨h1,h2,h3,h4⟩
theorem imageOk_no {cs:List Cel} {ss:List Sea} (h:¬ (cs.length<=40/\ss.length<=10)):zbj cs ss=false:=decide_eq_false fun hp=>h ⟨hp.1,hp.2.1⟩
theorem zfg (cA:Option Addr) (cc:Nat) (cs:List Cel) (sA:Option Addr) (sc:Nat) (ss:List Sea) (w:World) (ha:Rd Cel.enc 2 w cA cc cs) (hb:Rd Sea.enc 3 w sA sc ss) (hn:cs.length<=1099511627776) (hm:ss.length<=1099511627776) :
  Calls Tryz.prog 112 #[.agg #[.slice cA cs.length cc, .slice sA ss.length sc]] w fun e w'=>e = .returned (.bool (zbj cs ss))/\Ext w w':=by
 by_cases hl:cs.length<=40/\ss.length<=10
 ·obtain ⟨hl1,hl2⟩:=hl;have g1:decide ((40:Int) < (cs.length:Int))=false:=by simp;omega
  have g2:decide ((10:Int) < (ss.length:Int))=false:=by simp;omega
  go_enter Tryz.func112,Tryz.ntmps112
  go_wp2
  go_loopw [3] (fun i wr=>∃ k:Nat,k<=cs.length/\i = .int .i64 k/\CTo cs k/\Ext (w.alloc (.cells #[.slice cA cs.length cc, .slice sA ss.length sc] 27)) wr) (fun i _=>cs.length - (intOf i).toNat)
  case atStart=>exact ⟨0,Nat.zero_le _,rfl,fun j hj=>absurd hj (by omega),za4 _⟩
  case round =>
   obtain ⟨k,hk,rfl,ht,hx0⟩:=hrel;have HT:=Hd ht;clear ht;have B1:=hx0.box (hNew (w:=w) (o := .cells #[.slice cA cs.length cc, .slice sA ss.length sc] 27) rfl);have b1:=za2 B1;have f1:=zad B1;have z1:=bx_lt B1;have X1:=Ext.trans (za1 w (.cells #[.slice cA cs.length cc, .slice sA ss.length sc] 27)) hx0;by_cases hlt:k < cs.length
   ·have hst:=cStep_at hlt;obtain ⟨ab,ao,rfl,hab,a0,a1⟩:=(ha.keep X1).atCel hlt;have hab1:¬ ab=wr.heap.size:=by omega
    have hab2:ab < wr.heap.size+1:=by omega
    clear X1;cases q1:inB cs[k].key 0 1000000000
    ·have HN:=Hd (zfb (ss:=ss) hlt (by rw [hst,wh,q1];rfl))
     clear hst
     (go_wp2;(refine mrx (fun _ _ _=>True) 38 (fun hg=>?_);simp only [Tc,Tz,Dc,Dz]);(repeat (first | (refine mqu ?_;go_big_quiet_step (fail);refine mnil ?_) | (refine msk ?_;simp only [Act.put,Sa,Sz,Ss]) | (refine Rm.more ?_;refine mdt Tryz.func33 (fun W hW=>zah _ W) ?_;simp only [Act.put,Sa,Sz,Ss])));(refine Rm.wpMix_nil ?_;intro w2 hw2);go_wp2;go_ret;exact ⟨za7 (by rw [HN.out]),Ext.trans (za1 _ _) (Ext.trans hx0 hw2)⟩)
    cases q2:inB cs[k].value 0 1000000000
    ·have HN:=Hd (zfb (ss:=ss) hlt (by rw [hst,wh,wh,q1,q2];rfl))
     clear hst
     (go_wp2;(refine mrx (fun _ _ _=>True) 38 (fun hg=>?_);simp only [Tc,Tz,Dc,Dz]);(repeat (first | (refine mqu ?_;go_big_quiet_step (fail);refine mnil ?_) | (refine msk ?_;simp only [Act.put,Sa,Sz,Ss]) | (refine Rm.more ?_;refine mdt Tryz.func33 (fun W hW=>zah _ W) ?_;simp only [Act.put,Sa,Sz,Ss])));(refine Rm.wpMix_nil ?_;intro w2 hw2);go_wp2;go_ret;exact ⟨za7 (by rw [HN.out]),Ext.trans (za1 _ _) (Ext.trans hx0 hw2)⟩)
    rw [show wh cs[k].key=true from q1,show wh cs[k].value=true from q2] at hst
    have HSt:=Hd hst;clear hst
    match k,hk,hlt,HT,HSt,a0,a1,q1,q2 with
    | 0,hk,hlt,HT,HSt,a0,a1,q1,q2 =>
     simp only [Nat.zero_mul,Nat.add_zero] at a0 a1
     (go_wp2;(refine mrx (fun _ _ _=>True) 38 (fun hg=>?_);simp only [Tc,Tz,Dc,Dz]);(repeat (first | (refine mqu ?_;go_big_quiet_step (fail);refine mnil ?_) | (refine msk ?_;simp only [Act.put,Sa,Sz,Ss]) | (refine Rm.more ?_;refine mdt Tryz.func33 (fun W hW=>zah _ W) ?_;simp only [Act.put,Sa,Sz,Ss])));(refine Rm.wpMix_nil ?_;intro w2 hw2);go_wp2;go_roundw)
     case rel=>exact ⟨1,by omega,by go_num,HT.out.next (by rw [HSt.out];rfl),Ext.trans hx0 hw2⟩
     case measure=>simp [intOf] <;> omega
    | j+1,hk,hlt,HT,HSt,a0,a1,q1,q2 =>
     obtain ⟨_,_,e1,_,f0,f1'⟩:=(ha.keep (Ext.trans (za1 w _) hx0)).atCel (show j < cs.length by omega)
     obtain ⟨rfl,rfl⟩:ab=_/\ao=_:=by simpa using e1
     clear e1;have HLo:=Hd (cLow_at (show j < cs.length by omega) cs[j+1].key)
     cases q5:decide (cs[j+1].key<=cs[j].key)
     ·have HS2:=Hd (show cStep cs (j+1)=true by rw [HSt.out,HLo.out,q5];rfl)
      (go_wp2;(refine mrx (fun _ _ _=>True) 38 (fun hg=>?_);simp only [Tc,Tz,Dc,Dz]);(repeat (first | (refine mqu ?_;go_big_quiet_step (fail);refine mnil ?_) | (refine msk ?_;simp only [Act.put,Sa,Sz,Ss]) | (refine Rm.more ?_;refine mdt Tryz.func33 (fun W hW=>zah _ W) ?_;simp only [Act.put,Sa,Sz,Ss])));(refine Rm.wpMix_nil ?_;intro w2 hw2);go_wp2;go_roundw)
      case rel=>exact ⟨j+1+1,by omega,by go_num,HT.out.next HS2.out,Ext.trans hx0 hw2⟩
      case measure=>simp [intOf] <;> omega
     ·have HN:=Hd (zfb (ss:=ss) hlt (by rw [HSt.out,HLo.out,q5];rfl))
      (go_wp2;(refine mrx (fun _ _ _=>True) 38 (fun hg=>?_);simp only [Tc,Tz,Dc,Dz]);(repeat (first | (refine mqu ?_;go_big_quiet_step (fail);refine mnil ?_) | (refine msk ?_;simp only [Act.put,Sa,Sz,Ss]) | (refine Rm.more ?_;refine mdt Tryz.func33 (fun W hW=>zah _ W) ?_;simp only [Act.put,Sa,Sz,Ss])));(refine Rm.wpMix_nil ?_;intro w2 hw2);go_wp2;go_ret;exact ⟨za7 (by rw [HN.out]),Ext.trans (za1 _ _) (Ext.trans hx0 hw2)⟩)
   ·have hkl:k=cs.length:=by omega
    subst hkl;go_wp2
    go_loopw [4] (fun i ws=>∃ k:Nat,k<=ss.length/\i = .int .i64 k/\STo ss k/\Ext (w.alloc (.cells #[.slice cA cs.length cc, .slice sA ss.length sc] 27)) ws) (fun i _=>ss.length - (intOf i).toNat)
    case atStart=>exact ⟨0,Nat.zero_le _,rfl,fun j hj=>absurd hj (by omega),hx0⟩
    case round =>
     clear b1 f1 z1 hx0 X1 B1;obtain ⟨k,hk,rfl,ht,hx0⟩:=hrel;have HT2:=Hd ht;clear ht;have B1:=hx0.box (hNew (w:=w) (o := .cells #[.slice cA cs.length cc, .slice sA ss.length sc] 27) rfl);have b1:=za2 B1;have f1:=zad B1;have z1:=bx_lt B1;have X1:=Ext.trans (za1 w (.cells #[.slice cA cs.length cc, .slice sA ss.length sc] 27)) hx0;by_cases hlt:k < ss.length
     ·have hst:=sStep_at hlt;obtain ⟨ab,ao,rfl,hab,a0,a1,a2⟩:=(hb.keep X1).atSea hlt;have hab1:¬ ab=wr.heap.size:=by omega
      have hab2:ab < wr.heap.size+1:=by omega
      clear X1;cases q1:inB ss[k].client 0 1000000000
      ·have HN:=Hd (zdu (cs:=cs) hlt (by rw [hst,wh,q1];rfl))
       clear hst
       (go_wp2;(refine mrx (fun _ _ _=>True) 32 (fun hg=>?_);simp only [Tc,Tz,Dc,Dz]);(repeat (first | (refine mqu ?_;go_big_quiet_step (fail);refine mnil ?_) | (refine msk ?_;simp only [Act.put,Sa,Sz,Ss]) | (refine Rm.more ?_;refine mdt Tryz.func33 (fun W hW=>zah _ W) ?_;simp only [Act.put,Sa,Sz,Ss]) | (refine Rm.more ?_;refine mdt Tryz.func32 (fun W hW=>zb6 _ _ _ W) ?_;simp only [Act.put,Sa,Sz,Ss])));(refine Rm.wpMix_nil ?_;intro w2 hw2);go_wp2;go_ret;exact ⟨za7 (by rw [HN.out]),Ext.trans (za1 _ _) (Ext.trans (za9 hx0 _) hw2)⟩)
      cases q2:inB ss[k].req 1 1000000000
      ·have HN:=Hd (zdu (cs:=cs) hlt (by rw [hst,wh,q1,q2];rfl))
       clear hst
       (go_wp2;(refine mrx (fun _ _ _=>True) 32 (fun hg=>?_);simp only [Tc,Tz,Dc,Dz]);(repeat (first | (refine mqu ?_;go_big_quiet_step (fail);refine mnil ?_) | (refine msk ?_;simp only [Act.put,Sa,Sz,Ss]) | (refine Rm.more ?_;refine mdt Tryz.func33 (fun W hW=>zah _ W) ?_;simp only [Act.put,Sa,Sz,Ss]) | (refine Rm.more ?_;refine mdt Tryz.func32 (fun W hW=>zb6 _ _ _ W) ?_;simp only [Act.put,Sa,Sz,Ss])));(refine Rm.wpMix_nil ?_;intro w2 hw2);go_wp2;go_ret;exact ⟨za7 (by rw [HN.out]),Ext.trans (za1 _ _) (Ext.trans (za9 hx0 _) hw2)⟩)
      cases q3:inB ss[k].answer (-1) 1000000000
      ·have HN:=Hd (zdu (cs:=cs) hlt (by rw [hst,wh,q1,q2,q3];rfl))
       clear hst
       (go_wp2;(refine mrx (fun _ _ _=>True) 32 (fun hg=>?_);simp only [Tc,Tz,Dc,Dz]);(repeat (first | (refine mqu ?_;go_big_quiet_step (fail);refine mnil ?_) | (refine msk ?_;simp only [Act.put,Sa,Sz,Ss]) | (refine Rm.more ?_;refine mdt Tryz.func33 (fun W hW=>zah _ W) ?_;simp only [Act.put,Sa,Sz,Ss]) | (refine Rm.more ?_;refine mdt Tryz.func32 (fun W hW=>zb6 _ _ _ W) ?_;simp only [Act.put,Sa,Sz,Ss])));(refine Rm.wpMix_nil ?_;intro w2 hw2);go_wp2;go_ret;exact ⟨za7 (by rw [HN.out]),Ext.trans (za1 _ _) (Ext.trans (za9 hx0 _) hw2)⟩)
      rw [show wh ss[k].client=true from q1,q2,q3] at hst
      have HSt:=Hd hst;clear hst
      match k,hk,hlt,HT2,HSt,a0,a1,a2,q1,q2,q3 with
      | 0,hk,hlt,HT2,HSt,a0,a1,a2,q1,q2,q3 =>
       simp only [Nat.zero_mul,Nat.add_zero] at a0 a1 a2
       (go_wp2;(refine mrx (fun _ _ _=>True) 32 (fun hg=>?_);simp only [Tc,Tz,Dc,Dz]);(repeat (first | (refine mqu ?_;go_big_quiet_step (fail);refine mnil ?_) | (refine msk ?_;simp only [Act.put,Sa,Sz,Ss]) | (refine Rm.more ?_;refine mdt Tryz.func33 (fun W hW=>zah _ W) ?_;simp only [Act.put,Sa,Sz,Ss]) | (refine Rm.more ?_;refine mdt Tryz.func32 (fun W hW=>zb6 _ _ _ W) ?_;simp only [Act.put,Sa,Sz,Ss])));(refine Rm.wpMix_nil ?_;intro w2 hw2);go_wp2;go_roundw)
       case rel=>exact ⟨1,by omega,by go_num,HT2.out.next (by rw [HSt.out];rfl),Ext.trans (za9 hx0 _) hw2⟩
       case measure=>simp [intOf] <;> omega
      | j+1,hk,hlt,HT2,HSt,a0,a1,a2,q1,q2,q3 =>
       obtain ⟨_,_,e1,_,f0,f1',f2'⟩:=(hb.keep (Ext.trans (za1 w _) hx0)).atSea (show j < ss.length by omega)
       obtain ⟨rfl,rfl⟩:ab=_/\ao=_:=by simpa using e1
       clear e1;have HLo:=Hd (sLow_at (show j < ss.length by omega) ss[j+1].client)
       cases q5:decide (ss[j+1].client<=ss[j].client)
       ·have HS2:=Hd (show sStep ss (j+1)=true by rw [HSt.out,HLo.out,q5];rfl)
        (go_wp2;(refine mrx (fun _ _ _=>True) 32 (fun hg=>?_);simp only [Tc,Tz,Dc,Dz]);(repeat (first | (refine mqu ?_;go_big_quiet_step (fail);refine mnil ?_) | (refine msk ?_;simp only [Act.put,Sa,Sz,Ss]) | (refine Rm.more ?_;refine mdt Tryz.func33 (fun W hW=>zah _ W) ?_;simp only [Act.put,Sa,Sz,Ss]) | (refine Rm.more ?_;refine mdt Tryz.func32 (fun W hW=>zb6 _ _ _ W) ?_;simp only [Act.put,Sa,Sz,Ss])));(refine Rm.wpMix_nil ?_;intro w2 hw2);go_wp2;go_roundw)
        case rel=>exact ⟨j+1+1,by omega,by go_num,HT2.out.next HS2.out,Ext.trans (za9 hx0 _) hw2⟩
        case measure=>simp [intOf] <;> omega
       ·have HN:=Hd (zdu (cs:=cs) hlt (by rw [HSt.out,HLo.out,q5];rfl))
        (go_wp2;(refine mrx (fun _ _ _=>True) 32 (fun hg=>?_);simp only [Tc,Tz,Dc,Dz]);(repeat (first | (refine mqu ?_;go_big_quiet_step (fail);refine mnil ?_) | (refine msk ?_;simp only [Act.put,Sa,Sz,Ss]) | (refine Rm.more ?_;refine mdt Tryz.func33 (fun W hW=>zah _ W) ?_;simp only [Act.put,Sa,Sz,Ss]) | (refine Rm.more ?_;refine mdt Tryz.func32 (fun W hW=>zb6 _ _ _ W) ?_;simp only [Act.put,Sa,Sz,Ss])));(refine Rm.wpMix_nil ?_;intro w2 hw2);go_wp2;go_ret;exact ⟨za7 (by rw [HN.out]),Ext.trans (za1 _ _) (Ext.trans (za9 hx0 _) hw2)⟩)
     ·have hkl:k=ss.length:=by omega
      subst hkl;have HV:=Hd (zin hl1 hl2 HT.out HT2.out);go_wp2
      go_ret
      exact ⟨za7 HV.out.symm,X1⟩
 ·have HV:=Hd (imageOk_no hl);by_cases h1:cs.length<=40
  ·have g1:decide ((40:Int) < (cs.length:Int))=false:=by simp;omega
   have g2:decide ((10:Int) < (ss.length:Int))=true:=by simp;omega
   clear hl
   go_enter Tryz.func112,Tryz.ntmps112
   go_wp2
   go_ret
   exact ⟨za7 HV.out.symm,za1 _ _⟩
  ·have g1:decide ((40:Int) < (cs.length:Int))=true:=by simp;omega
   clear hl
   go_enter Tryz.func112,Tryz.ntmps112
   go_wp2
   go_ret
   exact ⟨za7 HV.out.symm,za1 _ _⟩
theorem c_iImageOk (cA:Option Addr) (cc:Nat) (cs:List Cel) (sA:Option Addr) (sc:Nat) (ss:List Sea) (w:World) (ha:Rd Cel.enc 2 w cA cc cs) (hb:Rd Sea.enc 3 w sA sc ss) (hn:cs.length<=1099511627776) (hm:ss.length<=1099511627776) :
  Calls Tryz.prog 105 #[.agg #[.slice cA cs.length cc, .slice sA ss.length sc]] w fun e w'=>e = .returned (.bool (zbj cs ss))/\Ext w w':=by
 go_enter Tryz.func105,Tryz.ntmps105
 go_wp2
 go_loopw [10] (fun i wr=>∃ k:Nat,k<=cs.length/\i = .int .i64 k/\CTo cs k/\Ext (w.alloc (.cells #[.slice cA cs.length cc, .slice sA ss.length sc] 27)) wr) (fun i _=>cs.length - (intOf i).toNat)
 case atStart=>exact ⟨0,Nat.zero_le _,rfl,fun j hj=>absurd hj (by omega),za4 _⟩
 case round =>
  obtain ⟨k,hk,rfl,ht,hx0⟩:=hrel;have HT:=Hd ht;clear ht;have B1:=hx0.box (hNew (w:=w) (o := .cells #[.slice cA cs.length cc, .slice sA ss.length sc] 27) rfl);have b1:=za2 B1;have f1:=zad B1;have z1:=bx_lt B1;have X1:=Ext.trans (za1 w (.cells #[.slice cA cs.length cc, .slice sA ss.length sc] 27)) hx0;by_cases hlt:k < cs.length
  ·have hst:=cStep_at hlt;obtain ⟨ab,ao,rfl,hab,a0,a1⟩:=(ha.keep X1).atCel hlt;have hab1:¬ ab=wr.heap.size:=by omega
   have hab2:ab < wr.heap.size+1:=by omega
   clear X1;cases q1:inB cs[k].key 0 1000000000
   ·have HN:=Hd (zfb (ss:=ss) hlt (by rw [hst,wh,q1];rfl))
    clear hst
    (go_wp2;(refine mrx (fun _ _ _=>True) 26 (fun hg=>?_);simp only [Tc,Tz,Dc,Dz]);(repeat (first | (refine mqu ?_;go_big_quiet_step (fail);refine mnil ?_) | (refine msk ?_;simp only [Act.put,Sa,Sz,Ss]) | (refine Rm.more ?_;refine mdt Tryz.func37 (fun W hW=>zas _ W) ?_;simp only [Act.put,Sa,Sz,Ss])));(refine Rm.wpMix_nil ?_;intro w2 hw2);go_wp2;go_ret;exact ⟨za7 (by rw [HN.out]),Ext.trans (za1 _ _) (Ext.trans (za9 hx0 _) hw2)⟩)
   cases q2:inB cs[k].value 0 1000000000
   ·have HN:=Hd (zfb (ss:=ss) hlt (by rw [hst,wh,wh,q1,q2];rfl))
    clear hst
    (go_wp2;(refine mrx (fun _ _ _=>True) 26 (fun hg=>?_);simp only [Tc,Tz,Dc,Dz]);(repeat (first | (refine mqu ?_;go_big_quiet_step (fail);refine mnil ?_) | (refine msk ?_;simp only [Act.put,Sa,Sz,Ss]) | (refine Rm.more ?_;refine mdt Tryz.func37 (fun W hW=>zas _ W) ?_;simp only [Act.put,Sa,Sz,Ss])));(refine Rm.wpMix_nil ?_;intro w2 hw2);go_wp2;go_ret;exact ⟨za7 (by rw [HN.out]),Ext.trans (za1 _ _) (Ext.trans (za9 hx0 _) hw2)⟩)
   rw [show wh cs[k].key=true from q1,show wh cs[k].value=true from q2] at hst
   have HSt:=Hd hst;clear hst
   match k,hk,hlt,HT,HSt,a0,a1,q1,q2 with
   | 0,hk,hlt,HT,HSt,a0,a1,q1,q2 =>
    simp only [Nat.zero_mul,Nat.add_zero] at a0 a1
    (go_wp2;(refine mrx (fun _ _ _=>True) 26 (fun hg=>?_);simp only [Tc,Tz,Dc,Dz]);(repeat (first | (refine mqu ?_;go_big_quiet_step (fail);refine mnil ?_) | (refine msk ?_;simp only [Act.put,Sa,Sz,Ss]) | (refine Rm.more ?_;refine mdt Tryz.func37 (fun W hW=>zas _ W) ?_;simp only [Act.put,Sa,Sz,Ss])));(refine Rm.wpMix_nil ?_;intro w2 hw2);go_wp2;go_roundw)
    case rel=>exact ⟨1,by omega,by go_num,HT.out.next (by rw [HSt.out];rfl),Ext.trans (za9 hx0 _) hw2⟩
    case measure=>simp [intOf] <;> omega
   | j+1,hk,hlt,HT,HSt,a0,a1,q1,q2 =>
    obtain ⟨_,_,e1,_,f0,f1'⟩:=(ha.keep (Ext.trans (za1 w _) hx0)).atCel (show j < cs.length by omega)
    obtain ⟨rfl,rfl⟩:ab=_/\ao=_:=by simpa using e1
    clear e1;have HLo:=Hd (cLow_at (show j < cs.length by omega) cs[j+1].key)
    cases q5:decide (cs[j+1].key<=cs[j].key)
    ·have HS2:=Hd (show cStep cs (j+1)=true by rw [HSt.out,HLo.out,q5];rfl)
     (go_wp2;(refine mrx (fun _ _ _=>True) 26 (fun hg=>?_);simp only [Tc,Tz,Dc,Dz]);(repeat (first | (refine mqu ?_;go_big_quiet_step (fail);refine mnil ?_) | (refine msk ?_;simp only [Act.put,Sa,Sz,Ss]) | (refine Rm.more ?_;refine mdt Tryz.func37 (fun W hW=>zas _ W) ?_;simp only [Act.put,Sa,Sz,Ss])));(refine Rm.wpMix_nil ?_;intro w2 hw2);go_wp2;go_roundw)
     case rel=>exact ⟨j+1+1,by omega,by go_num,HT.out.next HS2.out,Ext.trans (za9 hx0 _) hw2⟩
     case measure=>simp [intOf] <;> omega
    ·have HN:=Hd (zfb (ss:=ss) hlt (by rw [HSt.out,HLo.out,q5];rfl))
     (go_wp2;(refine mrx (fun _ _ _=>True) 26 (fun hg=>?_);simp only [Tc,Tz,Dc,Dz]);(repeat (first | (refine mqu ?_;go_big_quiet_step (fail);refine mnil ?_) | (refine msk ?_;simp only [Act.put,Sa,Sz,Ss]) | (refine Rm.more ?_;refine mdt Tryz.func37 (fun W hW=>zas _ W) ?_;simp only [Act.put,Sa,Sz,Ss])));(refine Rm.wpMix_nil ?_;intro w2 hw2);go_wp2;go_ret;exact ⟨za7 (by rw [HN.out]),Ext.trans (za1 _ _) (Ext.trans (za9 hx0 _) hw2)⟩)
  ·have hkl:k=cs.length:=by omega
   subst hkl;go_wp2
   go_loopw [45] (fun i ws=>∃ k:Nat,k<=ss.length/\i = .int .i64 k/\STo ss k/\Ext (w.alloc (.cells #[.slice cA cs.length cc, .slice sA ss.length sc] 27)) ws) (fun i _=>ss.length - (intOf i).toNat)
   case atStart=>exact ⟨0,Nat.zero_le _,rfl,fun j hj=>absurd hj (by omega),hx0⟩
   case round =>
    clear b1 f1 z1 hx0 X1 B1;obtain ⟨k,hk,rfl,ht,hx0⟩:=hrel;have HT2:=Hd ht;clear ht;have B1:=hx0.box (hNew (w:=w) (o := .cells #[.slice cA cs.length cc, .slice sA ss.length sc] 27) rfl);have b1:=za2 B1;have f1:=zad B1;have z1:=bx_lt B1;have X1:=Ext.trans (za1 w (.cells #[.slice cA cs.length cc, .slice sA ss.length sc] 27)) hx0;by_cases hlt:k < ss.length
    ·have hst:=sStep_at hlt;obtain ⟨ab,ao,rfl,hab,a0,a1,a2⟩:=(hb.keep X1).atSea hlt;have hab1:¬ ab=wr.heap.size:=by omega
     have hab2:ab < wr.heap.size+1:=by omega
     clear X1;cases q1:inB ss[k].client 0 1000000000
     ·have HN:=Hd (zdu (cs:=cs) hlt (by rw [hst,wh,q1];rfl))
      clear hst
      (go_wp2;(refine mrx (fun _ _ _=>True) 32 (fun hg=>?_);simp only [Tc,Tz,Dc,Dz]);(repeat (first | (refine mqu ?_;go_big_quiet_step (fail);refine mnil ?_) | (refine msk ?_;simp only [Act.put,Sa,Sz,Ss]) | (refine Rm.more ?_;refine mdt Tryz.func37 (fun W hW=>zas _ W) ?_;simp only [Act.put,Sa,Sz,Ss]) | (refine Rm.more ?_;refine mdt Tryz.func141 (fun W hW=>zgz _ W) ?_;simp only [Act.put,Sa,Sz,Ss]) | (refine Rm.more ?_;refine mdt Tryz.func142 (fun W hW=>zde _ W) ?_;simp only [Act.put,Sa,Sz,Ss])));(refine Rm.wpMix_nil ?_;intro w2 hw2);go_wp2;go_ret;exact ⟨za7 (by rw [HN.out]),Ext.trans (za1 _ _) (Ext.trans (za9 hx0 _) hw2)⟩)
     cases q2:inB ss[k].req 1 1000000000
     ·have HN:=Hd (zdu (cs:=cs) hlt (by rw [hst,wh,q1,q2];rfl))
      clear hst
      (go_wp2;(refine mrx (fun _ _ _=>True) 32 (fun hg=>?_);simp only [Tc,Tz,Dc,Dz]);(repeat (first | (refine mqu ?_;go_big_quiet_step (fail);refine mnil ?_) | (refine msk ?_;simp only [Act.put,Sa,Sz,Ss]) | (refine Rm.more ?_;refine mdt Tryz.func37 (fun W hW=>zas _ W) ?_;simp only [Act.put,Sa,Sz,Ss]) | (refine Rm.more ?_;refine mdt Tryz.func141 (fun W hW=>zgz _ W) ?_;simp only [Act.put,Sa,Sz,Ss]) | (refine Rm.more ?_;refine mdt Tryz.func142 (fun W hW=>zde _ W) ?_;simp only [Act.put,Sa,Sz,Ss])));(refine Rm.wpMix_nil ?_;intro w2 hw2);go_wp2;go_ret;exact ⟨za7 (by rw [HN.out]),Ext.trans (za1 _ _) (Ext.trans (za9 hx0 _) hw2)⟩)
     cases q3:inB ss[k].answer (-1) 1000000000
     ·have HN:=Hd (zdu (cs:=cs) hlt (by rw [hst,wh,q1,q2,q3];rfl))
      clear hst
      (go_wp2;(refine mrx (fun _ _ _=>True) 32 (fun hg=>?_);simp only [Tc,Tz,Dc,Dz]);(repeat (first | (refine mqu ?_;go_big_quiet_step (fail);refine mnil ?_) | (refine msk ?_;simp only [Act.put,Sa,Sz,Ss]) | (refine Rm.more ?_;refine mdt Tryz.func37 (fun W hW=>zas _ W) ?_;simp only [Act.put,Sa,Sz,Ss]) | (refine Rm.more ?_;refine mdt Tryz.func141 (fun W hW=>zgz _ W) ?_;simp only [Act.put,Sa,Sz,Ss]) | (refine Rm.more ?_;refine mdt Tryz.func142 (fun W hW=>zde _ W) ?_;simp only [Act.put,Sa,Sz,Ss])));(refine Rm.wpMix_nil ?_;intro w2 hw2);go_wp2;go_ret;exact ⟨za7 (by rw [HN.out]),Ext.trans (za1 _ _) (Ext.trans (za9 hx0 _) hw2)⟩)
     rw [show wh ss[k].client=true from q1,q2,q3] at hst
     have HSt:=Hd hst;clear hst
     match k,hk,hlt,HT2,HSt,a0,a1,a2,q1,q2,q3 with
     | 0,hk,hlt,HT2,HSt,a0,a1,a2,q1,q2,q3 =>
      simp only [Nat.zero_mul,Nat.add_zero] at a0 a1 a2
      (go_wp2;(refine mrx (fun _ _ _=>True) 32 (fun hg=>?_);simp only [Tc,Tz,Dc,Dz]);(repeat (first | (refine mqu ?_;go_big_quiet_step (fail);refine mnil ?_) | (refine msk ?_;simp only [Act.put,Sa,Sz,Ss]) | (refine Rm.more ?_;refine mdt Tryz.func37 (fun W hW=>zas _ W) ?_;simp only [Act.put,Sa,Sz,Ss]) | (refine Rm.more ?_;refine mdt Tryz.func141 (fun W hW=>zgz _ W) ?_;simp only [Act.put,Sa,Sz,Ss]) | (refine Rm.more ?_;refine mdt Tryz.func142 (fun W hW=>zde _ W) ?_;simp only [Act.put,Sa,Sz,Ss])));(refine Rm.wpMix_nil ?_;intro w2 hw2);go_wp2;go_roundw)
      case rel=>exact ⟨1,by omega,by go_num,HT2.out.next (by rw [HSt.out];rfl),Ext.trans (za9 hx0 _) hw2⟩
      case measure=>simp [intOf] <;> omega
     | j+1,hk,hlt,HT2,HSt,a0,a1,a2,q1,q2,q3 =>
      obtain ⟨_,_,e1,_,f0,f1',f2'⟩:=(hb.keep (Ext.trans (za1 w _) hx0)).atSea (show j < ss.length by omega)
      obtain ⟨rfl,rfl⟩:ab=_/\ao=_:=by simpa using e1
      clear e1;have HLo:=Hd (sLow_at (show j < ss.length by omega) ss[j+1].client)
      cases q5:decide (ss[j+1].client<=ss[j].client)
      ·have HS2:=Hd (show sStep ss (j+1)=true by rw [HSt.out,HLo.out,q5];rfl)
       (go_wp2;(refine mrx (fun _ _ _=>True) 32 (fun hg=>?_);simp only [Tc,Tz,Dc,Dz]);(repeat (first | (refine mqu ?_;go_big_quiet_step (fail);refine mnil ?_) | (refine msk ?_;simp only [Act.put,Sa,Sz,Ss]) | (refine Rm.more ?_;refine mdt Tryz.func37 (fun W hW=>zas _ W) ?_;simp only [Act.put,Sa,Sz,Ss]) | (refine Rm.more ?_;refine mdt Tryz.func141 (fun W hW=>zgz _ W) ?_;simp only [Act.put,Sa,Sz,Ss]) | (refine Rm.more ?_;refine mdt Tryz.func142 (fun W hW=>zde _ W) ?_;simp only [Act.put,Sa,Sz,Ss])));(refine Rm.wpMix_nil ?_;intro w2 hw2);go_wp2;go_roundw)
       case rel=>exact ⟨j+1+1,by omega,by go_num,HT2.out.next HS2.out,Ext.trans (za9 hx0 _) hw2⟩
       case measure=>simp [intOf] <;> omega
      ·have HN:=Hd (zdu (cs:=cs) hlt (by rw [HSt.out,HLo.out,q5];rfl))
       (go_wp2;(refine mrx (fun _ _ _=>True) 32 (fun hg=>?_);simp only [Tc,Tz,Dc,Dz]);(repeat (first | (refine mqu ?_;go_big_quiet_step (fail);refine mnil ?_) | (refine msk ?_;simp only [Act.put,Sa,Sz,Ss]) | (refine Rm.more ?_;refine mdt Tryz.func37 (fun W hW=>zas _ W) ?_;simp only [Act.put,Sa,Sz,Ss]) | (refine Rm.more ?_;refine mdt Tryz.func141 (fun W hW=>zgz _ W) ?_;simp only [Act.put,Sa,Sz,Ss]) | (refine Rm.more ?_;refine mdt Tryz.func142 (fun W hW=>zde _ W) ?_;simp only [Act.put,Sa,Sz,Ss])));(refine Rm.wpMix_nil ?_;intro w2 hw2);go_wp2;go_ret;exact ⟨za7 (by rw [HN.out]),Ext.trans (za1 _ _) (Ext.trans (za9 hx0 _) hw2)⟩)
    ·have hkl:k=ss.length:=by omega
     subst hkl
     have HV:=Hd (show (decide (cs.length<=40) && decide (ss.length<=10))=zbj cs ss by
      rw [Bool.eq_iff_iff,Bool.and_eq_true,decide_eq_true_eq,decide_eq_true_eq]
      exact ⟨fun h=>zin h.1 h.2 HT.out HT2.out,fun h=>by have:=of_decide_eq_true h;exact ⟨this.1,this.2.1⟩⟩)
     by_cases h1:cs.length<=40
     ·have g1:decide ((cs.length:Int)<=40)=true:=by simp;omega
      by_cases h2:ss.length<=10
      ·have g2:decide ((ss.length:Int)<=10)=true:=by simp;omega
       have HW:=Hd (show true=zbj cs ss by rw [<-HV.out,decide_eq_true h1,decide_eq_true h2];rfl)
       go_wp2
       go_ret
       exact ⟨za7 HW.out,X1⟩
      ·have g2:decide ((ss.length:Int)<=10)=false:=by simp;omega
       have HW:=Hd (show false=zbj cs ss by rw [<-HV.out,decide_eq_true h1,decide_eq_false h2];rfl)
       go_wp2
       go_ret
       exact ⟨za7 HW.out,X1⟩
     ·have g1:decide ((cs.length:Int)<=40)=false:=by simp;omega
      have HW:=Hd (show false=zbj cs ss by rw [<-HV.out,decide_eq_false h1];rfl)
      go_wp2
      go_ret
      exact ⟨za7 HW.out,X1⟩
end Go.Proofs.YtckfjploafhenaaGreat
