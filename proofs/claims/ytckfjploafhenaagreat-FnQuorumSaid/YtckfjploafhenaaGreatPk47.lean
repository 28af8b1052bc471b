/- What enough votes agree on, and the replies to what becomes committed (program). -/
import Derived.Test.YtckfjploafhenaaGreatPk46
import Derived.Test.YtckfjploafhenaaGreatPk45
import Derived.Test.YtckfjploafhenaaGreatPk25
import Derived.Test.YtckfjploafhenaaGreatPk27
import Derived.Test.YtckfjploafhenaaGreatPk30
import Derived.RegionTactic
import Derived.BigRegion
import Derived.Deep.RegionWith
set_option maxRecDepth 100000
set_option maxHeartbeats 16000000
set_option linter.unusedVariables false
set_option linter.unusedSimpArgs false
namespace Go.Proofs.YtckfjploafhenaaGreat
open Go.ChangeShapes Go.WideShapes Go.ChangeAt Go.RowKit Go.Sort
def isOk (n:Int) (v:Vt):Bool:=(v.kind == 3) && decide (n<=v.op)
def cntOk (n:Int) (l:List Vt):Nat:=l.countP (isOk n)
theorem zdj {n:Int} {l:List Vt} {k:Nat} (h:k < l.length):cntOk n (l.take (k+1))=cntOk n (l.take k)+if isOk n l[k]=true then 1 else 0:=by
 unfold cntOk;rw [List.take_add_one,List.countP_append,List.getElem?_eq_getElem h];simp [List.countP_cons]
theorem cntOk_le (n:Int) (l:List Vt) (k:Nat):cntOk n (l.take k)<=l.length:=Nat.le_trans (List.countP_le_length) (by rw [List.length_take];omega)
def agTo (R:Rp):Nat->Int
 | 0=>R.commit
 | k+1=>if decide ((R.of - 1) / 2<=(cntOk (R.commit+(k+1:Nat)) R.votes:Int))=true then R.commit+(k+1:Nat) else agTo R k
def zf2 (R:Rp):Int:=agTo R (R.log.fin - R.commit).toNat
theorem agTo_b (R:Rp):∀ k,R.commit<=agTo R k/\agTo R k<=R.commit+k
 | 0=>by simp [agTo]
 | k+1=>by
  have h:=agTo_b R k;unfold agTo;split <;> omega
theorem agTo_yes {R:Rp} {k:Nat} (h:decide ((R.of - 1) / 2<=(cntOk (R.commit+(k+1:Nat)) R.votes:Int))=true):agTo R (k+1)=R.commit+(k+1:Nat):=by
 unfold agTo;rw [if_pos h]
theorem agTo_no {R:Rp} {k:Nat} (h:decide ((R.of - 1) / 2<=(cntOk (R.commit+(k+1:Nat)) R.votes:Int))=false):agTo R (k+1)=agTo R k:=by
 rw [agTo,if_neg (by rw [h];simp)]
theorem c_agreed (p:Nat) (a:LAd) (A:Option Addr) (c:Nat) (qs:List VtE) (R:Rp) (O:Value) (w:World) (hb:w.heap[p]?=some (Kp.obj a A qs.length c R O)) (hr:Rd VtE.enc 10 w A c qs) (he:qs.map Prod.snd=R.votes) (hn:qs.length<=1048576)
  (ho:R.of=1\/R.of=3\/R.of=5) (h0:0<=R.log.base) (h1:R.log.base<=1000000000) (h2:R.log.ents.length<=60) (hc0:0<=R.commit) (hc1:R.commit<=R.log.fin) :
  Calls Tryz.prog 18 #[.pointer (some ⟨p,0,none⟩)] w fun e w'=>e = .returned (.int .i64 (zf2 R))/\Ext w w':=by
 have hL:R.votes.length=qs.length:=by rw [<-he,List.length_map]
 have HE:=Hd (show ∀ k (h:k < qs.length),∃ h2:k < R.votes.length,R.votes[k]=qs[k].2 from fun k h=>⟨by omega,by simp [<-he]⟩)
 have HR:=Hd hr;have HB:=Hd hb;have hf:R.log.fin<=1000000060:=by unfold Lg.fin;omega
 obtain ⟨F,hF⟩:∃ F,R.log.fin=F:=⟨_,rfl⟩;have HAV:=Hd (show zf2 R=agTo R (F - R.commit).toNat by unfold zf2;rw [hF])
 have HEnd:=Hd (show ∀ W,Calls Tryz.prog 15 #[Lg.val a R.log] W fun e w'=>e = .returned (.int .i64 F)/\Ext W w' from fun W=>by
  have h5:=c_end a R.log W (by omega) (by omega) (by omega)
  rw [hF] at h5
  exact h5)
 rw [hF] at hf hc1;have HOf:=Hd ho;clear hb hr he hF ho
 go_enter Tryz.func18,Tryz.ntmps18
 (go_wp2_with (with_reducible refine za5 11 ?_);refine zb3 (kp_log HB.out (za4 _)) rfl Tryz.underlying30 (by kernel_rfl) ?_;simp only [Act.put,Sa,Sz,Ss])
 go_wp2_with fail
 refine (HEnd.out _).mono ?_;rintro e9 w1 ⟨rfl,x1⟩;have HX1:=Hd x1;clear x1;go_wp2
 go_loopw [3] (fun n wr=>∃ k:Nat,n = .int .i64 (R.commit+k)/\Hid (zf2 R=agTo R k)/\R.commit+k<=F/\Ext w wr) (fun n _=>(intOf n - R.commit).toNat)
 case atStart=>exact ⟨(F - R.commit).toNat,by congr 1;omega,HAV,by omega,HX1.out⟩
 case round =>
  obtain ⟨k,rfl,HA,hkF,X⟩:=hrel;have HX:=Hd X;clear X;have d:=za2 (HX.out.box HB.out);have z:=bx_lt (HX.out.box HB.out);cases k with
  | zero =>
   have HA0:=Hd (show zf2 R=R.commit from HA.out)
   have hc:R.commit+((0:Nat):Int)=R.commit:=by omega
   have g0:decide (R.commit < R.commit)=false:=by simp
   rw [hc];clear hc HA;go_wp2
   go_ret
   exact ⟨zc0 HA0.out.symm,HX.out⟩
  | succ k =>
   obtain ⟨N,hN⟩:∃ N,R.commit+((k+1:Nat):Int)=N:=⟨_,rfl⟩;rw [hN] at hkF ⊢;have HN:=Hd hN;have hNk:N - 1=R.commit+(k:Int):=by omega
   have hNb:R.commit < N:=by omega
   have g0:decide (R.commit < N)=true:=by simpa using hNb
   clear hN;go_wp2
   go_loopw [4,28] (fun m i ws=>∃ j:Nat,j<=qs.length/\i = .int .i64 j/\m = .int .i64 (cntOk N (R.votes.take j))/\Ext w ws) (fun _ i _=>qs.length - (intOf i).toNat)
   case atStart=>exact ⟨0,Nat.zero_le _,rfl,by simp [cntOk],HX.out⟩
   case round =>
    obtain ⟨j,hj,rfl,rfl,X⟩:=hrel;have HX2:=Hd X;clear d z X;have hle:=cntOk_le N R.votes j;by_cases hlt:j < qs.length
    ·obtain ⟨ab,ao,hA,hab,a0,a1,a2,a3,a4,a5,a6,a7,a8,a9⟩:=(HR.out.keep HX2.out).atVtE hlt;subst hA;obtain ⟨h2,h3⟩:=HE.out j hlt;obtain ⟨cn,hcn⟩:∃ cn,cntOk N (R.votes.take j)=cn:=⟨_,rfl⟩;have HC:=Hd hcn;rw [hcn] at hle ⊢;have H3:=Hd h3;clear hcn h3;cases g1:(qs[j].2.kind == 3)
     ·have HN':=Hd (show cntOk N (R.votes.take (j+1))=cn by rw [zdj h2,H3.out,HC.out];unfold isOk;rw [g1];simp)
      go_wp2
      go_roundw
      case rel=>exact ⟨j+1,by omega,by go_num,by rw [HN'.out],Ext.trans HX2.out (za1 _ _)⟩
      case measure=>simp [intOf] <;> omega
     ·cases g2:decide (N<=qs[j].2.op)
      ·have HN':=Hd (show cntOk N (R.votes.take (j+1))=cn by rw [zdj h2,H3.out,HC.out];unfold isOk;rw [g1,g2];simp)
       go_wp2
       go_roundw
       case rel=>exact ⟨j+1,by omega,by go_num,by rw [HN'.out],Ext.trans HX2.out (za1 _ _)⟩
       case measure=>simp [intOf] <;> omega
      ·have HN':=Hd (show cntOk N (R.votes.take (j+1))=cn+1 by rw [zdj h2,H3.out,HC.out];unfold isOk;rw [g1,g2];simp)
       go_wp2
       go_roundw
       case rel=>exact ⟨j+1,by omega,by go_num,by rw [HN'.out];go_num,Ext.trans HX2.out (za1 _ _)⟩
       case measure=>simp [intOf] <;> omega
    ·obtain rfl:j=qs.length:=by omega
     have HT:=Hd (show cntOk N (R.votes.take qs.length)=cntOk N R.votes by rw [<-hL,List.take_length])
     rw [HT.out] at hle ⊢;obtain ⟨cn,hcn⟩:∃ cn,cntOk N R.votes=cn:=⟨_,rfl⟩;have HC:=Hd hcn;rw [hcn] at hle ⊢;clear hcn HT;have HB2:=Hd (HX2.out.box HB.out);go_wp2_with fail
     refine (c_half p a A qs.length c R O wr HB2.out HOf.out).mono ?_;rintro e9 w3 ⟨rfl,x3⟩;have HX3:=Hd (Ext.trans HX2.out x3);clear x3;cases g3:decide ((R.of - 1) / 2<=(cn:Int))
     ·have HA':=Hd (show zf2 R=agTo R k by
       have h5:=HA.out;rw [agTo_no (by rw [HN.out,HC.out];exact g3)] at h5
       exact h5)
      clear HA;go_wp2
      go_roundw
      case rel=>exact ⟨k,by first | rfl | rw [hNk],HA',by omega,HX3.out⟩
      case measure=>simp [intOf] <;> omega
     ·have HA':=Hd (show zf2 R=N by
       have h5:=HA.out;rw [agTo_yes (by rw [HN.out,HC.out];exact g3),HN.out] at h5
       exact h5)
      clear HA;go_wp2
      go_ret
      exact ⟨zc0 HA'.out.symm,HX3.out⟩
theorem c_answer (W0:World) (p:Nat) (a:LAd) (A:Option Addr) (c:Nat) (qs:List VtE) (R:Rp) (os:List OtE) (Ao:Option Addr) (co:Nat) (w:World) (hk:KZ W0 w p a A c qs R Ao co os) (j0 n0:Nat) (T:Int) (hT:R.log.base+j0+n0=T) (hok:logOk R.log=true) (hjn:j0+n0<=R.log.ents.length) (hos:os.length<=50000) :
  Calls Tryz.prog 19 #[.pointer (some ⟨p,0,none⟩), .int .i64 (R.log.base+j0), .int .i64 T] w fun e w'=>e = .returned (.tuple #[])/\∃ A' c' os',KZ W0 w' p a A c qs R A' c' (os++os')/\List.map Prod.snd os'=ansO R.view R.log j0 n0:=by
 obtain ⟨hb0,hb1,h60,hIm,hAll⟩:=log_b hok;obtain ⟨S0,hS0⟩:∃ S0,R.log.base+(j0:Int)=S0:=⟨_,rfl⟩;have HS0:=Hd hS0;have hT2:S0+n0=T:=by omega
 have hS0b:0<=S0/\S0<=1000000000:=by omega
 rw [hS0];have HK0:=Hd (show KZ W0 w p a A c qs R Ao co (os++[]) by simpa using hk)
 have HOk:=Hd hok;have HIm:=Hd hIm;have HAll:=Hd hAll;clear hk hok hT hS0 hIm hAll
 go_enter Tryz.func19,Tryz.ntmps19
 go_wp2
 go_loopw [6] (fun i wr=>∃ (k:Nat) (os':List OtE) (A':Option Addr) (c':Nat),k<=n0/\i = .int .i64 (S0+k+1)/\Hid (List.map Prod.snd os'=ansO R.view R.log j0 k)/\Hid (KZ W0 wr p a A c qs R A' c' (os++os'))) (fun i _=>(T+1 - intOf i).toNat)
 case atStart=>exact ⟨0,[],Ao,co,Nat.zero_le _,by go_num,Hd rfl,HK0⟩
 case round =>
  obtain ⟨k,os',A',c',hkn,rfl,HO,HK⟩:=hrel
  have hl':os'.length<=k:=by
   have h1:=congrArg List.length HO.out;rw [List.length_map] at h1
   have:=zi5 R.view R.log j0 k
   omega
  clear HK0;obtain ⟨N,hN⟩:∃ N,S0+(k:Int)+1=N:=⟨_,rfl⟩;rw [hN];by_cases hlt:k < n0
  ·have g0:decide (N<=T)=true:=by simp;omega
   have hNb:0 < N/\N<=1000000000:=by have:=HS0.out;omega
   have hjk:j0+k < R.log.ents.length:=by omega
   have hN1:R.log.base+((j0+k:Nat):Int)+1=N:=by have:=HS0.out;omega
   have hN2:R.log.base+((j0+k:Nat):Int)=N - 1:=by omega
   obtain ⟨e,he⟩:∃ e,R.log.ents[j0+k]=e:=⟨_,rfl⟩;have hE:=he;obtain ⟨m,hm⟩:∃ m,allI (R.log.cells,R.log.seats) (R.log.ents.take (j0+k))=m:=⟨_,rfl⟩
   have HLA:=Hd (show ∀ W,Ext wr W->Calls Tryz.prog 58 #[Lg.val a R.log, .int .i64 N] W fun e9 w'=>e9 = .returned (.tuple #[e.val, .bool true])/\Ext W w' from fun W hW=>by
    have h5:=c_iLogAt a R.log (j0+k) W ((HK.out.rp.l.lgF.rd).keep hW) HOk.out hjk;rw [hN1,he] at h5
    exact h5)
   have HLI:=Hd (show ∀ W,Ext wr W->Calls Tryz.prog 59 #[Lg.val a R.log, .int .i64 (N - 1)] W fun e9 w'=>(∃ A c A' c',e9 = .returned (Im.val A m.1.length c A' m.2.length c')/\Ow Cel.enc 162 2 w' (W.heap.size) (.slice A m.1.length c) m.1/\Ow Sea.enc 111 3 w' (W.heap.size) (.slice A' m.2.length c') m.2)/\Ext W w' from fun W hW=>by
    have h5:=c_image a R.log (j0+k) W ((HK.out.rp.l.lgF.rd).keep hW) HOk.out (by omega)
    rw [hN2,hm] at h5
    exact h5)
   have HMP:=Hd (show ImgP (m.1,m.2) by rw [<-hm];exact ImgP.all HIm.out (fun e he=>HAll.out e (List.mem_of_mem_take he)))
   have HEk:=Hd (show e.ok=true by rw [<-he];exact HAll.out _ (List.getElem_mem hjk))
   have HRy:=Hd (show repB m e=true->List.map Prod.snd os' ++ [⟨-1,repM R.view e (entA m e)⟩]=ansO R.view R.log j0 (k+1) from fun h=>by rw [zh5,repO_yes hjk hm (by rw [he];exact h),HO.out,he])
   have HRn:=Hd (show repB m e=false->List.map Prod.snd os'=ansO R.view R.log j0 (k+1) from fun h=>by rw [zh5,repO_no hjk hm (by rw [he];exact h),HO.out];simp)
   have hec:=ent_b HEk.out;clear hm he hE hN1 hN2
   (go_wp2_with (with_reducible refine za5 27 ?_);refine zb3 (kp_log HK.out.box (za4 _)) rfl Tryz.underlying30 (by kernel_rfl) ?_;simp only [Act.put,Sa,Sz,Ss])
   have d0:=za2 HK.out.box;have z0:=bx_lt HK.out.box;go_wp2_with fail
   refine (HLA.out _ (za4 _)).mono ?_;rintro e9 w2 ⟨rfl,x2⟩;have X2:=Hd x2;have HE7:=Hd (hNew (w:=w2) (o:=Ent.zbox) rfl);clear x2 d0 z0 HLA
   (go_wp2_with (with_reducible refine za8 104 ?_);refine za3 (w2.heap.size) #[.int .i64 e.client, .int .i64 e.req, .int .i64 e.kind, .int .i64 e.key, .int .i64 e.value] rfl rfl (HE7.out) (by kernel_rfl) rfl (by simp [Value.oneCell']) ?_)
   intro w3 e3 k3;have X3:=Hd (Ext.trans X2.out (zac (za1 w2 Ent.zbox) k3 (Nat.le_refl _)));have HE3:=Hd e3;have hz3:=bx_lt e3;clear e3 k3 HE7 X2;have B3:=Hd (X3.out.box HK.out.box);have d3:=za2 B3.out;have z3:=bx_lt B3.out
   (go_wp2_with (with_reducible refine za5 36 ?_);refine zb3 (kp_log B3.out (za4 _)) rfl Tryz.underlying30 (by kernel_rfl) ?_;simp only [Act.put,Sa,Sz,Ss])
   go_wp2_with fail
   refine (HLI.out _ X3.out).mono ?_;rintro e9 w4 ⟨⟨A4,c4,B4,d4,rfl,r4,s4⟩,x4⟩;have X4:=Hd (Ext.trans X3.out x4);have E4:=Hd (x4.box HE3.out);have HM4:=Hd (hNew (w:=w4) (o:=Im.zobj) rfl);have XA:=za1 w4 Im.zobj;have hz4:=x4.size;have R4:=Hd ((r4.kept XA));have S4:=Hd ((s4.kept XA));clear r4 s4 x4 d3 z3 HE3 B3 HLI X3
   (go_wp2_with (with_reducible refine za8 27 ?_);refine za3 (w4.heap.size) (Im.cs A4 m.1.length c4 B4 m.2.length d4) rfl rfl (HM4.out) (by kernel_rfl) rfl (by simp [Value.oneCell']) ?_)
   intro w5 e5 k5;have X5:=Hd (Ext.trans X4.out (zac XA k5 (Nat.le_refl _)));have E5:=Hd (zap (hOld E4.out) k5 (by have:=bx_lt E4.out;omega))
   have M5:=Hd e5;have RC5:=Hd ((R4.out.boxed HM4.out (by decide) k5).rd Cel.enc_len).2
   have RS5:=Hd ((S4.out.boxed HM4.out (by decide) k5).rd Sea.enc_len).2
   have hz5:=bx_lt e5;clear e5 k5 XA HM4 E4 R4 S4 X4
   (go_wp2_with (with_reducible refine za5 41 ?_);refine za6 (M5.out) rfl Tryz.underlying27 (by kernel_rfl) ?_;simp only [Act.put,Sa,Sz,Ss])
   (go_wp2_with (with_reducible refine za5 42 ?_);refine za6 (E5.out) rfl Tryz.underlying104 (by kernel_rfl) ?_;simp only [Act.put,Sa,Sz,Ss])
   go_wp2_with fail
   refine (zdh A4 c4 m.1 B4 d4 m.2 e w5 RC5.out RS5.out HMP.out HEk.out).mono ?_;rintro e9 w6 ⟨⟨A6,c6,B6,d6,rfl,r6,s6⟩,x6⟩;have HM6:=Hd (hNew (w:=w6) (o:=Im.zobj) rfl);have XA:=za1 w6 Im.zobj;have X6:=Hd (Ext.trans x6 XA);have hz6:=x6.size;clear r6 s6 x6
   (go_wp2_with (with_reducible refine za8 27 ?_);refine za3 (w6.heap.size) (Im.cs A6 (entI (m.1,m.2) e).1.length c6 B6 (entI (m.1,m.2) e).2.length d6) rfl rfl (HM6.out) (by kernel_rfl) rfl (by simp [Value.oneCell']) ?_)
   intro w7 e7 k7;have Y7:=zac X6.out k7 (by omega)
   have X7:=Hd (Ext.trans X5.out Y7);have E7:=Hd (Y7.box E5.out);have M7:=Hd (Y7.box M5.out);have RC7:=Hd (RC5.out.keep Y7);have RS7:=Hd (RS5.out.keep Y7);have hz7:=Y7.size;clear e7 k7 XA HM6 X6 Y7 X5 E5 M5 RC5 RS5
   (go_wp2_with (with_reducible refine za5 48 ?_);refine za6 (M7.out) rfl Tryz.underlying27 (by kernel_rfl) ?_;simp only [Act.put,Sa,Sz,Ss])
   have d7:=za2 E7.out;have z7:=bx_lt E7.out;go_wp2_with fail
   refine (c_iSeatOf A4 c4 m.1 B4 d4 m.2 e.client w7 RC7.out RS7.out HMP.out (by omega) (by omega)).mono ?_
   rintro e9 w8 ⟨⟨x,rfl,hx⟩,x8⟩;have HXs:=Hd hx;have HS8:=Hd (hNew (w:=w8) (o:=Sea.zobj) rfl);have XA:=za1 w8 Sea.zobj;have X8:=Hd (Ext.trans x8 XA);have hz8:=x8.size;clear x8 hx d7 z7
   (go_wp2_with (with_reducible refine za8 111 ?_);refine za3 (w8.heap.size) #[.int .i64 x.client, .int .i64 x.req, .int .i64 x.answer] rfl rfl (HS8.out) (by kernel_rfl) rfl (by simp [Value.oneCell']) ?_)
   intro w9 e9 k9;have Y9:=zac X8.out k9 (by omega)
   have X9:=Hd (Ext.trans X7.out Y9);have E9:=Hd (Y9.box E7.out);have S9:=Hd e9;have K9:=Hd (HK.out.keep X9.out);have hz9:=Y9.size;have hs9:=bx_lt e9;clear e9 k9 XA HS8 X8 Y9 X7 E7 M7 RC7 RS7 HK;have d9:=za2 E9.out;have z9:=bx_lt E9.out;have s9:=za2 S9.out;have k9:=za2 K9.out.box;have y9:=bx_lt K9.out.box;obtain ⟨cd,hcd⟩:∃ cd,zb9 (m.1,m.2) e=cd:=⟨_,rfl⟩;obtain ⟨ax,hax⟩:∃ ax,entA (m.1,m.2) e=ax:=⟨_,rfl⟩;have HCd:=Hd (code_cases (m.1,m.2) e);have HRB:=Hd (show repB m e=((cd == 0) || ((cd == 3) || ((cd == 2) && ((zcd m.2 e.client).req == e.req)))) by rw [<-hcd];rfl)
   have HAx:=Hd (show entA m e=ax from hax)
   rw [hcd] at HCd;rw [hcd,hax];clear hcd hax;cases gr:repB m e
   ·have HN':=Hd (HRn.out gr);have g1:=HRB.out;rw [gr] at g1
    have hnot:cd=2/\(x.req == e.req)=false:=by
     rcases HCd.out with h | h | ⟨h,hs⟩
     ·rw [h] at g1;simp at g1
     ·rw [h] at g1;simp at g1
     ·refine ⟨h, ?_⟩;rw [HXs.out hs];rw [h] at g1;simpa using g1.symm
    obtain ⟨rfl,hxe⟩:=hnot;clear g1 gr HRB;go_wp2
    go_roundw
    case rel=>exact ⟨k+1,os',A',c',by omega,by go_num,HN',K9⟩
    case measure=>simp [intOf] <;> omega
   ·have HN':=Hd (HRy.out gr);have g1:=HRB.out;rw [gr] at g1
    have hyes:cd=0\/cd=3\/cd=2/\(x.req == e.req)=true:=by
     rcases HCd.out with h | h | ⟨h,hs⟩
     ·exact .inl h
     ·exact .inr (.inl h)
     ·refine .inr (.inr ⟨h, ?_⟩);rw [HXs.out hs];rw [h] at g1;simpa using g1.symm
    clear g1 gr HRB;rcases hyes with rfl | rfl | ⟨rfl,hxe⟩
    all_goals
     go_wp2
     (refine mrg (relE w9.heap.size) (fun _ _ _=>True) 12 ?_;simp only [Tc,Tz,Dc,Dz])
     (iterate 2 (refine mpl ?_;go_big_quiet_step (fail);refine mnil ?_))
     (refine Rm.wpMix_nilp rfl rfl rfl ?_;simp only [Act.put,Sa,Sz,Ss])
     (iterate 2 (refine mpl ?_;go_big_quiet_step (fail);refine mnil ?_))
     (refine ml1 (fun W9' h9=>show W9'.cell? _=some (.int .i64 R.view) from za2 (Ext.box h9 K9.out.box) 3) Tryz.underlying3 ?_;simp only [Act.put,Sa,Sz,Ss])
     (refine mpl ?_;go_big_quiet_step (fail);refine mnil ?_)
     (refine ml1 (fun W9' h9=>show W9'.cell? _=some (.int .i64 e.client) from za2 (Ext.box h9 E9.out) 0) Tryz.underlying3 ?_;simp only [Act.put,Sa,Sz,Ss])
     (refine mpl ?_;go_big_quiet_step (fail);refine mnil ?_)
     (refine ml1 (fun W9' h9=>show W9'.cell? _=some (.int .i64 e.req) from za2 (Ext.box h9 E9.out) 1) Tryz.underlying3 ?_;simp only [Act.put,Sa,Sz,Ss])
     (iterate 2 (refine mpl ?_;go_big_quiet_step (fail);refine mnil ?_))
     refine Rm.wpMix_nil ?_;rintro V1 hV1;have K1:=Hd (K9.out.keep (show Ext w9 V1 from hV1))
     clear hV1 d9 z9 s9 k9 y9;go_wp2_with fail
     refine (c_sendZ W0 p a A c qs R (os++os') A' c' (-1) LAd.none (repM R.view e ax) V1 K1.out (none_rd _) (show Lg.none.small from zi0) (by rw [List.length_append];omega)).mono ?_
     rintro e9 V2 ⟨rfl,A2,c2,a2,hk2,cg⟩;have K2:=Hd (show KZ W0 V2 p a A c qs R A2 c2 (os++(os' ++ [(a2,⟨-1,repM R.view e ax⟩)])) by rw [<-List.append_assoc];exact hk2)
     have HN2:=Hd (show List.map Prod.snd (os' ++ [(a2,(⟨-1,repM R.view e ax⟩:Ot))])=ansO R.view R.log j0 (k+1) by rw [<-HN'.out,List.map_append,HAx.out];rfl)
     clear hk2 cg K1;go_wp2
     go_roundw
     case rel=>exact ⟨k+1,_,A2,c2,by omega,by go_num,HN2,K2⟩
     case measure=>simp [intOf] <;> omega
  ·obtain rfl:k=n0:=by omega
   have g0:decide (N<=T)=false:=by simp;omega
   go_wp2
   exact bodyPost_end (v := .tuple #[]) (by simp [results,Tryz.results19,go_sem]) rfl ⟨rfl,A',c',os',HK.out,HO.out⟩
theorem flat_set {α:Type} {enc:α->List Value} {sz:Nat} (hsz:∀ x,(enc x).length=sz) (l:List α) (k:Nat) (hk:k < l.length) (j:Nat) (hj:j < sz) (y:α) (v:Value) (hv:(enc y)[j]?=some v) (hs:∀ i,i≠j->(enc y)[i]?=(enc l[k])[i]?) :
  (l.flatMap enc).set (k * sz+j) v=(l.set k y).flatMap enc:=by
 have hlen:=zae hsz l;have hlen2:((l.set k y).flatMap enc).length=l.length * sz:=by rw [zae hsz,List.length_set]
 have hkk:k * sz+j < l.length * sz:=by
  have:=Nat.mul_le_mul_right sz (show k+1<=l.length by omega)
  rw [Nat.succ_mul] at this;omega
 refine List.ext_getElem? fun i=>?_
 by_cases hi:i < l.length * sz
 ·have h0:0 < sz:=by omega
  obtain ⟨q,r,hq,hr,rfl⟩:∃ q r,q < l.length/\r < sz/\i=q * sz+r :=
   ⟨i / sz,i % sz,(Nat.div_lt_iff_lt_mul h0).2 hi,Nat.mod_lt _ h0,by rw [Nat.mul_comm];exact (Nat.div_add_mod i sz).symm⟩
  rw [ze4 hsz (l.set k y) q (by rw [List.length_set];exact hq) r hr,List.getElem_set,List.getElem?_set]
  by_cases hqk:k=q
  ·subst hqk;rw [if_pos rfl];by_cases hrj:r=j
   ·subst hrj;rw [if_pos rfl,if_pos (by rw [hlen];exact hkk),hv]
   ·rw [if_neg (by omega),ze4 hsz l k hk r hr,hs r hrj]
  ·rw [if_neg hqk]
   have hne:k * sz+j≠q * sz+r:=by
    rcases Nat.lt_or_gt_of_ne hqk with h | h
    ·have:=Nat.mul_le_mul_right sz (show k+1<=q by omega)
     rw [Nat.succ_mul] at this;omega
    ·have:=Nat.mul_le_mul_right sz (show q+1<=k by omega)
     rw [Nat.succ_mul] at this;omega
   rw [if_neg hne,ze4 hsz l q hq r hr]
 ·rw [List.getElem?_eq_none (by rw [List.length_set,hlen];omega),List.getElem?_eq_none (by rw [hlen2];omega)]
def Vt.opTo (v:Vt) (x:Int):Vt:=⟨v.kind,v.frm,v.view,v.normal,x,v.commit,v.log⟩
def opE (q:VtE) (x:Int):VtE:=(q.1,q.2.opTo x)
def setOp (l:List Vt) (k:Nat) (x:Int):List Vt:=match l[k]? with
 | some v=>l.set k (v.opTo x)
 | none=>l
theorem setOp_map {qs:List VtE} {k:Nat} (hk:k < qs.length) (x:Int):(qs.set k (opE qs[k] x)).map Prod.snd=setOp (qs.map Prod.snd) k x:=by
 unfold setOp;rw [List.getElem?_map,List.getElem?_eq_getElem hk,List.map_set];rfl
theorem opE_fp (qs:List VtE) (k:Nat) (hk:k < qs.length) (x:Int):(qs.set k (opE qs[k] x)).flatMap (fun p=>p.1.fp)=qs.flatMap (fun p=>p.1.fp):=by
 have h:∀ l:List VtE,l.flatMap (fun p=>p.1.fp)=(l.map Prod.fst).flatMap LAd.fp:=fun l=>by rw [List.flatMap_map]
 rw [h,h,List.map_set];congr 1;refine List.ext_getElem? fun i=>?_
 rw [List.getElem?_set];split
 ·rename_i e;subst e;simp [opE,hk]
 ·rfl
theorem opE_mem {qs:List VtE} {k:Nat} (hk:k < qs.length) {x:Int} {q:VtE} (h:q∈qs.set k (opE qs[k] x)):∃ q0∈qs,q.1=q0.1/\q.2.log=q0.2.log:=by
 rcases List.mem_or_eq_of_mem_set h with h | h
 ·exact ⟨q,h,rfl,rfl⟩
 ·exact ⟨qs[k],List.getElem_mem hk,by rw [h];rfl,by rw [h];rfl⟩
theorem op_row {qs:List VtE} {k:Nat} (hk:k < qs.length) (x:Int):(qs.flatMap VtE.enc).set (k * 10+4) (.int .i64 x)=(qs.set k (opE qs[k] x)).flatMap VtE.enc :=
 flat_set VtE.len qs k hk 4 (by omega) (opE qs[k] x) (.int .i64 x) rfl (fun i hi=>by
  match i,hi with
  | 0,_=>rfl
  | 1,_=>rfl
  | 2,_=>rfl
  | 3,_=>rfl
  | 4,h=>exact absurd rfl h
  | 5,_=>rfl
  | 6,_=>rfl
  | 7,_=>rfl
  | 8,_=>rfl
  | 9,_=>rfl
  | n+10,_=>rw [List.getElem?_eq_none (by rw [VtE.len];omega),List.getElem?_eq_none (by rw [VtE.len];omega)])
theorem KZ.opset {W0 w:World} {p g:Nat} {a:LAd} {c:Nat} {qs:List VtE} {R:Rp} {Ao:Option Addr} {co:Nat} {os:List OtE} (h:KZ W0 w p a (some ⟨g,0,none⟩) c qs R Ao co os) {k:Nat} (hk:k < qs.length) (x:Int) :
  KZ W0 (w.setCell ⟨g,k * 10+4,none⟩ (.int .i64 x)) p a (some ⟨g,0,none⟩) c (qs.set k (opE qs[k] x)) (R.votesTo (setOp R.votes k x)) Ao co os:=by
 have hb:blk (some (⟨g,0,none⟩:Addr))=[g]:=rfl;have hg:=zaq (Chg.refl w [g]) (p:=⟨g,k * 10+4,none⟩) (by simp) (.int .i64 x)
 have hne:∀ {q:Nat},q≠g->q∉[g]:=fun hq hm=>hq (by rw [Mi] at hm;exact hm)
 have hgA:g∈a.fp++vsF (some ⟨g,0,none⟩) qs:=List.mem_append_right _ (List.mem_append_left _ (by rw [hb];simp))
 have hpg:p≠g:=fun e=>h.pB (e▸hgA)
 have hlen:(qs.set k (opE qs[k] x)).length=qs.length:=List.length_set
 have hrow:Ow VtE.enc 45 10 (w.setCell ⟨g,k * 10+4,none⟩ (.int .i64 x)) W0.heap.size (.slice (some ⟨g,0,none⟩) (qs.set k (opE qs[k] x)).length c) (qs.set k (opE qs[k] x)):=by
  have h1:=(World.ownsRow.stored h.rp.v.r (k * 10+4) (.int .i64 x)).1;rw [op_row hk x] at h1;unfold Ow;rw [hlen];exact h1
 have hnf:∀ q∈qs,∀ y∈q.1.fp,y∉[g]:=fun q hq y hy hm=>by
  rw [Mi] at hm;subst hm;exact zg0 (h.rp.v.l q hq) h.rp.v.r y hy (by rw [hb];simp)
 have hvs:VsO (w.setCell ⟨g,k * 10+4,none⟩ (.int .i64 x)) W0.heap.size (w.setCell ⟨g,k * 10+4,none⟩ (.int .i64 x)).heap.size (some ⟨g,0,none⟩) c (qs.set k (opE qs[k] x)):=by
  refine ⟨hrow,fun q hq=>?_,by rw [opE_fp qs k hk x];exact h.rp.v.nd,fun y hy=>?_⟩
  ·obtain ⟨q0,h0,h1,h2⟩:=opE_mem hk hq;rw [h1,h2];exact ((h.rp.v.l q0 h0).chg hg (hnf q0 h0)).wide (Nat.le_refl _) hg.size
  ·rw [opE_fp qs k hk x] at hy;exact Nat.lt_of_lt_of_le (h.rp.v.top y hy) hg.size
 have hvf:vsF (some ⟨g,0,none⟩) (qs.set k (opE qs[k] x))=vsF (some ⟨g,0,none⟩) qs:=by unfold vsF;rw [opE_fp qs k hk x]
 refine ⟨?_,zac h.x hg (h.rp.v.r.inB g (by rw [hb];simp)).1,h.low,⟨?_,hvs, ?_, ?_⟩, ?_, ?_, ?_⟩
 ·rw [hlen];exact zbx h.box hg (hne hpg)
 ·exact (h.rp.l.chg hg (fun y hy hm=>h.rp.d y hy (by rw [Mi] at hm;subst hm;exact List.mem_append_left _ (by rw [hb];simp)))).wide (Nat.le_refl _) hg.size
 ·show (qs.set k (opE qs[k] x)).map Prod.snd=setOp R.votes k x;rw [setOp_map hk,h.rp.e]
 ·rw [hvf];exact h.rp.d
 ·exact h.row.chg hg (fun y hy hm=>by rw [Mi] at hm;subst hm;exact h.rp.apartO h.row y hgA hy)
 ·exact h.logs.chg hg (fun q hq y hy hm=>by rw [Mi] at hm;subst hm;exact h.d y hgA q hq hy)
 ·rw [hvf];exact h.d
def okV (m:Mg):Vt:=⟨3,m.frm,0,0,m.op,0,Lg.none⟩
def opAt (l:List Vt) (k:Nat):Int:=match l[k]? with
 | some v=>v.op
 | none=>0
def okL (r:Rp) (m:Mg):List Vt :=
 if decide (0<=findV 3 m.frm r.votes)=true then setOp r.votes (findV 3 m.frm r.votes).toNat (max (opAt r.votes (findV 3 m.frm r.votes).toNat) m.op)
 else if r.votes.length < 20 then r.votes++[okV m] else r.votes
def okB (r:Rp) (m:Mg):Bool:=(r.mode == 1) && (leadsB r && ((m.view == r.view) && decide (m.op<=r.log.fin)))
abbrev Rp.comTo (r:Rp) (L:List Vt) (n:Int):Rp:=⟨r.me,r.of,r.mode,r.view,r.normal,n,r.log,L,r.cell,r.nonce⟩
def okN (r:Rp) (m:Mg):Int:=zf2 (r.votesTo (okL r m))
def comM (r:Rp) (n:Int):Mg:=⟨4,r.me,r.view,0,n,0,0,0,0,0,0,0,0,Lg.none⟩
def okR (r:Rp) (m:Mg):Rp:=if okB r m=true then r.comTo (okL r m) (okN r m) else r
def okO (r:Rp) (m:Mg):List Ot :=
 if (okB r m && decide (r.commit < okN r m))=true then ansO r.view r.log (r.commit - r.log.base).toNat (okN r m - r.commit).toNat++allTo r.me (comM r (okN r m)) r.of.toNat else []
theorem voted_okV (r:Rp) (m:Mg) (h:decide (0<=findV 3 m.frm r.votes)=false):r.voted (okV m)=r.votesTo (okL r m):=by
 unfold okL Rp.voted;rw [h];simp only [Bf,if_false];split <;> rfl
theorem okL_at {r:Rp} {m:Mg} {k:Nat} (h:findV 3 m.frm r.votes=k) {v:Vt} (hv:r.votes[k]?=some v):okL r m=setOp r.votes k (max v.op m.op):=by
 unfold okL opAt;rw [h]
 have:((k:Int)).toNat=k:=by omega
 rw [this,hv]
 simp
theorem okN_b {r:Rp} {m:Mg} (h:RpGood r):r.commit<=okN r m/\okN r m<=r.log.fin:=by
 have h1:=agTo_b (r.votesTo (okL r m)) (r.log.fin - r.commit).toNat;have h2:(r.votesTo (okL r m)).commit=r.commit:=rfl;have h3:=h.c1;unfold okN zf2;show r.commit<=agTo (r.votesTo (okL r m)) (r.log.fin - r.commit).toNat/\agTo (r.votesTo (okL r m)) (r.log.fin - r.commit).toNat<=r.log.fin;omega
end Go.Proofs.YtckfjploafhenaaGreat
namespace Go.Proofs.YtckfjploafhenaaGreat.l12
open Go.ChangeShapes Go.WideShapes Go.ChangeAt Go.RowKit Go.Sort
theorem agTo_cnt (R:Rp):∀ k,R.commit < agTo R k->(R.of - 1) / 2<=(cntOk (agTo R k) R.votes:Int)
 | 0,h=>by unfold agTo at h;omega
 | k+1,h=>by
  unfold agTo at h ⊢;split
  ·rename_i hd;exact of_decide_eq_true hd
  ·rename_i hd;rw [if_neg hd] at h;exact agTo_cnt R k h
def isTold (o:Ot):Bool:=decide (o.to < 0)
def told (l:List Ot):Nat:=l.countP isTold
theorem told_app (a b:List Ot):told (a++b)=told a+told b:=List.countP_append
theorem told_next {l:List Ot} {k:Nat} (h:k < l.length):told (l.take (k+1))=told (l.take k)+if isTold l[k]=true then 1 else 0:=by
 unfold told;rw [List.take_add_one,List.countP_append,List.getElem?_eq_getElem h];simp [List.countP_cons]
theorem told_le (l:List Ot) (k:Nat):told (l.take k)<=k:=Nat.le_trans List.countP_le_length (by rw [List.length_take];omega)
theorem ans_all (view:Int) (l:Lg) (j:Nat):∀ n,∀ o∈ansO view l j n,o.to=-1/\o.msg.kind=12
 | 0,o,h=>by simp [ansO] at h
 | n+1,o,h=>by
  rw [zh5] at h;rcases List.mem_append.1 h with h | h
  ·exact ans_all view l j n o h
  ·unfold repO at h;split at h
   ·split at h
    ·rw [Mi] at h;subst h;exact ⟨rfl,rfl⟩
    ·simp at h
   ·simp at h
theorem told_ans (view:Int) (l:Lg) (j n:Nat):told (ansO view l j n)=(ansO view l j n).length:=by
 unfold told;rw [List.countP_eq_length];intro o ho
 have:=(ans_all view l j n o ho).1
 unfold isTold;simp [this]
theorem to_all {me:Int} {m:Mg}:∀ k,∀ o∈allTo me m k,o.msg=m/\0<=o.to
 | 0,o,h=>(List.not_mem_nil h).elim
 | k+1,o,h=>by
  rw [zhz,List.mem_append] at h;rcases h with h | h
  ·exact to_all k o h
  ·split at h
   ·simp only [Mi] at h;subst h;exact ⟨rfl,by show (0:Int)<=(k:Int);omega⟩
   ·cases h
theorem told_to {me:Int} {m:Mg} (k:Nat):told (allTo me m k)=0:=by
 unfold told;rw [List.countP_eq_zero];intro o ho
 have:=(to_all k o ho).2
 unfold isTold
 simp
 omega
theorem len_all {me:Int} {m:Mg} (h0:0<=me):∀ k:Nat,((allTo me m k).length:Int)=if me < k then (k:Int) - 1 else k
 | 0=>by
  rw [if_neg (by omega)]
  rfl
 | k+1=>by
  have ih:=len_all h0 (m:=m) k;rw [zhz,List.length_append];by_cases h:(k:Int)=me
  ·rw [if_neg (by simp [h]),if_pos (by omega)]
   rw [if_neg (by omega)] at ih
   simp only [List.length_nil];omega
  ·rw [if_pos (by simp [h])]
   simp only [List.length_cons,List.length_nil];split at ih
   ·rw [if_pos (by omega)]
    omega
   ·rw [if_neg (by omega)]
    omega
structure More (r R:Rp) (O:List Ot):Prop where
 up:r.commit < R.commit
 top:R.commit<=r.log.fin
 leads:leadsB r=true
 oks:r.of - 1<=2 * (cntOk R.commit R.votes:Int)
 each:∀ o∈O,(o.to < 0->o.msg.kind=12)/\(0<=o.to->o.msg.kind=4/\o.msg.commit=R.commit)
 few:(told O:Int)<=R.commit - r.commit
 rest:(O.length:Int) - told O=r.of - 1
theorem quorum {r:Rp} {m:Mg} (h:rpOk r=true):((zbu r m 3 (okR r m)).commit=r.commit/\hearO r m 3 (okO r m)=[])\/More r (zbu r m 3 (okR r m)) (hearO r m 3 (okO r m)):=by
 have g:=zf9 h;unfold zbu hearO;rw [if_pos h,h,Bool.true_and];cases hb:hearB r m 3
 ·exact .inl ⟨rfl,rfl⟩
 ·rw [if_pos rfl,if_pos rfl];cases ok:okB r m
  ·left;unfold okR okO;rw [ok];exact ⟨rfl,rfl⟩
  ·have hN:=okN_b (m:=m) g;by_cases hc:r.commit < okN r m
   ·right;have e1:okR r m=r.comTo (okL r m) (okN r m):=by unfold okR;rw [if_pos ok]
    have e2:okO r m=ansO r.view r.log (r.commit - r.log.base).toNat (okN r m - r.commit).toNat++allTo r.me (comM r (okN r m)) r.of.toNat:=by
     unfold okO;rw [ok,decide_eq_true hc];rfl
    have hof:=g.of;have hme0:=g.me0;have hme1:=g.me1;have hl:=len_all g.me0 (m:=comM r (okN r m)) r.of.toNat;rw [if_pos (by omega)] at hl
    have ht:told (okO r m)=(ansO r.view r.log (r.commit - r.log.base).toNat (okN r m - r.commit).toNat).length:=by
     rw [e2,told_app,told_ans,told_to,Nat.add_zero]
    rw [e1];refine ⟨hc,hN.2, ?_, ?_,fun o ho=>?_, ?_, ?_⟩
    ·unfold okB at ok;simp only [Bool.and_eq_true] at ok;exact ok.2.1
    ·have:=agTo_cnt (r.votesTo (okL r m)) (r.log.fin - r.commit).toNat (show r.commit < okN r m from hc)
     have h2:(r.of - 1) / 2<=(cntOk (okN r m) (okL r m):Int):=this;show r.of - 1<=2 * (cntOk (okN r m) (okL r m):Int);omega
    ·rw [e2] at ho;rcases List.mem_append.1 ho with ho | ho
     ·obtain ⟨h1,h2⟩:=ans_all _ _ _ _ o ho;exact ⟨fun _=>h2,fun h3=>by omega⟩
     ·obtain ⟨h1,h2⟩:=to_all _ o ho;exact ⟨fun h3=>by omega,fun _=>by rw [h1];exact ⟨rfl,rfl⟩⟩
    ·rw [ht]
     have:=zi5 r.view r.log (r.commit - r.log.base).toNat (okN r m - r.commit).toNat
     show ((ansO r.view r.log (r.commit - r.log.base).toNat (okN r m - r.commit).toNat).length:Int)<=okN r m - r.commit;omega
    ·rw [ht,e2,List.length_append];omega
   ·left;constructor
    ·unfold okR;rw [if_pos ok];show okN r m=r.commit;omega
    ·unfold okO;rw [decide_eq_false hc,Bool.and_false];rfl
theorem votes_len {r:Rp} {m:Mg} (h:rpOk r=true):(zbu r m 3 (okR r m)).votes.length<=20:=by
 have g:=(zf9 h).votes;unfold zbu;rw [if_pos h];split
 ·unfold okR;split
  ·show (okL r m).length<=20;unfold okL;split
   ·unfold setOp;split
    ·rw [List.length_set];exact g
    ·exact g
   ·split
    ·rw [List.length_append];show r.votes.length+1<=20;omega
    ·exact g
  ·exact g
 ·exact g
end Go.Proofs.YtckfjploafhenaaGreat.l12
namespace Go.Proofs.YtckfjploafhenaaGreat
open Go.ChangeShapes Go.WideShapes Go.ChangeAt Go.RowKit Go.Sort
section
variable {W0 w:World} {p:Nat} {a:LAd} {A:Option Addr} {c:Nat} {qs:List VtE} {R:Rp} {Ao:Option Addr} {co:Nat} {os:List OtE}
end
section
variable {W0 w:World} {p:Nat} {a:LAd} {A:Option Addr} {c:Nat} {qs:List VtE} {R:Rp} {Ao:Option Addr} {co:Nat} {os:List OtE}
end
theorem KZ.ko {W0 w:World} {p:Nat} {a:LAd} {A:Option Addr} {c:Nat} {qs:List VtE} {R R':Rp} {Ao:Option Addr} {co:Nat} {os:List OtE} {O:List Ot} (h:KZ W0 w p a A c qs R Ao co os) (hR:R=R') (hO:os.map Prod.snd=O):KO W0 w p R' O:=by
 subst hR;exact ⟨a,A,c,qs,Ao,co,os,h,hO⟩
end Go.Proofs.YtckfjploafhenaaGreat
