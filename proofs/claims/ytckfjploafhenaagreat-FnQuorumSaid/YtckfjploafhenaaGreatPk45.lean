/- LogImage and Committed of the reference. -/
import Derived.Test.YtckfjploafhenaaGreatPk43
import Derived.Test.YtckfjploafhenaaGreatPk44
set_option maxRecDepth 100000
set_option maxHeartbeats 16000000
set_option linter.unusedVariables false
set_option linter.unusedSimpArgs false
namespace Go.Proofs.YtckfjploafhenaaGreat
open Go.ChangeShapes Go.WideShapes Go.ChangeAt Go.RowKit Go.Sort
theorem zfa (a:LAd) (l:Lg) (n:Int) (hs:l.small) (w:World) (hr:LgR w a l) :
  Calls Tryz.prog 114 #[Lg.val a l, .int .i64 n] w fun e w'=>e = .returned (.bool (zb8 l n))/\Ext w w':=by
 have X0:=za1 w (Lg.obj a l);have hK:=fun W (h:Ext (w.alloc (Lg.obj a l)) W)=>zhk a l hs.1 hs.2.1 hs.2.2 W (hr.keep (Ext.trans X0 h))
 cases q:logOk l
 ·rw [q] at hK;have HK:=Hd hK;have HV:=Hd (show false=zb8 l n by simp only [zb8,q];rfl)
  clear hK q hr hs
  go_enter Tryz.func114,Tryz.ntmps114
  go_wp2
  (refine mrx (fun _ _ _=>True) 11 (fun hg=>?_);simp only [Tc,Tz,Dc,Dz])
  (repeat (first | (refine mqu ?_;go_big_quiet_step (fail);refine mnil ?_) | (refine msk ?_;simp only [Act.put,Sa,Sz,Ss]) | (refine Rm.more ?_;refine mdt Tryz.func66 (fun W hW=>HK.out W hW) ?_;simp only [Act.put,Sa,Sz,Ss])))
  (refine Rm.wpMix_nil ?_;intro w2 hw2)
  go_wp2
  go_ret
  exact ⟨za7 HV.out,Ext.trans X0 hw2⟩
 ·have hE:=fun W (h:Ext (w.alloc (Lg.obj a l)) W)=>zdy a l hs.1 hs.2.1 hs.2.2 W (hr.keep (Ext.trans X0 h)) q
  rw [q] at hK;have HK:=Hd hK;have HE:=Hd hE;have HV:=Hd (show inB n l.base l.fin=zb8 l n by simp only [zb8,q];rfl)
  clear hK hE q hr hs
  go_enter Tryz.func114,Tryz.ntmps114
  go_wp2
  (refine mrx (fun _ _ _=>True) 11 (fun hg=>?_);simp only [Tc,Tz,Dc,Dz])
  (repeat (first | (refine mqu ?_;go_big_quiet_step (fail);refine mnil ?_) | (refine msk ?_;simp only [Act.put,Sa,Sz,Ss]) | (refine Rm.more ?_;refine mdt Tryz.func66 (fun W hW=>HK.out W hW) ?_;simp only [Act.put,Sa,Sz,Ss]) | (refine Rm.more ?_;refine mdt Tryz.func24 (fun W hW=>HE.out W hW) ?_;simp only [Act.put,Sa,Sz,Ss]) | (refine Rm.more ?_;refine mdt Tryz.func32 (fun W hW=>zb6 n l.base l.fin W) ?_;simp only [Act.put,Sa,Sz,Ss])))
  (refine Rm.wpMix_nil ?_;intro w2 hw2)
  go_wp2
  go_ret
  exact ⟨za7 HV.out,Ext.trans X0 hw2⟩
theorem logOk_sm {l:Lg} (h:logOk l=true):l.small:=by
 have h1:=of_decide_eq_true h;have h2:=of_decide_eq_true h1.2.1;exact ⟨by have:=h2.1;omega,by have:=h2.2.1;omega,by have:=h1.2.2.1;omega⟩
def AllV (B:Nat) (m:Img) (v:Value) (W:World):Prop:=∃ A c A' c' Z n z,v = .tuple #[Im.val A m.1.length c A' m.2.length c', .slice Z n z]/\RdF Cel.enc 162 2 W B A c m.1/\RdF Sea.enc 111 3 W B A' c' m.2
theorem AllV.mono (b B:Nat) (m:Img):Rm.Mono (relE b) (AllV B m):=fun v w w' ⟨A,c,A',c',Z,n,z,h,h1,h2⟩ hx=>⟨A,c,A',c',Z,n,z,h,h1.keep hx,h2.keep hx⟩
theorem AllV.inv {B:Nat} {m:Img} {A A':Option Addr} {n c n' c':Nat} {x:Value} {W:World} (h:AllV B m (.tuple #[Im.val A n c A' n' c',x]) W):RdF Cel.enc 162 2 W B A c m.1/\RdF Sea.enc 111 3 W B A' c' m.2:=by
 obtain ⟨A2,c2,A3,c3,_,_,_,he,h1,h2⟩:=h;simp only [Value.tuple.injEq,Value.agg.injEq,Array.mk.injEq,List.cons.injEq,Value.slice.injEq,true_and,and_true] at he;obtain ⟨⟨⟨rfl,rfl,rfl⟩,rfl,rfl,rfl⟩,_⟩:=he;exact ⟨h1,h2⟩
theorem log_b {l:Lg} (h:logOk l=true):0<=l.base/\l.base+l.ents.length<=1000000000/\l.ents.length<=60/\ImgP (l.cells,l.seats)/\∀ e∈l.ents,e.ok=true:=by
 have h1:=of_decide_eq_true h;have h2:=(zcu _ _ _).1 h1.1;have h3:=(zcu _ _ _).1 h1.2.2.2.1;exact ⟨h2.1,h3.2,h1.2.2.1,imgP_of h1.2.1,h1.2.2.2.2⟩
theorem c_sLogImage (a:LAd) (l:Lg) (j:Nat) (w:World) (hr:LgR w a l) (hok:logOk l=true) (hj:j<=l.ents.length) :
  Calls Tryz.prog 67 #[Lg.val a l, .int .i64 (l.base+j)] w fun e9 w'=>(∃ A c A' c',e9 = .returned (.tuple #[Im.val A (allI (l.cells,l.seats) (l.ents.take j)).1.length c A' (allI (l.cells,l.seats) (l.ents.take j)).2.length c', .bool true]) /\
   RdF Cel.enc 162 2 w' w.heap.size A c (allI (l.cells,l.seats) (l.ents.take j)).1/\RdF Sea.enc 111 3 w' w.heap.size A' c' (allI (l.cells,l.seats) (l.ents.take j)).2)/\Ext w w':=by
 obtain ⟨hb0,hb1,h60,hIm,hAll⟩:=log_b hok;have hsm:=logOk_sm hok;obtain ⟨w1,hw1⟩:∃ w1,((w.alloc (Lg.obj a l)).alloc Im.zobj)=w1:=⟨_,rfl⟩;have X0:Ext w w1:=by rw [<-hw1];exact za9 (za1 _ _) _
 have E1:=Hd (show w1.heap[w.heap.size]?=some (Lg.obj a l) by rw [<-hw1];exact hOld (o:=Im.zobj) (hNew (w:=w) (o:=Lg.obj a l) rfl))
 have E2:=Hd (show w1.heap[w.heap.size+1]?=some Im.zobj by rw [<-hw1];exact hNew (w:=w.alloc (Lg.obj a l)) (o:=Im.zobj) (k:=w.heap.size+1) (by simp))
 have hcon:=zfa a l (l.base+j) hsm w1 (hr.keep X0);rw [show zb8 l (l.base+j)=true by unfold zb8;rw [hok];show inB _ _ _=true;rw [zcu];unfold Lg.fin;omega] at hcon
 have HAm:=Hd hcon;have HR:=Hd hr;have X:=Hd X0;have HIm:=Hd hIm;have HAll:=Hd hAll;have hz1_:=bx_lt E2.out;have HW0:=Hd hw1;clear hcon hr hok hw1 X0 hIm hAll hsm
 go_enter Tryz.func67,Tryz.ntmps67
 go_wp2_with (with_reducible refine za5 8 ?_)
 refine zb2 (F:=fun W=>W=w1) HW0.out ?_
 intro W1 hW1;subst hW1;clear HW0
 (go_wp2_with (with_reducible refine za5 8 ?_);refine za6 (E1.out) rfl Tryz.underlying30 (by kernel_rfl) ?_;simp only [Act.put,Sa,Sz,Ss])
 go_wp2_with fail
 refine HAm.out.mono ?_;rintro e9 w2 ⟨rfl,x⟩;obtain ⟨E1,E2,X⟩:Hid _/\Hid _/\Hid _:=⟨Hd (x.box E1.out),Hd (x.box E2.out),Hd (Ext.trans X.out x)⟩;have hz_w2:=x.size;clear x;clear HAm;have hsub:l.base+(j:Int) - l.base=(j:Int):=by omega
 go_wp2
 have HWI:=Hd (fun W' (h:(relE w2.heap.size).rel w2 W')=>zaw (cs:=Im.cs a.cA l.cells.length a.cc a.sA l.seats.length a.sc) (Ext.box h E1.out) [.int .i64 l.base] [.slice a.eA l.ents.length a.ec] rfl rfl)
 have HEc:=Hd (show l.ents.length<=a.ec from HR.out.2.2.1)
 have hec:=HEc.out
 have HCall:=Hd (show ∀ W',Ext w2 W'->Calls Tryz.prog 115 #[Im.val a.cA l.cells.length a.cc a.sA l.seats.length a.sc, .slice a.eA j a.ec] W' fun e9 w'=>∃ v,e9 = .returned v/\AllV (w.heap.size+1+1) (allI (l.cells,l.seats) (l.ents.take j)) v w'/\Ext W' w' from fun W' hW'=>by
  have h:=c_sRunAll a.cA a.cc l.cells a.sA a.sc l.seats a.eA a.ec (l.ents.take j) W' (HR.out.1.keep (Ext.trans X.out hW')) (HR.out.2.1.keep (Ext.trans X.out hW')) ((HR.out.2.2.keep (Ext.trans X.out hW')).take j) (by simp;omega) HIm.out (fun e he=>HAll.out e (List.mem_of_mem_take he))
  rw [show (l.ents.take j).length=j by simp;omega] at h
  exact h.mono fun e9 w' ⟨⟨A2,c2,B2,d2,Z,n,z,h1,h2,h3⟩,hx⟩=>⟨_,h1,⟨A2,c2,B2,d2,Z,n,z,rfl,h2.less (by have:=hW'.size;omega),h3.less (by have:=hW'.size;omega)⟩,hx⟩)
 (refine mrg (relE w2.heap.size) (fun _ _ _=>True) 14 ?_;simp only [Tc,Tz,Dc,Dz])
 (refine mpl ?_;go_big_quiet_step (fail);refine mnil ?_)
 (refine mla (HWI.out) Tryz.underlying27 ?_;simp only [Act.put,Sa,Sz,Ss])
 (refine mpl ?_;go_big_quiet_step (fail);refine mnil ?_)
 (refine ml1 (fun W9' h9=>show W9'.cell? _=some (.slice a.eA l.ents.length a.ec) from za2 (Ext.box h9 E1.out) 3) Tryz.underlying28 ?_;simp only [Act.put,Sa,Sz,Ss])
 (iterate 2 (refine mpl ?_;go_big_quiet_step (fail);refine mnil ?_))
 (refine ml1 (fun W9' h9=>show W9'.cell? _=some (.int .i64 l.base) from za2 (Ext.box h9 E1.out) 0) Tryz.underlying3 ?_;simp only [Act.put,Sa,Sz,Ss])
 (refine mpl ?_;go_big_quiet_step (fail);refine mnil ?_)
 (try simp only [hsub])
 (refine mpl ?_;go_big_quiet_step (fail);refine mnil ?_)
 refine mcl Tryz.func115 (AllV (w.heap.size+1+1) (allI (l.cells,l.seats) (l.ents.take j))) (AllV.mono _ _ _) (fun W' hW'=>HCall.out W' hW') (fun v6 hv6=>?_)
 obtain ⟨_,_,A2,c2,B2,d2,Z,n,z,rfl,_⟩:=hv6;simp only [Act.put,Sa,Sz,Ss]
 (iterate 3 (refine mpl ?_;go_big_quiet_step (fail);refine mnil ?_))
 (refine Rm.wpMix_alloc (Im.zobj) rfl (fun W=>by kernel_rfl) ?_;intro p9 hp9 hps9 hpi9;simp only [zen,Act.put,Sa,Sz,Ss])
 refine Rm.wpMix_nil ?_;rintro w3 ⟨⟨hW,hv2⟩,z2⟩;have x:Ext w2 w3:=hW;have hv3:=hv2.inv;obtain ⟨m2,hm2⟩:∃ m2,allI (l.cells,l.seats) (l.ents.take j)=m2:=⟨_,rfl⟩;rw [hm2] at hv3;have HM2:=Hd hm2;rw [hm2];have R2:=Hd hv3.1;have S2:=Hd hv3.2;have Z2:=Hd z2;obtain ⟨E2,X⟩:Hid _/\Hid _:=⟨Hd (x.box E2.out),Hd (Ext.trans X.out x)⟩;have hsz2:=x.size;have hlt9:=bx_lt z2;have hp9':w2.heap.size<=p9:=hp9;clear hW hv2 hv3 z2 x hm2 HWI hps9 hpi9 E1 hp9
 (go_wp2_with (with_reducible refine za8 27 ?_);refine za3 (p9) (Im.cs A2 m2.1.length c2 B2 m2.2.length d2) rfl rfl (Z2.out) (by kernel_rfl) rfl (by simp [Value.oneCell']) ?_)
 intro w4 e3 k3;obtain ⟨E2,X⟩:Hid _/\Hid _:=⟨Hd (zap E2.out k3 (by omega)),Hd (zaf X.out k3 (fun k hk=>by rw [Mi] at hk;omega))⟩
 obtain ⟨R2,S2⟩:Hid _/\Hid _:=⟨Hd (R2.out.boxed Cel.enc_len Z2.out (by decide) k3),Hd (S2.out.boxed Sea.enc_len Z2.out (by decide) k3)⟩
 have E9:=Hd e3;clear e3 k3 Z2
 (go_wp2_with (with_reducible refine za5 26 ?_);refine za6 (E9.out) rfl Tryz.underlying27 (by kernel_rfl) ?_;simp only [Act.put,Sa,Sz,Ss])
 (go_wp2_with (with_reducible refine za8 27 ?_);refine za3 ((w.heap.size+1)) (Im.cs A2 m2.1.length c2 B2 m2.2.length d2) rfl rfl (E2.out) (by kernel_rfl) rfl (by simp [Value.oneCell']) ?_)
 intro W9 e8 k9;have HE9:=Hd e8;have HX9:=Hd (zac X.out k9 (by omega))
 have HR9:=Hd (R2.out.boxed Cel.enc_len E2.out (by decide) k9)
 have HS9:=Hd (S2.out.boxed Sea.enc_len E2.out (by decide) k9)
 clear e8 k9;go_wp2
 exact bodyPost_ret (zaj Tryz.results67 rfl rfl Tryz.underlying27 (by kernel_rfl) HE9.out) rfl ⟨⟨A2,c2,B2,d2,by rw [HM2.out] <;> rfl,by rw [HM2.out];exact HR9.out.less (by omega),by rw [HM2.out];exact HS9.out.less (by omega)⟩,HX9.out⟩
abbrev Ent.zobj:Obj := .cells #[.int .i64 0, .int .i64 0, .int .i64 0, .int .i64 0, .int .i64 0] 104
theorem zhy (cA:Option Addr) (cc:Nat) (cs:List Cel) (sA:Option Addr) (sc:Nat) (ss:List Sea) (eA:Option Addr) (ec:Nat) (l:List Ent) (w:World) (hc:Rd Cel.enc 2 w cA cc cs) (hs:Rd Sea.enc 3 w sA sc ss) (hl:Rd Ent.enc 5 w eA ec l) (h60:l.length<=60) (hok:ImgP (cs,ss)) (he:∀ e∈l,e.ok=true) :
  Calls Tryz.prog 104 #[Im.val cA cs.length cc sA ss.length sc, .slice eA l.length ec] w fun e9 w'=>(∃ A c A' c' Z n z,e9 = .returned (.tuple #[Im.val A (allI (cs,ss) l).1.length c A' (allI (cs,ss) l).2.length c', .slice Z n z]) /\
   Ow Cel.enc 162 2 w' (w.heap.size) (.slice A (allI (cs,ss) l).1.length c) (allI (cs,ss) l).1/\Ow Sea.enc 111 3 w' (w.heap.size) (.slice A' (allI (cs,ss) l).2.length c') (allI (cs,ss) l).2)/\Ext w w':=by
 obtain ⟨i0,hi,hz0,hz1,hz2⟩:=info_parts Tryz.infoInt;have hcl:cs.length<=40:=hok.c.len;have hsl:ss.length<=10:=hok.s.len;obtain ⟨w1,hw1⟩:∃ w1,((w.alloc (Im.obj cA cs.length cc sA ss.length sc)).alloc Im.zobj)=w1:=⟨_,rfl⟩;have X0:Ext w w1:=by rw [<-hw1];exact za9 (za1 _ _) _
 have E1:=Hd (show w1.heap[w.heap.size]?=some (Im.obj cA cs.length cc sA ss.length sc) by rw [<-hw1];exact hOld (o:=Im.zobj) (hNew (w:=w) (o:=Im.obj cA cs.length cc sA ss.length sc) rfl))
 have E4:=Hd (show w1.heap[w.heap.size+1]?=some Im.zobj by rw [<-hw1];exact hNew (w:=w.alloc (Im.obj cA cs.length cc sA ss.length sc)) (o:=Im.zobj) (k:=w.heap.size+1) (by simp))
 have HC:=Hd hc;have HS:=Hd hs;have HEn:=Hd hl;have X:=Hd X0;have HOk:=Hd hok;have HAll:=Hd he;have hz1_:=bx_lt E4.out;have HW0:=Hd hw1;clear hc hs hl hok he hw1 X0;have g60:decide ((60:Int) < (l.length:Int))=false:=by simp;omega
 go_enter Tryz.func104,Tryz.ntmps104
 go_wp2_with (with_reducible refine za5 12 ?_)
 refine zb2 (F:=fun W=>W=w1) HW0.out ?_
 intro W1 hW1;subst hW1;clear HW0
 (go_wp2_with (with_reducible refine za5 12 ?_);refine za6 (E1.out) rfl Tryz.underlying27 (by kernel_rfl) ?_;simp only [Act.put,Sa,Sz,Ss])
 go_wp2_with fail
 refine (zdc cA cc cs sA sc ss W1 (HC.out.keep X.out) (HS.out.keep X.out) (by omega) (by omega)).mono ?_
 rintro e9 w4 ⟨A4,c4,B4,d4,rfl,r4,s4,x⟩;obtain ⟨E1,E4,X⟩:Hid _/\Hid _/\Hid _:=⟨Hd (x.box E1.out),Hd (x.box E4.out),Hd (Ext.trans X.out x)⟩;have hz_w4:=x.size;have R4:=Hd (r4.less (B':=w.heap.size+1+1) (by omega))
 have S4:=Hd (s4.less (B':=w.heap.size+1+1) (by omega))
 clear x r4 s4
 (go_wp2_with (with_reducible refine za8 27 ?_);refine za3 (w.heap.size) (Im.cs A4 cs.length c4 B4 ss.length d4) rfl rfl (E1.out) (by kernel_rfl) rfl (by simp [Value.oneCell']) ?_)
 intro w5 e5 k5;have hz_w5:=k5.size;obtain ⟨E4,X⟩:Hid _/\Hid _:=⟨Hd (zap E4.out k5 (by omega)),Hd (zaf X.out k5 (fun k hk=>by rw [Mi] at hk;omega))⟩
 obtain ⟨R4,S4⟩:Hid _/\Hid _:=⟨Hd (R4.out.boxed E1.out (by decide) k5),Hd (S4.out.boxed E1.out (by decide) k5)⟩
 have E7:=Hd e5;clear e5 k5 E1;have HO:=Hd (show Ow Int.enc1 3 1 (w5.alloc (.cells #[] 3)) (w.heap.size+1+1) (.slice (some ⟨w5.heap.size,0,none⟩) 0 0) [] from zd3 (hNew rfl) (by omega))
 have XA:=za1 w5 (.cells #[] 3);obtain ⟨E7,E4,X⟩:Hid _/\Hid _/\Hid _:=⟨Hd (XA.box E7.out),Hd (XA.box E4.out),Hd (Ext.trans X.out XA)⟩;obtain ⟨R4,S4⟩:Hid _/\Hid _:=⟨Hd (R4.out.kept XA),Hd (S4.out.kept XA)⟩;clear XA;go_wp2
 go_loopw [6,22] (fun v i wr=>∃ (k:Nat) (os:List Int) (A:Option Addr) (c:Nat) (A':Option Addr) (c':Nat),k<=l.length/\i = .int .i64 k/\Hid (wr.heap[w.heap.size]?=some (Im.obj A (allI (cs,ss) (l.take k)).1.length c A' (allI (cs,ss) (l.take k)).2.length c'))/\Hid (Ow Cel.enc 162 2 wr (w.heap.size+1+1) (.slice A (allI (cs,ss) (l.take k)).1.length c) (allI (cs,ss) (l.take k)).1)/\Hid (Ow Sea.enc 111 3 wr (w.heap.size+1+1) (.slice A' (allI (cs,ss) (l.take k)).2.length c') (allI (cs,ss) (l.take k)).2)/\Hid (wr.heap[w.heap.size+1]?=some Im.zobj)/\os.length=k/\Ow Int.enc1 3 1 wr (w.heap.size+1+1) v os/\Hid (Ext w wr)) (fun _ i _=>l.length - (intOf i).toNat)
 case atStart=>exact ⟨0,[],A4,c4,B4,d4,Nat.zero_le _,rfl,E7,R4,S4,E4,rfl,HO.out,X⟩
 case round =>
  obtain ⟨k,os,A,c,B,d,hk,rfl,E7,R7,S7,E4,hol,ho,X⟩:=hrel;have hob:os.length<=60:=by omega
  have HOl:=Hd hol;clear hol;obtain ⟨A1,c1,rfl⟩:=ho.form;have HO:=Hd ho;have hszr:=X.out.size;have hlt7:=bx_lt E4.out;clear ho;by_cases hlt:k < l.length
  ·obtain ⟨mc,ms,hm⟩:∃ mc ms,allI (cs,ss) (l.take k)=(mc,ms):=⟨_,_,rfl⟩;have HIm:=Hd (show ImgP (mc,ms) by rw [<-hm];exact HOk.out.all (fun e he=>HAll.out e (List.mem_of_mem_take he)))
   have HNx:=Hd (show allI (cs,ss) (l.take (k+1))=entI (mc,ms) l[k] by rw [<-hm];exact allI_next _ hlt)
   have HEo:=Hd (HAll.out _ (List.getElem_mem hlt));rw [hm] at E7 R7 S7;obtain ⟨E7,R7,S7⟩:Hid (wr.heap[w.heap.size]?=some (Im.obj A mc.length c B ms.length d))/\Hid (Ow Cel.enc 162 2 wr (w.heap.size+1+1) (.slice A mc.length c) mc)/\Hid (Ow Sea.enc 111 3 wr (w.heap.size+1+1) (.slice B ms.length d) ms):=⟨E7,R7,S7⟩;clear hm;have hEk:=row_at (HEn.out.keep X.out) hlt;obtain ⟨ab,ao,hA,hrow⟩:=hEk;subst hA;have HWE:=Hd (show ∀ j u,(#[Value.int .i64 l[k].client, .int .i64 l[k].req, .int .i64 l[k].kind, .int .i64 l[k].key, .int .i64 l[k].value]:Array Value).toList[j]?=some u->wr.cell? ⟨ab,ao+k * 5+j,none⟩=some u from fun j u h=>hrow wr (za4 wr) j u h)
   clear hrow
   (go_wp2_with (with_reducible refine za5 25 ?_);refine zb3 (HWE.out) rfl Tryz.underlying104 (by kernel_rfl) ?_;simp only [Act.put,Sa,Sz,Ss])
   have EQ:=Hd (hNew (w:=wr) (o:=Ent.zobj) rfl)
   (go_wp2_with (with_reducible refine za8 104 ?_);refine za3 (wr.heap.size) #[.int .i64 l[k].client, .int .i64 l[k].req, .int .i64 l[k].kind, .int .i64 l[k].key, .int .i64 l[k].value] rfl rfl (EQ.out) (by kernel_rfl) rfl (by simp [Value.oneCell']) ?_)
   intro v2 e2 k2;have x2:=zac (za1 wr Ent.zobj) k2 (Nat.le_refl _);obtain ⟨E7,E4,X⟩:Hid _/\Hid _/\Hid _:=⟨Hd (x2.box E7.out),Hd (x2.box E4.out),Hd (Ext.trans X.out x2)⟩;have HO:=Hd (HO.out.kept x2);obtain ⟨R7,S7⟩:Hid _/\Hid _:=⟨Hd (R7.out.kept x2),Hd (S7.out.kept x2)⟩;have E8:=Hd e2;have hz_v2:=x2.size;clear e2 k2 x2 EQ HWE
   (go_wp2_with (with_reducible refine za5 27 ?_);refine za6 (E7.out) rfl Tryz.underlying27 (by kernel_rfl) ?_;simp only [Act.put,Sa,Sz,Ss])
   (go_wp2_with (with_reducible refine za5 28 ?_);refine za6 (E8.out) rfl Tryz.underlying104 (by kernel_rfl) ?_;simp only [Act.put,Sa,Sz,Ss])
   go_wp2_with fail
   refine (zdh A c mc B d ms l[k] v2 (Ow.rdF Cel.enc_len R7.out).1 (Ow.rdF Sea.enc_len S7.out).1 HIm.out HEo.out).mono ?_;rintro e9 v3 ⟨⟨A2,c2,B2,d2,rfl,r2,s2⟩,x3⟩;obtain ⟨E7,E4,X⟩:Hid _/\Hid _/\Hid _:=⟨Hd (x3.box E7.out),Hd (x3.box E4.out),Hd (Ext.trans X.out x3)⟩;have HO:=Hd (HO.out.kept x3);have hz_v3:=x3.size;clear x3 E8 R7 S7;have R2:=Hd (r2.less (B':=w.heap.size+1+1) (by omega))
   have S2:=Hd (s2.less (B':=w.heap.size+1+1) (by omega))
   clear r2 s2;obtain ⟨m2,hm2⟩:∃ m2,entI (mc,ms) l[k]=m2:=⟨_,rfl⟩;have HM2:=Hd hm2;obtain ⟨an,han⟩:∃ a,entA (mc,ms) l[k]=a:=⟨_,rfl⟩;obtain ⟨co,hco⟩:∃ a,zb9 (mc,ms) l[k]=a:=⟨_,rfl⟩;have gco:(co != 1)=true:=by rw [<-hco];exact code_ok _ _
   rw [hm2] at R2 S2;rw [hm2,han,hco];clear hm2 han hco;have EQ:=Hd (hNew (w:=v3) (o:=Im.zobj) rfl)
   (go_wp2_with (with_reducible refine za8 27 ?_);refine za3 (v3.heap.size) (Im.cs A2 m2.1.length c2 B2 m2.2.length d2) rfl rfl (EQ.out) (by kernel_rfl) rfl (by simp [Value.oneCell']) ?_)
   intro v4 e4 k4;have x4:=zac (za1 v3 Im.zobj) k4 (Nat.le_refl _);obtain ⟨E7,E4,X⟩:Hid _/\Hid _/\Hid _:=⟨Hd (x4.box E7.out),Hd (x4.box E4.out),Hd (Ext.trans X.out x4)⟩;have HO:=Hd (HO.out.kept x4);obtain ⟨R2,S2⟩:Hid _/\Hid _:=⟨Hd (R2.out.kept x4),Hd (S2.out.kept x4)⟩;have E9:=Hd e4;have hz_v4:=x4.size;clear e4 k4 x4 EQ
   (go_wp2_with (with_reducible refine za5 35 ?_);refine za6 (E9.out) rfl Tryz.underlying27 (by kernel_rfl) ?_;simp only [Act.put,Sa,Sz,Ss])
   (go_wp2_with (with_reducible refine za8 27 ?_);refine za3 (w.heap.size) (Im.cs A2 m2.1.length c2 B2 m2.2.length d2) rfl rfl (E7.out) (by kernel_rfl) rfl (by simp [Value.oneCell']) ?_)
   intro w3 e3 k3;obtain ⟨E4,X⟩:Hid _/\Hid _:=⟨Hd (zap E4.out k3 (by omega)),Hd (zaf X.out k3 (fun k hk=>by rw [Mi] at hk;omega))⟩
   obtain ⟨R2,S2,HO⟩:Hid _/\Hid _/\Hid _:=⟨Hd (R2.out.boxed E7.out (by decide) k3),Hd (S2.out.boxed E7.out (by decide) k3),Hd (HO.out.boxed E7.out (by decide) k3)⟩
   have E7:=Hd e3;have hsz3:=k3.size;clear e3 k3 E9;go_wp2_with (at_builtin;refine zcn (enc:=Int.enc1) rfl _ _ 121 rfl (w.heap.size+1+1) 3 i0 (.int .i64 0) 1 8 Tryz.underlying121 hi hz0 hz1 hz2 rfl (by decide) Int.enc1_len Int.enc1_one (.slice A1 os.length c1) os rfl (HO.out.kept (za1 _ _)) (some ⟨w3.heap.size,0,none⟩) 1 [an] 1 rfl rfl (Rd.one (hNew rfl) rfl) ?c1 ?c2 ?c3 ?_)
   case c1=>unfold maxLen;simp;omega
   case c2=>simp;omega
   case c3=>simp;omega
   intro v' w6 ho7 hg7;obtain ⟨A8,c8,rfl⟩:=ho7.form;have hch:=zaz hg7;have x3:=za1 w3 (.cells #[.int .i64 an] 3);have hH3:=HO.out.kept x3;have HE7:=Hd (ze6 (x3.box E7.out) hch (zam (x3.box E7.out) hH3 (by decide)))
   have HE4:=Hd (ze6 (x3.box E4.out) hch (zam (x3.box E4.out) hH3 (by decide)))
   have HX8:=Hd (zaf (Ext.trans X.out x3) hch (fun g hg=>by have:=(hH3.inB g hg).1;omega))
   have HR8:=Hd ((R2.out.kept x3).chg hch (fun x hx=>(R2.out.kept x3).apart hH3 (by decide) x hx))
   have HS8:=Hd ((S2.out.kept x3).chg hch (fun x hx=>(S2.out.kept x3).apart hH3 (by decide) x hx))
   have HO8:=Hd ho7;clear ho7 hg7 hch x3 hH3;have HNx2:=Hd (HNx.out.trans HM2.out);go_wp2
   go_roundw
   case rel=>exact ⟨k+1,os++[an],A2,c2,B2,d2,by omega,by go_num,Hd (by rw [HNx2.out];exact HE7.out),Hd (by rw [HNx2.out];exact HR8.out),Hd (by rw [HNx2.out];exact HS8.out),HE4,by have:=HOl.out;simp;omega,by first | exact HO8.out | (have h:=HO8.out;rw [List.length_append] at h;exact h),HX8⟩
   case measure=>simp [intOf] <;> omega
  ·obtain rfl:k=l.length:=by omega
   have HTk:=Hd (show l.take l.length=l from List.take_length)
   rw [HTk.out] at E7 R7 S7
   (go_wp2_with (with_reducible refine za5 41 ?_);refine za6 (E7.out) rfl Tryz.underlying27 (by kernel_rfl) ?_;simp only [Act.put,Sa,Sz,Ss])
   (go_wp2_with (with_reducible refine za8 27 ?_);refine za3 ((w.heap.size+1)) (Im.cs A (allI (cs,ss) l).1.length c B (allI (cs,ss) l).2.length d) rfl rfl (E4.out) (by kernel_rfl) rfl (by simp [Value.oneCell']) ?_)
   intro W9 e8 k9;have HE9:=Hd e8;have HX9:=Hd (zac X.out k9 (by omega))
   have HR9:=Hd (R7.out.boxed E4.out (by decide) k9)
   have HS9:=Hd (S7.out.boxed E4.out (by decide) k9)
   clear e8 k9;go_wp2
   exact bodyPost_ret (zaj Tryz.results104 rfl rfl Tryz.underlying27 (by kernel_rfl) HE9.out) rfl ⟨⟨A,c,B,d,_,_,_,rfl,HR9.out.less (by omega),HS9.out.less (by omega)⟩,HX9.out⟩
def AlW (B:Nat) (m:Img) (v:Value) (W:World):Prop:=∃ A c A' c' Z n z,v = .tuple #[Im.val A m.1.length c A' m.2.length c', .slice Z n z]/\Ow Cel.enc 162 2 W (B) (.slice A m.1.length c) m.1/\Ow Sea.enc 111 3 W (B) (.slice A' m.2.length c') m.2
theorem AlW.mono (b B:Nat) (m:Img):Rm.Mono (relE b) (AlW B m):=fun v w w' ⟨A,c,A',c',Z,n,z,h,h1,h2⟩ hx=>⟨A,c,A',c',Z,n,z,h,h1.kept hx,h2.kept hx⟩
theorem AlW.inv {B:Nat} {m:Img} {A A':Option Addr} {n c n' c':Nat} {x:Value} {W:World} (h:AlW B m (.tuple #[Im.val A n c A' n' c',x]) W):Ow Cel.enc 162 2 W (B) (.slice A m.1.length c) m.1/\Ow Sea.enc 111 3 W (B) (.slice A' m.2.length c') m.2:=by
 obtain ⟨A2,c2,A3,c3,_,_,_,he,h1,h2⟩:=h;simp only [Value.tuple.injEq,Value.agg.injEq,Array.mk.injEq,List.cons.injEq,Value.slice.injEq,true_and,and_true] at he;obtain ⟨⟨⟨rfl,rfl,rfl⟩,rfl,rfl,rfl⟩,_⟩:=he;exact ⟨h1,h2⟩
theorem c_image (a:LAd) (l:Lg) (j:Nat) (w:World) (hr:LgR w a l) (hok:logOk l=true) (hj:j<=l.ents.length) :
  Calls Tryz.prog 59 #[Lg.val a l, .int .i64 (l.base+j)] w fun e9 w'=>(∃ A c A' c',e9 = .returned (Im.val A (allI (l.cells,l.seats) (l.ents.take j)).1.length c A' (allI (l.cells,l.seats) (l.ents.take j)).2.length c') /\
   Ow Cel.enc 162 2 w' (w.heap.size) (.slice A (allI (l.cells,l.seats) (l.ents.take j)).1.length c) (allI (l.cells,l.seats) (l.ents.take j)).1/\Ow Sea.enc 111 3 w' (w.heap.size) (.slice A' (allI (l.cells,l.seats) (l.ents.take j)).2.length c') (allI (l.cells,l.seats) (l.ents.take j)).2)/\Ext w w':=by
 obtain ⟨hb0,hb1,h60,hIm,hAll⟩:=log_b hok;obtain ⟨w1,hw1⟩:∃ w1,((w.alloc (Lg.obj a l)).alloc Im.zobj)=w1:=⟨_,rfl⟩;have X0:Ext w w1:=by rw [<-hw1];exact za9 (za1 _ _) _
 have E1:=Hd (show w1.heap[w.heap.size]?=some (Lg.obj a l) by rw [<-hw1];exact hOld (o:=Im.zobj) (hNew (w:=w) (o:=Lg.obj a l) rfl))
 have E2:=Hd (show w1.heap[w.heap.size+1]?=some Im.zobj by rw [<-hw1];exact hNew (w:=w.alloc (Lg.obj a l)) (o:=Im.zobj) (k:=w.heap.size+1) (by simp))
 have HR:=Hd hr;have X:=Hd X0;have HIm:=Hd hIm;have HAll:=Hd hAll;have hz1_:=bx_lt E2.out;have HW0:=Hd hw1;clear hr hok hw1 X0 hIm hAll;have HEc:=Hd (show l.ents.length<=a.ec from HR.out.2.2.1)
 have hec:=HEc.out;have hsub:l.base+(j:Int) - l.base=(j:Int):=by omega
 have HCall:=Hd (show ∀ W',Ext w1 W'->Calls Tryz.prog 104 #[Im.val a.cA l.cells.length a.cc a.sA l.seats.length a.sc, .slice a.eA j a.ec] W' fun e9 w'=>∃ v,e9 = .returned v/\AlW (w.heap.size+1+1) (allI (l.cells,l.seats) (l.ents.take j)) v w'/\Ext W' w' from fun W' hW'=>by
  have h:=zhy a.cA a.cc l.cells a.sA a.sc l.seats a.eA a.ec (l.ents.take j) W' (HR.out.1.keep (Ext.trans X.out hW')) (HR.out.2.1.keep (Ext.trans X.out hW')) ((HR.out.2.2.keep (Ext.trans X.out hW')).take j) (by simp;omega) HIm.out (fun e he=>HAll.out e (List.mem_of_mem_take he))
  rw [show (l.ents.take j).length=j by simp;omega] at h
  exact h.mono fun e9 w' ⟨⟨A2,c2,B2,d2,Z,n,z,h1,h2,h3⟩,hx⟩=>⟨_,h1,⟨A2,c2,B2,d2,Z,n,z,rfl,h2.less (by have:=hW'.size;omega),h3.less (by have:=hW'.size;omega)⟩,hx⟩)
 go_enter Tryz.func59,Tryz.ntmps59
 go_wp2
 rw [HW0.out];clear HW0;have HWI:=Hd (fun W' (h:(relE w1.heap.size).rel w1 W')=>zaw (cs:=Im.cs a.cA l.cells.length a.cc a.sA l.seats.length a.sc) (Ext.box h E1.out) [.int .i64 l.base] [.slice a.eA l.ents.length a.ec] rfl rfl)
 (refine mrg (relE w1.heap.size) (fun _ _ _=>True) 14 ?_;simp only [Tc,Tz,Dc,Dz])
 (refine mpl ?_;go_big_quiet_step (fail);refine mnil ?_)
 (refine mla (HWI.out) Tryz.underlying27 ?_;simp only [Act.put,Sa,Sz,Ss])
 (refine mpl ?_;go_big_quiet_step (fail);refine mnil ?_)
 (refine ml1 (fun W9' h9=>show W9'.cell? _=some (.slice a.eA l.ents.length a.ec) from za2 (Ext.box h9 E1.out) 3) Tryz.underlying28 ?_;simp only [Act.put,Sa,Sz,Ss])
 (iterate 2 (refine mpl ?_;go_big_quiet_step (fail);refine mnil ?_))
 (refine ml1 (fun W9' h9=>show W9'.cell? _=some (.int .i64 l.base) from za2 (Ext.box h9 E1.out) 0) Tryz.underlying3 ?_;simp only [Act.put,Sa,Sz,Ss])
 (refine mpl ?_;go_big_quiet_step (fail);refine mnil ?_)
 (try simp only [hsub])
 (refine mpl ?_;go_big_quiet_step (fail);refine mnil ?_)
 refine mcl Tryz.func104 (AlW (w.heap.size+1+1) (allI (l.cells,l.seats) (l.ents.take j))) (AlW.mono _ _ _) (fun W' hW'=>HCall.out W' hW') (fun v6 hv6=>?_)
 obtain ⟨_,_,A2,c2,B2,d2,Z,n,z,rfl,_⟩:=hv6;simp only [Act.put,Sa,Sz,Ss]
 (iterate 3 (refine mpl ?_;go_big_quiet_step (fail);refine mnil ?_))
 (refine Rm.wpMix_alloc (Im.zobj) rfl (fun W=>by kernel_rfl) ?_;intro p9 hp9 hps9 hpi9;simp only [zen,Act.put,Sa,Sz,Ss])
 refine Rm.wpMix_nil ?_;rintro w3 ⟨⟨hW,hv2⟩,z2⟩;have x:Ext w1 w3:=hW;have hv3:=hv2.inv;obtain ⟨m2,hm2⟩:∃ m2,allI (l.cells,l.seats) (l.ents.take j)=m2:=⟨_,rfl⟩;rw [hm2] at hv3;have HM2:=Hd hm2;rw [hm2];have R2:=Hd hv3.1;have S2:=Hd hv3.2;have Z2:=Hd z2;obtain ⟨E2,X⟩:Hid _/\Hid _:=⟨Hd (x.box E2.out),Hd (Ext.trans X.out x)⟩;have hsz2:=x.size;have hlt9:=bx_lt z2;have hp9':w1.heap.size<=p9:=hp9;clear hW hv2 hv3 z2 x hm2 HWI hps9 hpi9 E1 hp9 HCall
 (go_wp2_with (with_reducible refine za8 27 ?_);refine za3 (p9) (Im.cs A2 m2.1.length c2 B2 m2.2.length d2) rfl rfl (Z2.out) (by kernel_rfl) rfl (by simp [Value.oneCell']) ?_)
 intro w4 e3 k3;obtain ⟨E2,X⟩:Hid _/\Hid _:=⟨Hd (zap E2.out k3 (by omega)),Hd (zaf X.out k3 (fun k hk=>by rw [Mi] at hk;omega))⟩
 obtain ⟨R2,S2⟩:Hid _/\Hid _:=⟨Hd (R2.out.boxed Z2.out (by decide) k3),Hd (S2.out.boxed Z2.out (by decide) k3)⟩
 have E9:=Hd e3;clear e3 k3 Z2
 (go_wp2_with (with_reducible refine za5 20 ?_);refine za6 (E9.out) rfl Tryz.underlying27 (by kernel_rfl) ?_;simp only [Act.put,Sa,Sz,Ss])
 (go_wp2_with (with_reducible refine za8 27 ?_);refine za3 ((w.heap.size+1)) (Im.cs A2 m2.1.length c2 B2 m2.2.length d2) rfl rfl (E2.out) (by kernel_rfl) rfl (by simp [Value.oneCell']) ?_)
 intro W9 e8 k9;have HE9:=Hd e8;have HX9:=Hd (zac X.out k9 (by omega))
 have HR9:=Hd (R2.out.boxed E2.out (by decide) k9)
 have HS9:=Hd (S2.out.boxed E2.out (by decide) k9)
 clear e8 k9;go_wp2
 exact bodyPost_ret (zbm Tryz.results59 rfl Tryz.underlying27 (by kernel_rfl) HE9.out) rfl ⟨⟨A2,c2,B2,d2,by rw [HM2.out] <;> rfl,by rw [HM2.out];exact HR9.out.less (by omega),by rw [HM2.out];exact HS9.out.less (by omega)⟩,HX9.out⟩
end Go.Proofs.YtckfjploafhenaaGreat
