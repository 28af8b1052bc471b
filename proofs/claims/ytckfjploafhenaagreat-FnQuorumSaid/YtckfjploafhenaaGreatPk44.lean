/- RunEntry of the program: an entry is run. -/
import Derived.Test.YtckfjploafhenaaGreatPk41
import Derived.Test.YtckfjploafhenaaGreatPk43
set_option maxRecDepth 100000
set_option maxHeartbeats 16000000
set_option linter.unusedVariables false
set_option linter.unusedSimpArgs false
namespace Go.Proofs.YtckfjploafhenaaGreat
open Go.ChangeShapes Go.WideShapes Go.ChangeAt Go.RowKit Go.Sort
def ImO (p B:Nat) (cs:List Cel) (ss:List Sea) (W:World):Prop:=∃ A c A' c',W.heap[p]?=some (Im.obj A cs.length c A' ss.length c')/\Ow Cel.enc 162 2 W (B) (.slice A cs.length c) cs/\Ow Sea.enc 111 3 W (B) (.slice A' ss.length c') ss
theorem ImO.ext {p B:Nat} {cs:List Cel} {ss:List Sea}:∀ a b,ImO p B cs ss a->Ext a b->ImO p B cs ss b:=fun a b ⟨A,c,A',c',h,h1,h2⟩ hx=>⟨A,c,A',c',hx.box h,h1.kept hx,h2.kept hx⟩
def ImW (B:Nat) (cs:List Cel) (ss:List Sea) (v:Value) (W:World):Prop:=∃ A c A' c',v=Im.val A cs.length c A' ss.length c'/\Ow Cel.enc 162 2 W (B) (.slice A cs.length c) cs/\Ow Sea.enc 111 3 W (B) (.slice A' ss.length c') ss
theorem ImW.monoG {p k B B':Nat} {T:TypeId} {G:World->Prop} {hG:∀ a b,G a->Ext a b->G b} {hp:p < B} {cs:List Cel} {ss:List Sea} (hB:p < B'):Rm.Mono (relG p k T G hG B hp) (ImW B' cs ss):=fun v a b ⟨A,c,A',c',h,h1,h2⟩ hx=>⟨A,c,A',c',h,h1.chg1 hx.1 hB,h2.chg1 hx.1 hB⟩
theorem putS_has {l:List Sea} {s:Sea} {n:Nat} (hn:lbS l s.client=n) (h:hasS l s.client=true):putS l s=l.set n s:=by
 have hl:=hasS_in h;unfold putS;have h1:n < l.length:=hn▸hl;rw [h,hn,List.set_eq_take_append_cons_drop];simp [h1]
theorem putS_new {l:List Sea} {s:Sea} {n:Nat} (hn:lbS l s.client=n) (h:hasS l s.client=false):putS l s=l.take n++([s]++l.drop n):=by
 unfold putS;rw [h,hn];rfl
theorem zdh (cA:Option Addr) (cc:Nat) (cs:List Cel) (sA:Option Addr) (sc:Nat) (ss:List Sea) (e:Ent) (w:World) (hc:Rd Cel.enc 2 w cA cc cs) (hs:Rd Sea.enc 3 w sA sc ss) (hok:ImgP (cs,ss)) (he:e.ok=true) :
  Calls Tryz.prog 60 #[Im.val cA cs.length cc sA ss.length sc,e.val] w fun e9 w'=>(∃ A c A' c',e9 = .returned (.tuple #[Im.val A (entI (cs,ss) e).1.length c A' (entI (cs,ss) e).2.length c', .int .i64 (entA (cs,ss) e), .int .i64 (zb9 (cs,ss) e)]) /\
   Ow Cel.enc 162 2 w' (w.heap.size) (.slice A (entI (cs,ss) e).1.length c) (entI (cs,ss) e).1/\Ow Sea.enc 111 3 w' (w.heap.size) (.slice A' (entI (cs,ss) e).2.length c') (entI (cs,ss) e).2)/\Ext w w':=by
 have hcl:cs.length<=40:=hok.c.len;have hsl:ss.length<=10:=hok.s.len;have hb:=ent_b he;obtain ⟨w1,hw1⟩:∃ w1,(((w.alloc (Im.obj cA cs.length cc sA ss.length sc)).alloc e.box).alloc Im.zobj)=w1:=⟨_,rfl⟩;have X0:Ext w w1:=by rw [<-hw1];exact za9 (za9 (za1 _ _) _) _
 have E1:=Hd (show w1.heap[w.heap.size]?=some (Im.obj cA cs.length cc sA ss.length sc) by rw [<-hw1];exact hOld (o:=Im.zobj) (hOld (o:=e.box) (hNew (w:=w) (o:=Im.obj cA cs.length cc sA ss.length sc) rfl)))
 have E2:=Hd (show w1.heap[w.heap.size+1]?=some e.box by rw [<-hw1];exact hOld (o:=Im.zobj) (hNew (w:=w.alloc (Im.obj cA cs.length cc sA ss.length sc)) (o:=e.box) (k:=w.heap.size+1) (by simp)))
 have E3:=Hd (show w1.heap[w.heap.size+1+1]?=some Im.zobj by rw [<-hw1];exact hNew (w:=(w.alloc (Im.obj cA cs.length cc sA ss.length sc)).alloc e.box) (o:=Im.zobj) (k:=w.heap.size+1+1) (by simp))
 have HC:=Hd hc;have HS:=Hd hs;have X:=Hd X0;have HOk:=Hd hok;have hz1:=bx_lt E3.out;have HW0:=Hd hw1;have HE:=Hd he
 have HIm:=Hd (show ∀ W,Ext w W->Calls Tryz.prog 105 #[Im.val cA cs.length cc sA ss.length sc] W fun e w'=>e = .returned (.bool true)/\Ext W w' from fun W h=>by
  have h5:=c_iImageOk cA cc cs sA sc ss W (hc.keep h) (hs.keep h) (by omega) (by omega)
  rw [show zbj cs ss=true from hok.ok] at h5
  exact h5)
 clear hc hs hok hw1 X0 he
 go_enter Tryz.func60,Tryz.ntmps60
 go_wp2_with (with_reducible refine za5 12 ?_)
 refine zb2 (F:=fun W=>W=w1) HW0.out ?_
 intro W1 hW1;subst hW1;clear HW0
 (go_wp2_with (with_reducible refine za5 12 ?_);refine za6 (E1.out) rfl Tryz.underlying27 (by kernel_rfl) ?_;simp only [Act.put,Sa,Sz,Ss])
 go_wp2_with fail
 refine (HIm.out _ X.out).mono ?_;rintro e9 w2 ⟨rfl,x⟩;obtain ⟨E1,E2,E3,X⟩:Hid _/\Hid _/\Hid _/\Hid _:=⟨Hd (x.box E1.out),Hd (x.box E2.out),Hd (x.box E3.out),Hd (Ext.trans X.out x)⟩;have hz_w2:=x.size;clear x;clear HIm
 (go_wp2_with (with_reducible refine za5 16 ?_);refine zhw (E2.out) rfl rfl Tryz.underlying104 (by kernel_rfl) ?_;simp only [Act.put,Sa,Sz,Ss])
 go_wp2_with fail
 have hcm:=c_iEntryOk e w2;rw [HE.out] at hcm;refine hcm.mono ?_;rintro e9 w3 ⟨rfl,x⟩;obtain ⟨E1,E2,E3,X⟩:Hid _/\Hid _/\Hid _/\Hid _:=⟨Hd (x.box E1.out),Hd (x.box E2.out),Hd (x.box E3.out),Hd (Ext.trans X.out x)⟩;have hz_w3:=x.size;clear x;clear hcm
 (go_wp2_with (with_reducible refine za5 22 ?_);refine za6 (E1.out) rfl Tryz.underlying27 (by kernel_rfl) ?_;simp only [Act.put,Sa,Sz,Ss])
 have d2:=za2 E2.out;have z2:=bx_lt E2.out;have hsf:=c_seatFor cA cs.length cc sA sc ss e.client w3 (HS.out.keep X.out) HOk.out.s.ok (by omega) (by omega)
 have hle:=lbS_le ss e.client;obtain ⟨n,hn⟩:∃ n,lbS ss e.client=n:=⟨_,rfl⟩;obtain ⟨gh,hgh⟩:∃ b,hasS ss e.client=b:=⟨_,rfl⟩;rw [hn,hgh] at hsf;rw [hn] at hle;have HNn:=Hd hn;have HGh:=Hd hgh;have HSf:=Hd hsf;clear hn hgh hsf;go_wp2_with fail
 refine HSf.out.mono ?_;rintro e9 w4 ⟨rfl,x4⟩;obtain ⟨E1,E2,E3,X⟩:Hid _/\Hid _/\Hid _/\Hid _:=⟨Hd (x4.box E1.out),Hd (x4.box E2.out),Hd (x4.box E3.out),Hd (Ext.trans X.out x4)⟩;have hz_w4:=x4.size;clear x4 d2 z2 HSf;cases gh
 ·go_wp2
  (refine mrg (relE w4.heap.size) (fun _ _ _=>True) 13 ?_;simp only [Tc,Tz,Dc,Dz])
  (iterate 2 (refine mpl ?_;go_big_quiet_step (fail);refine mnil ?_))
  (iterate 9 (refine msk ?_;simp only [Act.put,Sa,Sz,Ss]))
  (iterate 2 (refine mpl ?_;go_big_quiet_step (fail);refine mnil ?_))
  refine Rm.wpMix_nil ?_;intro w5 hW;have x5:Ext w4 w5:=hW;obtain ⟨E1,E2,E3,X⟩:Hid _/\Hid _/\Hid _/\Hid _:=⟨Hd (x5.box E1.out),Hd (x5.box E2.out),Hd (x5.box E3.out),Hd (Ext.trans X.out x5)⟩;have hz_w5:=x5.size;clear hW x5;go_wp2
  (refine mrg (relE w5.heap.size) (fun _ _ _=>True) 13 ?_;simp only [Tc,Tz,Dc,Dz])
  (iterate 2 (refine mpl ?_;go_big_quiet_step (fail);refine mnil ?_))
  (iterate 9 (refine msk ?_;simp only [Act.put,Sa,Sz,Ss]))
  (iterate 2 (refine mpl ?_;go_big_quiet_step (fail);refine mnil ?_))
  refine Rm.wpMix_nil ?_;intro w6 hW;have x5:Ext w5 w6:=hW;obtain ⟨E1,E2,E3,X⟩:Hid _/\Hid _/\Hid _/\Hid _:=⟨Hd (x5.box E1.out),Hd (x5.box E2.out),Hd (x5.box E3.out),Hd (Ext.trans X.out x5)⟩;have hz_w6:=x5.size;clear hW x5;have d1:=za2 E1.out;have z1:=bx_lt E1.out;have d2:=za2 E2.out;have z2:=bx_lt E2.out;cases g3:((ss.length:Int) == 10)
  ·have HRun:=Hd (run_done (m:=(cs,ss)) (e:=e) (.inr ⟨HGh.out,by show (ss.length == 10)=false;simp at g3 ⊢;omega⟩))
   (go_wp2_with (with_reducible refine za5 76 ?_);refine za6 (E1.out) rfl Tryz.underlying27 (by kernel_rfl) ?_;simp only [Act.put,Sa,Sz,Ss])
   (go_wp2_with (with_reducible refine za5 78 ?_);refine zb3 (zaw (cs:=#[.int .i64 e.kind, .int .i64 e.key, .int .i64 e.value]) E2.out [.int .i64 e.client, .int .i64 e.req] [] rfl rfl) rfl Tryz.underlying35 (by kernel_rfl) ?_;simp only [Act.put,Sa,Sz,Ss])
   clear d1 z1 d2 z2;go_wp2_with fail
   refine (c_run cA cc cs sA sc ss e w6 (HC.out.keep X.out) (HS.out.keep X.out) HOk.out HE.out).mono ?_;rintro e9 v6 ⟨⟨A6,c6,B6,d6,rfl,r6,s6⟩,x6⟩;obtain ⟨E2,E3,X⟩:Hid _/\Hid _/\Hid _:=⟨Hd (x6.box E2.out),Hd (x6.box E3.out),Hd (Ext.trans X.out x6)⟩;have hz_v6:=x6.size;have R6:=Hd (r6.less (B':=w.heap.size+1+1+1) (by omega))
   have S6:=Hd (s6.less (B':=w.heap.size+1+1+1) (by omega))
   clear x6 r6 s6 E1;obtain ⟨L6,hL6⟩:∃ L,runCs cs e.kind e.key e.value=L:=⟨_,rfl⟩;obtain ⟨an,han⟩:∃ a,runA cs e.kind e.key e.value=a:=⟨_,rfl⟩;have HRun2:=Hd (show entI (cs,ss) e=(L6,putS ss ⟨e.client,e.req,an⟩)/\entA (cs,ss) e=an/\zb9 (cs,ss) e=0 by rw [<-hL6,<-han];exact HRun.out)
   rw [hL6] at R6;rw [hL6,han];clear hL6 han HRun;have XA:=za1 v6 Im.zobj;have EQ:=Hd (hNew (w:=v6) (o:=Im.zobj) rfl);obtain ⟨E2,E3,X⟩:Hid _/\Hid _/\Hid _:=⟨Hd (XA.box E2.out),Hd (XA.box E3.out),Hd (Ext.trans X.out XA)⟩;obtain ⟨R6,S6⟩:Hid _/\Hid _:=⟨Hd (R6.out.kept XA),Hd (S6.out.kept XA)⟩;clear XA
   (go_wp2_with (with_reducible refine za8 27 ?_);refine za3 (v6.heap.size) (Im.cs A6 L6.length c6 B6 ss.length d6) rfl rfl (EQ.out) (by kernel_rfl) rfl (by simp [Value.oneCell']) ?_)
   intro w7 e7 k7;have hlt7:=bx_lt EQ.out;obtain ⟨E2,E3,X⟩:Hid _/\Hid _/\Hid _:=⟨Hd (zap E2.out k7 (by omega)),Hd (zap E3.out k7 (by omega)),Hd (zaf X.out k7 (fun k hk=>by rw [Mi] at hk;omega))⟩
   obtain ⟨R6,S6⟩:Hid _/\Hid _:=⟨Hd (R6.out.boxed EQ.out (by decide) k7),Hd (S6.out.boxed EQ.out (by decide) k7)⟩
   have E9:=Hd e7;have hs7:=bx_lt e7;clear e7 k7 EQ;have HNb:=Hd (show w7.heap.size∉blk B6 from fun hm=>by have:=(S6.out.inB _ hm).2;omega)
   have d2:=za2 E2.out;have z2:=bx_lt E2.out;have XA:=za1 w7 Sea.zobj;have EQ:=Hd (hNew (w:=w7) (o:=Sea.zobj) rfl);obtain ⟨E3,E9,X⟩:Hid _/\Hid _/\Hid _:=⟨Hd (XA.box E3.out),Hd (XA.box E9.out),Hd (Ext.trans X.out XA)⟩;obtain ⟨R6,S6⟩:Hid _/\Hid _:=⟨Hd (R6.out.kept XA),Hd (S6.out.kept XA)⟩;clear XA
   (go_wp2_with (with_reducible refine za8 111 ?_);refine za3 (w7.heap.size) #[.int .i64 e.client, .int .i64 e.req, .int .i64 an] rfl rfl (EQ.out) (by kernel_rfl) rfl (by simp [Value.oneCell']) ?_)
   intro w8 e8 k8;have hlt8:=bx_lt EQ.out;clear d2 z2 E2;obtain ⟨E3,E9,X⟩:Hid _/\Hid _/\Hid _:=⟨Hd (zap E3.out k8 (by omega)),Hd (zap E9.out k8 (by omega)),Hd (zaf X.out k8 (fun k hk=>by rw [Mi] at hk;omega))⟩
   obtain ⟨R6,S6⟩:Hid _/\Hid _:=⟨Hd (R6.out.boxed EQ.out (by decide) k8),Hd (S6.out.chg k8 (fun k hk hm=>by rw [Mi] at hm;subst hm;exact HNb.out hk))⟩
   clear HNb;have EB:=Hd e8;have hs8:=bx_lt e8;clear e8 k8 EQ;have d9:=za2 E9.out;have z9:=bx_lt E9.out;have XB:=za1 w8 (.cells #[.int .i64 e.client, .int .i64 e.req, .int .i64 an] 111);have HP:=Hd (hNew (w:=w8) (o := .cells #[.int .i64 e.client, .int .i64 e.req, .int .i64 an] 111) rfl);have hnp:w8.heap.size∉blk B6:=fun hm=>by have:=(S6.out.inB _ hm).2;omega
   have S6a:=Hd (S6.out.kept XB);have HIns:=Hd (c_insAnySea B6 d6 ss n e.client e.req an w8.heap.size (w.heap.size+1+1+1) _ S6a.out HP.out hnp hle (by omega) (by simp;omega))
   obtain ⟨E3,E9,X⟩:Hid _/\Hid _/\Hid _:=⟨Hd (XB.box E3.out),Hd (XB.box E9.out),Hd (Ext.trans X.out XB)⟩;have R6:=Hd (R6.out.kept XB);clear XB HP hnp S6
   (go_wp2_with (with_reducible refine za5 97 ?_);refine za6 (EB.out) rfl Tryz.underlying111 (by kernel_rfl) ?_;simp only [Act.put,Sa,Sz,Ss])
   go_wp2_with fail
   refine HIns.out.mono ?_;rintro e9 w9 ⟨A5,c5,rfl,o5,k5⟩;clear HIns d9 z9;have R6:=Hd (R6.out.chg k5 (fun k hk=>R6.out.apart S6a.out (by decide) k hk))
   obtain ⟨E3,E9,X⟩:Hid _/\Hid _/\Hid _:=⟨Hd (ze6 E3.out k5 (zam E3.out S6a.out (by decide))),Hd (ze6 E9.out k5 (zam E9.out S6a.out (by decide))),Hd (zaf X.out k5 (fun k hk=>by have:=(S6a.out.inB k hk).1;omega))⟩
   have hz_w9:=k5.size;simp only [zag] at hz_w9;obtain ⟨L5,hL5⟩:∃ L,ss.take n++([(⟨e.client,e.req,an⟩:Sea)]++ss.drop n)=L:=⟨_,rfl⟩;rw [hL5] at o5;have S5:=Hd o5;have HL5:=Hd (show putS ss (⟨e.client,e.req,an⟩:Sea)=L5 by rw [<-hL5];exact putS_new (s:=(⟨e.client,e.req,an⟩:Sea)) HNn.out HGh.out)
   rw [hL5];clear hL5 o5 k5 S6a EB;have b6:=za2 E9.out;have g6:=zad E9.out;have z6:=bx_lt E9.out;have P6:=zar E9.out 1 (.slice A5 L5.length c5);simp only [Sa,Sz,Ss] at P6;have c6_:=zaq (Chg.refl w9 [v6.heap.size]) (p:=⟨v6.heap.size,1,none⟩) (by simp) (.slice A5 L5.length c5)
   have HP:=Hd P6;have HE3:=Hd (zap E3.out c6_ (by omega))
   have HX6:=Hd (zaf X.out c6_ (fun k hk=>by rw [Mi] at hk;omega))
   have HR6:=Hd (R6.out.boxed E9.out (by decide) c6_)
   have HS6:=Hd (S5.out.boxed E9.out (by decide) c6_)
   clear P6 c6_ S5 E3 E9 X R6;go_wp2_with (with_reducible refine za5 101 ?_)
   refine zb2 (F:=fun W=>W.heap[v6.heap.size]?=some (Im.obj A6 L6.length c6 A5 L5.length c5)/\W.heap[w.heap.size+1+1]?=some Im.zobj/\Ow Cel.enc 162 2 W (w.heap.size+1+1+1) (.slice A6 L6.length c6) L6/\Ow Sea.enc 111 3 W (w.heap.size+1+1+1) (.slice A5 L5.length c5) L5/\Ext w W) ⟨HP.out,HE3.out,HR6.out,HS6.out,HX6.out⟩ ?_
   clear b6 g6 z6;intro W8 ⟨q1,q2,q3,q4,q5⟩;have E9:=Hd q1;have E3:=Hd q2;have R6:=Hd q3;have S5:=Hd q4;have X:=Hd q5;clear q1 q2 q3 q4 q5 HP HE3 HX6 HR6 HS6
   (go_wp2_with (with_reducible refine za5 101 ?_);refine za6 (E9.out) rfl Tryz.underlying27 (by kernel_rfl) ?_;simp only [Act.put,Sa,Sz,Ss])
   (go_wp2_with (with_reducible refine za8 27 ?_);refine za3 ((w.heap.size+1+1)) (Im.cs A6 L6.length c6 A5 L5.length c5) rfl rfl (E3.out) (by kernel_rfl) rfl (by simp [Value.oneCell']) ?_)
   intro W9 e8 k9;have HE9:=Hd e8;have HX9:=Hd (zac X.out k9 (by omega))
   have HR9:=Hd (R6.out.boxed E3.out (by decide) k9)
   have HS9:=Hd (S5.out.boxed E3.out (by decide) k9)
   clear e8 k9;go_wp2
   exact bodyPost_ret (zbc Tryz.results60 rfl rfl rfl Tryz.underlying27 (by kernel_rfl) HE9.out) rfl ⟨⟨A6,c6,A5,c5,by rw [HRun2.out.1,HRun2.out.2.1,HRun2.out.2.2,HL5.out];rfl,by rw [HRun2.out.1];exact HR9.out.less (by omega),by rw [HRun2.out.1];show Ow _ _ _ _ _ (.slice _ (putS ss _).length _) (putS ss _);rw [HL5.out];exact HS9.out.less (by omega)⟩,HX9.out⟩
  ·have HRun:=Hd (run_full (m:=(cs,ss)) (e:=e) HGh.out (by show (ss.length == 10)=true;simp at g3 ⊢;omega))
   (go_wp2_with (with_reducible refine za5 73 ?_);refine za6 (E1.out) rfl Tryz.underlying27 (by kernel_rfl) ?_;simp only [Act.put,Sa,Sz,Ss])
   clear d1 z1 d2 z2;go_wp2_with fail
   refine (zdc cA cc cs sA sc ss w6 (HC.out.keep X.out) (HS.out.keep X.out) (by omega) (by omega)).mono ?_
   rintro e9 v4 ⟨A4,c4,B4,d4,rfl,r4,s4,x4⟩;obtain ⟨E3,X⟩:Hid _/\Hid _:=⟨Hd (x4.box E3.out),Hd (Ext.trans X.out x4)⟩;have hz_v4:=x4.size;have R4:=Hd (r4.less (B':=w.heap.size+1+1+1) (by omega))
   have S4:=Hd (s4.less (B':=w.heap.size+1+1+1) (by omega))
   clear x4 r4 s4
   (go_wp2_with (with_reducible refine za8 27 ?_);refine za3 ((w.heap.size+1+1)) (Im.cs A4 cs.length c4 B4 ss.length d4) rfl rfl (E3.out) (by kernel_rfl) rfl (by simp [Value.oneCell']) ?_)
   intro W9 e8 k9;have HE9:=Hd e8;have HX9:=Hd (zac X.out k9 (by omega))
   have HR9:=Hd (R4.out.boxed E3.out (by decide) k9)
   have HS9:=Hd (S4.out.boxed E3.out (by decide) k9)
   clear e8 k9;go_wp2
   exact bodyPost_ret (zbc Tryz.results60 rfl rfl rfl Tryz.underlying27 (by kernel_rfl) HE9.out) rfl ⟨⟨A4,c4,B4,d4,by rw [HRun.out.1,HRun.out.2.1,HRun.out.2.2];rfl,by rw [HRun.out.1];exact HR9.out.less (by omega),by rw [HRun.out.1];exact HS9.out.less (by omega)⟩,HX9.out⟩
 ·have hnl:n < ss.length:=by have h:=hasS_in HGh.out;rw [HNn.out] at h;exact h
  obtain ⟨x,hx⟩:∃ x,ss[n]=x:=⟨_,rfl⟩;have HXv:=Hd (show x=zcd ss e.client by unfold zcd;rw [HNn.out,List.getD_eq_getElem?_getD,List.getElem?_eq_getElem hnl];exact hx.symm)
  obtain ⟨ab,ao,hA,hrow⟩:=row_at HS.out hnl;rw [hx] at hrow;subst hA;have HRow:=Hd hrow;clear hx hrow;go_wp2
  (refine mrg (relE w4.heap.size) (fun _ _ _=>True) 13 ?_;simp only [Tc,Tz,Dc,Dz])
  (iterate 3 (refine mpl ?_;go_big_quiet_step (fail);refine mnil ?_))
  (refine ml1 (fun W9' h9=>show W9'.cell? _=some (.slice (some ⟨ab,ao,none⟩) ss.length sc) from za2 (Ext.box h9 E1.out) 1) Tryz.underlying25 ?_;simp only [Act.put,Sa,Sz,Ss])
  (iterate 3 (refine mpl ?_;go_big_quiet_step (fail);refine mnil ?_))
  (refine ml1 (fun W9' h9=>show W9'.cell? _=some (.int .i64 x.req) from HRow.out W9' (Ext.trans X.out h9) 1 _ rfl) Tryz.underlying3 ?_;simp only [Act.put,Sa,Sz,Ss])
  (refine mpl ?_;go_big_quiet_step (fail);refine mnil ?_)
  (refine ml1 (fun W9' h9=>show W9'.cell? _=some (.int .i64 e.req) from za2 (Ext.box h9 E2.out) 1) Tryz.underlying3 ?_;simp only [Act.put,Sa,Sz,Ss])
  (iterate 3 (refine mpl ?_;go_big_quiet_step (fail);refine mnil ?_))
  refine Rm.wpMix_nil ?_;intro w5 hW;have x5:Ext w4 w5:=hW;obtain ⟨E1,E2,E3,X⟩:Hid _/\Hid _/\Hid _/\Hid _:=⟨Hd (x5.box E1.out),Hd (x5.box E2.out),Hd (x5.box E3.out),Hd (Ext.trans X.out x5)⟩;have hz_w5:=x5.size;clear hW x5;cases g1:(x.req == e.req)
  ·go_wp2
   (refine mrg (relE w5.heap.size) (fun _ _ _=>True) 13 ?_;simp only [Tc,Tz,Dc,Dz])
   (iterate 3 (refine mpl ?_;go_big_quiet_step (fail);refine mnil ?_))
   (refine ml1 (fun W9' h9=>show W9'.cell? _=some (.slice (some ⟨ab,ao,none⟩) ss.length sc) from za2 (Ext.box h9 E1.out) 1) Tryz.underlying25 ?_;simp only [Act.put,Sa,Sz,Ss])
   (iterate 3 (refine mpl ?_;go_big_quiet_step (fail);refine mnil ?_))
   (refine ml1 (fun W9' h9=>show W9'.cell? _=some (.int .i64 x.req) from HRow.out W9' (Ext.trans X.out h9) 1 _ rfl) Tryz.underlying3 ?_;simp only [Act.put,Sa,Sz,Ss])
   (refine mpl ?_;go_big_quiet_step (fail);refine mnil ?_)
   (refine ml1 (fun W9' h9=>show W9'.cell? _=some (.int .i64 e.req) from za2 (Ext.box h9 E2.out) 1) Tryz.underlying3 ?_;simp only [Act.put,Sa,Sz,Ss])
   (iterate 3 (refine mpl ?_;go_big_quiet_step (fail);refine mnil ?_))
   refine Rm.wpMix_nil ?_;intro w6 hW;have x5:Ext w5 w6:=hW;obtain ⟨E1,E2,E3,X⟩:Hid _/\Hid _/\Hid _/\Hid _:=⟨Hd (x5.box E1.out),Hd (x5.box E2.out),Hd (x5.box E3.out),Hd (Ext.trans X.out x5)⟩;have hz_w6:=x5.size;clear hW x5;cases g2:decide (e.req < x.req)
   ·have hxv:=HXv.out;have HRun:=Hd (run_done (m:=(cs,ss)) (e:=e) (.inl ⟨HGh.out,by rw [<-hxv];exact g1,by rw [<-hxv];exact g2⟩))
    clear hxv HXv HRow;have d1:=za2 E1.out;have z1:=bx_lt E1.out;have d2:=za2 E2.out;have z2:=bx_lt E2.out
    (go_wp2_with (with_reducible refine za5 76 ?_);refine za6 (E1.out) rfl Tryz.underlying27 (by kernel_rfl) ?_;simp only [Act.put,Sa,Sz,Ss])
    (go_wp2_with (with_reducible refine za5 78 ?_);refine zb3 (zaw (cs:=#[.int .i64 e.kind, .int .i64 e.key, .int .i64 e.value]) E2.out [.int .i64 e.client, .int .i64 e.req] [] rfl rfl) rfl Tryz.underlying35 (by kernel_rfl) ?_;simp only [Act.put,Sa,Sz,Ss])
    clear d1 z1 d2 z2;go_wp2_with fail
    refine (c_run cA cc cs (some ⟨ab,ao,none⟩) sc ss e w6 (HC.out.keep X.out) (HS.out.keep X.out) HOk.out HE.out).mono ?_;rintro e9 v6 ⟨⟨A6,c6,B6,d6,rfl,r6,s6⟩,x6⟩;obtain ⟨E2,E3,X⟩:Hid _/\Hid _/\Hid _:=⟨Hd (x6.box E2.out),Hd (x6.box E3.out),Hd (Ext.trans X.out x6)⟩;have hz_v6:=x6.size;have R6:=Hd (r6.less (B':=w.heap.size+1+1+1) (by omega))
    have S6:=Hd (s6.less (B':=w.heap.size+1+1+1) (by omega))
    clear x6 r6 s6 E1;obtain ⟨L6,hL6⟩:∃ L,runCs cs e.kind e.key e.value=L:=⟨_,rfl⟩;obtain ⟨an,han⟩:∃ a,runA cs e.kind e.key e.value=a:=⟨_,rfl⟩;have HRun2:=Hd (show entI (cs,ss) e=(L6,putS ss ⟨e.client,e.req,an⟩)/\entA (cs,ss) e=an/\zb9 (cs,ss) e=0 by rw [<-hL6,<-han];exact HRun.out)
    rw [hL6] at R6;rw [hL6,han];clear hL6 han HRun;have XA:=za1 v6 Im.zobj;have EQ:=Hd (hNew (w:=v6) (o:=Im.zobj) rfl);obtain ⟨E2,E3,X⟩:Hid _/\Hid _/\Hid _:=⟨Hd (XA.box E2.out),Hd (XA.box E3.out),Hd (Ext.trans X.out XA)⟩;obtain ⟨R6,S6⟩:Hid _/\Hid _:=⟨Hd (R6.out.kept XA),Hd (S6.out.kept XA)⟩;clear XA
    (go_wp2_with (with_reducible refine za8 27 ?_);refine za3 (v6.heap.size) (Im.cs A6 L6.length c6 B6 ss.length d6) rfl rfl (EQ.out) (by kernel_rfl) rfl (by simp [Value.oneCell']) ?_)
    intro w7 e7 k7;have hlt7:=bx_lt EQ.out;obtain ⟨E2,E3,X⟩:Hid _/\Hid _/\Hid _:=⟨Hd (zap E2.out k7 (by omega)),Hd (zap E3.out k7 (by omega)),Hd (zaf X.out k7 (fun k hk=>by rw [Mi] at hk;omega))⟩
    obtain ⟨R6,S6⟩:Hid _/\Hid _:=⟨Hd (R6.out.boxed EQ.out (by decide) k7),Hd (S6.out.boxed EQ.out (by decide) k7)⟩
    have E9:=Hd e7;have hs7:=bx_lt e7;clear e7 k7 EQ;have HNb:=Hd (show w7.heap.size∉blk B6 from fun hm=>by have:=(S6.out.inB _ hm).2;omega)
    have d2:=za2 E2.out;have z2:=bx_lt E2.out;have XA:=za1 w7 Sea.zobj;have EQ:=Hd (hNew (w:=w7) (o:=Sea.zobj) rfl);obtain ⟨E3,E9,X⟩:Hid _/\Hid _/\Hid _:=⟨Hd (XA.box E3.out),Hd (XA.box E9.out),Hd (Ext.trans X.out XA)⟩;obtain ⟨R6,S6⟩:Hid _/\Hid _:=⟨Hd (R6.out.kept XA),Hd (S6.out.kept XA)⟩;clear XA
    (go_wp2_with (with_reducible refine za8 111 ?_);refine za3 (w7.heap.size) #[.int .i64 e.client, .int .i64 e.req, .int .i64 an] rfl rfl (EQ.out) (by kernel_rfl) rfl (by simp [Value.oneCell']) ?_)
    intro w8 e8 k8;have hlt8:=bx_lt EQ.out;clear d2 z2 E2;obtain ⟨E3,E9,X⟩:Hid _/\Hid _/\Hid _:=⟨Hd (zap E3.out k8 (by omega)),Hd (zap E9.out k8 (by omega)),Hd (zaf X.out k8 (fun k hk=>by rw [Mi] at hk;omega))⟩
    obtain ⟨R6,S6⟩:Hid _/\Hid _:=⟨Hd (R6.out.boxed EQ.out (by decide) k8),Hd (S6.out.chg k8 (fun k hk hm=>by rw [Mi] at hm;subst hm;exact HNb.out hk))⟩
    clear HNb;have EB:=Hd e8;have hs8:=bx_lt e8;clear e8 k8 EQ;have d9:=za2 E9.out;have z9:=bx_lt E9.out;obtain ⟨g,dd,hv,hgB,hgl⟩:=S6.out.base (by omega)
    simp only [Value.slice.injEq,true_and] at hv;obtain ⟨rfl,rfl⟩:=hv;have HS6:=Hd S6.out;obtain ⟨y0,f0⟩:∃ y,w8.cell? ⟨g,n * 3,none⟩=some y:=⟨_,(World.ownsRow.cellAt S6.out (n * 3) (by omega)).trans (List.getElem?_eq_getElem (by rw [zae Sea.enc_len];omega))⟩
    obtain ⟨y1,f1⟩:∃ y,w8.cell? ⟨g,n * 3+1,none⟩=some y:=⟨_,(World.ownsRow.cellAt S6.out (n * 3+1) (by omega)).trans (List.getElem?_eq_getElem (by rw [zae Sea.enc_len];omega))⟩
    obtain ⟨y2,f2⟩:∃ y,w8.cell? ⟨g,n * 3+2,none⟩=some y:=⟨_,(World.ownsRow.cellAt S6.out (n * 3+2) (by omega)).trans (List.getElem?_eq_getElem (by rw [zae Sea.enc_len];omega))⟩
    have hfz:=World.ownsRow.frozenAt S6.out;clear HS6
    (go_wp2_with (with_reducible refine za5 92 ?_);refine za6 (EB.out) rfl Tryz.underlying111 (by kernel_rfl) ?_;simp only [Act.put,Sa,Sz,Ss])
    have s0:=World.ownsRow.stored S6.out (n * 3) (.int .i64 e.client);have s1:=World.ownsRow.stored s0.1 (n * 3+1) (.int .i64 e.req);have s2:=World.ownsRow.stored s1.1 (n * 3+2) (.int .i64 an);have ch:=zaq (zaq (zaq (Chg.refl w8 (blk (some ⟨g,0,none⟩))) (p:=⟨g,n * 3,none⟩) (by simp [blk]) (.int .i64 e.client)) (p:=⟨g,n * 3+1,none⟩) (by simp [blk]) (.int .i64 e.req)) (p:=⟨g,n * 3+2,none⟩) (by simp [blk]) (.int .i64 an)
    obtain ⟨L5,hL5⟩:∃ L,putS ss (⟨e.client,e.req,an⟩:Sea)=L:=⟨_,rfl⟩;have hset:L5=ss.set n (⟨e.client,e.req,an⟩:Sea):=by rw [<-hL5];exact putS_has (s:=(⟨e.client,e.req,an⟩:Sea)) HNn.out HGh.out
    have hlen:L5.length=ss.length:=by rw [hset,List.length_set]
    have HL5:=Hd hL5
    have HS6:=Hd (show Ow Sea.enc 111 3 _ (w.heap.size+1+1+1) (.slice (some ⟨g,0,none⟩) L5.length d6) L5 by
     have h9:=ownsRow_congr s2.1 (setAll_one Sea.enc_len ss n hnl (⟨e.client,e.req,an⟩:Sea));unfold Ow;rw [hlen,hset]
     exact h9)
    have HR6:=Hd (R6.out.chg ch (fun k hk=>R6.out.apart S6.out (by decide) k hk))
    have HP0:=Hd (ze6 E9.out ch (zam E9.out S6.out (by decide)))
    rw [<-hlen] at HP0;have HP:=HP0;have HE3:=Hd (ze6 E3.out ch (zam E3.out S6.out (by decide)))
    have HX6:=Hd (zaf X.out ch (fun k hk=>by have:=(S6.out.inB k hk).1;omega))
    obtain ⟨A5,hA5⟩:∃ A:Option Addr,some ⟨g,0,none⟩=A:=⟨_,rfl⟩;obtain ⟨c5,hc5⟩:∃ c,d6=c:=⟨_,rfl⟩;rw [hA5,hc5] at HP HS6;clear s0 s1 s2 ch hset hlen hL5 HP0 E3 E9 X R6 S6 hA5 hc5;go_wp2_with (with_reducible refine za5 101 ?_)
    refine zb2 (F:=fun W=>W.heap[v6.heap.size]?=some (Im.obj A6 L6.length c6 A5 L5.length c5)/\W.heap[w.heap.size+1+1]?=some Im.zobj/\Ow Cel.enc 162 2 W (w.heap.size+1+1+1) (.slice A6 L6.length c6) L6/\Ow Sea.enc 111 3 W (w.heap.size+1+1+1) (.slice A5 L5.length c5) L5/\Ext w W) ⟨HP.out,HE3.out,HR6.out,HS6.out,HX6.out⟩ ?_
    intro W8 ⟨q1,q2,q3,q4,q5⟩;have E9:=Hd q1;have E3:=Hd q2;have R6:=Hd q3;have S5:=Hd q4;have X:=Hd q5;clear q1 q2 q3 q4 q5 HP HE3 HX6 HR6 HS6
    (go_wp2_with (with_reducible refine za5 101 ?_);refine za6 (E9.out) rfl Tryz.underlying27 (by kernel_rfl) ?_;simp only [Act.put,Sa,Sz,Ss])
    (go_wp2_with (with_reducible refine za8 27 ?_);refine za3 ((w.heap.size+1+1)) (Im.cs A6 L6.length c6 A5 L5.length c5) rfl rfl (E3.out) (by kernel_rfl) rfl (by simp [Value.oneCell']) ?_)
    intro W9 e8 k9;have HE9:=Hd e8;have HX9:=Hd (zac X.out k9 (by omega))
    have HR9:=Hd (R6.out.boxed E3.out (by decide) k9)
    have HS9:=Hd (S5.out.boxed E3.out (by decide) k9)
    clear e8 k9;go_wp2
    exact bodyPost_ret (zbc Tryz.results60 rfl rfl rfl Tryz.underlying27 (by kernel_rfl) HE9.out) rfl ⟨⟨A6,c6,A5,c5,by rw [HRun2.out.1,HRun2.out.2.1,HRun2.out.2.2,HL5.out];rfl,by rw [HRun2.out.1];exact HR9.out.less (by omega),by rw [HRun2.out.1];show Ow _ _ _ _ _ (.slice _ (putS ss _).length _) (putS ss _);rw [HL5.out];exact HS9.out.less (by omega)⟩,HX9.out⟩
   ·have hxv:=HXv.out;have HRun:=Hd (run_old (m:=(cs,ss)) (e:=e) HGh.out (by rw [<-hxv];exact g1) (by rw [<-hxv];exact g2))
    clear hxv HXv HRow;have d1:=za2 E1.out;have z1:=bx_lt E1.out;have d2:=za2 E2.out;have z2:=bx_lt E2.out
    (go_wp2_with (with_reducible refine za5 62 ?_);refine za6 (E1.out) rfl Tryz.underlying27 (by kernel_rfl) ?_;simp only [Act.put,Sa,Sz,Ss])
    clear d1 z1 d2 z2;go_wp2_with fail
    refine (zdc cA cc cs (some ⟨ab,ao,none⟩) sc ss w6 (HC.out.keep X.out) (HS.out.keep X.out) (by omega) (by omega)).mono ?_
    rintro e9 v4 ⟨A4,c4,B4,d4,rfl,r4,s4,x4⟩;obtain ⟨E3,X⟩:Hid _/\Hid _:=⟨Hd (x4.box E3.out),Hd (Ext.trans X.out x4)⟩;have hz_v4:=x4.size;have R4:=Hd (r4.less (B':=w.heap.size+1+1+1) (by omega))
    have S4:=Hd (s4.less (B':=w.heap.size+1+1+1) (by omega))
    clear x4 r4 s4
    (go_wp2_with (with_reducible refine za8 27 ?_);refine za3 ((w.heap.size+1+1)) (Im.cs A4 cs.length c4 B4 ss.length d4) rfl rfl (E3.out) (by kernel_rfl) rfl (by simp [Value.oneCell']) ?_)
    intro W9 e8 k9;have HE9:=Hd e8;have HX9:=Hd (zac X.out k9 (by omega))
    have HR9:=Hd (R4.out.boxed E3.out (by decide) k9)
    have HS9:=Hd (S4.out.boxed E3.out (by decide) k9)
    clear e8 k9;go_wp2
    exact bodyPost_ret (zbc Tryz.results60 rfl rfl rfl Tryz.underlying27 (by kernel_rfl) HE9.out) rfl ⟨⟨A4,c4,B4,d4,by rw [HRun.out.1,HRun.out.2.1,HRun.out.2.2];rfl,by rw [HRun.out.1];exact HR9.out.less (by omega),by rw [HRun.out.1];exact HS9.out.less (by omega)⟩,HX9.out⟩
  ·have hxv:=HXv.out;have HRun:=Hd (run_same (m:=(cs,ss)) (e:=e) HGh.out (by rw [<-hxv];exact g1))
   have HAn:=Hd (show x.answer=(zcd ss e.client).answer by rw [hxv])
   clear hxv;go_wp2
   have hp5:w.heap.size+1+1 < w5.heap.size:=by omega
   have HW1:=Hd (fun W' (h:(relG (w.heap.size+1+1) 2 27 (ImO (w.heap.size+1+1) (w.heap.size+1+1+1) cs ss) ImO.ext w5.heap.size hp5).rel w5 W')=>zaw (cs:=Im.cs cA cs.length cc (some ⟨ab,ao,none⟩) ss.length sc) (relG_box E1.out (by omega) W' h) [] [] rfl rfl)
   (refine mrg (relG (w.heap.size+1+1) 2 27 (ImO (w.heap.size+1+1) (w.heap.size+1+1+1) cs ss) ImO.ext w5.heap.size hp5) (fun _ _ _=>True) 9 ?_;simp only [Tc,Tz,Dc,Dz])
   (refine mla (HW1.out) Tryz.underlying27 ?_;simp only [Act.put,Sa,Sz,Ss])
   refine mcl Tryz.func102 (ImW (w.heap.size+1+1+1) cs ss) (ImW.monoG (by omega)) (fun W' hW'=>(zdc cA cc cs (some ⟨ab,ao,none⟩) sc ss W' (HC.out.keep (zaf X.out hW'.1 (fun g hg=>by rw [Mi] at hg;omega))) (HS.out.keep (zaf X.out hW'.1 (fun g hg=>by rw [Mi] at hg;omega))) (by omega) (by omega)).mono fun e9 w' ⟨A4,c4,B4,d4,h1,h2,h3,hx⟩=>⟨_,h1,⟨A4,c4,B4,d4,rfl,h2.less (by have:=hW'.1.size;omega),h3.less (by have:=hW'.1.size;omega)⟩,Rm.RelK.ext _ _ _ hx⟩) (fun v6 hv6=>?_)
   obtain ⟨_,_,A4,c4,B4,d4,rfl,_⟩:=hv6;simp only [Act.put,Sa,Sz,Ss]
   (refine mpl ?_;go_big_quiet_step (fail);refine mnil ?_)
   (refine ml1 (fun W9' h9=>show W9'.cell? _=some (.slice (some ⟨ab,ao,none⟩) ss.length sc) from za2 (relG_box E1.out (by omega) W9' h9) 1) Tryz.underlying25 ?_;simp only [Act.put,Sa,Sz,Ss])
   (iterate 3 (refine mpl ?_;go_big_quiet_step (fail);refine mnil ?_))
   (refine ml1 (fun W9' h9=>show W9'.cell? _=some (.int .i64 x.answer) from HRow.out W9' (zaf X.out h9.1 (fun g hg=>by rw [Mi] at hg;omega)) 2 _ rfl) Tryz.underlying3 ?_;simp only [Act.put,Sa,Sz,Ss])
   refine wpMix_stG (cs:=Im.cs A4 cs.length c4 B4 ss.length d4) ⟨_,E3.out,rfl⟩ rfl rfl rfl rfl rfl (by kernel_rfl) rfl (by simp [Value.oneCell']) (fun W hW=>hW.1) (fun W W' hW he hch=>?_) ?_
   ·obtain ⟨A',c',B',d',hv,h1,h2⟩:=hW.2;simp only [Value.agg.injEq,Array.mk.injEq,List.cons.injEq,Value.slice.injEq,true_and,and_true] at hv;obtain ⟨⟨rfl,rfl⟩,rfl,rfl⟩:=hv;exact ⟨_,_,_,_,he,h1.chg1 hch (by omega),h2.chg1 hch (by omega)⟩
   simp only [Act.put,Sa,Sz,Ss];refine Rm.wpMix_nil ?_;rintro W9 ⟨⟨h9,_⟩,A7,c7,B7,d7,e7,r7,s7⟩;have HE9:=Hd e7;have HX9:=Hd (zaf X.out h9.1 (fun g hg=>by rw [Mi] at hg;omega))
   have HR9:=Hd r7;have HS9:=Hd s7;clear h9 e7 r7 s7;go_wp2
   exact bodyPost_ret (zbc Tryz.results60 rfl rfl rfl Tryz.underlying27 (by kernel_rfl) HE9.out) rfl ⟨⟨A7,c7,B7,d7,by rw [HRun.out.1,HRun.out.2.1,HRun.out.2.2,<-HAn.out];rfl,by rw [HRun.out.1];exact HR9.out.less (by omega),by rw [HRun.out.1];exact HS9.out.less (by omega)⟩,HX9.out⟩
end Go.Proofs.YtckfjploafhenaaGreat
