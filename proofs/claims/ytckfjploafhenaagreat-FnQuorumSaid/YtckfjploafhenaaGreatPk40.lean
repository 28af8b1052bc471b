/- RunCmd of the reference. -/
import Derived.Test.YtckfjploafhenaaGreatPk38
import Derived.Test.YtckfjploafhenaaGreatPk25
set_option maxRecDepth 100000
set_option maxHeartbeats 16000000
set_option linter.unusedVariables false
set_option linter.unusedSimpArgs false
namespace Go.Proofs.YtckfjploafhenaaGreat
open Go.ChangeShapes Go.WideShapes Go.ChangeAt Go.RowKit Go.Sort
theorem c_max0 (a b:Int) (w:World):Calls Tryz.prog 26 #[.int .i64 a, .int .i64 b] w fun e w'=>e = .returned (.int .i64 (max a b))/\Ext w w':=by
 go_enter Tryz.func26,Tryz.ntmps26
 go_wp2
 all_goals
  go_ret
  exact ⟨zc0 (by omega),za4 _⟩
abbrev Cmd.obj (e:Ent):Obj := .cells #[.int .i64 e.kind, .int .i64 e.key, .int .i64 e.value] 35
theorem cmd_of {e:Ent} (h:e.ok=true):cmdOk e.kind e.key e.value=true:=by
 unfold Ent.ok at h;simp only [Bool.and_eq_true] at h;exact h.2
theorem RdF.boxed {α:Type} {enc:α->List Value} {e T:TypeId} {sz:Nat} (hlen:∀ x,(enc x).length=sz) {w w':World} {B p:Nat} {cs:Array Value} {A:Option Addr} {c:Nat} {l:List α} (h:RdF enc e sz w B A c l) (hb:w.heap[p]?=some (.cells cs T (0,0))) (hne:T≠e) (hg:Chg w w' [p]):RdF enc e sz w' B A c l :=
 h.chg hlen hg (fun hl x hx hm=>by rw [Mi] at hm;rw [hm] at hx;exact zam hb (h.2 hl) hne hx)
theorem c_sRunCmd (cA:Option Addr) (cc:Nat) (cs:List Cel) (sA:Option Addr) (sc:Nat) (ss:List Sea) (e:Ent) (w:World) (hc:Rd Cel.enc 2 w cA cc cs) (hs:Rd Sea.enc 3 w sA sc ss) (hok:ImgP (cs,ss)) (he:e.ok=true) :
  Calls Tryz.prog 117 #[Im.val cA cs.length cc sA ss.length sc, .agg #[.int .i64 e.kind, .int .i64 e.key, .int .i64 e.value]] w fun e9 w'=>(∃ A c A' c',e9 = .returned (.tuple #[Im.val A (runCs cs e.kind e.key e.value).length c A' ss.length c', .int .i64 (runA cs e.kind e.key e.value)]) /\
   RdF Cel.enc 162 2 w' w.heap.size A c (runCs cs e.kind e.key e.value)/\RdF Sea.enc 111 3 w' w.heap.size A' c' ss)/\Ext w w':=by
 have hcl:cs.length<=40:=hok.c.len;have hsl:ss.length<=10:=hok.s.len;have hb:=ent_b he;have hv:=valC_b hok.c e.key;obtain ⟨w1,hw1⟩:∃ w1,(((w.alloc (Im.obj cA cs.length cc sA ss.length sc)).alloc (Cmd.obj e)).alloc Im.zobj)=w1:=⟨_,rfl⟩;have X0:Ext w w1:=by rw [<-hw1];exact za9 (za9 (za1 _ _) _) _
 have E1:=Hd (show w1.heap[w.heap.size]?=some (Im.obj cA cs.length cc sA ss.length sc) by rw [<-hw1];exact hOld (o:=Im.zobj) (hOld (o:=Cmd.obj e) (hNew (w:=w) (o:=Im.obj cA cs.length cc sA ss.length sc) rfl)))
 have E2:=Hd (show w1.heap[w.heap.size+1]?=some (Cmd.obj e) by rw [<-hw1];exact hOld (o:=Im.zobj) (hNew (w:=w.alloc (Im.obj cA cs.length cc sA ss.length sc)) (o:=Cmd.obj e) (k:=w.heap.size+1) (by simp)))
 have E3:=Hd (show w1.heap[w.heap.size+1+1]?=some Im.zobj by rw [<-hw1];exact hNew (w:=(w.alloc (Im.obj cA cs.length cc sA ss.length sc)).alloc (Cmd.obj e)) (o:=Im.zobj) (k:=w.heap.size+1+1) (by simp))
 have HC:=Hd hc;have HS:=Hd hs;have X:=Hd X0;have HOk:=Hd hok;have HAs:=Hd (show AscC cs from hok.c.asc)
 have HCm:=Hd (cmd_of he);have hz1:=bx_lt E3.out;have HW0:=Hd hw1
 have HIm:=Hd (show ∀ W,Ext w W->Calls Tryz.prog 112 #[Im.val cA cs.length cc sA ss.length sc] W fun e w'=>e = .returned (.bool true)/\Ext W w' from fun W h=>by
  have h5:=zfg cA cc cs sA sc ss W (hc.keep h) (hs.keep h) (by omega) (by omega)
  rw [show zbj cs ss=true from hok.ok] at h5
  exact h5)
 obtain ⟨hd,hhd⟩:∃ x,valC cs e.key=x:=⟨_,rfl⟩;rw [hhd] at hv;have HHd:=Hd hhd;clear hc hs hok hhd hw1 X0 he
 go_enter Tryz.func117,Tryz.ntmps117
 go_wp2_with (with_reducible refine za5 9 ?_)
 refine zb2 (F:=fun W=>W=w1) HW0.out ?_
 intro W1 hW1;subst hW1;clear HW0
 (go_wp2_with (with_reducible refine za5 9 ?_);refine za6 (E1.out) rfl Tryz.underlying27 (by kernel_rfl) ?_;simp only [Act.put,Sa,Sz,Ss])
 go_wp2_with fail
 refine (HIm.out _ X.out).mono ?_;rintro e9 w2 ⟨rfl,x⟩;obtain ⟨E1,E2,E3,X⟩:Hid _/\Hid _/\Hid _/\Hid _:=⟨Hd (x.box E1.out),Hd (x.box E2.out),Hd (x.box E3.out),Hd (Ext.trans X.out x)⟩;have hz_w2:=x.size;clear x;clear HIm
 (go_wp2_with (with_reducible refine za5 13 ?_);refine zhw (E2.out) rfl rfl Tryz.underlying35 (by kernel_rfl) ?_;simp only [Act.put,Sa,Sz,Ss])
 go_wp2_with fail
 have hcm:=c_sCmdOk e.kind e.key e.value w2;rw [HCm.out] at hcm;refine hcm.mono ?_;rintro e9 w3 ⟨rfl,x⟩;obtain ⟨E1,E2,E3,X⟩:Hid _/\Hid _/\Hid _/\Hid _:=⟨Hd (x.box E1.out),Hd (x.box E2.out),Hd (x.box E3.out),Hd (Ext.trans X.out x)⟩;have hz_w3:=x.size;clear x;clear hcm
 (go_wp2_with (with_reducible refine za5 18 ?_);refine za6 (E1.out) rfl Tryz.underlying27 (by kernel_rfl) ?_;simp only [Act.put,Sa,Sz,Ss])
 go_wp2_with fail
 refine (zck cA cc cs sA sc ss w3 (HC.out.keep X.out) (HS.out.keep X.out) (by omega) (by omega)).mono ?_
 rintro e9 w4 ⟨v4,rfl,⟨A4,c4,B4,d4,rfl,r4,s4⟩,x⟩;obtain ⟨E1,E2,E3,X⟩:Hid _/\Hid _/\Hid _/\Hid _:=⟨Hd (x.box E1.out),Hd (x.box E2.out),Hd (x.box E3.out),Hd (Ext.trans X.out x)⟩;have hz_w4:=x.size;clear x;have R4:=Hd (r4.less (B':=w.heap.size+1+1+1) (by omega))
 have S4:=Hd (s4.less (B':=w.heap.size+1+1+1) (by omega))
 clear r4 s4;have XA:=za1 w4 Im.zobj;have EQ:=Hd (hNew (w:=w4) (o:=Im.zobj) rfl);obtain ⟨E1,E2,E3,X⟩:Hid _/\Hid _/\Hid _/\Hid _:=⟨Hd (XA.box E1.out),Hd (XA.box E2.out),Hd (XA.box E3.out),Hd (Ext.trans X.out XA)⟩;obtain ⟨R4,S4⟩:Hid _/\Hid _:=⟨Hd (R4.out.keep XA),Hd (S4.out.keep XA)⟩;clear XA
 (go_wp2_with (with_reducible refine za8 27 ?_);refine za3 (w4.heap.size) (Im.cs A4 cs.length c4 B4 ss.length d4) rfl rfl (EQ.out) (by kernel_rfl) rfl (by simp [Value.oneCell']) ?_)
 intro w5 e5 k5;have hlt5:=bx_lt EQ.out;obtain ⟨E1,E2,E3,X⟩:Hid _/\Hid _/\Hid _/\Hid _:=⟨Hd (zap E1.out k5 (by omega)),Hd (zap E2.out k5 (by omega)),Hd (zap E3.out k5 (by omega)),Hd (zaf X.out k5 (fun k hk=>by rw [Mi] at hk;omega))⟩
 obtain ⟨R4,S4⟩:Hid _/\Hid _:=⟨Hd (R4.out.boxed Cel.enc_len EQ.out (by decide) k5),Hd (S4.out.boxed Sea.enc_len EQ.out (by decide) k5)⟩
 have E6:=Hd e5;have hs5:=bx_lt e5;clear e5 k5 EQ
 (go_wp2_with (with_reducible refine za5 20 ?_);refine za6 (E1.out) rfl Tryz.underlying27 (by kernel_rfl) ?_;simp only [Act.put,Sa,Sz,Ss])
 have d2:=za2 E2.out;have z2:=bx_lt E2.out;go_wp2_with fail
 have hca:=c_sCellAt cA cc cs sA sc ss e.key w5 (HC.out.keep X.out) (HS.out.keep X.out) HOk.out;rw [HHd.out] at hca;refine hca.mono ?_;rintro e9 w6 ⟨rfl,x⟩;obtain ⟨E1,E2,E3,X,E6,R4,S4⟩:Hid _/\Hid _/\Hid _/\Hid _/\Hid _/\Hid _/\Hid _:=⟨Hd (x.box E1.out),Hd (x.box E2.out),Hd (x.box E3.out),Hd (Ext.trans X.out x),Hd (x.box E6.out),Hd (R4.out.keep x),Hd (S4.out.keep x)⟩;have hz_w6:=x.size;clear x;clear hca d2 z2;have d1:=za2 E1.out;have z1:=bx_lt E1.out;have d2:=za2 E2.out;have z2:=bx_lt E2.out;cases k1:(e.kind == 1)
 ·cases k4:(e.kind == 4)
  ·cases k3:(e.kind == 3)
   ·have HNv:=Hd (show newV cs e.kind e.key e.value=e.value by unfold newV;rw [k3];rfl)
    cases g7:decide (1000000000 < e.value)
    ·cases g8:decide (hd < 0)
     ·have HFull:=Hd (show fullB cs e.kind e.key e.value=false from by
       unfold fullB;rw [HNv.out,HHd.out]
       rw [g7,g8];rfl)
      go_wp2_with fail
      refine (zd5 cA cc cs e.key (e.value) false w6 (HC.out.keep X.out) (by omega)).mono ?_
      rintro e9 w8 ⟨A5,c5,rfl,o5,x⟩;obtain ⟨E1,E2,E3,X,E6,S4⟩:Hid _/\Hid _/\Hid _/\Hid _/\Hid _/\Hid _:=⟨Hd (x.box E1.out),Hd (x.box E2.out),Hd (x.box E3.out),Hd (Ext.trans X.out x),Hd (x.box E6.out),Hd (S4.out.keep x)⟩;have hz_w8:=x.size;clear x d1 z1 d2 z2;have R5:=Hd ((Ow.rdF Cel.enc_len o5).less (B':=w.heap.size+1+1+1) (by omega))
      clear o5;have b6:=za2 E6.out;have g6:=zad E6.out;have z6:=bx_lt E6.out;obtain ⟨L5,hL5⟩:∃ L,refC e.key (e.value) cs false=L:=⟨_,rfl⟩;rw [hL5] at R5;have HL5:=Hd hL5;rw [hL5];clear hL5;have P6:=zar E6.out 0 (.slice A5 L5.length c5);simp only [Sa,Sz,Ss] at P6;have c6:=zaq (Chg.refl w8 [w4.heap.size]) (p:=⟨w4.heap.size,0,none⟩) (by simp) (.slice A5 L5.length c5)
      have HP:=Hd P6;have HE3:=Hd (zap E3.out c6 (by omega))
      have HX6:=Hd (zaf X.out c6 (fun k hk=>by rw [Mi] at hk;omega))
      have HR6:=Hd (R5.out.boxed Cel.enc_len E6.out (by decide) c6)
      have HS6:=Hd (S4.out.boxed Sea.enc_len E6.out (by decide) c6)
      clear P6 c6 R5 E1 E2 E3 E6 X S4;go_wp2_with (with_reducible refine za5 68 ?_)
      refine zb2 (F:=fun W=>W.heap[w4.heap.size]?=some (Im.obj A5 L5.length c5 B4 ss.length d4)/\W.heap[w.heap.size+1+1]?=some Im.zobj/\RdF Cel.enc 162 2 W (w.heap.size+1+1+1) A5 c5 L5/\RdF Sea.enc 111 3 W (w.heap.size+1+1+1) B4 d4 ss/\Ext w W) ⟨HP.out,HE3.out,HR6.out,HS6.out,HX6.out⟩ ?_
      intro W8 ⟨q1,q2,q3,q4,q5⟩;have E6:=Hd q1;have E3:=Hd q2;have R5:=Hd q3;have S4:=Hd q4;have X:=Hd q5;have d1:=za2 q1;have z1:=bx_lt q1;have d2:=za2 q2;have z2:=bx_lt q2;clear q1 q2 q3 q4 q5 HP HE3 HR6 HS6 HX6 b6 g6 z6
      have HRun:=Hd (show runCs cs e.kind e.key e.value=L5/\runA cs e.kind e.key e.value=e.value from by
       unfold runCs runA
       rw [k1,k4,HFull.out,HNv.out,<-HL5.out,refC_put HAs.out];simp)
      (go_wp2_with (with_reducible refine za5 68 ?_);refine za6 (E6.out) rfl Tryz.underlying27 (by kernel_rfl) ?_;simp only [Act.put,Sa,Sz,Ss])
      (go_wp2_with (with_reducible refine za8 27 ?_);refine za3 ((w.heap.size+1+1)) (Im.cs A5 L5.length c5 B4 ss.length d4) rfl rfl (E3.out) (by kernel_rfl) rfl (by simp [Value.oneCell']) ?_)
      intro W9 e8 k9;have HE9:=Hd e8;have HX9:=Hd (zac X.out k9 (by omega))
      have HR9:=Hd (R5.out.boxed Cel.enc_len E3.out (by decide) k9)
      have HS9:=Hd (S4.out.boxed Sea.enc_len E3.out (by decide) k9)
      clear e8 k9 d1 z1 d2 z2;go_wp2
      exact bodyPost_ret (zaj Tryz.results117 rfl rfl Tryz.underlying27 (by kernel_rfl) HE9.out) rfl ⟨⟨A5,c5,B4,d4,by rw [HRun.out.1,HRun.out.2];rfl,by rw [HRun.out.1];exact HR9.out.less (by omega),HS9.out.less (by omega)⟩,HX9.out⟩
     ·cases g9:((cs.length:Int) == 40)
      ·have HFull:=Hd (show fullB cs e.kind e.key e.value=false from by
        unfold fullB;rw [HNv.out,HHd.out]
        rw [g7,show (cs.length == 40)=false by simp at g9 ⊢;omega];simp)
       go_wp2_with fail
       refine (zd5 cA cc cs e.key (e.value) false w6 (HC.out.keep X.out) (by omega)).mono ?_
       rintro e9 w8 ⟨A5,c5,rfl,o5,x⟩;obtain ⟨E1,E2,E3,X,E6,S4⟩:Hid _/\Hid _/\Hid _/\Hid _/\Hid _/\Hid _:=⟨Hd (x.box E1.out),Hd (x.box E2.out),Hd (x.box E3.out),Hd (Ext.trans X.out x),Hd (x.box E6.out),Hd (S4.out.keep x)⟩;have hz_w8:=x.size;clear x d1 z1 d2 z2;have R5:=Hd ((Ow.rdF Cel.enc_len o5).less (B':=w.heap.size+1+1+1) (by omega))
       clear o5;have b6:=za2 E6.out;have g6:=zad E6.out;have z6:=bx_lt E6.out;obtain ⟨L5,hL5⟩:∃ L,refC e.key (e.value) cs false=L:=⟨_,rfl⟩;rw [hL5] at R5;have HL5:=Hd hL5;rw [hL5];clear hL5;have P6:=zar E6.out 0 (.slice A5 L5.length c5);simp only [Sa,Sz,Ss] at P6;have c6:=zaq (Chg.refl w8 [w4.heap.size]) (p:=⟨w4.heap.size,0,none⟩) (by simp) (.slice A5 L5.length c5)
       have HP:=Hd P6;have HE3:=Hd (zap E3.out c6 (by omega))
       have HX6:=Hd (zaf X.out c6 (fun k hk=>by rw [Mi] at hk;omega))
       have HR6:=Hd (R5.out.boxed Cel.enc_len E6.out (by decide) c6)
       have HS6:=Hd (S4.out.boxed Sea.enc_len E6.out (by decide) c6)
       clear P6 c6 R5 E1 E2 E3 E6 X S4;go_wp2_with (with_reducible refine za5 68 ?_)
       refine zb2 (F:=fun W=>W.heap[w4.heap.size]?=some (Im.obj A5 L5.length c5 B4 ss.length d4)/\W.heap[w.heap.size+1+1]?=some Im.zobj/\RdF Cel.enc 162 2 W (w.heap.size+1+1+1) A5 c5 L5/\RdF Sea.enc 111 3 W (w.heap.size+1+1+1) B4 d4 ss/\Ext w W) ⟨HP.out,HE3.out,HR6.out,HS6.out,HX6.out⟩ ?_
       intro W8 ⟨q1,q2,q3,q4,q5⟩;have E6:=Hd q1;have E3:=Hd q2;have R5:=Hd q3;have S4:=Hd q4;have X:=Hd q5;have d1:=za2 q1;have z1:=bx_lt q1;have d2:=za2 q2;have z2:=bx_lt q2;clear q1 q2 q3 q4 q5 HP HE3 HR6 HS6 HX6 b6 g6 z6
       have HRun:=Hd (show runCs cs e.kind e.key e.value=L5/\runA cs e.kind e.key e.value=e.value from by
        unfold runCs runA
        rw [k1,k4,HFull.out,HNv.out,<-HL5.out,refC_put HAs.out];simp)
       (go_wp2_with (with_reducible refine za5 68 ?_);refine za6 (E6.out) rfl Tryz.underlying27 (by kernel_rfl) ?_;simp only [Act.put,Sa,Sz,Ss])
       (go_wp2_with (with_reducible refine za8 27 ?_);refine za3 ((w.heap.size+1+1)) (Im.cs A5 L5.length c5 B4 ss.length d4) rfl rfl (E3.out) (by kernel_rfl) rfl (by simp [Value.oneCell']) ?_)
       intro W9 e8 k9;have HE9:=Hd e8;have HX9:=Hd (zac X.out k9 (by omega))
       have HR9:=Hd (R5.out.boxed Cel.enc_len E3.out (by decide) k9)
       have HS9:=Hd (S4.out.boxed Sea.enc_len E3.out (by decide) k9)
       clear e8 k9 d1 z1 d2 z2;go_wp2
       exact bodyPost_ret (zaj Tryz.results117 rfl rfl Tryz.underlying27 (by kernel_rfl) HE9.out) rfl ⟨⟨A5,c5,B4,d4,by rw [HRun.out.1,HRun.out.2];rfl,by rw [HRun.out.1];exact HR9.out.less (by omega),HS9.out.less (by omega)⟩,HX9.out⟩
      ·have HFull:=Hd (show fullB cs e.kind e.key e.value=true from by
        unfold fullB;rw [HNv.out,HHd.out]
        rw [g8,show (cs.length == 40)=true by simp at g9 ⊢;omega];rfl)
       have HRun:=Hd (show runCs cs e.kind e.key e.value=cs/\runA cs e.kind e.key e.value=(-1) from by
        unfold runCs runA
        rw [k1,k4,HFull.out];simp)
       (go_wp2_with (with_reducible refine za5 60 ?_);refine za6 (E6.out) rfl Tryz.underlying27 (by kernel_rfl) ?_;simp only [Act.put,Sa,Sz,Ss])
       (go_wp2_with (with_reducible refine za8 27 ?_);refine za3 ((w.heap.size+1+1)) (Im.cs A4 cs.length c4 B4 ss.length d4) rfl rfl (E3.out) (by kernel_rfl) rfl (by simp [Value.oneCell']) ?_)
       intro W9 e8 k9;have HE9:=Hd e8;have HX9:=Hd (zac X.out k9 (by omega))
       have HR9:=Hd (R4.out.boxed Cel.enc_len E3.out (by decide) k9)
       have HS9:=Hd (S4.out.boxed Sea.enc_len E3.out (by decide) k9)
       clear e8 k9 d1 z1 d2 z2;go_wp2
       exact bodyPost_ret (zaj Tryz.results117 rfl rfl Tryz.underlying27 (by kernel_rfl) HE9.out) rfl ⟨⟨A4,c4,B4,d4,by rw [HRun.out.1,HRun.out.2];rfl,by rw [HRun.out.1];exact HR9.out.less (by omega),HS9.out.less (by omega)⟩,HX9.out⟩
    ·have HFull:=Hd (show fullB cs e.kind e.key e.value=true from by
      unfold fullB;rw [HNv.out,HHd.out]
      rw [g7];simp)
     have HRun:=Hd (show runCs cs e.kind e.key e.value=cs/\runA cs e.kind e.key e.value=(-1) from by
      unfold runCs runA
      rw [k1,k4,HFull.out];simp)
     (go_wp2_with (with_reducible refine za5 60 ?_);refine za6 (E6.out) rfl Tryz.underlying27 (by kernel_rfl) ?_;simp only [Act.put,Sa,Sz,Ss])
     (go_wp2_with (with_reducible refine za8 27 ?_);refine za3 ((w.heap.size+1+1)) (Im.cs A4 cs.length c4 B4 ss.length d4) rfl rfl (E3.out) (by kernel_rfl) rfl (by simp [Value.oneCell']) ?_)
     intro W9 e8 k9;have HE9:=Hd e8;have HX9:=Hd (zac X.out k9 (by omega))
     have HR9:=Hd (R4.out.boxed Cel.enc_len E3.out (by decide) k9)
     have HS9:=Hd (S4.out.boxed Sea.enc_len E3.out (by decide) k9)
     clear e8 k9 d1 z1 d2 z2;go_wp2
     exact bodyPost_ret (zaj Tryz.results117 rfl rfl Tryz.underlying27 (by kernel_rfl) HE9.out) rfl ⟨⟨A4,c4,B4,d4,by rw [HRun.out.1,HRun.out.2];rfl,by rw [HRun.out.1];exact HR9.out.less (by omega),HS9.out.less (by omega)⟩,HX9.out⟩
   ·go_wp2_with fail
    refine (c_max0 hd 0 w6).mono ?_;rintro e9 w7 ⟨rfl,x⟩;obtain ⟨E1,E2,E3,X,E6,R4,S4⟩:Hid _/\Hid _/\Hid _/\Hid _/\Hid _/\Hid _/\Hid _:=⟨Hd (x.box E1.out),Hd (x.box E2.out),Hd (x.box E3.out),Hd (Ext.trans X.out x),Hd (x.box E6.out),Hd (R4.out.keep x),Hd (S4.out.keep x)⟩;have hz_w7:=x.size;clear x;clear d1 z1 d2 z2;have d1:=za2 E1.out;have z1:=bx_lt E1.out;have d2:=za2 E2.out;have z2:=bx_lt E2.out;have hnb:0<=e.value+max hd 0/\e.value+max hd 0<=2000000000:=by omega
    have HNv:=Hd (show newV cs e.kind e.key e.value=e.value+max hd 0 by unfold newV;rw [k3,HHd.out];rfl)
    cases g7:decide (1000000000 < e.value+max hd 0)
    ·cases g8:decide (hd < 0)
     ·have HFull:=Hd (show fullB cs e.kind e.key e.value=false from by
       unfold fullB;rw [HNv.out,HHd.out]
       rw [g7,g8];rfl)
      go_wp2_with fail
      refine (zd5 cA cc cs e.key (e.value+max hd 0) false w7 (HC.out.keep X.out) (by omega)).mono ?_
      rintro e9 w8 ⟨A5,c5,rfl,o5,x⟩;obtain ⟨E1,E2,E3,X,E6,S4⟩:Hid _/\Hid _/\Hid _/\Hid _/\Hid _/\Hid _:=⟨Hd (x.box E1.out),Hd (x.box E2.out),Hd (x.box E3.out),Hd (Ext.trans X.out x),Hd (x.box E6.out),Hd (S4.out.keep x)⟩;have hz_w8:=x.size;clear x d1 z1 d2 z2;have R5:=Hd ((Ow.rdF Cel.enc_len o5).less (B':=w.heap.size+1+1+1) (by omega))
      clear o5;have b6:=za2 E6.out;have g6:=zad E6.out;have z6:=bx_lt E6.out;obtain ⟨L5,hL5⟩:∃ L,refC e.key (e.value+max hd 0) cs false=L:=⟨_,rfl⟩;rw [hL5] at R5;have HL5:=Hd hL5;rw [hL5];clear hL5;have P6:=zar E6.out 0 (.slice A5 L5.length c5);simp only [Sa,Sz,Ss] at P6;have c6:=zaq (Chg.refl w8 [w4.heap.size]) (p:=⟨w4.heap.size,0,none⟩) (by simp) (.slice A5 L5.length c5)
      have HP:=Hd P6;have HE3:=Hd (zap E3.out c6 (by omega))
      have HX6:=Hd (zaf X.out c6 (fun k hk=>by rw [Mi] at hk;omega))
      have HR6:=Hd (R5.out.boxed Cel.enc_len E6.out (by decide) c6)
      have HS6:=Hd (S4.out.boxed Sea.enc_len E6.out (by decide) c6)
      clear P6 c6 R5 E1 E2 E3 E6 X S4;go_wp2_with (with_reducible refine za5 68 ?_)
      refine zb2 (F:=fun W=>W.heap[w4.heap.size]?=some (Im.obj A5 L5.length c5 B4 ss.length d4)/\W.heap[w.heap.size+1+1]?=some Im.zobj/\RdF Cel.enc 162 2 W (w.heap.size+1+1+1) A5 c5 L5/\RdF Sea.enc 111 3 W (w.heap.size+1+1+1) B4 d4 ss/\Ext w W) ⟨HP.out,HE3.out,HR6.out,HS6.out,HX6.out⟩ ?_
      intro W8 ⟨q1,q2,q3,q4,q5⟩;have E6:=Hd q1;have E3:=Hd q2;have R5:=Hd q3;have S4:=Hd q4;have X:=Hd q5;have d1:=za2 q1;have z1:=bx_lt q1;have d2:=za2 q2;have z2:=bx_lt q2;clear q1 q2 q3 q4 q5 HP HE3 HR6 HS6 HX6 b6 g6 z6
      have HRun:=Hd (show runCs cs e.kind e.key e.value=L5/\runA cs e.kind e.key e.value=e.value+max hd 0 from by
       unfold runCs runA
       rw [k1,k4,HFull.out,HNv.out,<-HL5.out,refC_put HAs.out];simp)
      (go_wp2_with (with_reducible refine za5 68 ?_);refine za6 (E6.out) rfl Tryz.underlying27 (by kernel_rfl) ?_;simp only [Act.put,Sa,Sz,Ss])
      (go_wp2_with (with_reducible refine za8 27 ?_);refine za3 ((w.heap.size+1+1)) (Im.cs A5 L5.length c5 B4 ss.length d4) rfl rfl (E3.out) (by kernel_rfl) rfl (by simp [Value.oneCell']) ?_)
      intro W9 e8 k9;have HE9:=Hd e8;have HX9:=Hd (zac X.out k9 (by omega))
      have HR9:=Hd (R5.out.boxed Cel.enc_len E3.out (by decide) k9)
      have HS9:=Hd (S4.out.boxed Sea.enc_len E3.out (by decide) k9)
      clear e8 k9 d1 z1 d2 z2;go_wp2
      exact bodyPost_ret (zaj Tryz.results117 rfl rfl Tryz.underlying27 (by kernel_rfl) HE9.out) rfl ⟨⟨A5,c5,B4,d4,by rw [HRun.out.1,HRun.out.2];rfl,by rw [HRun.out.1];exact HR9.out.less (by omega),HS9.out.less (by omega)⟩,HX9.out⟩
     ·cases g9:((cs.length:Int) == 40)
      ·have HFull:=Hd (show fullB cs e.kind e.key e.value=false from by
        unfold fullB;rw [HNv.out,HHd.out]
        rw [g7,show (cs.length == 40)=false by simp at g9 ⊢;omega];simp)
       go_wp2_with fail
       refine (zd5 cA cc cs e.key (e.value+max hd 0) false w7 (HC.out.keep X.out) (by omega)).mono ?_
       rintro e9 w8 ⟨A5,c5,rfl,o5,x⟩;obtain ⟨E1,E2,E3,X,E6,S4⟩:Hid _/\Hid _/\Hid _/\Hid _/\Hid _/\Hid _:=⟨Hd (x.box E1.out),Hd (x.box E2.out),Hd (x.box E3.out),Hd (Ext.trans X.out x),Hd (x.box E6.out),Hd (S4.out.keep x)⟩;have hz_w8:=x.size;clear x d1 z1 d2 z2;have R5:=Hd ((Ow.rdF Cel.enc_len o5).less (B':=w.heap.size+1+1+1) (by omega))
       clear o5;have b6:=za2 E6.out;have g6:=zad E6.out;have z6:=bx_lt E6.out;obtain ⟨L5,hL5⟩:∃ L,refC e.key (e.value+max hd 0) cs false=L:=⟨_,rfl⟩;rw [hL5] at R5;have HL5:=Hd hL5;rw [hL5];clear hL5;have P6:=zar E6.out 0 (.slice A5 L5.length c5);simp only [Sa,Sz,Ss] at P6;have c6:=zaq (Chg.refl w8 [w4.heap.size]) (p:=⟨w4.heap.size,0,none⟩) (by simp) (.slice A5 L5.length c5)
       have HP:=Hd P6;have HE3:=Hd (zap E3.out c6 (by omega))
       have HX6:=Hd (zaf X.out c6 (fun k hk=>by rw [Mi] at hk;omega))
       have HR6:=Hd (R5.out.boxed Cel.enc_len E6.out (by decide) c6)
       have HS6:=Hd (S4.out.boxed Sea.enc_len E6.out (by decide) c6)
       clear P6 c6 R5 E1 E2 E3 E6 X S4;go_wp2_with (with_reducible refine za5 68 ?_)
       refine zb2 (F:=fun W=>W.heap[w4.heap.size]?=some (Im.obj A5 L5.length c5 B4 ss.length d4)/\W.heap[w.heap.size+1+1]?=some Im.zobj/\RdF Cel.enc 162 2 W (w.heap.size+1+1+1) A5 c5 L5/\RdF Sea.enc 111 3 W (w.heap.size+1+1+1) B4 d4 ss/\Ext w W) ⟨HP.out,HE3.out,HR6.out,HS6.out,HX6.out⟩ ?_
       intro W8 ⟨q1,q2,q3,q4,q5⟩;have E6:=Hd q1;have E3:=Hd q2;have R5:=Hd q3;have S4:=Hd q4;have X:=Hd q5;have d1:=za2 q1;have z1:=bx_lt q1;have d2:=za2 q2;have z2:=bx_lt q2;clear q1 q2 q3 q4 q5 HP HE3 HR6 HS6 HX6 b6 g6 z6
       have HRun:=Hd (show runCs cs e.kind e.key e.value=L5/\runA cs e.kind e.key e.value=e.value+max hd 0 from by
        unfold runCs runA
        rw [k1,k4,HFull.out,HNv.out,<-HL5.out,refC_put HAs.out];simp)
       (go_wp2_with (with_reducible refine za5 68 ?_);refine za6 (E6.out) rfl Tryz.underlying27 (by kernel_rfl) ?_;simp only [Act.put,Sa,Sz,Ss])
       (go_wp2_with (with_reducible refine za8 27 ?_);refine za3 ((w.heap.size+1+1)) (Im.cs A5 L5.length c5 B4 ss.length d4) rfl rfl (E3.out) (by kernel_rfl) rfl (by simp [Value.oneCell']) ?_)
       intro W9 e8 k9;have HE9:=Hd e8;have HX9:=Hd (zac X.out k9 (by omega))
       have HR9:=Hd (R5.out.boxed Cel.enc_len E3.out (by decide) k9)
       have HS9:=Hd (S4.out.boxed Sea.enc_len E3.out (by decide) k9)
       clear e8 k9 d1 z1 d2 z2;go_wp2
       exact bodyPost_ret (zaj Tryz.results117 rfl rfl Tryz.underlying27 (by kernel_rfl) HE9.out) rfl ⟨⟨A5,c5,B4,d4,by rw [HRun.out.1,HRun.out.2];rfl,by rw [HRun.out.1];exact HR9.out.less (by omega),HS9.out.less (by omega)⟩,HX9.out⟩
      ·have HFull:=Hd (show fullB cs e.kind e.key e.value=true from by
        unfold fullB;rw [HNv.out,HHd.out]
        rw [g8,show (cs.length == 40)=true by simp at g9 ⊢;omega];rfl)
       have HRun:=Hd (show runCs cs e.kind e.key e.value=cs/\runA cs e.kind e.key e.value=(-1) from by
        unfold runCs runA
        rw [k1,k4,HFull.out];simp)
       (go_wp2_with (with_reducible refine za5 60 ?_);refine za6 (E6.out) rfl Tryz.underlying27 (by kernel_rfl) ?_;simp only [Act.put,Sa,Sz,Ss])
       (go_wp2_with (with_reducible refine za8 27 ?_);refine za3 ((w.heap.size+1+1)) (Im.cs A4 cs.length c4 B4 ss.length d4) rfl rfl (E3.out) (by kernel_rfl) rfl (by simp [Value.oneCell']) ?_)
       intro W9 e8 k9;have HE9:=Hd e8;have HX9:=Hd (zac X.out k9 (by omega))
       have HR9:=Hd (R4.out.boxed Cel.enc_len E3.out (by decide) k9)
       have HS9:=Hd (S4.out.boxed Sea.enc_len E3.out (by decide) k9)
       clear e8 k9 d1 z1 d2 z2;go_wp2
       exact bodyPost_ret (zaj Tryz.results117 rfl rfl Tryz.underlying27 (by kernel_rfl) HE9.out) rfl ⟨⟨A4,c4,B4,d4,by rw [HRun.out.1,HRun.out.2];rfl,by rw [HRun.out.1];exact HR9.out.less (by omega),HS9.out.less (by omega)⟩,HX9.out⟩
    ·have HFull:=Hd (show fullB cs e.kind e.key e.value=true from by
      unfold fullB;rw [HNv.out,HHd.out]
      rw [g7];simp)
     have HRun:=Hd (show runCs cs e.kind e.key e.value=cs/\runA cs e.kind e.key e.value=(-1) from by
      unfold runCs runA
      rw [k1,k4,HFull.out];simp)
     (go_wp2_with (with_reducible refine za5 60 ?_);refine za6 (E6.out) rfl Tryz.underlying27 (by kernel_rfl) ?_;simp only [Act.put,Sa,Sz,Ss])
     (go_wp2_with (with_reducible refine za8 27 ?_);refine za3 ((w.heap.size+1+1)) (Im.cs A4 cs.length c4 B4 ss.length d4) rfl rfl (E3.out) (by kernel_rfl) rfl (by simp [Value.oneCell']) ?_)
     intro W9 e8 k9;have HE9:=Hd e8;have HX9:=Hd (zac X.out k9 (by omega))
     have HR9:=Hd (R4.out.boxed Cel.enc_len E3.out (by decide) k9)
     have HS9:=Hd (S4.out.boxed Sea.enc_len E3.out (by decide) k9)
     clear e8 k9 d1 z1 d2 z2;go_wp2
     exact bodyPost_ret (zaj Tryz.results117 rfl rfl Tryz.underlying27 (by kernel_rfl) HE9.out) rfl ⟨⟨A4,c4,B4,d4,by rw [HRun.out.1,HRun.out.2];rfl,by rw [HRun.out.1];exact HR9.out.less (by omega),HS9.out.less (by omega)⟩,HX9.out⟩
  ·go_wp2_with fail
   refine (zd5 cA cc cs e.key 0 true w6 (HC.out.keep X.out) (by omega)).mono ?_
   rintro e9 w7 ⟨A5,c5,rfl,o5,x⟩;obtain ⟨E1,E2,E3,X,E6,S4⟩:Hid _/\Hid _/\Hid _/\Hid _/\Hid _/\Hid _:=⟨Hd (x.box E1.out),Hd (x.box E2.out),Hd (x.box E3.out),Hd (Ext.trans X.out x),Hd (x.box E6.out),Hd (S4.out.keep x)⟩;have hz_w7:=x.size;clear x d1 z1 d2 z2;have R5:=Hd ((Ow.rdF Cel.enc_len o5).less (B':=w.heap.size+1+1+1) (by omega))
   clear o5;have b6:=za2 E6.out;have g6:=zad E6.out;have z6:=bx_lt E6.out;obtain ⟨L5,hL5⟩:∃ L,refC e.key 0 cs true=L:=⟨_,rfl⟩;rw [hL5] at R5;have HL5:=Hd hL5;rw [hL5];clear hL5;have P6:=zar E6.out 0 (.slice A5 L5.length c5);simp only [Sa,Sz,Ss] at P6;have c6:=zaq (Chg.refl w7 [w4.heap.size]) (p:=⟨w4.heap.size,0,none⟩) (by simp) (.slice A5 L5.length c5)
   have HP:=Hd P6;have HE3:=Hd (zap E3.out c6 (by omega))
   have HX6:=Hd (zaf X.out c6 (fun k hk=>by rw [Mi] at hk;omega))
   have HR6:=Hd (R5.out.boxed Cel.enc_len E6.out (by decide) c6)
   have HS6:=Hd (S4.out.boxed Sea.enc_len E6.out (by decide) c6)
   clear P6 c6 R5 E1 E2 E3 E6 X S4;go_wp2_with (with_reducible refine za5 40 ?_)
   refine zb2 (F:=fun W=>W.heap[w4.heap.size]?=some (Im.obj A5 L5.length c5 B4 ss.length d4)/\W.heap[w.heap.size+1+1]?=some Im.zobj/\RdF Cel.enc 162 2 W (w.heap.size+1+1+1) A5 c5 L5/\RdF Sea.enc 111 3 W (w.heap.size+1+1+1) B4 d4 ss/\Ext w W) ⟨HP.out,HE3.out,HR6.out,HS6.out,HX6.out⟩ ?_
   intro W8 ⟨q1,q2,q3,q4,q5⟩;have E6:=Hd q1;have E3:=Hd q2;have R5:=Hd q3;have S4:=Hd q4;have X:=Hd q5;have d1:=za2 q1;have z1:=bx_lt q1;have d2:=za2 q2;have z2:=bx_lt q2;clear q1 q2 q3 q4 q5 HP HE3 HR6 HS6 HX6 b6 g6 z6
   have HRun:=Hd (show runCs cs e.kind e.key e.value=L5/\runA cs e.kind e.key e.value=hd from by
    unfold runCs runA
    rw [k1,k4,HHd.out,<-HL5.out,refC_del HAs.out];simp)
   (go_wp2_with (with_reducible refine za5 40 ?_);refine za6 (E6.out) rfl Tryz.underlying27 (by kernel_rfl) ?_;simp only [Act.put,Sa,Sz,Ss])
   (go_wp2_with (with_reducible refine za8 27 ?_);refine za3 ((w.heap.size+1+1)) (Im.cs A5 L5.length c5 B4 ss.length d4) rfl rfl (E3.out) (by kernel_rfl) rfl (by simp [Value.oneCell']) ?_)
   intro W9 e8 k9;have HE9:=Hd e8;have HX9:=Hd (zac X.out k9 (by omega))
   have HR9:=Hd (R5.out.boxed Cel.enc_len E3.out (by decide) k9)
   have HS9:=Hd (S4.out.boxed Sea.enc_len E3.out (by decide) k9)
   clear e8 k9 d1 z1 d2 z2;go_wp2
   exact bodyPost_ret (zaj Tryz.results117 rfl rfl Tryz.underlying27 (by kernel_rfl) HE9.out) rfl ⟨⟨A5,c5,B4,d4,by rw [HRun.out.1,HRun.out.2];rfl,by rw [HRun.out.1];exact HR9.out.less (by omega),HS9.out.less (by omega)⟩,HX9.out⟩
 ·have HRun:=Hd (show runCs cs e.kind e.key e.value=cs/\runA cs e.kind e.key e.value=hd from by
   unfold runCs runA
   rw [k1,HHd.out];simp)
  (go_wp2_with (with_reducible refine za5 30 ?_);refine za6 (E6.out) rfl Tryz.underlying27 (by kernel_rfl) ?_;simp only [Act.put,Sa,Sz,Ss])
  (go_wp2_with (with_reducible refine za8 27 ?_);refine za3 ((w.heap.size+1+1)) (Im.cs A4 cs.length c4 B4 ss.length d4) rfl rfl (E3.out) (by kernel_rfl) rfl (by simp [Value.oneCell']) ?_)
  intro W9 e8 k9;have HE9:=Hd e8;have HX9:=Hd (zac X.out k9 (by omega))
  have HR9:=Hd (R4.out.boxed Cel.enc_len E3.out (by decide) k9)
  have HS9:=Hd (S4.out.boxed Sea.enc_len E3.out (by decide) k9)
  clear e8 k9 d1 z1 d2 z2;go_wp2
  exact bodyPost_ret (zaj Tryz.results117 rfl rfl Tryz.underlying27 (by kernel_rfl) HE9.out) rfl ⟨⟨A4,c4,B4,d4,by rw [HRun.out.1,HRun.out.2];rfl,by rw [HRun.out.1];exact HR9.out.less (by omega),HS9.out.less (by omega)⟩,HX9.out⟩
end Go.Proofs.YtckfjploafhenaaGreat
