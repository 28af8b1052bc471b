/- RunAll and LogImage of the reference. -/
import Derived.Test.YtckfjploafhenaaGreatPk42
import Derived.Test.YtckfjploafhenaaGreatPk26
set_option maxRecDepth 100000
set_option maxHeartbeats 16000000
set_option linter.unusedVariables false
set_option linter.unusedSimpArgs false
namespace Go.Proofs.YtckfjploafhenaaGreat
open Go.ChangeShapes Go.WideShapes Go.ChangeAt Go.RowKit Go.Sort
abbrev Int.enc1 (x:Int):List Value:=[.int .i64 x]
theorem Int.enc1_len (x:Int):(Int.enc1 x).length=1:=rfl
theorem Int.enc1_one (x:Int):∀ u∈Int.enc1 x,u.oneCell'=true:=by intro u hu;simp at hu;subst hu;rfl
theorem Tryz.infoInt:(Tryz.prog.info? 3).map (fun i=>(i.zero,i.size,i.bytes))=some (some (.int .i64 0),1,8):=by kernel_rfl
theorem ze6 {w w':World} {S:List Nat} {P:Nat} {o:Obj} (h:w.heap[P]?=some o) (hg:Chg w w' S) (hn:P∉S):w'.heap[P]?=some o:=(hg.block P (bx_lt h) hn).trans h
theorem row_at {α:Type} {enc:α->List Value} {sz:Nat} {w:World} {A:Option Addr} {c:Nat} {l:List α} (h:Rd enc sz w A c l) {k:Nat} (hk:k < l.length):∃ ab ao,A=some ⟨ab,ao,none⟩/\∀ W,Ext w W->∀ j u,(enc l[k])[j]?=some u->W.cell? ⟨ab,ao+k * sz+j,none⟩=some u:=by
 obtain ⟨b,o,e,hb,hc⟩:=h.2.2 (by omega)
 exact ⟨b,o,e,fun W hW j u hu=>(Below.cell hW (p:=⟨b,o+k * sz+j,none⟩) hb).trans (hc k hk j u hu)⟩
def EntV (B:Nat) (m:Img) (e:Ent) (v:Value) (W:World):Prop:=∃ A c A' c',v = .tuple #[Im.val A (entI m e).1.length c A' (entI m e).2.length c', .int .i64 (entA m e), .int .i64 (zb9 m e)]/\RdF Cel.enc 162 2 W B A c (entI m e).1/\RdF Sea.enc 111 3 W B A' c' (entI m e).2
theorem EntV.mono (b B:Nat) (m:Img) (e:Ent):Rm.Mono (relE b) (EntV B m e):=fun v w w' ⟨A,c,A',c',h,h1,h2⟩ hx=>⟨A,c,A',c',h,h1.keep hx,h2.keep hx⟩
theorem EntV.inv {B:Nat} {m:Img} {e:Ent} {A A':Option Addr} {n c n' c':Nat} {x y:Int} {W:World} (h:EntV B m e (.tuple #[Im.val A n c A' n' c', .int .i64 x, .int .i64 y]) W):RdF Cel.enc 162 2 W B A c (entI m e).1/\RdF Sea.enc 111 3 W B A' c' (entI m e).2:=by
 obtain ⟨A2,c2,A3,c3,he,h1,h2⟩:=h;simp only [Value.tuple.injEq,Value.agg.injEq,Array.mk.injEq,List.cons.injEq,Value.slice.injEq,true_and,and_true] at he;obtain ⟨⟨⟨rfl,rfl,rfl⟩,rfl,rfl,rfl⟩,_⟩:=he;exact ⟨h1,h2⟩
theorem code_ok (m:Img) (e:Ent):(zb9 m e != 1)=true:=by
 unfold zb9;split
 ·rfl
 ·split <;> rfl
theorem c_sRunAll (cA:Option Addr) (cc:Nat) (cs:List Cel) (sA:Option Addr) (sc:Nat) (ss:List Sea) (eA:Option Addr) (ec:Nat) (l:List Ent) (w:World) (hc:Rd Cel.enc 2 w cA cc cs) (hs:Rd Sea.enc 3 w sA sc ss) (hl:Rd Ent.enc 5 w eA ec l) (h60:l.length<=60) (hok:ImgP (cs,ss)) (he:∀ e∈l,e.ok=true) :
  Calls Tryz.prog 115 #[Im.val cA cs.length cc sA ss.length sc, .slice eA l.length ec] w fun e9 w'=>(∃ A c A' c' Z n z,e9 = .returned (.tuple #[Im.val A (allI (cs,ss) l).1.length c A' (allI (cs,ss) l).2.length c', .slice Z n z]) /\
   RdF Cel.enc 162 2 w' w.heap.size A c (allI (cs,ss) l).1/\RdF Sea.enc 111 3 w' w.heap.size A' c' (allI (cs,ss) l).2)/\Ext w w':=by
 obtain ⟨i0,hi,hz0,hz1,hz2⟩:=info_parts Tryz.infoInt;have hcl:cs.length<=40:=hok.c.len;have hsl:ss.length<=10:=hok.s.len;obtain ⟨w1,hw1⟩:∃ w1,(((w.alloc (Im.obj cA cs.length cc sA ss.length sc)).alloc Im.zobj).alloc (.cells #[] 3))=w1:=⟨_,rfl⟩;have X0:Ext w w1:=by rw [<-hw1];exact za9 (za9 (za1 _ _) _) _
 have E1:=Hd (show w1.heap[w.heap.size]?=some (Im.obj cA cs.length cc sA ss.length sc) by rw [<-hw1];exact hOld (o := .cells #[] 3) (hOld (o:=Im.zobj) (hNew (w:=w) (o:=Im.obj cA cs.length cc sA ss.length sc) rfl)))
 have E4:=Hd (show w1.heap[w.heap.size+1]?=some Im.zobj by rw [<-hw1];exact hOld (o := .cells #[] 3) (hNew (w:=w.alloc (Im.obj cA cs.length cc sA ss.length sc)) (o:=Im.zobj) (k:=w.heap.size+1) (by simp)))
 have E3:=Hd (show w1.heap[w.heap.size+1+1]?=some (.cells #[] 3) by rw [<-hw1];exact hNew (w:=(w.alloc (Im.obj cA cs.length cc sA ss.length sc)).alloc Im.zobj) (o := .cells #[] 3) (k:=w.heap.size+1+1) (by simp))
 have HC:=Hd hc;have HS:=Hd hs;have HEn:=Hd hl;have X:=Hd X0;have HOk:=Hd hok;have HAll:=Hd he;have hz1_:=bx_lt E3.out;have HW0:=Hd hw1;clear hc hs hl hok he hw1 X0;have g60:decide ((60:Int) < (l.length:Int))=false:=by simp;omega
 go_enter Tryz.func115,Tryz.ntmps115
 go_wp2_with (with_reducible refine za5 13 ?_)
 refine zb2 (F:=fun W=>W=w1) HW0.out ?_
 intro W1 hW1;subst hW1;clear HW0;have HO:=Hd (show Ow Int.enc1 3 1 W1 (w.heap.size+1+1) (.slice (some ⟨w.heap.size+1+1,0,none⟩) 0 0) [] from zd3 E3.out (by omega))
 (go_wp2_with (with_reducible refine za5 13 ?_);refine za6 (E1.out) rfl Tryz.underlying27 (by kernel_rfl) ?_;simp only [Act.put,Sa,Sz,Ss])
 go_wp2_with fail
 refine (zck cA cc cs sA sc ss W1 (HC.out.keep X.out) (HS.out.keep X.out) (by omega) (by omega)).mono ?_
 rintro e9 w4 ⟨v4,rfl,⟨A4,c4,B4,d4,rfl,r4,s4⟩,x⟩;obtain ⟨E4,X⟩:Hid _/\Hid _:=⟨Hd (x.box E4.out),Hd (Ext.trans X.out x)⟩;have HO:=Hd (HO.out.kept x);have hz_w4:=x.size;have R4:=Hd (r4.less (B':=w.heap.size+1+1) (by omega))
 have S4:=Hd (s4.less (B':=w.heap.size+1+1) (by omega))
 clear x r4 s4 E1 E3;have XA:=za1 w4 Im.zobj;have EQ:=Hd (hNew (w:=w4) (o:=Im.zobj) rfl);obtain ⟨E4,X,R4,S4,HO⟩:Hid _/\Hid _/\Hid _/\Hid _/\Hid _:=⟨Hd (XA.box E4.out),Hd (Ext.trans X.out XA),Hd (R4.out.keep XA),Hd (S4.out.keep XA),Hd (HO.out.kept XA)⟩;clear XA
 (go_wp2_with (with_reducible refine za8 27 ?_);refine za3 (w4.heap.size) (Im.cs A4 cs.length c4 B4 ss.length d4) rfl rfl (EQ.out) (by kernel_rfl) rfl (by simp [Value.oneCell']) ?_)
 intro w5 e5 k5;have hlt5:=bx_lt EQ.out;obtain ⟨E4,X⟩:Hid _/\Hid _:=⟨Hd (zap E4.out k5 (by omega)),Hd (zaf X.out k5 (fun k hk=>by rw [Mi] at hk;omega))⟩
 obtain ⟨R4,S4⟩:Hid _/\Hid _:=⟨Hd (R4.out.boxed Cel.enc_len EQ.out (by decide) k5),Hd (S4.out.boxed Sea.enc_len EQ.out (by decide) k5)⟩
 have HO:=Hd (HO.out.chg k5 (fun k hk hm=>by rw [Mi] at hm;subst hm;exact zam EQ.out HO.out (by decide) hk))
 have E7:=Hd e5;have hs5:=bx_lt e5;clear e5 k5 EQ;go_wp2
 go_loopw [6,8] (fun v i wr=>∃ (k:Nat) (os:List Int) (A:Option Addr) (c:Nat) (A':Option Addr) (c':Nat),k<=l.length/\i = .int .i64 k/\Hid (wr.heap[w4.heap.size]?=some (Im.obj A (allI (cs,ss) (l.take k)).1.length c A' (allI (cs,ss) (l.take k)).2.length c'))/\Hid (RdF Cel.enc 162 2 wr (w.heap.size+1+1) A c (allI (cs,ss) (l.take k)).1)/\Hid (RdF Sea.enc 111 3 wr (w.heap.size+1+1) A' c' (allI (cs,ss) (l.take k)).2)/\Hid (wr.heap[w.heap.size+1]?=some Im.zobj)/\os.length=k/\Ow Int.enc1 3 1 wr (w.heap.size+1+1) v os/\Hid (Ext w wr)) (fun _ i _=>l.length - (intOf i).toNat)
 case atStart=>exact ⟨0,[],A4,c4,B4,d4,Nat.zero_le _,rfl,E7,R4,S4,E4,rfl,HO.out,X⟩
 case round =>
  obtain ⟨k,os,A,c,B,d,hk,rfl,E7,R7,S7,E4,hol,ho,X⟩:=hrel;have hob:os.length<=60:=by omega
  have HOl:=Hd hol;clear hol;obtain ⟨A1,c1,rfl⟩:=ho.form;have HO:=Hd ho;have hszr:=X.out.size;have hlt7:=bx_lt E7.out;clear ho;by_cases hlt:k < l.length
  ·obtain ⟨mc,ms,hm⟩:∃ mc ms,allI (cs,ss) (l.take k)=(mc,ms):=⟨_,_,rfl⟩;have HIm:=Hd (show ImgP (mc,ms) by rw [<-hm];exact HOk.out.all (fun e he=>HAll.out e (List.mem_of_mem_take he)))
   have HNx:=Hd (show allI (cs,ss) (l.take (k+1))=entI (mc,ms) l[k] by rw [<-hm];exact allI_next _ hlt)
   have HEo:=Hd (HAll.out _ (List.getElem_mem hlt));rw [hm] at E7 R7 S7;obtain ⟨E7,R7,S7⟩:Hid (wr.heap[w4.heap.size]?=some (Im.obj A mc.length c B ms.length d))/\Hid (RdF Cel.enc 162 2 wr (w.heap.size+1+1) A c mc)/\Hid (RdF Sea.enc 111 3 wr (w.heap.size+1+1) B d ms):=⟨E7,R7,S7⟩;clear hm;have hEk:=row_at (HEn.out.keep X.out) hlt;obtain ⟨ab,ao,hA,hrow⟩:=hEk;subst hA;have HRow:=Hd hrow;clear hrow;go_wp2
   have HW7:=Hd (fun W' (h:(relE wr.heap.size).rel wr W')=>zaw (cs:=Im.cs A mc.length c B ms.length d) (Ext.box h E7.out) [] [] rfl rfl)
   have HWE:=Hd (show ∀ W',(relE wr.heap.size).rel wr W'->∀ j u,(#[Value.int .i64 l[k].client, .int .i64 l[k].req, .int .i64 l[k].kind, .int .i64 l[k].key, .int .i64 l[k].value]:Array Value).toList[j]?=some u->W'.cell? ⟨ab,ao+k * 5+j,none⟩=some u from fun W' h=>HRow.out W' h)
   have HCall:=Hd (show ∀ W',Ext wr W'->Calls Tryz.prog 69 #[Im.val A mc.length c B ms.length d,Ent.val l[k]] W' fun e9 w'=>∃ v,e9 = .returned v/\EntV (w.heap.size+1+1) (mc,ms) l[k] v w'/\Ext W' w' from fun W' hW'=>(c_sRunEntry A c mc B d ms l[k] W' (R7.out.1.keep hW') (S7.out.1.keep hW') HIm.out HEo.out).mono fun e9 w' ⟨⟨A2,c2,B2,d2,h1,h2,h3⟩,hx⟩=>⟨_,h1,⟨A2,c2,B2,d2,rfl,h2.less (by have:=hW'.size;omega),h3.less (by have:=hW'.size;omega)⟩,hx⟩)
   (refine mrg (relE wr.heap.size) (fun _ _ _=>True) 11 ?_;simp only [Tc,Tz,Dc,Dz])
   (refine mla (HW7.out) Tryz.underlying27 ?_;simp only [Act.put,Sa,Sz,Ss])
   (iterate 3 (refine mpl ?_;go_big_quiet_step (fail);refine mnil ?_))
   (refine mla (HWE.out) Tryz.underlying104 ?_;simp only [Act.put,Sa,Sz,Ss])
   refine mcl Tryz.func69 (EntV (w.heap.size+1+1) (mc,ms) l[k]) (EntV.mono _ _ _ _) (fun W' hW'=>HCall.out W' hW') (fun v6 hv6=>?_)
   obtain ⟨_,_,A2,c2,B2,d2,rfl,_⟩:=hv6;simp only [Act.put,Sa,Sz,Ss]
   (iterate 4 (refine mpl ?_;go_big_quiet_step (fail);refine mnil ?_))
   (refine Rm.wpMix_alloc (Im.zobj) rfl (fun W=>by kernel_rfl) ?_;intro p9 hp9 hps9 hpi9;simp only [zen,Act.put,Sa,Sz,Ss])
   refine Rm.wpMix_nil ?_;rintro w2 ⟨⟨hW,hv2⟩,z2⟩;have x:Ext wr w2:=hW;have hv3:=hv2.inv;obtain ⟨m2,hm2⟩:∃ m2,entI (mc,ms) l[k]=m2:=⟨_,rfl⟩;have HM2:=Hd hm2;obtain ⟨an,han⟩:∃ a,entA (mc,ms) l[k]=a:=⟨_,rfl⟩;obtain ⟨co,hco⟩:∃ a,zb9 (mc,ms) l[k]=a:=⟨_,rfl⟩;have gco:(co != 1)=true:=by rw [<-hco];exact code_ok _ _
   rw [hm2] at hv3;rw [hm2,han,hco];have R2:=Hd hv3.1;have S2:=Hd hv3.2;have Z2:=Hd z2;obtain ⟨E7,E4,X,HO⟩:Hid _/\Hid _/\Hid _/\Hid _:=⟨Hd (x.box E7.out),Hd (x.box E4.out),Hd (Ext.trans X.out x),Hd (HO.out.kept x)⟩;have hsz2:=x.size;have hlt9:=bx_lt z2;clear hW hv2 hv3 z2 x hm2 han hco R7 S7 HW7 HWE HRow hps9 hpi9
   (go_wp2_with (with_reducible refine za8 27 ?_);refine za3 (p9) (Im.cs A2 m2.1.length c2 B2 m2.2.length d2) rfl rfl (Z2.out) (by kernel_rfl) rfl (by simp [Value.oneCell']) ?_)
   intro w3 e3 k3;have hp9':wr.heap.size<=p9:=hp9;obtain ⟨E7,E4,X⟩:Hid _/\Hid _/\Hid _:=⟨Hd (zap E7.out k3 (by omega)),Hd (zap E4.out k3 (by omega)),Hd (zaf X.out k3 (fun k hk=>by rw [Mi] at hk;omega))⟩
   obtain ⟨R2,S2⟩:Hid _/\Hid _:=⟨Hd (R2.out.boxed Cel.enc_len Z2.out (by decide) k3),Hd (S2.out.boxed Sea.enc_len Z2.out (by decide) k3)⟩
   have HO:=Hd (HO.out.chg k3 (fun k hk hm=>by rw [Mi] at hm;subst hm;exact zam Z2.out HO.out (by decide) hk))
   have E9:=Hd e3;have hsz3:=k3.size;clear e3 k3 Z2;go_wp2_with (at_builtin;refine zcn (enc:=Int.enc1) rfl _ _ 121 rfl (w.heap.size+1+1) 3 i0 (.int .i64 0) 1 8 Tryz.underlying121 hi hz0 hz1 hz2 rfl (by decide) Int.enc1_len Int.enc1_one (.slice A1 os.length c1) os rfl (HO.out.kept (za1 _ _)) (some ⟨w3.heap.size,0,none⟩) 1 [an] 1 rfl rfl (Rd.one (hNew rfl) rfl) ?c1 ?c2 ?c3 ?_)
   case c1=>unfold maxLen;simp;omega
   case c2=>simp;omega
   case c3=>simp;omega
   intro v' w6 ho7 hg7;obtain ⟨A8,c8,rfl⟩:=ho7.form;have hch:=zaz hg7;have x3:=za1 w3 (.cells #[.int .i64 an] 3);have hH3:=HO.out.kept x3;obtain ⟨E7,E4,E9,X⟩:Hid _/\Hid _/\Hid _/\Hid _:=⟨Hd (ze6 (x3.box E7.out) hch (zam (x3.box E7.out) hH3 (by decide))),Hd (ze6 (x3.box E4.out) hch (zam (x3.box E4.out) hH3 (by decide))),Hd (ze6 (x3.box E9.out) hch (zam (x3.box E9.out) hH3 (by decide))),Hd (zaf (Ext.trans X.out x3) hch (fun g hg=>by have:=(hH3.inB g hg).1;omega))⟩
   obtain ⟨R2,S2⟩:Hid _/\Hid _:=⟨Hd ((R2.out.keep x3).chg Cel.enc_len hch (fun hl x hx=>((R2.out.keep x3).2 hl).apart hH3 (by decide) x hx)),Hd ((S2.out.keep x3).chg Sea.enc_len hch (fun hl x hx=>((S2.out.keep x3).2 hl).apart hH3 (by decide) x hx))⟩
   have HO2:=Hd ho7;have hsz6:=hch.size;simp only [zag] at hsz6;clear ho7 hg7 hch x3 hH3
   (go_wp2_with (with_reducible refine za5 42 ?_);refine za6 (E9.out) rfl Tryz.underlying27 (by kernel_rfl) ?_;simp only [Act.put,Sa,Sz,Ss])
   (go_wp2_with (with_reducible refine za8 27 ?_);refine za3 (w4.heap.size) (Im.cs A2 m2.1.length c2 B2 m2.2.length d2) rfl rfl (E7.out) (by kernel_rfl) rfl (by simp [Value.oneCell']) ?_)
   intro w8 e8 k8;have HE7:=Hd e8;have HE4:=Hd (zap E4.out k8 (by omega))
   have HX8:=Hd (zaf X.out k8 (fun k hk=>by rw [Mi] at hk;omega))
   have HR8:=Hd (R2.out.boxed Cel.enc_len E7.out (by decide) k8)
   have HS8:=Hd (S2.out.boxed Sea.enc_len E7.out (by decide) k8)
   have HO8:=Hd (HO2.out.chg k8 (fun k hk hm=>by rw [Mi] at hm;subst hm;exact zam E7.out HO2.out (by decide) hk))
   clear e8 k8;have HNx2:=Hd (HNx.out.trans HM2.out);go_wp2
   go_roundw
   case rel=>exact ⟨k+1,os++[an],A2,c2,B2,d2,by omega,by go_num,Hd (by rw [HNx2.out];exact HE7.out),Hd (by rw [HNx2.out];exact HR8.out),Hd (by rw [HNx2.out];exact HS8.out),HE4,by have:=HOl.out;simp;omega,by first | exact HO8.out | (have h:=HO8.out;rw [List.length_append] at h;exact h),HX8⟩
   case measure=>simp [intOf] <;> omega
  ·obtain rfl:k=l.length:=by omega
   have HTk:=Hd (show l.take l.length=l from List.take_length)
   rw [HTk.out] at E7 R7 S7
   (go_wp2_with (with_reducible refine za5 43 ?_);refine za6 (E7.out) rfl Tryz.underlying27 (by kernel_rfl) ?_;simp only [Act.put,Sa,Sz,Ss])
   (go_wp2_with (with_reducible refine za8 27 ?_);refine za3 ((w.heap.size+1)) (Im.cs A (allI (cs,ss) l).1.length c B (allI (cs,ss) l).2.length d) rfl rfl (E4.out) (by kernel_rfl) rfl (by simp [Value.oneCell']) ?_)
   intro W9 e8 k9;have HE9:=Hd e8;have HX9:=Hd (zac X.out k9 (by omega))
   have HR9:=Hd (R7.out.boxed Cel.enc_len E4.out (by decide) k9)
   have HS9:=Hd (S7.out.boxed Sea.enc_len E4.out (by decide) k9)
   clear e8 k9;go_wp2
   exact bodyPost_ret (zaj Tryz.results115 rfl rfl Tryz.underlying27 (by kernel_rfl) HE9.out) rfl ⟨⟨A,c,B,d,_,_,_,rfl,HR9.out.less (by omega),HS9.out.less (by omega)⟩,HX9.out⟩
end Go.Proofs.YtckfjploafhenaaGreat
