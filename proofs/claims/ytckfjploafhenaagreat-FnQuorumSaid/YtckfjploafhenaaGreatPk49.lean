/- The replies to what becomes committed (reference). -/
import Derived.Test.YtckfjploafhenaaGreatPk47
import Derived.Test.YtckfjploafhenaaGreatPk32
import Derived.Test.YtckfjploafhenaaGreatPk45
import Derived.Test.YtckfjploafhenaaGreatPk46
set_option maxRecDepth 100000
set_option maxHeartbeats 16000000
set_option linter.unusedVariables false
set_option linter.unusedSimpArgs false
namespace Go.Proofs.YtckfjploafhenaaGreat
open Go.ChangeShapes Go.WideShapes Go.ChangeAt Go.RowKit Go.Sort
theorem zc6 (a:LAd) (A:Option Addr) (n c:Nat) (r:Rp) (w:World) (hr:LgR w a r.log) (j0 n0:Nat) (T:Int) (hT:r.log.base+j0+n0=T) (hok:logOk r.log=true) (hjn:j0+n0<=r.log.ents.length) :
  Calls Tryz.prog 29 #[Rp.val a A n c r, .int .i64 (r.log.base+j0), .int .i64 T] w fun e w'=>(∃ A' c' os,e = .returned (.slice A' (List.length os) c')/\List.map Prod.snd os=ansO r.view r.log j0 n0/\OsK w' w.heap.size A' c' os)/\Ext w w':=by
 obtain ⟨i0,hi,hz0,hz1,hz2⟩:=info_parts Tryz.infoOt;obtain ⟨hb0,hb1,h60,hIm,hAll⟩:=log_b hok;obtain ⟨S0,hS0⟩:∃ S0,r.log.base+(j0:Int)=S0:=⟨_,rfl⟩;have HS0:=Hd hS0;have hT2:S0+n0=T:=by omega
 have hS0b:0<=S0/\S0<=1000000000:=by omega
 rw [hS0];have X0:=za1 w (Rp.obj a A n c r);have D0:=Hd (hNew (w:=w) (o:=Rp.obj a A n c r) rfl);have HR:=Hd hr;have HX0:=Hd X0;have HOk:=Hd hok;have HIm:=Hd hIm;have HAll:=Hd hAll;clear hr hok hT hS0 hIm hAll X0
 go_enter Tryz.func29,Tryz.ntmps29
 go_wp2
 go_loopw [7,8] (fun v i wr=>∃ (k:Nat) (os:List OtE) (A1:Option Addr) (c1:Nat),k<=n0/\i = .int .i64 (S0+k+1)/\v = .slice A1 os.length c1/\Hid (List.map Prod.snd os=ansO r.view r.log j0 k)/\Hid (OsK wr (w.heap.size+1) A1 c1 os)/\Hid (Ext (w.alloc (Rp.obj a A n c r)) wr)) (fun _ i _=>(T+1 - intOf i).toNat)
 case atStart=>exact ⟨0,[],_,0,Nat.zero_le _,by go_num,rfl,Hd rfl,Hd ⟨zd3 (hNew (by simp)) (by simp),fun p hp=>(List.not_mem_nil hp).elim⟩,Hd (za1 _ _)⟩
 case round =>
  obtain ⟨k,os,A1,c1,hkn,rfl,rfl,HO,HK,HX⟩:=hrel
  have hl':os.length<=k:=by
   have h1:=congrArg List.length HO.out;rw [List.length_map] at h1
   have:=zi5 r.view r.log j0 k
   omega
  have hszr:=HX.out.size;simp only [zag] at hszr;obtain ⟨N,hN⟩:∃ N,S0+(k:Int)+1=N:=⟨_,rfl⟩;rw [hN];by_cases hlt:k < n0
  ·have g0:decide (N<=T)=true:=by simp;omega
   have hNb:0 < N/\N<=1000000000:=by have:=HS0.out;omega
   have hjk:j0+k < r.log.ents.length:=by omega
   have hN1:r.log.base+((j0+k:Nat):Int)+1=N:=by have:=HS0.out;omega
   have hN2:r.log.base+((j0+k:Nat):Int)=N - 1:=by omega
   obtain ⟨e,he⟩:∃ e,r.log.ents[j0+k]=e:=⟨_,rfl⟩;obtain ⟨m,hm⟩:∃ m,allI (r.log.cells,r.log.seats) (r.log.ents.take (j0+k))=m:=⟨_,rfl⟩
   have HLA:=Hd (show ∀ W,Ext wr W->Calls Tryz.prog 68 #[Lg.val a r.log, .int .i64 N] W fun e9 w'=>e9 = .returned (.tuple #[e.val, .bool true])/\Ext W w' from fun W hW=>by
    have h5:=c_sLogAt a r.log (j0+k) W (HR.out.keep (Ext.trans HX0.out (Ext.trans HX.out hW))) HOk.out hjk;rw [hN1,he] at h5
    exact h5)
   have HLI:=Hd (show ∀ W,Ext wr W->Calls Tryz.prog 67 #[Lg.val a r.log, .int .i64 (N - 1)] W fun e9 w'=>(∃ A c A' c',e9 = .returned (.tuple #[Im.val A m.1.length c A' m.2.length c', .bool true])/\RdF Cel.enc 162 2 w' W.heap.size A c m.1/\RdF Sea.enc 111 3 w' W.heap.size A' c' m.2)/\Ext W w' from fun W hW=>by
    have h5:=c_sLogImage a r.log (j0+k) W (HR.out.keep (Ext.trans HX0.out (Ext.trans HX.out hW))) HOk.out (by omega)
    rw [hN2,hm] at h5
    exact h5)
   have HMP:=Hd (show ImgP (m.1,m.2) by rw [<-hm];exact ImgP.all HIm.out (fun e he=>HAll.out e (List.mem_of_mem_take he)))
   have HEk:=Hd (show e.ok=true by rw [<-he];exact HAll.out _ (List.getElem_mem hjk))
   have HRy:=Hd (show repB m e=true->List.map Prod.snd os++[⟨-1,repM r.view e (entA m e)⟩]=ansO r.view r.log j0 (k+1) from fun h=>by rw [zh5,repO_yes hjk hm (by rw [he];exact h),HO.out,he])
   have HRn:=Hd (show repB m e=false->List.map Prod.snd os=ansO r.view r.log j0 (k+1) from fun h=>by rw [zh5,repO_no hjk hm (by rw [he];exact h),HO.out];simp)
   have hec:=ent_b HEk.out;clear hm he hN1 hN2;have HB:=Hd (HX.out.box D0.out);have hd0:=bx_lt HB.out
   (go_wp2_with (with_reducible refine za5 28 ?_);refine zb3 (rp_log HB.out (za4 _)) rfl Tryz.underlying30 (by kernel_rfl) ?_;simp only [Act.put,Sa,Sz,Ss])
   go_wp2_with fail
   refine (HLI.out _ (za4 _)).mono ?_;rintro e9 w4 ⟨⟨A4,c4,B4,d4,rfl,r4,s4⟩,x4⟩;have X4:=Hd x4;have HM4:=Hd (hNew (w:=w4) (o:=Im.zobj) rfl);have XA:=za1 w4 Im.zobj;have hz4:=x4.size;have R4:=Hd (r4.keep XA);have S4:=Hd (s4.keep XA);clear r4 s4 x4 HLI
   (go_wp2_with (with_reducible refine za8 27 ?_);refine za3 (w4.heap.size) (Im.cs A4 m.1.length c4 B4 m.2.length d4) rfl rfl (HM4.out) (by kernel_rfl) rfl (by simp [Value.oneCell']) ?_)
   intro w5 e5 k5;have X5:=Hd (Ext.trans X4.out (zac XA k5 (Nat.le_refl _)));have M5:=Hd e5;have RC5:=Hd (R4.out.boxed Cel.enc_len HM4.out (by decide) k5).1
   have RS5:=Hd (S4.out.boxed Sea.enc_len HM4.out (by decide) k5).1
   have hz5:=bx_lt e5;have B5:=Hd (X5.out.box HB.out);clear e5 k5 XA HM4 R4 S4 X4
   (go_wp2_with (with_reducible refine za5 36 ?_);refine zb3 (rp_log B5.out (za4 _)) rfl Tryz.underlying30 (by kernel_rfl) ?_;simp only [Act.put,Sa,Sz,Ss])
   go_wp2_with fail
   refine (HLA.out _ X5.out).mono ?_;rintro e9 v6 ⟨rfl,x6⟩;have HE6:=Hd (hNew (w:=v6) (o:=Ent.zbox) rfl);have XA:=Ext.trans x6 (za1 v6 Ent.zbox);have hz6:=x6.size;clear x6 HLA B5
   (go_wp2_with (with_reducible refine za8 104 ?_);refine za3 (v6.heap.size) #[.int .i64 e.client, .int .i64 e.req, .int .i64 e.kind, .int .i64 e.key, .int .i64 e.value] rfl rfl (HE6.out) (by kernel_rfl) rfl (by simp [Value.oneCell']) ?_)
   intro v7 e7 k7;have Y7:=zac XA k7 (by omega)
   have X7:=Hd (Ext.trans X5.out Y7);have E7:=Hd e7;have M7:=Hd (Y7.box M5.out);have RC7:=Hd (RC5.out.keep Y7);have RS7:=Hd (RS5.out.keep Y7);have hz7:=Y7.size;clear e7 k7 XA HE6 Y7 X5 M5 RC5 RS5;go_wp2_with (with_reducible refine za5 44 ?_)
   refine za6 (M7.out) rfl Tryz.underlying27 (by kernel_rfl) ?_
   simp only [Act.put,Sa,Sz,Ss]
   (go_wp2_with (with_reducible refine za5 45 ?_);refine za6 (E7.out) rfl Tryz.underlying104 (by kernel_rfl) ?_;simp only [Act.put,Sa,Sz,Ss])
   go_wp2_with fail
   refine (c_sRunEntry A4 c4 m.1 B4 d4 m.2 e v7 RC7.out RS7.out HMP.out HEk.out).mono ?_;rintro e9 w6 ⟨⟨A6,c6,B6,d6,rfl,r6,s6⟩,x6⟩;have HM6:=Hd (hNew (w:=w6) (o:=Im.zobj) rfl);have XA:=za1 w6 Im.zobj;have X6:=Hd (Ext.trans x6 XA);have hz6':=x6.size;clear r6 s6 x6
   (go_wp2_with (with_reducible refine za8 27 ?_);refine za3 (w6.heap.size) (Im.cs A6 (entI (m.1,m.2) e).1.length c6 B6 (entI (m.1,m.2) e).2.length d6) rfl rfl (HM6.out) (by kernel_rfl) rfl (by simp [Value.oneCell']) ?_)
   intro w7 e7 k7;have Y7:=zac X6.out k7 (by omega)
   have X8:=Hd (Ext.trans X7.out Y7);have E8:=Hd (Y7.box E7.out);have M8:=Hd (Y7.box M7.out);have RC8:=Hd (RC7.out.keep Y7);have RS8:=Hd (RS7.out.keep Y7);have hz8:=Y7.size;clear e7 k7 XA HM6 X6 Y7 X7 E7 M7 RC7 RS7
   (go_wp2_with (with_reducible refine za5 51 ?_);refine za6 (M8.out) rfl Tryz.underlying27 (by kernel_rfl) ?_;simp only [Act.put,Sa,Sz,Ss])
   have d7:=za2 E8.out;have z7:=bx_lt E8.out;go_wp2_with fail
   refine (c_sSeatOf A4 c4 m.1 B4 d4 m.2 e.client w7 RC8.out RS8.out HMP.out).mono ?_;rintro e9 w8 ⟨⟨x,rfl,hx⟩,x8⟩;have HXs:=Hd hx;have HS8:=Hd (hNew (w:=w8) (o:=Sea.zobj) rfl);have XA:=za1 w8 Sea.zobj;have XS:=Hd (Ext.trans x8 XA);have hz9:=x8.size;clear x8 hx d7 z7
   (go_wp2_with (with_reducible refine za8 111 ?_);refine za3 (w8.heap.size) #[.int .i64 x.client, .int .i64 x.req, .int .i64 x.answer] rfl rfl (HS8.out) (by kernel_rfl) rfl (by simp [Value.oneCell']) ?_)
   intro w9 e9 k9;have Y9:=zac XS.out k9 (by omega)
   have X9:=Hd (Ext.trans X8.out Y9);have E9:=Hd (Y9.box E8.out);have S9:=Hd e9;have B9:=Hd (X9.out.box HB.out);have K9:=Hd (HK.out.keep X9.out);have HX9:=Hd (Ext.trans HX.out X9.out);have hz10:=Y9.size;have hs9:=bx_lt e9;clear e9 k9 XA HS8 XS Y9 X8 E8 M8 RC8 RS8 HK HB;have d9:=za2 E9.out;have z9:=bx_lt E9.out;have s9:=za2 S9.out;have k9:=za2 B9.out;have y9:=bx_lt B9.out;obtain ⟨cd,hcd⟩:∃ cd,zb9 (m.1,m.2) e=cd:=⟨_,rfl⟩;obtain ⟨ax,hax⟩:∃ ax,entA (m.1,m.2) e=ax:=⟨_,rfl⟩;obtain ⟨hs,hhs⟩:∃ hs,hasS m.2 e.client=hs:=⟨_,rfl⟩;have HCd:=Hd (show cd=0\/cd=3\/(cd=2/\hs=true) by rw [<-hcd,<-hhs];exact code_cases (m.1,m.2) e)
   have HRB:=Hd (show repB m e=((cd == 0) || ((cd == 3) || ((cd == 2) && ((zcd m.2 e.client).req == e.req)))) by rw [<-hcd];rfl)
   have HAx:=Hd (show entA m e=ax from hax)
   have HXs2:=Hd (show hs=true->x=zcd m.2 e.client from fun h=>HXs.out (hhs.trans h))
   rw [hcd,hax,hhs];clear hcd hax hhs HXs;cases gr:repB m e
   ·have HN':=Hd (HRn.out gr);have g1:=HRB.out;rw [gr] at g1
    have hnot:cd=2/\hs=true/\(x.req == e.req)=false:=by
     rcases HCd.out with h | h | ⟨h,hs'⟩
     ·rw [h] at g1;simp at g1
     ·rw [h] at g1;simp at g1
     ·refine ⟨h,hs', ?_⟩;rw [HXs2.out hs'];rw [h] at g1;simpa using g1.symm
    obtain ⟨rfl,rfl,hxe⟩:=hnot;clear g1 gr HRB;go_wp2
    go_roundw
    case rel=>exact ⟨k+1,os,A1,c1,by omega,by go_num,rfl,HN',K9,HX9⟩
    case measure=>simp [intOf] <;> omega
   ·have HN':=Hd (HRy.out gr);have g1:=HRB.out;rw [gr] at g1
    have hyes:cd=0\/cd=3\/cd=2/\hs=true/\(x.req == e.req)=true:=by
     rcases HCd.out with h | h | ⟨h,hs'⟩
     ·exact .inl h
     ·exact .inr (.inl h)
     ·refine .inr (.inr ⟨h,hs', ?_⟩);rw [HXs2.out hs'];rw [h] at g1;simpa using g1.symm
    clear g1 gr HRB;rcases hyes with rfl | rfl | ⟨rfl,rfl,hxe⟩
    all_goals
     go_wp2_with (at_builtin;refine zcn (enc:=OtE.enc) rfl _ _ 40 rfl (w.heap.size+1) 47 i0 Ot.zero 18 192 Tryz.underlying40 hi hz0 hz1 hz2 rfl (by decide) OtE.len OtE.one (.slice A1 os.length c1) os rfl (K9.out.row.kept (za1 _ _)) (some ⟨w9.heap.size,0,none⟩) 1 [(LAd.none,(⟨-1,repM r.view e ax⟩:Ot))] 1 rfl rfl (Rd.one (hNew rfl) rfl) ?c1 ?c2 ?c3 ?_)
     case c1=>unfold maxLen;simp;omega
     case c2=>(try simp) <;> omega
     case c3=>(try simp) <;> omega
     intro v' w10 ho10 hg10;obtain ⟨A10,c10,rfl⟩:=ho10.form;have c4:=zaz hg10;have X10:=Hd (zaf (za9 HX9.out (.cells (OtE.cells LAd.none ⟨-1,repM r.view e ax⟩) 47)) c4 (fun g hg=>by have:=(K9.out.row.inB g hg).1;simp only [zag];omega))
     have K10:=Hd (show OsK w10 (w.heap.size+1) A10 c10 (os++[(LAd.none,(⟨-1,repM r.view e ax⟩:Ot))]) from ⟨ho10,fun p hp=>by
      rcases List.mem_append.1 hp with hp | hp
      ·exact ((K9.out.logs p hp).keep (za1 _ (.cells (OtE.cells LAd.none ⟨-1,repM r.view e ax⟩) 47))).besideO (K9.out.row.kept (za1 _ _)) c4
      ·rw [Mi] at hp;subst hp
       exact LgF.zero _ _⟩)
     have HN2:=Hd (show List.map Prod.snd (os++[(LAd.none,(⟨-1,repM r.view e ax⟩:Ot))])=ansO r.view r.log j0 (k+1) by rw [<-HN'.out,List.map_append,HAx.out];rfl)
     clear ho10 hg10 c4 d9 z9 s9 k9 y9;go_wp2
     go_roundw
     case rel=>exact ⟨k+1,_,A10,c10,by omega,by go_num,rfl,HN2,K10,X10⟩
     case measure=>simp [intOf] <;> omega
  ·obtain rfl:k=n0:=by omega
   have g0:decide (N<=T)=false:=by simp;omega
   go_wp2
   go_ret
   exact ⟨⟨A1,c1,os,rfl,HO.out,HK.out.less (by omega)⟩,Ext.trans HX0.out HX.out⟩
def VzV {α:Type} (enc:α->List Value) (e:TypeId) (sz B:Nat) (l:List α) (v:Value) (w:World):Prop:=∃ A c,v = .slice A l.length c/\((0 < l.length/\Ow enc e sz w B (.slice A l.length c) l)\/(l=[]/\c=0/\∃ p,A=some ⟨p,0,none⟩))
theorem VzV.inv {α:Type} {enc:α->List Value} {e:TypeId} {sz B:Nat} {l:List α} {A:Option Addr} {n c:Nat} {w:World} (h:VzV enc e sz B l (.slice A n c) w):n=l.length/\((0 < l.length/\Ow enc e sz w B (.slice A l.length c) l)\/(l=[]/\c=0/\∃ p,A=some ⟨p,0,none⟩)):=by
 obtain ⟨A',c',he,hk⟩:=h;simp only [Value.slice.injEq] at he;obtain ⟨rfl,rfl,rfl⟩:=he;exact ⟨rfl,hk⟩
theorem run_appz {P:Program} {α:Type} {enc:α->List Value} {w:World} (p:Nat) (t ty e:TypeId) (i:TypeInfo) (z:Value) (size bytes:Nat) (ht:P.underlying t=some (.slice e)) (hi:P.info? e=some i) (hz:i.zero=some z)
  (hsize:i.size=size) (hby:i.bytes=bytes) (hzs:z.cells.size=size) (hsz:0 < size) (hlen:∀ x,(enc x).length=size) {A:Option Addr} {c:Nat} {l:List α} (hr:Rd enc size w A c l)
  (h63:l.length<=maxLen) (hbytes:l.length * bytes<=140737488355328) (b0:Nat) (hb0:b0<=w.heap.size) :
  ∃ v' w',(Builtin.append_ #[t,t] ty #[.slice (some ⟨p,0,none⟩) 0 0, .slice A l.length c]).run P w = .ok v' w'/\VzV enc e size b0 l v' w'/\Ext w w':=by
 by_cases h0:l.length=0
 ·obtain rfl:l=[]:=List.eq_nil_of_length_eq_zero h0;refine ⟨.slice (some ⟨p,0,none⟩) 0 0,w, ?_,⟨some ⟨p,0,none⟩,0,rfl, .inr ⟨rfl,rfl,p,rfl⟩⟩,za4 _⟩;cases A <;> simp [Builtin.append_,run_underlying ht,sizeOf,typeInfo,hi,Builtin.lenOf,Builtin.firstCells,loadCells,loadCellsFrom,storeCells]
 ·obtain ⟨v',w',h1,⟨A',c',h2,h3,h4⟩,h5⟩:=run_app0 (P:=P) (w:=w) p t ty e i z size bytes ht hi hz hsize hby hzs hsz hlen hr h63 hbytes b0 hb0;exact ⟨v',w',h1,⟨A',c',h2, .inl ⟨by omega,h4 (by have:=h3.1;omega)⟩⟩,h5⟩
theorem rm_appz {P:Program} {ops:Array Oper} {w:World} {b:Nat} {B:Rm.Bnd} {L:(World->Prop)->Act->Prop} {o:Oper} {rest:List Oper} {C:World->Prop} {ps:List Nat} {a:Act} {α:Type} {enc:α->List Value} (s x:Operand) (t:TypeId)
  (ho:o.op = .call { callee := .builtin .append,args:=#[s,x],argTypes:=#[t,t] }) (hgd:o.guard=none) (e:TypeId) (i:TypeInfo) (z:Value) (size bytes:Nat) (ht:P.underlying t=some (.slice e)) (hi:P.info? e=some i) (hz:i.zero=some z)
  (hsize:i.size=size) (hby:i.bytes=bytes) (hzs:z.cells.size=size) (hsz:0 < size) (hlen:∀ x,(enc x).length=size) (p:Nat) (hs:a.eval s = .slice (some ⟨p,0,none⟩) 0 0) (A:Option Addr) (n c:Nat) (l:List α) (hn:n=l.length) (hx:a.eval x = .slice A n c)
  (b0:Nat) (hb0:b0<=w.heap.size) (hr:∀ W,Ext w W->Rd enc size W A c l) (hΦ:B.2 o.dst=VzV enc e size b0 l) (h63:l.length<=maxLen) (hbytes:l.length * bytes<=140737488355328)
  (h:∀ A' c',Rm.Mx (relE b) P ops ((relE b).rel w) B L rest (fun W=>C W/\VzV enc e size b0 l (.slice A' l.length c') W) ps (a.put o.dst (.slice A' l.length c'))):Rm.Mx (relE b) P ops ((relE b).rel w) B L (o::rest) C ps a:=by
 subst hn;refine Rm.wpMix_app (by unfold zat;rw [ho]) (by show Rm.isApp0 _=true;unfold Rm.isApp0;rw [ho]) (by simp [Region.wanted,hgd]) ?_ (fun W hW=>?_) (fun v hv=>?_)
 ·rw [hΦ];exact fun v w w' ⟨A,c,he,hk⟩ hx=>⟨A,c,he,hk.imp (fun k=>⟨k.1,k.2.kept hx⟩) id⟩
 ·have hW':Ext w W:=hW;obtain ⟨v',w',h1,h2,h3⟩:=run_appz (P:=P) (w:=W) p t o.type e i z size bytes ht hi hz hsize hby hzs hsz hlen (hr W hW') h63 hbytes b0 (Nat.le_trans hb0 hW'.size);refine ⟨v',w', ?_,by rw [hΦ];exact h2,h3⟩
  unfold execOp;simp only [ho,resolve,invoke,builtin,Sem.run_bind,Sem.run_pure,Result.andThen_ok,List.map_toArray,List.map_cons,List.map_nil,hs,hx,h1]
 ·rw [hΦ] at hv ⊢;obtain ⟨W,_,A',c',rfl,_⟩:=hv;exact h A' c'
def Typed (w:World) (e:TypeId) (S:List Nat):Prop:=∀ g cs t',w.heap[g]?=some (.cells cs t' (0,0))->t'≠e->g∉S
theorem Ow.kind {α:Type} {enc:α->List Value} {e:TypeId} {sz:Nat} {w:World} {B:Nat} {A:Option Addr} {n c:Nat} {l:List α} (h:Ow enc e sz w B (.slice A n c) l):∀ k∈blk A,∃ cs,w.heap[k]?=some (.cells cs e (0,0)):=fun k hk=>by
 rcases h.2 with ⟨he,_⟩ | ⟨g,cap,cur,he,_,hg,_⟩
 ·simp only [Value.slice.injEq] at he;rw [he.1] at hk;exact absurd hk (by simp [blk])
 ·simp only [Value.slice.injEq] at he;rw [he.1] at hk;simp only [blk,Mi] at hk;subst hk;exact ⟨cur,hg⟩
theorem LgF.typed {w w':World} {B:Nat} {a:LAd} {l:Lg} {e:TypeId} {S:List Nat} (h:LgF w B a l) (hS:Typed w e S) (h1:162≠e) (h2:111≠e) (h3:104≠e) (hg:Chg w w' S):LgF w' B a l :=
 ⟨h.c.chg Cel.len hg (fun hl x hx=>by obtain ⟨cs,hc⟩:=(h.c.2 hl).kind x hx;exact hS x cs _ hc h1),
  h.s.chg Sea.len hg (fun hl x hx=>by obtain ⟨cs,hc⟩:=(h.s.2 hl).kind x hx;exact hS x cs _ hc h2),
  h.e.chg Ent.len hg (fun hl x hx=>by obtain ⟨cs,hc⟩:=(h.e.2 hl).kind x hx;exact hS x cs _ hc h3)⟩
theorem wl_appz {P:Program} {α:Type} {enc:α->List Value} {ops:Array Oper} {rest:List Oper} {o:Oper} {a:Act} {w:World} {Q:Exit->Act->World->Prop} (hgd:o.guard=none) (s x:Operand) (t:TypeId)
  (ho:o.op = .call { callee := .builtin .append,args:=#[s,x],argTypes:=#[t,t] })
  (b0:Nat) (e:TypeId) (i:TypeInfo) (z:Value) (size bytes:Nat) (ht:P.underlying t=some (.slice e)) (hi:P.info? e=some i) (hz:i.zero=some z)
  (hsize:i.size=size) (hby:i.bytes=bytes) (hzs:z.cells.size=size) (hsz:0 < size) (hlen:∀ x,(enc x).length=size) (hone:∀ x,∀ u∈enc x,u.oneCell'=true)
  (A0:Option Addr) (c0:Nat) (l0:List α) (n0:Nat) (hs:a.eval s = .slice A0 n0 c0) (hz0:VzV enc e size b0 l0 (.slice A0 n0 c0) w) (A:Option Addr) (c:Nat) (l:List α) (n:Nat) (hn:n=l.length) (hpos:0 < l.length) (hx:a.eval x = .slice A n c) (hr:Rd enc size w A c l)
  (h63:l0.length+l.length<=maxLen) (hbytes:(l0.length+l.length) * bytes<=140737488355328) (hbase:b0<=w.heap.size)
  (h:∀ v' w' S,Ow enc e size w' b0 v' (l0++l)->Chg w w' S->Typed w e S->(∀ g∈S,b0<=g)->wpList P ops Q rest (a.put o.dst v') w'):wpList P ops Q (o::rest) a w:=by
 obtain ⟨rfl,hk⟩:=hz0.inv;rcases hk with ⟨hp,hk⟩ | ⟨rfl,rfl,p,rfl⟩
 ·exact zcn hgd s x t ho b0 e i z size bytes ht hi hz hsize hby hzs hsz hlen hone (.slice A0 l0.length c0) l0 hs hk A c l n hn hx hr h63 hbytes hbase (fun v' w' h1 h2=>h v' w' _ h1 (zaz h2) (fun g cs t' hb hne=>zam hb hk hne) (fun g hg=>(hk.inB g hg).1))
 ·subst hn;refine wpList_plain hgd fun K hK=>?_
  obtain ⟨v',w',h1,⟨A',c',h2,h3,h4⟩,h5⟩:=run_app0 (P:=P) (w:=w) p t o.type e i z size bytes ht hi hz hsize hby hzs hsz hlen hr (by simpa using h63) (by simpa using hbytes) b0 hbase
  unfold Oper.wp execOp;simp only [List.length_nil] at hs;simp only [ho,resolve,invoke,builtin,Sem.run_bind,Sem.run_pure,Result.andThen_ok,List.map_toArray,List.map_cons,List.map_nil,hs,hx,h1];subst h2;exact hK _ _ (h _ _ [] (h4 (by have:=h3.1;omega)) (zez _ h5) (fun _ _ _ _ _ hm=>List.not_mem_nil hm) (fun _ hm=>(List.not_mem_nil hm).elim))
abbrev Vt.cs2 (a:LAd) (v:Vt):Array Value:=#[.int .i64 v.kind, .int .i64 v.frm, .int .i64 v.view, .int .i64 v.normal, .int .i64 v.op, .int .i64 v.commit, .int .i64 v.log.base, .slice a.cA v.log.cells.length a.cc, .slice a.sA v.log.seats.length a.sc, .slice a.eA v.log.ents.length a.ec]
theorem vt_whole2 {w w':World} {p:Nat} {a:LAd} {v:Vt} (hb:w.heap[p]?=some (Vt.obj a v)) (hx:Ext w w'):∀ j u,(Vt.cs2 a v).toList[j]?=some u->w'.cell? ⟨p,0+j,none⟩=some u:=zaw (cs:=Vt.cs2 a v) (hx.box hb) [] [] rfl rfl
theorem zcs (B:Nat) (a:LAd) (A:Option Addr) (c:Nat) (qs:List VtE) (R:Rp) (av:LAd) (v:Vt) (w:World) (hF:RpF w B a A c qs R) (hV:LgF w B av v.log) (hB:B<=w.heap.size) (h20:R.votes.length<=20) :
  Calls Tryz.prog 27 #[Rp.val a A qs.length c R,VtE.val av v] w fun e w'=>(∃ A' c' qs',e = .returned (Rp.val a A' (List.length qs') c' (R.voted v))/\RpF w' B a A' c' qs' (R.voted v))/\Ext w w':=by
 obtain ⟨i0,hi,hz0,hz1,hz2⟩:=info_parts Tryz.infoVt;have hql:R.votes.length=qs.length:=by rw [<-hF.e,List.length_map]
 have X0:Ext w (((w.alloc (Rp.obj a A qs.length c R)).alloc (Vt.obj av v)).alloc Rp.zobj):=za9 (za9 (za1 _ _) _) _;have D1:=Hd (hOld (o:=Rp.zobj) (hOld (o:=Vt.obj av v) (hNew (w:=w) (o:=Rp.obj a A qs.length c R) rfl)));have D2:=Hd (hOld (o:=Rp.zobj) (hNew (w:=w.alloc (Rp.obj a A qs.length c R)) (o:=Vt.obj av v) (k:=w.heap.size+1) (by simp)))
 have D3:=Hd (hNew (w:=(w.alloc (Rp.obj a A qs.length c R)).alloc (Vt.obj av v)) (o:=Rp.zobj) (k:=w.heap.size+1+1) (by simp))
 have HX0:=Hd X0;have HF:=Hd (hF.keep X0);have HV:=Hd (hV.keep X0);clear X0 hF hV;by_cases hlt:qs.length < 20
 ·have HE:=Hd (show R.votesTo (R.votes++[v])=R.voted v by unfold Rp.voted;rw [if_pos (by omega)])
  have g20:decide ((qs.length:Int) < 20)=true:=by simp;omega
  clear hql h20
  go_enter Tryz.func27,Tryz.ntmps27
  go_wp2
  (refine mrg (relE (((w.alloc (Rp.obj a A qs.length c R)).alloc (Vt.obj av v)).alloc Rp.zobj).heap.size) (fun d=>if d=some 12 then VzV VtE.enc 45 10 w.heap.size qs else fun _ _=>True) 6 ?_;simp only [Tc,Tz,Dc,Dz])
  (refine Rm.wpMix_alloc (.cells #[] 45) rfl (fun W=>by kernel_rfl) ?_;intro p1 hp1 hps1 hpi1;simp only [zen,Act.put,Sa,Sz,Ss])
  (refine mpl ?_;go_big_quiet_step (fail);refine mnil ?_)
  (refine ml1 (fun W9' h9=>show W9'.cell? _=some (.slice A qs.length c) from za2 (Ext.box h9 D1.out) 10) Tryz.underlying31 ?_;simp only [Act.put,Sa,Sz,Ss])
  refine rm_appz (enc:=VtE.enc) _ _ 31 rfl rfl 45 i0 Vt.zero 10 128 Tryz.underlying31 hi hz0 hz1 hz2 rfl (by decide) VtE.len p1 rfl A qs.length c qs rfl rfl w.heap.size HX0.out.size (fun W hW=>(HF.out.keep hW).v.1) rfl (by unfold maxLen;omega) (by omega) (fun A1 c1=>?_)
  simp only [Act.put,Sa,Sz,Ss]
  (refine mla (fun W9' h9=>vt_whole2 D2.out h9) Tryz.underlying45 ?_;simp only [Act.put,Sa,Sz,Ss])
  (refine Rm.wpMix_alloc (.cells (Vt.cs2 av v) 45) rfl (fun W=>by kernel_rfl) ?_;intro p2 hp2 hps2 hpi2;simp only [zen,Act.put,Sa,Sz,Ss])
  refine Rm.wpMix_nil ?_;rintro w2 ⟨⟨⟨h2,_⟩,hz⟩,hp⟩;have x2:Ext (((w.alloc (Rp.obj a A qs.length c R)).alloc (Vt.obj av v)).alloc Rp.zobj) w2:=h2;have hs0:=HX0.out.size;have hs2:=x2.size;have hp2':=bx_lt hp;have HZ:=Hd hz;have HP:=Hd hp;have E1:=Hd (x2.box D1.out);have E3:=Hd (x2.box D3.out);have X2:=Hd (Ext.trans HX0.out x2);have HF2:=Hd (HF.out.keep x2);have HV2:=Hd (HV.out.keep x2);clear h2 hz hp x2 D1 D2 D3 HF HV hp1 hps1 hpi1 hp2 hps2 hpi2 HX0;have hw2:w.heap.size+1+1 < w2.heap.size:=bx_lt E3.out;go_wp2_with (at_builtin;refine wl_appz (enc:=VtE.enc) rfl _ _ 31 rfl w.heap.size 45 i0 Vt.zero 10 128 Tryz.underlying31 hi hz0 hz1 hz2 rfl (by decide) VtE.len VtE.one A1 c1 qs qs.length rfl HZ.out (some ⟨p2,0,none⟩) 1 [(av,v)] 1 rfl Nat.zero_lt_one rfl (Rd.one HP.out rfl) ?c1 ?c2 ?c3 ?_)
  case c1=>unfold maxLen;simp;omega
  case c2=>simp;omega
  case c3=>omega
  intro v' w4 S ho4 c4 hS hSb;obtain ⟨A',c',rfl⟩:=ho4.form;have hl1:(qs++[(av,v)]).length=qs.length+1:=by simp
  have E1':=zbx E1.out c4 (hS _ _ _ E1.out (by decide))
  have E3':=zbx E3.out c4 (hS _ _ _ E3.out (by decide))
  have b4:=za2 E1';have g4:=zad E1';have z4:=bx_lt E1';have P4:=zar E1' 10 (.slice A' (qs.length+1) c');simp only [Sa,Sz,Ss] at P4;have c5:=zaq (Chg.refl w4 [w.heap.size]) (p:=⟨w.heap.size,10,none⟩) (by simp) (.slice A' (qs.length+1) c')
  have hb5:∀ {B:Nat} {a:LAd} {l:Lg},LgF w2 B a l->LgF (w4.setCell ⟨w.heap.size,10,none⟩ (.slice A' (qs.length+1) c')) B a l:=fun h=>(h.typed hS (by decide) (by decide) (by decide) c4).boxed E1' (by decide) (by decide) (by decide) c5
  have HP:=Hd P4;have HL1:=Hd hl1
  have HF5:=Hd (show RpF (w4.setCell ⟨w.heap.size,10,none⟩ (.slice A' (qs.length+1) c')) B a A' c' (qs++[(av,v)]) (R.voted v) from by
   rw [<-HE.out];refine ⟨hb5 HF2.out.l,((Ow.rdF VtE.len ho4).chg VtE.len c5 (fun _ x hx hm=>by rw [Mi] at hm;subst hm;exact zam E1' ho4 (by decide) hx)).less hB,fun p hp=>?_,by rw [List.map_append,HF2.out.e];rfl⟩
   rcases List.mem_append.1 hp with hp | hp
   ·exact hb5 (HF2.out.vl p hp)
   ·rw [Mi] at hp;subst hp;exact hb5 HV2.out)
  have HE3:=Hd (zbx E3' c5 (by simp;omega))
  have HX5:=Hd (zac (zaf X2.out c4 hSb) c5 (Nat.le_refl _));clear hl1 E1' E3' P4 c5 c4 ho4 hS hSb hb5 E1 E3 X2 HF2 HV2 HZ;go_wp2_with (with_reducible refine za5 17 ?_)
  refine zb2 (F:=fun W=>W.heap[w.heap.size]?=some (Rp.obj a A' (qs.length+1) c' R)/\RpF W B a A' c' (qs++[(av,v)]) (R.voted v)/\W.heap[w.heap.size+1+1]?=some Rp.zobj/\Ext w W) ⟨HP.out,HF5.out,HE3.out,HX5.out⟩ ?_
  intro W7 ⟨e7,f7,z7,x7⟩;have E7:=Hd e7;have F7:=Hd f7;have Z7:=Hd z7;have X7:=Hd x7;clear e7 f7 z7 x7 HP HF5 HE3 HX5 b4 g4 z4
  (go_wp2_with (with_reducible refine za5 17 ?_);refine za6 (E7.out) rfl Tryz.underlying33 (by kernel_rfl) ?_;simp only [Act.put,Sa,Sz,Ss])
  (go_wp2_with (with_reducible refine za8 33 ?_);refine za3 ((w.heap.size+1+1)) (Rp.cs a A' (qs.length+1) c' R) rfl rfl (Z7.out) (by kernel_rfl) rfl (by simp [Value.oneCell']) ?_)
  intro W9 e9 k9;have HE9:=Hd e9;have HX9:=Hd (zac X7.out k9 (by omega))
  have HF9:=Hd (F7.out.boxed Z7.out k9);clear e9 k9;go_wp2
  refine bodyPost_ret (zbm Tryz.results27 rfl Tryz.underlying33 (by kernel_rfl) HE9.out) rfl ⟨⟨A',c',qs++[(av,v)], ?_,HF9.out⟩,HX9.out⟩
  rw [<-HE.out,HL1.out];rfl
 ·have HE:=Hd (show R=R.voted v by unfold Rp.voted;rw [if_neg (by omega)])
  have g20:decide ((qs.length:Int) < 20)=false:=by simp;omega
  clear hql h20
  go_enter Tryz.func27,Tryz.ntmps27
  (go_wp2_with (with_reducible refine za5 17 ?_);refine za6 (D1.out) rfl Tryz.underlying33 (by kernel_rfl) ?_;simp only [Act.put,Sa,Sz,Ss])
  (go_wp2_with (with_reducible refine za8 33 ?_);refine za3 ((w.heap.size+1+1)) (Rp.cs a A qs.length c R) rfl rfl (D3.out) (by kernel_rfl) rfl (by simp [Value.oneCell']) ?_)
  intro W9 e9 k9;have HE9:=Hd e9;have HX9:=Hd (zac HX0.out k9 (by omega))
  have HF9:=Hd (HF.out.boxed D3.out k9);clear e9 k9;go_wp2
  refine bodyPost_ret (zbm Tryz.results27 rfl Tryz.underlying33 (by kernel_rfl) HE9.out) rfl ⟨⟨A,c,qs, ?_,by rw [<-HE.out];exact HF9.out⟩,HX9.out⟩
  rw [<-HE.out]
theorem zdp (A:Option Addr) (c:Nat) (qs:List VtE) (kind who:Int) (w:World) (hr:Rd VtE.enc 10 w A c qs) (hn:qs.length<=1048576) :
  Calls Tryz.prog 25 #[.slice A qs.length c, .int .i64 kind, .int .i64 who] w fun e w'=>e = .returned (.int .i64 (findV kind who (qs.map Prod.snd)))/\Ext w w':=by
 have HR:=Hd hr;have hm:∀ k (h:k < qs.length),∃ h2:k < (qs.map Prod.snd).length,(qs.map Prod.snd)[k]=qs[k].2:=fun k h=>⟨by simpa using h,by simp⟩
 have HM:=Hd hm;clear hr hm
 go_enter Tryz.func25,Tryz.ntmps25
 go_wp2
 go_loopw [7] (fun i wr=>∃ k:Nat,k<=qs.length/\i = .int .i64 k/\Hid (∀ j (h:j < (qs.map Prod.snd).length),j < k->isV kind who (qs.map Prod.snd)[j]=false)/\Ext w wr) (fun i _=>qs.length - (intOf i).toNat)
 case atStart=>exact ⟨0,Nat.zero_le _,rfl,Hd (fun j hj hk=>absurd hk (by omega)),za4 _⟩
 case round =>
  obtain ⟨k,hk,rfl,HB,X⟩:=hrel;by_cases hlt:k < qs.length
  ·obtain ⟨ab,ao,hA,hab,a0,a1,a2,a3,a4,a5,a6,a7,a8,a9⟩:=(HR.out.keep X).atVtE hlt;subst hA;obtain ⟨h2,h3⟩:=HM.out k hlt;have HE:=Hd h3;clear h3;cases g1:(qs[k].2.kind == kind)
   ·have HN:=Hd (no_next HB.out (fun _=>show isV kind who _=false by rw [HE.out];unfold isV;rw [g1];rfl))
    go_wp2
    go_roundw
    case rel=>exact ⟨k+1,by omega,by go_num,Hd HN.out,X⟩
    case measure=>simp [intOf] <;> omega
   ·cases g2:(qs[k].2.frm == who)
    ·have HN:=Hd (no_next HB.out (fun _=>show isV kind who _=false by rw [HE.out];unfold isV;rw [g1,g2];rfl))
     go_wp2
     go_roundw
     case rel=>exact ⟨k+1,by omega,by go_num,Hd HN.out,X⟩
     case measure=>simp [intOf] <;> omega
    ·have HN:=Hd (show findV kind who (qs.map Prod.snd)=k from idx_hit h2 (by rw [HE.out];unfold isV;rw [g1,g2];rfl) HB.out)
     go_wp2
     go_ret
     exact ⟨zc0 HN.out.symm,X⟩
  ·obtain rfl:k=qs.length:=by omega
   have HN:=Hd (show findV kind who (qs.map Prod.snd)=-1 from idx_miss (fun j hj=>HB.out j hj (by simpa using hj)))
   go_wp2
   go_ret
   exact ⟨zc0 HN.out.symm,X⟩
theorem zg9 (a:LAd) (A:Option Addr) (n c:Nat) (r:Rp) (w:World) (ho:ofB r.of=true):Calls Tryz.prog 28 #[Rp.val a A n c r] w fun e w'=>e = .returned (.int .i64 ((r.of - 1) / 2))/\Ext w w':=by
 have h1:=ofB_b ho;have X0:=za1 w (Rp.obj a A n c r);clear ho
 go_enter Tryz.func28,Tryz.ntmps28
 go_wp2
 go_ret
 exact ⟨rfl,X0⟩
def upd (cur:Array Value) (n:Nat) (L:List Value):Array Value:=(cur.toList.take n++L++cur.toList.drop (n+L.length)).toArray
theorem upd_size {cur:Array Value} {n:Nat} {L:List Value} (h:n+L.length<=cur.size):(upd cur n L).size=cur.size:=by
 unfold upd
 simp
 omega
theorem upd_take {cur:Array Value} {n:Nat} {L:List Value} (h:n+L.length<=cur.size):(upd cur n L).toList.take n=cur.toList.take n:=by
 unfold upd;have hn:(cur.toList.take n).length=n:=by simp;omega
 simp only [List.append_assoc];rw [List.take_append_of_le_length (by omega)]
 exact List.take_of_length_le (by omega)
theorem upd_take2 {cur:Array Value} {n:Nat} {L:List Value} (h:n+L.length<=cur.size):(upd cur n L).toList.take (n+L.length)=cur.toList.take n++L:=by
 unfold upd;have hn:(cur.toList.take n++L).length=n+L.length:=by simp;omega
 show (cur.toList.take n++L++_).take _=_;rw [<-hn];exact List.take_left
section
variable {P:Program} {α:Type} {enc:α->List Value}
theorem own_grow {W:World} (t ty e:TypeId) (i:TypeInfo) (z:Value) (size bytes:Nat) (ht:P.underlying t=some (.slice e)) (hi:P.info? e=some i) (hz:i.zero=some z)
  (hsize:i.size=size) (hby:i.bytes=bytes) (hzs:z.cells.size=size) (hsz:0 < size) (hlen:∀ x,(enc x).length=size) (b0:Nat) (v0:Value) (l0:List α) (hown:Ow enc e size W b0 v0 l0)
  {A:Option Addr} {c:Nat} {l:List α} (hr:Rd enc size W A c l) (hno:∀ g cap,v0 = .slice (some ⟨g,0,none⟩) l0.length cap->cap < l0.length+l.length)
  (h63:l0.length+l.length<=maxLen) (hbytes:(l0.length+l.length) * bytes<=140737488355328) (hb0:b0<=W.heap.size) :
  ∃ A' c' W',(Builtin.append_ #[t,t] ty #[v0, .slice A l.length c]).run P W = .ok (.slice A' (l0++l).length c') W'/\Ext W W'/\Ow enc e size W' b0 (.slice A' (l0++l).length c') (l0++l)/\∀ k∈blk A',W.heap.size<=k:=by
 subst hsize
 subst hby
 have hsmall:l0.length+l.length<=9223372036854775807:=by simp only [maxLen] at h63;omega
 have hf0:(l0.flatMap enc).length=l0.length * i.size:=hown.1;have hf:=zae hlen l;have hfl:((l0++l).flatMap enc).length=(l0.length+l.length) * i.size:=by rw [List.flatMap_append,List.length_append,hf0,hf,Nat.add_mul]
 have grown:∀ old:Nat,Ow enc e i.size (W.drew.alloc (.cells ((l0.flatMap enc).toArray++(l.flatMap enc).toArray++Builtin.zeroCells z.cells (grownCap W (l0.length+l.length) old e - (l0.length+l.length))) e)) b0 (.slice (some ⟨W.heap.size,0,none⟩) (l0++l).length (grownCap W (l0.length+l.length) old e)) (l0++l):=fun old=>by
  have hge:=grownCap_ge W (l0.length+l.length) old e;have hcm:grownCap W (l0.length+l.length) old e<=maxLen:=grownCap_le_maxLen W (l0.length+l.length) old e h63;refine ⟨by rw [List.length_append];exact hfl, .inr ⟨W.heap.size,_,_,rfl,hb0,heap_alloc_new W.drew _,by rw [List.length_append];exact hge,hcm, ?_, ?_⟩⟩
  ·simp only [Array.size_append,List.size_toArray,size_zeroCells,hzs,hf0,hf,<-Nat.add_mul];congr 1;omega
  ·simp only [Array.toList_append,List.append_assoc];rw [<-List.append_assoc,List.length_append,<-hfl,List.flatMap_append];exact List.take_left
 have hext:∀ o:Obj,Ext W (W.drew.alloc o):=fun o=>(zab (za4 W)).trans (za1 _ _)
 have hblk:∀ k∈blk (some (⟨W.heap.size,0,none⟩:Addr)),W.heap.size<=k:=fun k hk=>by simp only [blk,Mi] at hk;omega
 rcases hown.2 with ⟨rfl,h0⟩ | ⟨g,cap,cur,rfl,hbg,hg,hnc,hcm,hcs,htake⟩
 ·obtain rfl:l0=[]:=List.eq_nil_of_length_eq_zero h0;by_cases hl:l.length=0
  ·obtain rfl:l=[]:=List.eq_nil_of_length_eq_zero hl;refine ⟨none,0,W, ?_,za4 _,World.ownsRow_nil W b0 e i.size,by simp [blk]⟩
   cases A <;> simp [Builtin.append_,run_underlying ht,sizeOf,typeInfo,hi,Builtin.lenOf,Builtin.firstCells,loadCells,loadCellsFrom]
  ·obtain ⟨ad,rfl⟩:=hr.base (by omega)
   have hrun:=run_append_nil (P:=P) W t ty e i z ht hi hz ad l.length c (l.flatMap enc) hf (hr.flat hsz hlen) (by omega) (by omega) (by have hb:=hbytes;simp only [List.length_nil,Nat.zero_add] at hb;omega)
   have hgr:=grown 0;simp only [List.length_nil,Nat.zero_add,List.flatMap_nil,List.nil_append,Array.empty_append] at hgr hrun ⊢;exact ⟨_,_,_,hrun,hext _,hgr,hblk⟩
 ·have hnr:=hno g cap rfl;obtain ⟨ad,rfl⟩:=hr.base (by omega)
  have holds:∀ j u,(l0.flatMap enc)[j]?=some u->W.cell? ((⟨g,0,none⟩:Addr).add j)=some u:=World.ownsRow.cells hown rfl;have hrun:=run_append_grow (P:=P) (w:=W) t ty e i z ht hi hz ⟨g,0,none⟩ l0.length cap (l0.flatMap enc) hf0 holds ad l.length c (l.flatMap enc) hf (hr.flat hsz hlen) (by omega) (by omega) (growslice_fits (by omega) hbytes)
  have hgr:=grown cap;rw [List.length_append] at hgr ⊢;exact ⟨_,_,_,hrun,hext _,hgr,hblk⟩
variable {ops:Array Oper} {w:World} {L:(World->Prop)->Act->Prop} {o:Oper} {rest:List Oper} {C:World->Prop} {ps:List Nat} {a:Act}
end
def Oth (w:World) (S:List Nat):Prop:=∀ k∈S,∃ cs t,w.heap[k]?=some (.cells cs t (0,0))/\t≠162/\t≠111/\t≠104/\t≠45
theorem LgF.other {w w':World} {B:Nat} {a:LAd} {l:Lg} {S:List Nat} (h:LgF w B a l) (hg:Chg w w' S) (hS:Oth w S):LgF w' B a l :=
 ⟨h.c.chg Cel.len hg (fun hl x hx hm=>by obtain ⟨cs,t,hb,h1,_,_,_⟩:=hS x hm;exact zam hb (h.c.2 hl) h1 hx),
  h.s.chg Sea.len hg (fun hl x hx hm=>by obtain ⟨cs,t,hb,_,h1,_,_⟩:=hS x hm;exact zam hb (h.s.2 hl) h1 hx),
  h.e.chg Ent.len hg (fun hl x hx hm=>by obtain ⟨cs,t,hb,_,_,h1,_⟩:=hS x hm;exact zam hb (h.e.2 hl) h1 hx)⟩
theorem RpF.other {w w':World} {B:Nat} {a:LAd} {A:Option Addr} {c:Nat} {ps:List VtE} {r:Rp} {S:List Nat} (h:RpF w B a A c ps r) (hg:Chg w w' S) (hS:Oth w S):RpF w' B a A c ps r :=
 ⟨h.l.other hg hS,h.v.chg VtE.len hg (fun hl x hx hm=>by obtain ⟨cs,t,hb,_,_,_,h1⟩:=hS x hm;exact zam hb (h.v.2 hl) h1 hx),fun q hq=>(h.vl q hq).other hg hS,h.e⟩
end Go.Proofs.YtckfjploafhenaaGreat
