/- MsgFits of the reference, one theorem a branch. -/
import Derived.Test.YtckfjploafhenaaGreatPk29
import Derived.Test.YtckfjploafhenaaGreatPk19
set_option maxRecDepth 100000
set_option maxHeartbeats 16000000
set_option linter.unusedVariables false
set_option linter.unusedSimpArgs false
namespace Go.Proofs.YtckfjploafhenaaGreat
open Go.ChangeShapes Go.WideShapes Go.ChangeAt Go.RowKit Go.Sort
def sCmd (m:Mg) (f:ByteArray):Bool:=sHas f 100 && cmdOk m.ck m.cx m.cv || !sHas f 100 && (m.ck == 0 && m.cx == 0 && m.cv == 0)
def sLog (m:Mg) (f:ByteArray):Bool:=if sHas f 108=true then zb8 m.log m.commit else isZ m.log
def sN (m:Mg) (f:ByteArray):Nat->Bool
 | 1=>numOk (sHas f 102) m.frm 0 4
 | 2=>numOk (sHas f 82) m.req 1 1000000000
 | 3=>numOk (sHas f 65) m.answer (-1) 1000000000
 | 4=>numOk (sHas f 118) m.view 0 1000000000
 | 5=>numOk (sHas f 111) m.op 0 1000000000
 | 6=>numOk (sHas f 99) m.commit 0 1000000000
 | 7=>numOk (sHas f 110) m.normal 0 1000000000
 | 8=>numOk (sHas f 107) m.nonce 0 1000000000
 | 9=>numOk (sHas f 67) m.client 0 1000000000
 | _=>true
def sFits (m:Mg):Bool:=!(sForm m.kind).toList.isEmpty && (sN m (sForm m.kind) 1 && (sN m (sForm m.kind) 2 && (sN m (sForm m.kind) 3 && (sN m (sForm m.kind) 4 && (sN m (sForm m.kind) 5 && (sN m (sForm m.kind) 6 && (sN m (sForm m.kind) 7 && (sN m (sForm m.kind) 8 && (sN m (sForm m.kind) 9 && (sCmd m (sForm m.kind) && decide (m.normal<=m.view) && sLog m (sForm m.kind)))))))))))
theorem ms_1 (a:LAd) (m:Mg) (w:World) (hs:m.log.small) (hr:LgR w a m.log) (he:(sForm m.kind).toList.isEmpty=false) (e1:sN m (sForm m.kind) 1=false):Calls Tryz.prog 64 #[Mg.val a m] w fun e w'=>e = .returned (.bool (false))/\Ext w w':=by
 have X0:=za1 w (Mg.obj a m);obtain ⟨F,hF⟩:∃ F,sForm m.kind=F:=⟨_,rfl⟩;have hFs:F.size<=100:=by rw [<-hF];exact zbz _
 have hFl:=fun W=>zcb m.kind W
 rw [hF] at hFl he e1;have HF:=Hd hFl;clear hFl hF;have HR:=Hd hr;clear hr;have h1:=fun W=>zan (sHas F 102) m.frm 0 4 W
 rw [show numOk (sHas F 102) m.frm 0 4=false from e1] at h1
 have H1:=Hd h1;clear h1 e1
 go_enter Tryz.func64,Tryz.ntmps64
 go_wp2_with fail
 refine (HF.out _).mono ?_;rintro e w1 ⟨rfl,x1⟩;have B1:=x1.box (hNew (w:=w) (o:=Mg.obj a m) rfl);have c1:=za2 B1;have f1:=zad B1;have z1:=bx_lt B1;have X1:=Ext.trans X0 x1;clear B1 x1;go_wp2
 (refine mrx (fun _ _ _=>True) 26 (fun hg=>?_);simp only [Tc,Tz,Dc,Dz])
 (repeat (first | (refine mqu ?_;go_big_quiet_step (fail);refine mnil ?_) | (refine msk ?_;simp only [Act.put,Sa,Sz,Ss]) | (refine Rm.more ?_;refine mdt Tryz.func86 (fun W hW=>zch F _ hFs W) ?_;simp only [Act.put,Sa,Sz,Ss]) | (refine Rm.more ?_;refine mdt Tryz.func110 (fun W hW=>H1.out W) ?_;simp only [Act.put,Sa,Sz,Ss])))
 (refine Rm.wpMix_nil ?_;intro w2 hw2)
 go_wp2
 go_ret
 exact ⟨rfl,Ext.trans X1 hw2⟩
theorem ms_2 (a:LAd) (m:Mg) (w:World) (hs:m.log.small) (hr:LgR w a m.log) (he:(sForm m.kind).toList.isEmpty=false) (e1:sN m (sForm m.kind) 1=true) (e2:sN m (sForm m.kind) 2=false):Calls Tryz.prog 64 #[Mg.val a m] w fun e w'=>e = .returned (.bool (false))/\Ext w w':=by
 have X0:=za1 w (Mg.obj a m);obtain ⟨F,hF⟩:∃ F,sForm m.kind=F:=⟨_,rfl⟩;have hFs:F.size<=100:=by rw [<-hF];exact zbz _
 have hFl:=fun W=>zcb m.kind W
 rw [hF] at hFl he e1 e2;have HF:=Hd hFl;clear hFl hF;have HR:=Hd hr;clear hr;have h1:=fun W=>zan (sHas F 102) m.frm 0 4 W
 rw [show numOk (sHas F 102) m.frm 0 4=true from e1] at h1
 have H1:=Hd h1;clear h1 e1;have h2:=fun W=>zan (sHas F 82) m.req 1 1000000000 W
 rw [show numOk (sHas F 82) m.req 1 1000000000=false from e2] at h2
 have H2:=Hd h2;clear h2 e2
 go_enter Tryz.func64,Tryz.ntmps64
 go_wp2_with fail
 refine (HF.out _).mono ?_;rintro e w1 ⟨rfl,x1⟩;have B1:=x1.box (hNew (w:=w) (o:=Mg.obj a m) rfl);have c1:=za2 B1;have f1:=zad B1;have z1:=bx_lt B1;have X1:=Ext.trans X0 x1;clear B1 x1;go_wp2
 (refine mrx (fun _ _ _=>True) 26 (fun hg=>?_);simp only [Tc,Tz,Dc,Dz])
 (repeat (first | (refine mqu ?_;go_big_quiet_step (fail);refine mnil ?_) | (refine msk ?_;simp only [Act.put,Sa,Sz,Ss]) | (refine Rm.more ?_;refine mdt Tryz.func86 (fun W hW=>zch F _ hFs W) ?_;simp only [Act.put,Sa,Sz,Ss]) | (refine Rm.more ?_;refine mdt Tryz.func110 (fun W hW=>H1.out W) ?_;simp only [Act.put,Sa,Sz,Ss]) | (refine Rm.more ?_;refine mdt Tryz.func110 (fun W hW=>H2.out W) ?_;simp only [Act.put,Sa,Sz,Ss])))
 (refine Rm.wpMix_nil ?_;intro w2 hw2)
 go_wp2
 go_ret
 exact ⟨rfl,Ext.trans X1 hw2⟩
theorem ms_3 (a:LAd) (m:Mg) (w:World) (hs:m.log.small) (hr:LgR w a m.log) (he:(sForm m.kind).toList.isEmpty=false) (e1:sN m (sForm m.kind) 1=true) (e2:sN m (sForm m.kind) 2=true) (e3:sN m (sForm m.kind) 3=false):Calls Tryz.prog 64 #[Mg.val a m] w fun e w'=>e = .returned (.bool (false))/\Ext w w':=by
 have X0:=za1 w (Mg.obj a m);obtain ⟨F,hF⟩:∃ F,sForm m.kind=F:=⟨_,rfl⟩;have hFs:F.size<=100:=by rw [<-hF];exact zbz _
 have hFl:=fun W=>zcb m.kind W
 rw [hF] at hFl he e1 e2 e3;have HF:=Hd hFl;clear hFl hF;have HR:=Hd hr;clear hr;have h1:=fun W=>zan (sHas F 102) m.frm 0 4 W
 rw [show numOk (sHas F 102) m.frm 0 4=true from e1] at h1
 have H1:=Hd h1;clear h1 e1;have h2:=fun W=>zan (sHas F 82) m.req 1 1000000000 W
 rw [show numOk (sHas F 82) m.req 1 1000000000=true from e2] at h2
 have H2:=Hd h2;clear h2 e2;have h3:=fun W=>zan (sHas F 65) m.answer (-1) 1000000000 W
 rw [show numOk (sHas F 65) m.answer (-1) 1000000000=false from e3] at h3
 have H3:=Hd h3;clear h3 e3
 go_enter Tryz.func64,Tryz.ntmps64
 go_wp2_with fail
 refine (HF.out _).mono ?_;rintro e w1 ⟨rfl,x1⟩;have B1:=x1.box (hNew (w:=w) (o:=Mg.obj a m) rfl);have c1:=za2 B1;have f1:=zad B1;have z1:=bx_lt B1;have X1:=Ext.trans X0 x1;clear B1 x1;go_wp2
 (refine mrx (fun _ _ _=>True) 26 (fun hg=>?_);simp only [Tc,Tz,Dc,Dz])
 (repeat (first | (refine mqu ?_;go_big_quiet_step (fail);refine mnil ?_) | (refine msk ?_;simp only [Act.put,Sa,Sz,Ss]) | (refine Rm.more ?_;refine mdt Tryz.func86 (fun W hW=>zch F _ hFs W) ?_;simp only [Act.put,Sa,Sz,Ss]) | (refine Rm.more ?_;refine mdt Tryz.func110 (fun W hW=>H1.out W) ?_;simp only [Act.put,Sa,Sz,Ss]) | (refine Rm.more ?_;refine mdt Tryz.func110 (fun W hW=>H2.out W) ?_;simp only [Act.put,Sa,Sz,Ss]) | (refine Rm.more ?_;refine mdt Tryz.func110 (fun W hW=>H3.out W) ?_;simp only [Act.put,Sa,Sz,Ss])))
 (refine Rm.wpMix_nil ?_;intro w2 hw2)
 go_wp2
 go_ret
 exact ⟨rfl,Ext.trans X1 hw2⟩
theorem ms_4 (a:LAd) (m:Mg) (w:World) (hs:m.log.small) (hr:LgR w a m.log) (he:(sForm m.kind).toList.isEmpty=false) (e1:sN m (sForm m.kind) 1=true) (e2:sN m (sForm m.kind) 2=true) (e3:sN m (sForm m.kind) 3=true) (e4:sN m (sForm m.kind) 4=false):Calls Tryz.prog 64 #[Mg.val a m] w fun e w'=>e = .returned (.bool (false))/\Ext w w':=by
 have X0:=za1 w (Mg.obj a m);obtain ⟨F,hF⟩:∃ F,sForm m.kind=F:=⟨_,rfl⟩;have hFs:F.size<=100:=by rw [<-hF];exact zbz _
 have hFl:=fun W=>zcb m.kind W
 rw [hF] at hFl he e1 e2 e3 e4;have HF:=Hd hFl;clear hFl hF;have HR:=Hd hr;clear hr;have h1:=fun W=>zan (sHas F 102) m.frm 0 4 W
 rw [show numOk (sHas F 102) m.frm 0 4=true from e1] at h1
 have H1:=Hd h1;clear h1 e1;have h2:=fun W=>zan (sHas F 82) m.req 1 1000000000 W
 rw [show numOk (sHas F 82) m.req 1 1000000000=true from e2] at h2
 have H2:=Hd h2;clear h2 e2;have h3:=fun W=>zan (sHas F 65) m.answer (-1) 1000000000 W
 rw [show numOk (sHas F 65) m.answer (-1) 1000000000=true from e3] at h3
 have H3:=Hd h3;clear h3 e3;have h4:=fun W=>zan (sHas F 118) m.view 0 1000000000 W
 rw [show numOk (sHas F 118) m.view 0 1000000000=false from e4] at h4
 have H4:=Hd h4;clear h4 e4
 go_enter Tryz.func64,Tryz.ntmps64
 go_wp2_with fail
 refine (HF.out _).mono ?_;rintro e w1 ⟨rfl,x1⟩;have B1:=x1.box (hNew (w:=w) (o:=Mg.obj a m) rfl);have c1:=za2 B1;have f1:=zad B1;have z1:=bx_lt B1;have X1:=Ext.trans X0 x1;clear B1 x1;go_wp2
 (refine mrx (fun _ _ _=>True) 26 (fun hg=>?_);simp only [Tc,Tz,Dc,Dz])
 (repeat (first | (refine mqu ?_;go_big_quiet_step (fail);refine mnil ?_) | (refine msk ?_;simp only [Act.put,Sa,Sz,Ss]) | (refine Rm.more ?_;refine mdt Tryz.func86 (fun W hW=>zch F _ hFs W) ?_;simp only [Act.put,Sa,Sz,Ss]) | (refine Rm.more ?_;refine mdt Tryz.func110 (fun W hW=>H1.out W) ?_;simp only [Act.put,Sa,Sz,Ss]) | (refine Rm.more ?_;refine mdt Tryz.func110 (fun W hW=>H2.out W) ?_;simp only [Act.put,Sa,Sz,Ss]) | (refine Rm.more ?_;refine mdt Tryz.func110 (fun W hW=>H3.out W) ?_;simp only [Act.put,Sa,Sz,Ss])))
 (refine Rm.wpMix_nil ?_;intro w2 hw2)
 have X2:=Ext.trans X1 hw2;obtain ⟨hc2,hf2,hs2⟩:=hw2.rules;have z2:w.heap.size < w2.heap.size:=by omega
 have c2:=fun y=>(hc2 w.heap.size y z1).trans (c1 y)
 have f2:=fun y=>(hf2 w.heap.size y z1).trans (f1 y)
 clear hc2 hf2 hs2 hw2 c1 f1;go_wp2
 (refine mrx (fun _ _ _=>True) 52 (fun hg=>?_);simp only [Tc,Tz,Dc,Dz])
 (repeat (first | (refine mqu ?_;go_big_quiet_step (fail);refine mnil ?_) | (refine msk ?_;simp only [Act.put,Sa,Sz,Ss]) | (refine Rm.more ?_;refine mdt Tryz.func86 (fun W hW=>zch F _ hFs W) ?_;simp only [Act.put,Sa,Sz,Ss]) | (refine Rm.more ?_;refine mdt Tryz.func110 (fun W hW=>H4.out W) ?_;simp only [Act.put,Sa,Sz,Ss])))
 (refine Rm.wpMix_nil ?_;intro w3 hw3)
 go_wp2
 go_ret
 exact ⟨rfl,Ext.trans X2 hw3⟩
theorem ms_5 (a:LAd) (m:Mg) (w:World) (hs:m.log.small) (hr:LgR w a m.log) (he:(sForm m.kind).toList.isEmpty=false) (e1:sN m (sForm m.kind) 1=true) (e2:sN m (sForm m.kind) 2=true) (e3:sN m (sForm m.kind) 3=true) (e4:sN m (sForm m.kind) 4=true) (e5:sN m (sForm m.kind) 5=false):Calls Tryz.prog 64 #[Mg.val a m] w fun e w'=>e = .returned (.bool (false))/\Ext w w':=by
 have X0:=za1 w (Mg.obj a m);obtain ⟨F,hF⟩:∃ F,sForm m.kind=F:=⟨_,rfl⟩;have hFs:F.size<=100:=by rw [<-hF];exact zbz _
 have hFl:=fun W=>zcb m.kind W
 rw [hF] at hFl he e1 e2 e3 e4 e5;have HF:=Hd hFl;clear hFl hF;have HR:=Hd hr;clear hr;have h1:=fun W=>zan (sHas F 102) m.frm 0 4 W
 rw [show numOk (sHas F 102) m.frm 0 4=true from e1] at h1
 have H1:=Hd h1;clear h1 e1;have h2:=fun W=>zan (sHas F 82) m.req 1 1000000000 W
 rw [show numOk (sHas F 82) m.req 1 1000000000=true from e2] at h2
 have H2:=Hd h2;clear h2 e2;have h3:=fun W=>zan (sHas F 65) m.answer (-1) 1000000000 W
 rw [show numOk (sHas F 65) m.answer (-1) 1000000000=true from e3] at h3
 have H3:=Hd h3;clear h3 e3;have h4:=fun W=>zan (sHas F 118) m.view 0 1000000000 W
 rw [show numOk (sHas F 118) m.view 0 1000000000=true from e4] at h4
 have H4:=Hd h4;clear h4 e4;have h5:=fun W=>zan (sHas F 111) m.op 0 1000000000 W
 rw [show numOk (sHas F 111) m.op 0 1000000000=false from e5] at h5
 have H5:=Hd h5;clear h5 e5
 go_enter Tryz.func64,Tryz.ntmps64
 go_wp2_with fail
 refine (HF.out _).mono ?_;rintro e w1 ⟨rfl,x1⟩;have B1:=x1.box (hNew (w:=w) (o:=Mg.obj a m) rfl);have c1:=za2 B1;have f1:=zad B1;have z1:=bx_lt B1;have X1:=Ext.trans X0 x1;clear B1 x1;go_wp2
 (refine mrx (fun _ _ _=>True) 26 (fun hg=>?_);simp only [Tc,Tz,Dc,Dz])
 (repeat (first | (refine mqu ?_;go_big_quiet_step (fail);refine mnil ?_) | (refine msk ?_;simp only [Act.put,Sa,Sz,Ss]) | (refine Rm.more ?_;refine mdt Tryz.func86 (fun W hW=>zch F _ hFs W) ?_;simp only [Act.put,Sa,Sz,Ss]) | (refine Rm.more ?_;refine mdt Tryz.func110 (fun W hW=>H1.out W) ?_;simp only [Act.put,Sa,Sz,Ss]) | (refine Rm.more ?_;refine mdt Tryz.func110 (fun W hW=>H2.out W) ?_;simp only [Act.put,Sa,Sz,Ss]) | (refine Rm.more ?_;refine mdt Tryz.func110 (fun W hW=>H3.out W) ?_;simp only [Act.put,Sa,Sz,Ss])))
 (refine Rm.wpMix_nil ?_;intro w2 hw2)
 have X2:=Ext.trans X1 hw2;obtain ⟨hc2,hf2,hs2⟩:=hw2.rules;have z2:w.heap.size < w2.heap.size:=by omega
 have c2:=fun y=>(hc2 w.heap.size y z1).trans (c1 y)
 have f2:=fun y=>(hf2 w.heap.size y z1).trans (f1 y)
 clear hc2 hf2 hs2 hw2 c1 f1;go_wp2
 (refine mrx (fun _ _ _=>True) 52 (fun hg=>?_);simp only [Tc,Tz,Dc,Dz])
 (repeat (first | (refine mqu ?_;go_big_quiet_step (fail);refine mnil ?_) | (refine msk ?_;simp only [Act.put,Sa,Sz,Ss]) | (refine Rm.more ?_;refine mdt Tryz.func86 (fun W hW=>zch F _ hFs W) ?_;simp only [Act.put,Sa,Sz,Ss]) | (refine Rm.more ?_;refine mdt Tryz.func110 (fun W hW=>H4.out W) ?_;simp only [Act.put,Sa,Sz,Ss]) | (refine Rm.more ?_;refine mdt Tryz.func110 (fun W hW=>H5.out W) ?_;simp only [Act.put,Sa,Sz,Ss])))
 (refine Rm.wpMix_nil ?_;intro w3 hw3)
 go_wp2
 go_ret
 exact ⟨rfl,Ext.trans X2 hw3⟩
theorem ms_6 (a:LAd) (m:Mg) (w:World) (hs:m.log.small) (hr:LgR w a m.log) (he:(sForm m.kind).toList.isEmpty=false) (e1:sN m (sForm m.kind) 1=true) (e2:sN m (sForm m.kind) 2=true) (e3:sN m (sForm m.kind) 3=true) (e4:sN m (sForm m.kind) 4=true) (e5:sN m (sForm m.kind) 5=true) (e6:sN m (sForm m.kind) 6=false):Calls Tryz.prog 64 #[Mg.val a m] w fun e w'=>e = .returned (.bool (false))/\Ext w w':=by
 have X0:=za1 w (Mg.obj a m);obtain ⟨F,hF⟩:∃ F,sForm m.kind=F:=⟨_,rfl⟩;have hFs:F.size<=100:=by rw [<-hF];exact zbz _
 have hFl:=fun W=>zcb m.kind W
 rw [hF] at hFl he e1 e2 e3 e4 e5 e6;have HF:=Hd hFl;clear hFl hF;have HR:=Hd hr;clear hr;have h1:=fun W=>zan (sHas F 102) m.frm 0 4 W
 rw [show numOk (sHas F 102) m.frm 0 4=true from e1] at h1
 have H1:=Hd h1;clear h1 e1;have h2:=fun W=>zan (sHas F 82) m.req 1 1000000000 W
 rw [show numOk (sHas F 82) m.req 1 1000000000=true from e2] at h2
 have H2:=Hd h2;clear h2 e2;have h3:=fun W=>zan (sHas F 65) m.answer (-1) 1000000000 W
 rw [show numOk (sHas F 65) m.answer (-1) 1000000000=true from e3] at h3
 have H3:=Hd h3;clear h3 e3;have h4:=fun W=>zan (sHas F 118) m.view 0 1000000000 W
 rw [show numOk (sHas F 118) m.view 0 1000000000=true from e4] at h4
 have H4:=Hd h4;clear h4 e4;have h5:=fun W=>zan (sHas F 111) m.op 0 1000000000 W
 rw [show numOk (sHas F 111) m.op 0 1000000000=true from e5] at h5
 have H5:=Hd h5;clear h5 e5;have h6:=fun W=>zan (sHas F 99) m.commit 0 1000000000 W
 rw [show numOk (sHas F 99) m.commit 0 1000000000=false from e6] at h6
 have H6:=Hd h6;clear h6 e6
 go_enter Tryz.func64,Tryz.ntmps64
 go_wp2_with fail
 refine (HF.out _).mono ?_;rintro e w1 ⟨rfl,x1⟩;have B1:=x1.box (hNew (w:=w) (o:=Mg.obj a m) rfl);have c1:=za2 B1;have f1:=zad B1;have z1:=bx_lt B1;have X1:=Ext.trans X0 x1;clear B1 x1;go_wp2
 (refine mrx (fun _ _ _=>True) 26 (fun hg=>?_);simp only [Tc,Tz,Dc,Dz])
 (repeat (first | (refine mqu ?_;go_big_quiet_step (fail);refine mnil ?_) | (refine msk ?_;simp only [Act.put,Sa,Sz,Ss]) | (refine Rm.more ?_;refine mdt Tryz.func86 (fun W hW=>zch F _ hFs W) ?_;simp only [Act.put,Sa,Sz,Ss]) | (refine Rm.more ?_;refine mdt Tryz.func110 (fun W hW=>H1.out W) ?_;simp only [Act.put,Sa,Sz,Ss]) | (refine Rm.more ?_;refine mdt Tryz.func110 (fun W hW=>H2.out W) ?_;simp only [Act.put,Sa,Sz,Ss]) | (refine Rm.more ?_;refine mdt Tryz.func110 (fun W hW=>H3.out W) ?_;simp only [Act.put,Sa,Sz,Ss])))
 (refine Rm.wpMix_nil ?_;intro w2 hw2)
 have X2:=Ext.trans X1 hw2;obtain ⟨hc2,hf2,hs2⟩:=hw2.rules;have z2:w.heap.size < w2.heap.size:=by omega
 have c2:=fun y=>(hc2 w.heap.size y z1).trans (c1 y)
 have f2:=fun y=>(hf2 w.heap.size y z1).trans (f1 y)
 clear hc2 hf2 hs2 hw2 c1 f1;go_wp2
 (refine mrx (fun _ _ _=>True) 52 (fun hg=>?_);simp only [Tc,Tz,Dc,Dz])
 (repeat (first | (refine mqu ?_;go_big_quiet_step (fail);refine mnil ?_) | (refine msk ?_;simp only [Act.put,Sa,Sz,Ss]) | (refine Rm.more ?_;refine mdt Tryz.func86 (fun W hW=>zch F _ hFs W) ?_;simp only [Act.put,Sa,Sz,Ss]) | (refine Rm.more ?_;refine mdt Tryz.func110 (fun W hW=>H4.out W) ?_;simp only [Act.put,Sa,Sz,Ss]) | (refine Rm.more ?_;refine mdt Tryz.func110 (fun W hW=>H5.out W) ?_;simp only [Act.put,Sa,Sz,Ss]) | (refine Rm.more ?_;refine mdt Tryz.func110 (fun W hW=>H6.out W) ?_;simp only [Act.put,Sa,Sz,Ss])))
 (refine Rm.wpMix_nil ?_;intro w3 hw3)
 go_wp2
 go_ret
 exact ⟨rfl,Ext.trans X2 hw3⟩
theorem ms_7 (a:LAd) (m:Mg) (w:World) (hs:m.log.small) (hr:LgR w a m.log) (he:(sForm m.kind).toList.isEmpty=false) (e1:sN m (sForm m.kind) 1=true) (e2:sN m (sForm m.kind) 2=true) (e3:sN m (sForm m.kind) 3=true) (e4:sN m (sForm m.kind) 4=true) (e5:sN m (sForm m.kind) 5=true) (e6:sN m (sForm m.kind) 6=true) (e7:sN m (sForm m.kind) 7=false):Calls Tryz.prog 64 #[Mg.val a m] w fun e w'=>e = .returned (.bool (false))/\Ext w w':=by
 have X0:=za1 w (Mg.obj a m);obtain ⟨F,hF⟩:∃ F,sForm m.kind=F:=⟨_,rfl⟩;have hFs:F.size<=100:=by rw [<-hF];exact zbz _
 have hFl:=fun W=>zcb m.kind W
 rw [hF] at hFl he e1 e2 e3 e4 e5 e6 e7;have HF:=Hd hFl;clear hFl hF;have HR:=Hd hr;clear hr;have h1:=fun W=>zan (sHas F 102) m.frm 0 4 W
 rw [show numOk (sHas F 102) m.frm 0 4=true from e1] at h1
 have H1:=Hd h1;clear h1 e1;have h2:=fun W=>zan (sHas F 82) m.req 1 1000000000 W
 rw [show numOk (sHas F 82) m.req 1 1000000000=true from e2] at h2
 have H2:=Hd h2;clear h2 e2;have h3:=fun W=>zan (sHas F 65) m.answer (-1) 1000000000 W
 rw [show numOk (sHas F 65) m.answer (-1) 1000000000=true from e3] at h3
 have H3:=Hd h3;clear h3 e3;have h4:=fun W=>zan (sHas F 118) m.view 0 1000000000 W
 rw [show numOk (sHas F 118) m.view 0 1000000000=true from e4] at h4
 have H4:=Hd h4;clear h4 e4;have h5:=fun W=>zan (sHas F 111) m.op 0 1000000000 W
 rw [show numOk (sHas F 111) m.op 0 1000000000=true from e5] at h5
 have H5:=Hd h5;clear h5 e5;have h6:=fun W=>zan (sHas F 99) m.commit 0 1000000000 W
 rw [show numOk (sHas F 99) m.commit 0 1000000000=true from e6] at h6
 have H6:=Hd h6;clear h6 e6;have h7:=fun W=>zan (sHas F 110) m.normal 0 1000000000 W
 rw [show numOk (sHas F 110) m.normal 0 1000000000=false from e7] at h7
 have H7:=Hd h7;clear h7 e7
 go_enter Tryz.func64,Tryz.ntmps64
 go_wp2_with fail
 refine (HF.out _).mono ?_;rintro e w1 ⟨rfl,x1⟩;have B1:=x1.box (hNew (w:=w) (o:=Mg.obj a m) rfl);have c1:=za2 B1;have f1:=zad B1;have z1:=bx_lt B1;have X1:=Ext.trans X0 x1;clear B1 x1;go_wp2
 (refine mrx (fun _ _ _=>True) 26 (fun hg=>?_);simp only [Tc,Tz,Dc,Dz])
 (repeat (first | (refine mqu ?_;go_big_quiet_step (fail);refine mnil ?_) | (refine msk ?_;simp only [Act.put,Sa,Sz,Ss]) | (refine Rm.more ?_;refine mdt Tryz.func86 (fun W hW=>zch F _ hFs W) ?_;simp only [Act.put,Sa,Sz,Ss]) | (refine Rm.more ?_;refine mdt Tryz.func110 (fun W hW=>H1.out W) ?_;simp only [Act.put,Sa,Sz,Ss]) | (refine Rm.more ?_;refine mdt Tryz.func110 (fun W hW=>H2.out W) ?_;simp only [Act.put,Sa,Sz,Ss]) | (refine Rm.more ?_;refine mdt Tryz.func110 (fun W hW=>H3.out W) ?_;simp only [Act.put,Sa,Sz,Ss])))
 (refine Rm.wpMix_nil ?_;intro w2 hw2)
 have X2:=Ext.trans X1 hw2;obtain ⟨hc2,hf2,hs2⟩:=hw2.rules;have z2:w.heap.size < w2.heap.size:=by omega
 have c2:=fun y=>(hc2 w.heap.size y z1).trans (c1 y)
 have f2:=fun y=>(hf2 w.heap.size y z1).trans (f1 y)
 clear hc2 hf2 hs2 hw2 c1 f1;go_wp2
 (refine mrx (fun _ _ _=>True) 52 (fun hg=>?_);simp only [Tc,Tz,Dc,Dz])
 (repeat (first | (refine mqu ?_;go_big_quiet_step (fail);refine mnil ?_) | (refine msk ?_;simp only [Act.put,Sa,Sz,Ss]) | (refine Rm.more ?_;refine mdt Tryz.func86 (fun W hW=>zch F _ hFs W) ?_;simp only [Act.put,Sa,Sz,Ss]) | (refine Rm.more ?_;refine mdt Tryz.func110 (fun W hW=>H4.out W) ?_;simp only [Act.put,Sa,Sz,Ss]) | (refine Rm.more ?_;refine mdt Tryz.func110 (fun W hW=>H5.out W) ?_;simp only [Act.put,Sa,Sz,Ss]) | (refine Rm.more ?_;refine mdt Tryz.func110 (fun W hW=>H6.out W) ?_;simp only [Act.put,Sa,Sz,Ss]) | (refine Rm.more ?_;refine mdt Tryz.func110 (fun W hW=>H7.out W) ?_;simp only [Act.put,Sa,Sz,Ss])))
 (refine Rm.wpMix_nil ?_;intro w3 hw3)
 go_wp2
 go_ret
 exact ⟨rfl,Ext.trans X2 hw3⟩
theorem ms_8 (a:LAd) (m:Mg) (w:World) (hs:m.log.small) (hr:LgR w a m.log) (he:(sForm m.kind).toList.isEmpty=false) (e1:sN m (sForm m.kind) 1=true) (e2:sN m (sForm m.kind) 2=true) (e3:sN m (sForm m.kind) 3=true) (e4:sN m (sForm m.kind) 4=true) (e5:sN m (sForm m.kind) 5=true) (e6:sN m (sForm m.kind) 6=true) (e7:sN m (sForm m.kind) 7=true) (e8:sN m (sForm m.kind) 8=false):Calls Tryz.prog 64 #[Mg.val a m] w fun e w'=>e = .returned (.bool (false))/\Ext w w':=by
 have X0:=za1 w (Mg.obj a m);obtain ⟨F,hF⟩:∃ F,sForm m.kind=F:=⟨_,rfl⟩;have hFs:F.size<=100:=by rw [<-hF];exact zbz _
 have hFl:=fun W=>zcb m.kind W
 rw [hF] at hFl he e1 e2 e3 e4 e5 e6 e7 e8;have HF:=Hd hFl;clear hFl hF;have HR:=Hd hr;clear hr;have h1:=fun W=>zan (sHas F 102) m.frm 0 4 W
 rw [show numOk (sHas F 102) m.frm 0 4=true from e1] at h1
 have H1:=Hd h1;clear h1 e1;have h2:=fun W=>zan (sHas F 82) m.req 1 1000000000 W
 rw [show numOk (sHas F 82) m.req 1 1000000000=true from e2] at h2
 have H2:=Hd h2;clear h2 e2;have h3:=fun W=>zan (sHas F 65) m.answer (-1) 1000000000 W
 rw [show numOk (sHas F 65) m.answer (-1) 1000000000=true from e3] at h3
 have H3:=Hd h3;clear h3 e3;have h4:=fun W=>zan (sHas F 118) m.view 0 1000000000 W
 rw [show numOk (sHas F 118) m.view 0 1000000000=true from e4] at h4
 have H4:=Hd h4;clear h4 e4;have h5:=fun W=>zan (sHas F 111) m.op 0 1000000000 W
 rw [show numOk (sHas F 111) m.op 0 1000000000=true from e5] at h5
 have H5:=Hd h5;clear h5 e5;have h6:=fun W=>zan (sHas F 99) m.commit 0 1000000000 W
 rw [show numOk (sHas F 99) m.commit 0 1000000000=true from e6] at h6
 have H6:=Hd h6;clear h6 e6;have h7:=fun W=>zan (sHas F 110) m.normal 0 1000000000 W
 rw [show numOk (sHas F 110) m.normal 0 1000000000=true from e7] at h7
 have H7:=Hd h7;clear h7 e7;have h8:=fun W=>zan (sHas F 107) m.nonce 0 1000000000 W
 rw [show numOk (sHas F 107) m.nonce 0 1000000000=false from e8] at h8
 have H8:=Hd h8;clear h8 e8
 go_enter Tryz.func64,Tryz.ntmps64
 go_wp2_with fail
 refine (HF.out _).mono ?_;rintro e w1 ⟨rfl,x1⟩;have B1:=x1.box (hNew (w:=w) (o:=Mg.obj a m) rfl);have c1:=za2 B1;have f1:=zad B1;have z1:=bx_lt B1;have X1:=Ext.trans X0 x1;clear B1 x1;go_wp2
 (refine mrx (fun _ _ _=>True) 26 (fun hg=>?_);simp only [Tc,Tz,Dc,Dz])
 (repeat (first | (refine mqu ?_;go_big_quiet_step (fail);refine mnil ?_) | (refine msk ?_;simp only [Act.put,Sa,Sz,Ss]) | (refine Rm.more ?_;refine mdt Tryz.func86 (fun W hW=>zch F _ hFs W) ?_;simp only [Act.put,Sa,Sz,Ss]) | (refine Rm.more ?_;refine mdt Tryz.func110 (fun W hW=>H1.out W) ?_;simp only [Act.put,Sa,Sz,Ss]) | (refine Rm.more ?_;refine mdt Tryz.func110 (fun W hW=>H2.out W) ?_;simp only [Act.put,Sa,Sz,Ss]) | (refine Rm.more ?_;refine mdt Tryz.func110 (fun W hW=>H3.out W) ?_;simp only [Act.put,Sa,Sz,Ss])))
 (refine Rm.wpMix_nil ?_;intro w2 hw2)
 have X2:=Ext.trans X1 hw2;obtain ⟨hc2,hf2,hs2⟩:=hw2.rules;have z2:w.heap.size < w2.heap.size:=by omega
 have c2:=fun y=>(hc2 w.heap.size y z1).trans (c1 y)
 have f2:=fun y=>(hf2 w.heap.size y z1).trans (f1 y)
 clear hc2 hf2 hs2 hw2 c1 f1;go_wp2
 (refine mrx (fun _ _ _=>True) 52 (fun hg=>?_);simp only [Tc,Tz,Dc,Dz])
 (repeat (first | (refine mqu ?_;go_big_quiet_step (fail);refine mnil ?_) | (refine msk ?_;simp only [Act.put,Sa,Sz,Ss]) | (refine Rm.more ?_;refine mdt Tryz.func86 (fun W hW=>zch F _ hFs W) ?_;simp only [Act.put,Sa,Sz,Ss]) | (refine Rm.more ?_;refine mdt Tryz.func110 (fun W hW=>H4.out W) ?_;simp only [Act.put,Sa,Sz,Ss]) | (refine Rm.more ?_;refine mdt Tryz.func110 (fun W hW=>H5.out W) ?_;simp only [Act.put,Sa,Sz,Ss]) | (refine Rm.more ?_;refine mdt Tryz.func110 (fun W hW=>H6.out W) ?_;simp only [Act.put,Sa,Sz,Ss]) | (refine Rm.more ?_;refine mdt Tryz.func110 (fun W hW=>H7.out W) ?_;simp only [Act.put,Sa,Sz,Ss]) | (refine Rm.more ?_;refine mdt Tryz.func110 (fun W hW=>H8.out W) ?_;simp only [Act.put,Sa,Sz,Ss])))
 (refine Rm.wpMix_nil ?_;intro w3 hw3)
 go_wp2
 go_ret
 exact ⟨rfl,Ext.trans X2 hw3⟩
theorem ms_9 (a:LAd) (m:Mg) (w:World) (hs:m.log.small) (hr:LgR w a m.log) (he:(sForm m.kind).toList.isEmpty=false) (e1:sN m (sForm m.kind) 1=true) (e2:sN m (sForm m.kind) 2=true) (e3:sN m (sForm m.kind) 3=true) (e4:sN m (sForm m.kind) 4=true) (e5:sN m (sForm m.kind) 5=true) (e6:sN m (sForm m.kind) 6=true) (e7:sN m (sForm m.kind) 7=true) (e8:sN m (sForm m.kind) 8=true) (e9:sN m (sForm m.kind) 9=false):Calls Tryz.prog 64 #[Mg.val a m] w fun e w'=>e = .returned (.bool (false))/\Ext w w':=by
 have X0:=za1 w (Mg.obj a m);obtain ⟨F,hF⟩:∃ F,sForm m.kind=F:=⟨_,rfl⟩;have hFs:F.size<=100:=by rw [<-hF];exact zbz _
 have hFl:=fun W=>zcb m.kind W
 rw [hF] at hFl he e1 e2 e3 e4 e5 e6 e7 e8 e9;have HF:=Hd hFl;clear hFl hF;have HR:=Hd hr;clear hr;have h1:=fun W=>zan (sHas F 102) m.frm 0 4 W
 rw [show numOk (sHas F 102) m.frm 0 4=true from e1] at h1
 have H1:=Hd h1;clear h1 e1;have h2:=fun W=>zan (sHas F 82) m.req 1 1000000000 W
 rw [show numOk (sHas F 82) m.req 1 1000000000=true from e2] at h2
 have H2:=Hd h2;clear h2 e2;have h3:=fun W=>zan (sHas F 65) m.answer (-1) 1000000000 W
 rw [show numOk (sHas F 65) m.answer (-1) 1000000000=true from e3] at h3
 have H3:=Hd h3;clear h3 e3;have h4:=fun W=>zan (sHas F 118) m.view 0 1000000000 W
 rw [show numOk (sHas F 118) m.view 0 1000000000=true from e4] at h4
 have H4:=Hd h4;clear h4 e4;have h5:=fun W=>zan (sHas F 111) m.op 0 1000000000 W
 rw [show numOk (sHas F 111) m.op 0 1000000000=true from e5] at h5
 have H5:=Hd h5;clear h5 e5;have h6:=fun W=>zan (sHas F 99) m.commit 0 1000000000 W
 rw [show numOk (sHas F 99) m.commit 0 1000000000=true from e6] at h6
 have H6:=Hd h6;clear h6 e6;have h7:=fun W=>zan (sHas F 110) m.normal 0 1000000000 W
 rw [show numOk (sHas F 110) m.normal 0 1000000000=true from e7] at h7
 have H7:=Hd h7;clear h7 e7;have h8:=fun W=>zan (sHas F 107) m.nonce 0 1000000000 W
 rw [show numOk (sHas F 107) m.nonce 0 1000000000=true from e8] at h8
 have H8:=Hd h8;clear h8 e8;have h9:=fun W=>zan (sHas F 67) m.client 0 1000000000 W
 rw [show numOk (sHas F 67) m.client 0 1000000000=false from e9] at h9
 have H9:=Hd h9;clear h9 e9
 go_enter Tryz.func64,Tryz.ntmps64
 go_wp2_with fail
 refine (HF.out _).mono ?_;rintro e w1 ⟨rfl,x1⟩;have B1:=x1.box (hNew (w:=w) (o:=Mg.obj a m) rfl);have c1:=za2 B1;have f1:=zad B1;have z1:=bx_lt B1;have X1:=Ext.trans X0 x1;clear B1 x1;go_wp2
 (refine mrx (fun _ _ _=>True) 26 (fun hg=>?_);simp only [Tc,Tz,Dc,Dz])
 (repeat (first | (refine mqu ?_;go_big_quiet_step (fail);refine mnil ?_) | (refine msk ?_;simp only [Act.put,Sa,Sz,Ss]) | (refine Rm.more ?_;refine mdt Tryz.func86 (fun W hW=>zch F _ hFs W) ?_;simp only [Act.put,Sa,Sz,Ss]) | (refine Rm.more ?_;refine mdt Tryz.func110 (fun W hW=>H1.out W) ?_;simp only [Act.put,Sa,Sz,Ss]) | (refine Rm.more ?_;refine mdt Tryz.func110 (fun W hW=>H2.out W) ?_;simp only [Act.put,Sa,Sz,Ss]) | (refine Rm.more ?_;refine mdt Tryz.func110 (fun W hW=>H3.out W) ?_;simp only [Act.put,Sa,Sz,Ss])))
 (refine Rm.wpMix_nil ?_;intro w2 hw2)
 have X2:=Ext.trans X1 hw2;obtain ⟨hc2,hf2,hs2⟩:=hw2.rules;have z2:w.heap.size < w2.heap.size:=by omega
 have c2:=fun y=>(hc2 w.heap.size y z1).trans (c1 y)
 have f2:=fun y=>(hf2 w.heap.size y z1).trans (f1 y)
 clear hc2 hf2 hs2 hw2 c1 f1;go_wp2
 (refine mrx (fun _ _ _=>True) 52 (fun hg=>?_);simp only [Tc,Tz,Dc,Dz])
 (repeat (first | (refine mqu ?_;go_big_quiet_step (fail);refine mnil ?_) | (refine msk ?_;simp only [Act.put,Sa,Sz,Ss]) | (refine Rm.more ?_;refine mdt Tryz.func86 (fun W hW=>zch F _ hFs W) ?_;simp only [Act.put,Sa,Sz,Ss]) | (refine Rm.more ?_;refine mdt Tryz.func110 (fun W hW=>H4.out W) ?_;simp only [Act.put,Sa,Sz,Ss]) | (refine Rm.more ?_;refine mdt Tryz.func110 (fun W hW=>H5.out W) ?_;simp only [Act.put,Sa,Sz,Ss]) | (refine Rm.more ?_;refine mdt Tryz.func110 (fun W hW=>H6.out W) ?_;simp only [Act.put,Sa,Sz,Ss]) | (refine Rm.more ?_;refine mdt Tryz.func110 (fun W hW=>H7.out W) ?_;simp only [Act.put,Sa,Sz,Ss]) | (refine Rm.more ?_;refine mdt Tryz.func110 (fun W hW=>H8.out W) ?_;simp only [Act.put,Sa,Sz,Ss]) | (refine Rm.more ?_;refine mdt Tryz.func110 (fun W hW=>H9.out W) ?_;simp only [Act.put,Sa,Sz,Ss])))
 (refine Rm.wpMix_nil ?_;intro w3 hw3)
 go_wp2
 go_ret
 exact ⟨rfl,Ext.trans X2 hw3⟩
theorem ms_10 (a:LAd) (m:Mg) (w:World) (hs:m.log.small) (hr:LgR w a m.log) (he:(sForm m.kind).toList.isEmpty=false) (e1:sN m (sForm m.kind) 1=true) (e2:sN m (sForm m.kind) 2=true) (e3:sN m (sForm m.kind) 3=true) (e4:sN m (sForm m.kind) 4=true) (e5:sN m (sForm m.kind) 5=true) (e6:sN m (sForm m.kind) 6=true) (e7:sN m (sForm m.kind) 7=true) (e8:sN m (sForm m.kind) 8=true) (e9:sN m (sForm m.kind) 9=true):Calls Tryz.prog 64 #[Mg.val a m] w fun e w'=>e = .returned (.bool (sCmd m (sForm m.kind) && decide (m.normal<=m.view) && sLog m (sForm m.kind)))/\Ext w w':=by
 have X0:=za1 w (Mg.obj a m);obtain ⟨F,hF⟩:∃ F,sForm m.kind=F:=⟨_,rfl⟩;have hFs:F.size<=100:=by rw [<-hF];exact zbz _
 have hFl:=fun W=>zcb m.kind W
 rw [hF] at hFl he e1 e2 e3 e4 e5 e6 e7 e8 e9 ⊢;have HF:=Hd hFl;clear hFl hF;have HR:=Hd hr;clear hr;obtain ⟨q,hv⟩:∃ q,(sCmd m F && decide (m.normal<=m.view) && sLog m F)=q:=⟨_,rfl⟩;rw [hv];have HV:=Hd hv.symm;clear hv;have h1:=fun W=>zan (sHas F 102) m.frm 0 4 W
 rw [show numOk (sHas F 102) m.frm 0 4=true from e1] at h1
 have H1:=Hd h1;clear h1 e1;have h2:=fun W=>zan (sHas F 82) m.req 1 1000000000 W
 rw [show numOk (sHas F 82) m.req 1 1000000000=true from e2] at h2
 have H2:=Hd h2;clear h2 e2;have h3:=fun W=>zan (sHas F 65) m.answer (-1) 1000000000 W
 rw [show numOk (sHas F 65) m.answer (-1) 1000000000=true from e3] at h3
 have H3:=Hd h3;clear h3 e3;have h4:=fun W=>zan (sHas F 118) m.view 0 1000000000 W
 rw [show numOk (sHas F 118) m.view 0 1000000000=true from e4] at h4
 have H4:=Hd h4;clear h4 e4;have h5:=fun W=>zan (sHas F 111) m.op 0 1000000000 W
 rw [show numOk (sHas F 111) m.op 0 1000000000=true from e5] at h5
 have H5:=Hd h5;clear h5 e5;have h6:=fun W=>zan (sHas F 99) m.commit 0 1000000000 W
 rw [show numOk (sHas F 99) m.commit 0 1000000000=true from e6] at h6
 have H6:=Hd h6;clear h6 e6;have h7:=fun W=>zan (sHas F 110) m.normal 0 1000000000 W
 rw [show numOk (sHas F 110) m.normal 0 1000000000=true from e7] at h7
 have H7:=Hd h7;clear h7 e7;have h8:=fun W=>zan (sHas F 107) m.nonce 0 1000000000 W
 rw [show numOk (sHas F 107) m.nonce 0 1000000000=true from e8] at h8
 have H8:=Hd h8;clear h8 e8;have h9:=fun W=>zan (sHas F 67) m.client 0 1000000000 W
 rw [show numOk (sHas F 67) m.client 0 1000000000=true from e9] at h9
 have H9:=Hd h9;clear h9 e9
 go_enter Tryz.func64,Tryz.ntmps64
 go_wp2_with fail
 refine (HF.out _).mono ?_;rintro e w1 ⟨rfl,x1⟩;have B1:=x1.box (hNew (w:=w) (o:=Mg.obj a m) rfl);have c1:=za2 B1;have f1:=zad B1;have z1:=bx_lt B1;have X1:=Ext.trans X0 x1;clear B1 x1;go_wp2
 (refine mrx (fun _ _ _=>True) 26 (fun hg=>?_);simp only [Tc,Tz,Dc,Dz])
 (repeat (first | (refine mqu ?_;go_big_quiet_step (fail);refine mnil ?_) | (refine msk ?_;simp only [Act.put,Sa,Sz,Ss]) | (refine Rm.more ?_;refine mdt Tryz.func86 (fun W hW=>zch F _ hFs W) ?_;simp only [Act.put,Sa,Sz,Ss]) | (refine Rm.more ?_;refine mdt Tryz.func110 (fun W hW=>H1.out W) ?_;simp only [Act.put,Sa,Sz,Ss]) | (refine Rm.more ?_;refine mdt Tryz.func110 (fun W hW=>H2.out W) ?_;simp only [Act.put,Sa,Sz,Ss]) | (refine Rm.more ?_;refine mdt Tryz.func110 (fun W hW=>H3.out W) ?_;simp only [Act.put,Sa,Sz,Ss])))
 (refine Rm.wpMix_nil ?_;intro w2 hw2)
 have X2:=Ext.trans X1 hw2;obtain ⟨hc2,hf2,hs2⟩:=hw2.rules;have z2:w.heap.size < w2.heap.size:=by omega
 have c2:=fun y=>(hc2 w.heap.size y z1).trans (c1 y)
 have f2:=fun y=>(hf2 w.heap.size y z1).trans (f1 y)
 clear hc2 hf2 hs2 hw2 c1 f1;go_wp2
 (refine mrx (fun _ _ _=>True) 52 (fun hg=>?_);simp only [Tc,Tz,Dc,Dz])
 (repeat (first | (refine mqu ?_;go_big_quiet_step (fail);refine mnil ?_) | (refine msk ?_;simp only [Act.put,Sa,Sz,Ss]) | (refine Rm.more ?_;refine mdt Tryz.func86 (fun W hW=>zch F _ hFs W) ?_;simp only [Act.put,Sa,Sz,Ss]) | (refine Rm.more ?_;refine mdt Tryz.func110 (fun W hW=>H4.out W) ?_;simp only [Act.put,Sa,Sz,Ss]) | (refine Rm.more ?_;refine mdt Tryz.func110 (fun W hW=>H5.out W) ?_;simp only [Act.put,Sa,Sz,Ss]) | (refine Rm.more ?_;refine mdt Tryz.func110 (fun W hW=>H6.out W) ?_;simp only [Act.put,Sa,Sz,Ss]) | (refine Rm.more ?_;refine mdt Tryz.func110 (fun W hW=>H7.out W) ?_;simp only [Act.put,Sa,Sz,Ss]) | (refine Rm.more ?_;refine mdt Tryz.func110 (fun W hW=>H8.out W) ?_;simp only [Act.put,Sa,Sz,Ss]) | (refine Rm.more ?_;refine mdt Tryz.func110 (fun W hW=>H9.out W) ?_;simp only [Act.put,Sa,Sz,Ss])))
 (refine Rm.wpMix_nil ?_;intro w3 hw3)
 have X3:=Ext.trans X2 hw3;obtain ⟨hc3,hf3,hs3⟩:=hw3.rules;have z3:w.heap.size < w3.heap.size:=by omega
 have c3:=fun y=>(hc3 w.heap.size y z2).trans (c2 y)
 have f3:=fun y=>(hf3 w.heap.size y z2).trans (f2 y)
 clear hc3 hf3 hs3 hw3 c2 f2;go_wp2_with (first | ((go_at_call 86;refine (zch _ _ hFs _).mono ?_;rintro e w1 ⟨rfl,hx⟩;obtain ⟨hc1,hf1,hs1⟩:=hx.rules;(try simp at hs1);have z0:w3.heap.size < w1.heap.size:=(by omega));have zz:w.heap.size < w1.heap.size:=(by omega)) | ((go_at_call 111;refine (c_sCmdOk _ _ _ _).mono ?_;rintro e w1 ⟨rfl,hx⟩;obtain ⟨hc1,hf1,hs1⟩:=hx.rules;(try simp at hs1);have z0:w3.heap.size < w1.heap.size:=(by omega));have zz:w.heap.size < w1.heap.size:=(by omega)) | ((go_at_call 36;refine (c_sSameLog0 _ _ _ hs.1 hs.2.1 hs.2.2).mono ?_;rintro e w1 ⟨rfl,hx⟩;obtain ⟨hc1,hf1,hs1⟩:=hx.rules;(try simp at hs1);have z0:w3.heap.size < w1.heap.size:=(by omega));have zz:w.heap.size < w1.heap.size:=(by omega)))
 any_goals
  go_ret
  refine ⟨za7 ?_, ?_⟩
  ·rw [HV.out]
   (first | (simp [sCmd,sLog, *];done) | (simp_all [sCmd,sLog];done) | (simp_all [sCmd,sLog];intro hh;omega))
  ·(repeat (first | with_reducible exact za4 _ | with_reducible refine za9 ?_ _ | with_reducible refine zak ?_ (by first | (simp;done) | (simp;omega) | omega) _ | with_reducible refine zab ?_ | with_reducible refine Ext.trans ?_ (by assumption)))
 all_goals
  have XX:Ext w w1:=by (repeat (first | with_reducible exact za4 _ | with_reducible refine za9 ?_ _ | with_reducible refine zak ?_ (by first | (simp;done) | (simp;omega) | omega) _ | with_reducible refine zab ?_ | with_reducible refine Ext.trans ?_ (by assumption)))
  have hK:=fun W (h:Ext w1 W)=>zhk a m.log hs.1 hs.2.1 hs.2.2 W (HR.out.keep (Ext.trans XX h))
  cases q5:logOk m.log
  ·rw [q5] at hK;have HK:=Hd hK;clear hK
   (refine mrx (fun _ _ _=>True) 15 (fun hg=>?_);simp only [Tc,Tz,Dc,Dz])
   (repeat (first | (refine mqu ?_;go_big_quiet_step (fail);refine mnil ?_) | (refine msk ?_;simp only [Act.put,Sa,Sz,Ss]) | (refine Rm.more ?_;refine mdt Tryz.func66 (fun W hW=>HK.out W hW) ?_;simp only [Act.put,Sa,Sz,Ss])))
   (refine Rm.wpMix_nil ?_;intro w4 hw4)
   go_wp2
   go_ret
   refine ⟨za7 ?_,Ext.trans XX hw4⟩;rw [HV.out]
   (first | (simp [sCmd,sLog,zb8, *];done) | (simp_all [sCmd,sLog,zb8];done) | (simp_all [sCmd,sLog,zb8] <;> intro hh <;> omega))
  ·have hE:=fun W (h:Ext w1 W)=>zdy a m.log hs.1 hs.2.1 hs.2.2 W (HR.out.keep (Ext.trans XX h)) q5
   rw [q5] at hK;have HK:=Hd hK;have HE:=Hd hE;clear hE hK;have hF:=fun W=>zb6 m.commit m.log.base m.log.fin W
   cases q6:inB m.commit m.log.base m.log.fin
   all_goals
    rw [q6] at hF;have HF:=Hd hF;clear hF
    (refine mrx (fun _ _ _=>True) 15 (fun hg=>?_);simp only [Tc,Tz,Dc,Dz])
    (repeat (first | (refine mqu ?_;go_big_quiet_step (fail);refine mnil ?_) | (refine msk ?_;simp only [Act.put,Sa,Sz,Ss]) | (refine Rm.more ?_;refine mdt Tryz.func66 (fun W hW=>HK.out W hW) ?_;simp only [Act.put,Sa,Sz,Ss]) | (refine Rm.more ?_;refine mdt Tryz.func24 (fun W hW=>HE.out W hW) ?_;simp only [Act.put,Sa,Sz,Ss]) | (refine Rm.more ?_;refine mdt Tryz.func32 (fun W hW=>HF.out W) ?_;simp only [Act.put,Sa,Sz,Ss])))
    (refine Rm.wpMix_nil ?_;intro w4 hw4)
    go_wp2
    go_ret
    refine ⟨za7 ?_,Ext.trans XX hw4⟩;rw [HV.out]
    (first | (simp [sCmd,sLog,zb8, *];done) | (simp_all [sCmd,sLog,zb8];done) | (simp_all [sCmd,sLog,zb8] <;> intro hh <;> omega))
theorem ms_0 (a:LAd) (m:Mg) (w:World) (he:(sForm m.kind).toList.isEmpty=true):Calls Tryz.prog 64 #[Mg.val a m] w fun e w'=>e = .returned (.bool false)/\Ext w w':=by
 have X0:=za1 w (Mg.obj a m);obtain ⟨F,hF⟩:∃ F,sForm m.kind=F:=⟨_,rfl⟩;have hFl:=fun W=>zcb m.kind W
 rw [hF] at hFl he;have HF:=Hd hFl;clear hFl hF
 go_enter Tryz.func64,Tryz.ntmps64
 go_wp2_with fail
 refine (HF.out _).mono ?_;rintro e w1 ⟨rfl,x1⟩;go_wp2
 (refine mrx (fun _ _ _=>True) 26 (fun hg=>?_);simp only [Tc,Tz,Dc,Dz])
 (repeat (first | (refine mqu ?_;go_big_quiet_step (fail);refine mnil ?_) | (refine msk ?_;simp only [Act.put,Sa,Sz,Ss])))
 (refine Rm.wpMix_nil ?_;intro w2 hw2)
 go_wp2
 go_ret
 exact ⟨rfl,Ext.trans (Ext.trans X0 x1) hw2⟩
theorem c_sMsgFits (a:LAd) (m:Mg) (w:World) (hs:m.log.small) (hr:LgR w a m.log):Calls Tryz.prog 64 #[Mg.val a m] w fun e w'=>e = .returned (.bool (sFits m))/\Ext w w':=by
 cases he:(sForm m.kind).toList.isEmpty
 ·cases e1:sN m (sForm m.kind) 1
  ·have:=ms_1 a m w hs hr he e1
   rw [show sFits m=false from by unfold sFits;rw [e1];simp]
   exact this
  cases e2:sN m (sForm m.kind) 2
  ·have:=ms_2 a m w hs hr he e1 e2
   rw [show sFits m=false from by unfold sFits;rw [e1,e2];simp]
   exact this
  cases e3:sN m (sForm m.kind) 3
  ·have:=ms_3 a m w hs hr he e1 e2 e3
   rw [show sFits m=false from by unfold sFits;rw [e1,e2,e3];simp]
   exact this
  cases e4:sN m (sForm m.kind) 4
  ·have:=ms_4 a m w hs hr he e1 e2 e3 e4
   rw [show sFits m=false from by unfold sFits;rw [e1,e2,e3,e4];simp]
   exact this
  cases e5:sN m (sForm m.kind) 5
  ·have:=ms_5 a m w hs hr he e1 e2 e3 e4 e5
   rw [show sFits m=false from by unfold sFits;rw [e1,e2,e3,e4,e5];simp]
   exact this
  cases e6:sN m (sForm m.kind) 6
  ·have:=ms_6 a m w hs hr he e1 e2 e3 e4 e5 e6
   rw [show sFits m=false from by unfold sFits;rw [e1,e2,e3,e4,e5,e6];simp]
   exact this
  cases e7:sN m (sForm m.kind) 7
  ·have:=ms_7 a m w hs hr he e1 e2 e3 e4 e5 e6 e7
   rw [show sFits m=false from by unfold sFits;rw [e1,e2,e3,e4,e5,e6,e7];simp]
   exact this
  cases e8:sN m (sForm m.kind) 8
  ·have:=ms_8 a m w hs hr he e1 e2 e3 e4 e5 e6 e7 e8
   rw [show sFits m=false from by unfold sFits;rw [e1,e2,e3,e4,e5,e6,e7,e8];simp]
   exact this
  cases e9:sN m (sForm m.kind) 9
  ·have:=ms_9 a m w hs hr he e1 e2 e3 e4 e5 e6 e7 e8 e9
   rw [show sFits m=false from by unfold sFits;rw [e1,e2,e3,e4,e5,e6,e7,e8,e9];simp]
   exact this
  have:=ms_10 a m w hs hr he e1 e2 e3 e4 e5 e6 e7 e8 e9
  rw [show sFits m=(sCmd m (sForm m.kind) && decide (m.normal<=m.view) && sLog m (sForm m.kind)) from by unfold sFits;rw [he,e1,e2,e3,e4,e5,e6,e7,e8,e9];simp]
  exact this
 ·have:=ms_0 a m w he
  rw [show sFits m=false from by unfold sFits;rw [he];rfl]
  exact this
end Go.Proofs.YtckfjploafhenaaGreat
