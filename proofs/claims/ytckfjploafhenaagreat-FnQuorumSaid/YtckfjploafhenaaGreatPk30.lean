/- The program's hears: a replica hears a message of a kind, and something is done that may change it. -/
import Derived.Test.YtckfjploafhenaaGreatPk29
import Derived.Lib.MinMax
import Derived.Test.YtckfjploafhenaaGreatRows
import Derived.Test.YtckfjploafhenaaGreatPk16
import Derived.OpenShut
import Derived.Carry
import Derived.Lib.SmallJoins
import Derived.Deep.Slices
import Derived.Deep.Fields
import Derived.Test.YtckfjploafhenaaGreatPk19
import Derived.Test.YtckfjploafhenaaGreatPk20
import Derived.Test.YtckfjploafhenaaGreatPk25
set_option maxRecDepth 100000
set_option maxHeartbeats 16000000
set_option linter.unusedVariables false
set_option linter.unusedSimpArgs false
namespace Go.Proofs.YtckfjploafhenaaGreat
open Go.ChangeShapes Go.WideShapes Go.ChangeAt Go.RowKit Go.Sort
def hearB (r:Rp) (m:Mg) (kind:Int):Bool:=iFits m && ((m.kind == kind) && (if sHas (iForm kind) 70=true then inB m.frm 0 (r.of - 1) && (m.frm != r.me) else true))
def hearO (r:Rp) (m:Mg) (kind:Int) (O:List Ot):List Ot:=if (rpOk r && hearB r m kind)=true then O else []
def zbu (r:Rp) (m:Mg) (kind:Int) (R2:Rp):Rp:=if rpOk r=true then (if hearB r m kind=true then R2 else r) else Rp.zero
theorem c_hears3 (a:LAd) (A:Option Addr) (c:Nat) (ps:List VtE) (r:Rp) (am:LAd) (m:Mg) (kind:Int) (fn:Nat) (caps:Array Value) (R2:Rp) (O:List Ot) (w:World) (hr:RpR w a A c ps r) (hs:r.log.small) (hn:ps.length<=1048576) (hv:LgS ps) (hm:LgR w am m.log) (hms:m.log.small)
  (eg:∀ args w,(callFunc fn args).run Tryz.prog w = .ok (.enter fn args) w)
  (hdo:(rpOk r && hearB r m kind)=true->∀ (W0 W:World) (p:Nat),Ext w W0->KO W0 W p r []->Calls Tryz.prog fn (#[.pointer (some ⟨p,0,none⟩)]++caps) W fun e w'=>e = .returned (.tuple #[])/\KO W0 w' p R2 O) :
  Calls Tryz.prog 12 #[Rp.val a A ps.length c r,Mg.val am m, .int .i64 kind, .func (.func fn) #[] caps] w fun e w'=>∃ v,e = .returned v/\RoY w' w.heap.size (zbu r m kind R2) (hearO r m kind O) v/\Ext w w':=by
 have X0:Ext w (((w.alloc (Rp.obj a A ps.length c r)).alloc (Mg.obj am m)).alloc Rp.zobj):=za9 (za9 (za1 _ _) _) _;have hcon:=c_iReplicaOk a A c ps r _ (hr.keep X0) hs hn hv;have HCp:=Hd (fun W (h:Ext w W)=>c_copyReplica a A c ps r W (hr.keep h) hs hn hv)
 have HFt:=Hd (fun W (h:Ext w W)=>c_iMsgFits am m W hms (hm.keep h))
 have D1:=Hd (hOld (o:=Rp.zobj) (hOld (o:=Mg.obj am m) (hNew (w:=w) (o:=Rp.obj a A ps.length c r) rfl)));have D2:=Hd (hOld (o:=Rp.zobj) (hNew (w:=w.alloc (Rp.obj a A ps.length c r)) (o:=Mg.obj am m) (k:=w.heap.size+1) (by simp)))
 have D3:=Hd (hNew (w:=(w.alloc (Rp.obj a A ps.length c r)).alloc (Mg.obj am m)) (o:=Rp.zobj) (k:=w.heap.size+1+1) (by simp))
 have HX0:=Hd X0;clear X0 hr hv hs hm;cases q:rpOk r
 ·rw [q] at hcon;have HC:=Hd hcon;have HR:=Hd (show zbu r m kind R2=Rp.zero/\hearO r m kind O=[] by simp [zbu,hearO,q])
  clear q hcon HCp hdo HFt
  go_enter Tryz.func12,Tryz.ntmps12
  (go_wp2_with (with_reducible refine za5 12 ?_);refine za6 (D1.out) rfl Tryz.underlying33 (by kernel_rfl) ?_;simp only [Act.put,Sa,Sz,Ss])
  go_wp2_with fail
  refine HC.out.mono ?_;rintro e w1 ⟨rfl,x1⟩;have HB:=Hd (x1.box D3.out)
  (go_wp2_with (with_reducible refine za8 33 ?_);refine za3 ((w.heap.size+1+1)) #[.int .i64 0, .int .i64 0, .int .i64 0, .int .i64 0, .int .i64 0, .int .i64 0, .int .i64 0, .slice none 0 0, .slice none 0 0, .slice none 0 0, .slice none 0 0, .int .i64 0, .int .i64 0] rfl rfl (HB.out) (by kernel_rfl) rfl (by simp [Value.oneCell']) ?_)
  intro W4 E4 C4;have hX4:=Hd (zac (Ext.trans HX0.out x1) C4 (by omega))
  go_wp2
  refine bodyPost_ret (zax Tryz.results12 rfl rfl Tryz.underlying33 (by kernel_rfl) E4) rfl ⟨_,rfl, ?_,hX4.out⟩
  rw [HR.out.1,HR.out.2];exact ⟨LAd.none,none,0,[],none,0,[],rfl,RpO.none _ _ _ _ rfl rfl,OsO.nil _ _ _,rfl,by simp [vsF,LAd.fp,LAd.none,blk]⟩
 ·rw [q] at hcon;have HC:=Hd hcon;have hfacts:=rpOk_facts q;have HR:=Hd (show zbu r m kind R2=(if hearB r m kind=true then R2 else r)/\hearO r m kind O=(if hearB r m kind=true then O else []) by simp [zbu,hearO,q])
  rw [q] at hdo;have HDo:=Hd hdo;clear q hcon hdo
  go_enter Tryz.func12,Tryz.ntmps12
  (go_wp2_with (with_reducible refine za5 12 ?_);refine za6 (D1.out) rfl Tryz.underlying33 (by kernel_rfl) ?_;simp only [Act.put,Sa,Sz,Ss])
  go_wp2_with fail
  refine HC.out.mono ?_;rintro e v1 ⟨rfl,x1⟩;have B1:=Hd (x1.box D1.out);have B2:=Hd (x1.box D2.out);have B3:=Hd (x1.box D3.out);have B3':=Hd (x1.box D3.out);have X1:=Hd (Ext.trans HX0.out x1);have hs01:=HX0.out.size;clear D1 D2 D3 HX0 HC x1
  (go_wp2_with (with_reducible refine za5 16 ?_);refine za6 (B1.out) rfl Tryz.underlying33 (by kernel_rfl) ?_;simp only [Act.put,Sa,Sz,Ss])
  go_wp2_with fail
  refine (HCp.out _ X1.out).mono ?_;rintro e w2 ⟨a',A',c',qs,rfl,hql,o2,x2⟩;have HO2:=Hd o2;have X2:=Hd (Ext.trans X1.out x2);have HL:=Hd hql;have hs2:=X2.out.size;have hs1:=X1.out.size;have hs12:=x2.size;have hlt2:=bx_lt B3.out;have G1:=Hd (hOld (o:=Kp.obj a' A' ps.length c' r (.slice none 0 0)) (x2.box B1.out));have G2:=Hd (hOld (o:=Kp.obj a' A' ps.length c' r (.slice none 0 0)) (x2.box B2.out));have G3:=Hd (hOld (o:=Kp.obj a' A' ps.length c' r (.slice none 0 0)) (x2.box B3.out));have hoa:=o2.kept (za1 w2 (Kp.obj a' A' ps.length c' r (.slice none 0 0)));have hka:KZ v1 (w2.alloc (Kp.obj a' A' ps.length c' r (.slice none 0 0))) w2.heap.size a' A' c' qs r none 0 []:=⟨by rw [HL.out];exact hNew rfl,Ext.trans x2 (za1 _ _),x2.size,hoa.wide (Nat.le_refl _) (by simp),World.ownsRow_nil _ _ _ _,OsQ.nil _ _,by simp⟩
  have HK0:=Hd (show KO v1 (w2.alloc (Kp.obj a' A' ps.length c' r (.slice none 0 0))) w2.heap.size r [] from ⟨a',A',c',qs,none,0,[],hka,rfl⟩)
  have XW0:=Hd (Ext.trans X2.out (za1 w2 (Kp.obj a' A' ps.length c' r (.slice none 0 0))));clear o2 x2 hql B1 B2 B3 HCp hoa hka HO2 HL
  (go_wp2_with (with_reducible refine za5 20 ?_);refine za6 (G2.out) rfl Tryz.underlying37 (by kernel_rfl) ?_;simp only [Act.put,Sa,Sz,Ss])
  go_wp2_with fail
  refine (HFt.out _ XW0.out).mono ?_;rintro e w3 ⟨rfl,x3⟩;have E1:=Hd (x3.box G1.out);have E2:=Hd (x3.box G2.out);have X3:=Hd x3;have d1:=za2 E1.out;have d2:=za2 E2.out;have z1:=bx_lt E1.out;have z2:=bx_lt E2.out;have hw:-1000000<=r.of - 1/\r.of - 1<=1000000:=by omega
  clear x3 G1 G2 HFt;have hF:=iForm_small kind;have hFl:=fun W=>c_fields kind W
  obtain ⟨F,hFe⟩:∃ F,iForm kind=F:=⟨_,rfl⟩;rw [hFe] at hF hFl;have HFl:=Hd hFl;have HFe:=Hd hFe;clear hFl hFe;cases qf:iFits m
  ·have HR':=Hd (show zbu r m kind R2=r/\hearO r m kind O=[] by rw [HR.out.1,HR.out.2];simp [hearB,HFe.out,qf])
   go_wp2_with (first | (go_at_call 52;refine (HFl.out _).mono ?_;rintro e w1 ⟨rfl,hx⟩;obtain ⟨hc1,hf1,hs1⟩:=hx.rules;(try simp at hs1);have z0:w.heap.size < w1.heap.size:=(by omega);have z1:w.heap.size+1 < w1.heap.size:=(by omega)) | (go_at_call 51;refine (c_has _ _ hF _).mono ?_;rintro e w1 ⟨rfl,hx⟩;obtain ⟨hc1,hf1,hs1⟩:=hx.rules;(try simp at hs1);have z0:w.heap.size < w1.heap.size:=(by omega);have z1:w.heap.size+1 < w1.heap.size:=(by omega)) | (go_at_call 53;refine (zce _ _ _ _).mono ?_;rintro e w1 ⟨rfl,hx⟩;obtain ⟨hc1,hf1,hs1⟩:=hx.rules;(try simp at hs1);have z0:w.heap.size < w1.heap.size:=(by omega);have z1:w.heap.size+1 < w1.heap.size:=(by omega)))
   refine ziu (F:=fun W=>KO v1 W w2.heap.size r []/\W.heap[w.heap.size+1+1]?=some Rp.zobj) ?_ ?_
   ·have XX:Ext (w2.alloc (Kp.obj a' A' ps.length c' r (.slice none 0 0))) w3:=by
     exact X3.out
    exact ⟨HK0.out.keep XX,XX.box G3.out⟩
   rintro W ⟨kd,dW⟩;have DW:=Hd dW;clear dW d1 d2 z1 z2;obtain ⟨a2,A2,c2,qs2,Ao,co,os,kz,hmO⟩:=kd;have BX:=Hd kz.box;have RO:=Hd kz.rp;have OO:=Hd kz.oso;have DD:=Hd kz.dd;have XK:=Hd kz.x;have HM:=Hd hmO;have hsW:=kz.x.size;have hlw:=kz.low;have hs1':=X1.out.size;clear kz hmO;have hq9:w.heap.size+1+1 < W.heap.size:=by omega
   have M:=Hd (fun W' (h:(relS (w.heap.size+1+1) (.cells (Rp.cs a2 A2 qs2.length c2 r) 33) W.heap.size hq9).rel W W')=>zaw (cs:=Rp.cs a2 A2 qs2.length c2 r) (zcr BX.out (by omega) W' h) [] [.slice Ao (List.length os) co] rfl rfl)
   (refine mrg (relS (w.heap.size+1+1) (.cells (Rp.cs a2 A2 qs2.length c2 r) 33) W.heap.size hq9) (stored (w.heap.size+1+1) (.cells (Rp.cs a2 A2 qs2.length c2 r) 33)) 9 ?_;simp only [Tc,Tz,Dc,Dz])
   (refine mpl ?_;go_big_quiet_step (fail);refine mnil ?_)
   (refine Rm.wpMix_nilp rfl rfl rfl ?_;simp only [Act.put,Sa,Sz,Ss])
   (refine mpl ?_;go_big_quiet_step (fail);refine mnil ?_)
   (refine mla (M.out) Tryz.underlying33 ?_;simp only [Act.put,Sa,Sz,Ss])
   (refine mpl ?_;go_big_quiet_step (fail);refine mnil ?_)
   (refine Rm.wpMix_nilp rfl rfl rfl ?_;simp only [Act.put,Sa,Sz,Ss])
   (refine mpl ?_;go_big_quiet_step (fail);refine mnil ?_)
   (refine ml1 (fun W' h=>show W'.cell? _=some (.slice Ao (List.length os) co) from za2 (zcr BX.out (by omega) W' h) 13) Tryz.underlying40 ?_;simp only [Act.put,Sa,Sz,Ss])
   refine zi8 DW.out rfl rfl rfl rfl rfl (by kernel_rfl) rfl (by simp [Value.oneCell']) ?_
   simp only [Act.put,Sa,Sz,Ss];refine Rm.wpMix_nil ?_;rintro W9 ⟨h9,E9⟩;have c9:=h9.1;have HE9:=Hd E9;have HR9:=Hd ((RO.out.chgAny c9 (fun k h1 h2 hm=>by rw [Mi] at hm;omega)).wide (B':=w.heap.size) (by omega) c9.size)
   have HO9:=Hd ((OO.out.chg c9 (fun k hk hm=>by rw [Mi] at hm;have:=OO.out.low k hk;omega)).wide (B':=w.heap.size) (by omega) c9.size)
   have HX9:=Hd (zaf (Ext.trans X1.out XK.out) c9 (fun g hg=>by rw [Mi] at hg;omega))
   clear E9 h9 c9 M;go_wp2
   refine bodyPost_ret (zax Tryz.results12 rfl rfl Tryz.underlying33 (by kernel_rfl) HE9.out) rfl ⟨_,rfl, ?_,HX9.out⟩
   rw [HR'.out.1,HR'.out.2];exact ⟨a2,A2,c2,qs2,Ao,co,os,rfl,HR9.out,HO9.out,HM.out,DD.out⟩
  ·cases qk:(m.kind == kind)
   ·have HR':=Hd (show zbu r m kind R2=r/\hearO r m kind O=[] by rw [HR.out.1,HR.out.2];simp [hearB,HFe.out,qf,qk])
    go_wp2_with (first | (go_at_call 52;refine (HFl.out _).mono ?_;rintro e w1 ⟨rfl,hx⟩;obtain ⟨hc1,hf1,hs1⟩:=hx.rules;(try simp at hs1);have z0:w.heap.size < w1.heap.size:=(by omega);have z1:w.heap.size+1 < w1.heap.size:=(by omega)) | (go_at_call 51;refine (c_has _ _ hF _).mono ?_;rintro e w1 ⟨rfl,hx⟩;obtain ⟨hc1,hf1,hs1⟩:=hx.rules;(try simp at hs1);have z0:w.heap.size < w1.heap.size:=(by omega);have z1:w.heap.size+1 < w1.heap.size:=(by omega)) | (go_at_call 53;refine (zce _ _ _ _).mono ?_;rintro e w1 ⟨rfl,hx⟩;obtain ⟨hc1,hf1,hs1⟩:=hx.rules;(try simp at hs1);have z0:w.heap.size < w1.heap.size:=(by omega);have z1:w.heap.size+1 < w1.heap.size:=(by omega)))
    refine ziu (F:=fun W=>KO v1 W w2.heap.size r []/\W.heap[w.heap.size+1+1]?=some Rp.zobj) ?_ ?_
    ·have XX:Ext (w2.alloc (Kp.obj a' A' ps.length c' r (.slice none 0 0))) w3:=by
      exact X3.out
     exact ⟨HK0.out.keep XX,XX.box G3.out⟩
    rintro W ⟨kd,dW⟩;have DW:=Hd dW;clear dW d1 d2 z1 z2;obtain ⟨a2,A2,c2,qs2,Ao,co,os,kz,hmO⟩:=kd;have BX:=Hd kz.box;have RO:=Hd kz.rp;have OO:=Hd kz.oso;have DD:=Hd kz.dd;have XK:=Hd kz.x;have HM:=Hd hmO;have hsW:=kz.x.size;have hlw:=kz.low;have hs1':=X1.out.size;clear kz hmO;have hq9:w.heap.size+1+1 < W.heap.size:=by omega
    have M:=Hd (fun W' (h:(relS (w.heap.size+1+1) (.cells (Rp.cs a2 A2 qs2.length c2 r) 33) W.heap.size hq9).rel W W')=>zaw (cs:=Rp.cs a2 A2 qs2.length c2 r) (zcr BX.out (by omega) W' h) [] [.slice Ao (List.length os) co] rfl rfl)
    (refine mrg (relS (w.heap.size+1+1) (.cells (Rp.cs a2 A2 qs2.length c2 r) 33) W.heap.size hq9) (stored (w.heap.size+1+1) (.cells (Rp.cs a2 A2 qs2.length c2 r) 33)) 9 ?_;simp only [Tc,Tz,Dc,Dz])
    (refine mpl ?_;go_big_quiet_step (fail);refine mnil ?_)
    (refine Rm.wpMix_nilp rfl rfl rfl ?_;simp only [Act.put,Sa,Sz,Ss])
    (refine mpl ?_;go_big_quiet_step (fail);refine mnil ?_)
    (refine mla (M.out) Tryz.underlying33 ?_;simp only [Act.put,Sa,Sz,Ss])
    (refine mpl ?_;go_big_quiet_step (fail);refine mnil ?_)
    (refine Rm.wpMix_nilp rfl rfl rfl ?_;simp only [Act.put,Sa,Sz,Ss])
    (refine mpl ?_;go_big_quiet_step (fail);refine mnil ?_)
    (refine ml1 (fun W' h=>show W'.cell? _=some (.slice Ao (List.length os) co) from za2 (zcr BX.out (by omega) W' h) 13) Tryz.underlying40 ?_;simp only [Act.put,Sa,Sz,Ss])
    refine zi8 DW.out rfl rfl rfl rfl rfl (by kernel_rfl) rfl (by simp [Value.oneCell']) ?_
    simp only [Act.put,Sa,Sz,Ss];refine Rm.wpMix_nil ?_;rintro W9 ⟨h9,E9⟩;have c9:=h9.1;have HE9:=Hd E9;have HR9:=Hd ((RO.out.chgAny c9 (fun k h1 h2 hm=>by rw [Mi] at hm;omega)).wide (B':=w.heap.size) (by omega) c9.size)
    have HO9:=Hd ((OO.out.chg c9 (fun k hk hm=>by rw [Mi] at hm;have:=OO.out.low k hk;omega)).wide (B':=w.heap.size) (by omega) c9.size)
    have HX9:=Hd (zaf (Ext.trans X1.out XK.out) c9 (fun g hg=>by rw [Mi] at hg;omega))
    clear E9 h9 c9 M;go_wp2
    refine bodyPost_ret (zax Tryz.results12 rfl rfl Tryz.underlying33 (by kernel_rfl) HE9.out) rfl ⟨_,rfl, ?_,HX9.out⟩
    rw [HR'.out.1,HR'.out.2];exact ⟨a2,A2,c2,qs2,Ao,co,os,rfl,HR9.out,HO9.out,HM.out,DD.out⟩
   ·cases qh:sHas F 70
    ·have HR':=Hd (show zbu r m kind R2=R2/\hearO r m kind O=O by rw [HR.out.1,HR.out.2];simp [hearB,HFe.out,qf,qk,qh])
     have hB:hearB r m kind=true:=by simp [hearB,HFe.out,qf,qk,qh]
     go_wp2_with (first | (go_at_call 52;refine (HFl.out _).mono ?_;rintro e w1 ⟨rfl,hx⟩;obtain ⟨hc1,hf1,hs1⟩:=hx.rules;(try simp at hs1);have z0:w.heap.size < w1.heap.size:=(by omega);have z1:w.heap.size+1 < w1.heap.size:=(by omega)) | (go_at_call 51;refine (c_has _ _ hF _).mono ?_;rintro e w1 ⟨rfl,hx⟩;obtain ⟨hc1,hf1,hs1⟩:=hx.rules;(try simp at hs1);have z0:w.heap.size < w1.heap.size:=(by omega);have z1:w.heap.size+1 < w1.heap.size:=(by omega)) | (go_at_call 53;refine (zce _ _ _ _).mono ?_;rintro e w1 ⟨rfl,hx⟩;obtain ⟨hc1,hf1,hs1⟩:=hx.rules;(try simp at hs1);have z0:w.heap.size < w1.heap.size:=(by omega);have z1:w.heap.size+1 < w1.heap.size:=(by omega)))
     have XX:Ext (w2.alloc (Kp.obj a' A' ps.length c' r (.slice none 0 0))) w1:=by
      have X3:=X3.out
      (repeat (first | with_reducible exact za4 _ | with_reducible refine za9 ?_ _ | with_reducible refine zak ?_ (by first | (simp;done) | (simp;omega) | omega) _ | with_reducible refine zab ?_ | with_reducible refine Ext.trans ?_ (by assumption)))
     refine (HDo.out (by rw [hB];rfl) v1 _ w2.heap.size X1.out (HK0.out.keep XX)).mono ?_
     rintro e W ⟨rfl,kd⟩;have DW:=Hd (show W.heap[w.heap.size+1+1]?=some Rp.zobj by obtain ⟨_,_,_,_,_,_,_,kz,_⟩:=kd;exact kz.x.box B3'.out)
     clear XX d1 d2 z1 z2;go_wp2
     obtain ⟨a2,A2,c2,qs2,Ao,co,os,kz,hmO⟩:=kd;have BX:=Hd kz.box;have RO:=Hd kz.rp;have OO:=Hd kz.oso;have DD:=Hd kz.dd;have XK:=Hd kz.x;have HM:=Hd hmO;have hsW:=kz.x.size;have hlw:=kz.low;have hs1':=X1.out.size;clear kz hmO;have hq9:w.heap.size+1+1 < W.heap.size:=by omega
     have M:=Hd (fun W' (h:(relS (w.heap.size+1+1) (.cells (Rp.cs a2 A2 qs2.length c2 R2) 33) W.heap.size hq9).rel W W')=>zaw (cs:=Rp.cs a2 A2 qs2.length c2 R2) (zcr BX.out (by omega) W' h) [] [.slice Ao (List.length os) co] rfl rfl)
     (refine mrg (relS (w.heap.size+1+1) (.cells (Rp.cs a2 A2 qs2.length c2 R2) 33) W.heap.size hq9) (stored (w.heap.size+1+1) (.cells (Rp.cs a2 A2 qs2.length c2 R2) 33)) 9 ?_;simp only [Tc,Tz,Dc,Dz])
     (refine mpl ?_;go_big_quiet_step (fail);refine mnil ?_)
     (refine Rm.wpMix_nilp rfl rfl rfl ?_;simp only [Act.put,Sa,Sz,Ss])
     (refine mpl ?_;go_big_quiet_step (fail);refine mnil ?_)
     (refine mla (M.out) Tryz.underlying33 ?_;simp only [Act.put,Sa,Sz,Ss])
     (refine mpl ?_;go_big_quiet_step (fail);refine mnil ?_)
     (refine Rm.wpMix_nilp rfl rfl rfl ?_;simp only [Act.put,Sa,Sz,Ss])
     (refine mpl ?_;go_big_quiet_step (fail);refine mnil ?_)
     (refine ml1 (fun W' h=>show W'.cell? _=some (.slice Ao (List.length os) co) from za2 (zcr BX.out (by omega) W' h) 13) Tryz.underlying40 ?_;simp only [Act.put,Sa,Sz,Ss])
     refine zi8 DW.out rfl rfl rfl rfl rfl (by kernel_rfl) rfl (by simp [Value.oneCell']) ?_
     simp only [Act.put,Sa,Sz,Ss];refine Rm.wpMix_nil ?_;rintro W9 ⟨h9,E9⟩;have c9:=h9.1;have HE9:=Hd E9;have HR9:=Hd ((RO.out.chgAny c9 (fun k h1 h2 hm=>by rw [Mi] at hm;omega)).wide (B':=w.heap.size) (by omega) c9.size)
     have HO9:=Hd ((OO.out.chg c9 (fun k hk hm=>by rw [Mi] at hm;have:=OO.out.low k hk;omega)).wide (B':=w.heap.size) (by omega) c9.size)
     have HX9:=Hd (zaf (Ext.trans X1.out XK.out) c9 (fun g hg=>by rw [Mi] at hg;omega))
     clear E9 h9 c9 M;go_wp2
     refine bodyPost_ret (zax Tryz.results12 rfl rfl Tryz.underlying33 (by kernel_rfl) HE9.out) rfl ⟨_,rfl, ?_,HX9.out⟩
     rw [HR'.out.1,HR'.out.2];exact ⟨a2,A2,c2,qs2,Ao,co,os,rfl,HR9.out,HO9.out,HM.out,DD.out⟩
    ·cases qi:inB m.frm 0 (r.of - 1)
     ·have HR':=Hd (show zbu r m kind R2=r/\hearO r m kind O=[] by rw [HR.out.1,HR.out.2];simp [hearB,HFe.out,qf,qk,qh,qi])
      go_wp2_with (first | (go_at_call 52;refine (HFl.out _).mono ?_;rintro e w1 ⟨rfl,hx⟩;obtain ⟨hc1,hf1,hs1⟩:=hx.rules;(try simp at hs1);have z0:w.heap.size < w1.heap.size:=(by omega);have z1:w.heap.size+1 < w1.heap.size:=(by omega)) | (go_at_call 51;refine (c_has _ _ hF _).mono ?_;rintro e w1 ⟨rfl,hx⟩;obtain ⟨hc1,hf1,hs1⟩:=hx.rules;(try simp at hs1);have z0:w.heap.size < w1.heap.size:=(by omega);have z1:w.heap.size+1 < w1.heap.size:=(by omega)) | (go_at_call 53;refine (zce _ _ _ _).mono ?_;rintro e w1 ⟨rfl,hx⟩;obtain ⟨hc1,hf1,hs1⟩:=hx.rules;(try simp at hs1);have z0:w.heap.size < w1.heap.size:=(by omega);have z1:w.heap.size+1 < w1.heap.size:=(by omega)))
      refine ziu (F:=fun W=>KO v1 W w2.heap.size r []/\W.heap[w.heap.size+1+1]?=some Rp.zobj) ?_ ?_
      ·have XX:Ext (w2.alloc (Kp.obj a' A' ps.length c' r (.slice none 0 0))) w1:=by
        have X3:=X3.out;(repeat (first | with_reducible exact za4 _ | with_reducible refine za9 ?_ _ | with_reducible refine zak ?_ (by first | (simp;done) | (simp;omega) | omega) _ | with_reducible refine zab ?_ | with_reducible refine Ext.trans ?_ (by assumption)))
       exact ⟨HK0.out.keep XX,XX.box G3.out⟩
      rintro W ⟨kd,dW⟩;have DW:=Hd dW;clear dW d1 d2 z1 z2;obtain ⟨a2,A2,c2,qs2,Ao,co,os,kz,hmO⟩:=kd;have BX:=Hd kz.box;have RO:=Hd kz.rp;have OO:=Hd kz.oso;have DD:=Hd kz.dd;have XK:=Hd kz.x;have HM:=Hd hmO;have hsW:=kz.x.size;have hlw:=kz.low;have hs1':=X1.out.size;clear kz hmO;have hq9:w.heap.size+1+1 < W.heap.size:=by omega
      have M:=Hd (fun W' (h:(relS (w.heap.size+1+1) (.cells (Rp.cs a2 A2 qs2.length c2 r) 33) W.heap.size hq9).rel W W')=>zaw (cs:=Rp.cs a2 A2 qs2.length c2 r) (zcr BX.out (by omega) W' h) [] [.slice Ao (List.length os) co] rfl rfl)
      (refine mrg (relS (w.heap.size+1+1) (.cells (Rp.cs a2 A2 qs2.length c2 r) 33) W.heap.size hq9) (stored (w.heap.size+1+1) (.cells (Rp.cs a2 A2 qs2.length c2 r) 33)) 9 ?_;simp only [Tc,Tz,Dc,Dz])
      (refine mpl ?_;go_big_quiet_step (fail);refine mnil ?_)
      (refine Rm.wpMix_nilp rfl rfl rfl ?_;simp only [Act.put,Sa,Sz,Ss])
      (refine mpl ?_;go_big_quiet_step (fail);refine mnil ?_)
      (refine mla (M.out) Tryz.underlying33 ?_;simp only [Act.put,Sa,Sz,Ss])
      (refine mpl ?_;go_big_quiet_step (fail);refine mnil ?_)
      (refine Rm.wpMix_nilp rfl rfl rfl ?_;simp only [Act.put,Sa,Sz,Ss])
      (refine mpl ?_;go_big_quiet_step (fail);refine mnil ?_)
      (refine ml1 (fun W' h=>show W'.cell? _=some (.slice Ao (List.length os) co) from za2 (zcr BX.out (by omega) W' h) 13) Tryz.underlying40 ?_;simp only [Act.put,Sa,Sz,Ss])
      refine zi8 DW.out rfl rfl rfl rfl rfl (by kernel_rfl) rfl (by simp [Value.oneCell']) ?_
      simp only [Act.put,Sa,Sz,Ss];refine Rm.wpMix_nil ?_;rintro W9 ⟨h9,E9⟩;have c9:=h9.1;have HE9:=Hd E9;have HR9:=Hd ((RO.out.chgAny c9 (fun k h1 h2 hm=>by rw [Mi] at hm;omega)).wide (B':=w.heap.size) (by omega) c9.size)
      have HO9:=Hd ((OO.out.chg c9 (fun k hk hm=>by rw [Mi] at hm;have:=OO.out.low k hk;omega)).wide (B':=w.heap.size) (by omega) c9.size)
      have HX9:=Hd (zaf (Ext.trans X1.out XK.out) c9 (fun g hg=>by rw [Mi] at hg;omega))
      clear E9 h9 c9 M;go_wp2
      refine bodyPost_ret (zax Tryz.results12 rfl rfl Tryz.underlying33 (by kernel_rfl) HE9.out) rfl ⟨_,rfl, ?_,HX9.out⟩
      rw [HR'.out.1,HR'.out.2];exact ⟨a2,A2,c2,qs2,Ao,co,os,rfl,HR9.out,HO9.out,HM.out,DD.out⟩
     ·cases qn:(m.frm != r.me)
      ·have HR':=Hd (show zbu r m kind R2=r/\hearO r m kind O=[] by rw [HR.out.1,HR.out.2];simp [hearB,HFe.out,qf,qk,qh,qi,qn])
       go_wp2_with (first | (go_at_call 52;refine (HFl.out _).mono ?_;rintro e w1 ⟨rfl,hx⟩;obtain ⟨hc1,hf1,hs1⟩:=hx.rules;(try simp at hs1);have z0:w.heap.size < w1.heap.size:=(by omega);have z1:w.heap.size+1 < w1.heap.size:=(by omega)) | (go_at_call 51;refine (c_has _ _ hF _).mono ?_;rintro e w1 ⟨rfl,hx⟩;obtain ⟨hc1,hf1,hs1⟩:=hx.rules;(try simp at hs1);have z0:w.heap.size < w1.heap.size:=(by omega);have z1:w.heap.size+1 < w1.heap.size:=(by omega)) | (go_at_call 53;refine (zce _ _ _ _).mono ?_;rintro e w1 ⟨rfl,hx⟩;obtain ⟨hc1,hf1,hs1⟩:=hx.rules;(try simp at hs1);have z0:w.heap.size < w1.heap.size:=(by omega);have z1:w.heap.size+1 < w1.heap.size:=(by omega)))
       refine ziu (F:=fun W=>KO v1 W w2.heap.size r []/\W.heap[w.heap.size+1+1]?=some Rp.zobj) ?_ ?_
       ·have XX:Ext (w2.alloc (Kp.obj a' A' ps.length c' r (.slice none 0 0))) w1:=by
         have X3:=X3.out;(repeat (first | with_reducible exact za4 _ | with_reducible refine za9 ?_ _ | with_reducible refine zak ?_ (by first | (simp;done) | (simp;omega) | omega) _ | with_reducible refine zab ?_ | with_reducible refine Ext.trans ?_ (by assumption)))
        exact ⟨HK0.out.keep XX,XX.box G3.out⟩
       rintro W ⟨kd,dW⟩;have DW:=Hd dW;clear dW d1 d2 z1 z2;obtain ⟨a2,A2,c2,qs2,Ao,co,os,kz,hmO⟩:=kd;have BX:=Hd kz.box;have RO:=Hd kz.rp;have OO:=Hd kz.oso;have DD:=Hd kz.dd;have XK:=Hd kz.x;have HM:=Hd hmO;have hsW:=kz.x.size;have hlw:=kz.low;have hs1':=X1.out.size;clear kz hmO;have hq9:w.heap.size+1+1 < W.heap.size:=by omega
       have M:=Hd (fun W' (h:(relS (w.heap.size+1+1) (.cells (Rp.cs a2 A2 qs2.length c2 r) 33) W.heap.size hq9).rel W W')=>zaw (cs:=Rp.cs a2 A2 qs2.length c2 r) (zcr BX.out (by omega) W' h) [] [.slice Ao (List.length os) co] rfl rfl)
       (refine mrg (relS (w.heap.size+1+1) (.cells (Rp.cs a2 A2 qs2.length c2 r) 33) W.heap.size hq9) (stored (w.heap.size+1+1) (.cells (Rp.cs a2 A2 qs2.length c2 r) 33)) 9 ?_;simp only [Tc,Tz,Dc,Dz])
       (refine mpl ?_;go_big_quiet_step (fail);refine mnil ?_)
       (refine Rm.wpMix_nilp rfl rfl rfl ?_;simp only [Act.put,Sa,Sz,Ss])
       (refine mpl ?_;go_big_quiet_step (fail);refine mnil ?_)
       (refine mla (M.out) Tryz.underlying33 ?_;simp only [Act.put,Sa,Sz,Ss])
       (refine mpl ?_;go_big_quiet_step (fail);refine mnil ?_)
       (refine Rm.wpMix_nilp rfl rfl rfl ?_;simp only [Act.put,Sa,Sz,Ss])
       (refine mpl ?_;go_big_quiet_step (fail);refine mnil ?_)
       (refine ml1 (fun W' h=>show W'.cell? _=some (.slice Ao (List.length os) co) from za2 (zcr BX.out (by omega) W' h) 13) Tryz.underlying40 ?_;simp only [Act.put,Sa,Sz,Ss])
       refine zi8 DW.out rfl rfl rfl rfl rfl (by kernel_rfl) rfl (by simp [Value.oneCell']) ?_
       simp only [Act.put,Sa,Sz,Ss];refine Rm.wpMix_nil ?_;rintro W9 ⟨h9,E9⟩;have c9:=h9.1;have HE9:=Hd E9;have HR9:=Hd ((RO.out.chgAny c9 (fun k h1 h2 hm=>by rw [Mi] at hm;omega)).wide (B':=w.heap.size) (by omega) c9.size)
       have HO9:=Hd ((OO.out.chg c9 (fun k hk hm=>by rw [Mi] at hm;have:=OO.out.low k hk;omega)).wide (B':=w.heap.size) (by omega) c9.size)
       have HX9:=Hd (zaf (Ext.trans X1.out XK.out) c9 (fun g hg=>by rw [Mi] at hg;omega))
       clear E9 h9 c9 M;go_wp2
       refine bodyPost_ret (zax Tryz.results12 rfl rfl Tryz.underlying33 (by kernel_rfl) HE9.out) rfl ⟨_,rfl, ?_,HX9.out⟩
       rw [HR'.out.1,HR'.out.2];exact ⟨a2,A2,c2,qs2,Ao,co,os,rfl,HR9.out,HO9.out,HM.out,DD.out⟩
      ·have HR':=Hd (show zbu r m kind R2=R2/\hearO r m kind O=O by rw [HR.out.1,HR.out.2];simp [hearB,HFe.out,qf,qk,qh,qi,qn])
       have hB:hearB r m kind=true:=by simp [hearB,HFe.out,qf,qk,qh,qi,qn]
       go_wp2_with (first | (go_at_call 52;refine (HFl.out _).mono ?_;rintro e w1 ⟨rfl,hx⟩;obtain ⟨hc1,hf1,hs1⟩:=hx.rules;(try simp at hs1);have z0:w.heap.size < w1.heap.size:=(by omega);have z1:w.heap.size+1 < w1.heap.size:=(by omega)) | (go_at_call 51;refine (c_has _ _ hF _).mono ?_;rintro e w1 ⟨rfl,hx⟩;obtain ⟨hc1,hf1,hs1⟩:=hx.rules;(try simp at hs1);have z0:w.heap.size < w1.heap.size:=(by omega);have z1:w.heap.size+1 < w1.heap.size:=(by omega)) | (go_at_call 53;refine (zce _ _ _ _).mono ?_;rintro e w1 ⟨rfl,hx⟩;obtain ⟨hc1,hf1,hs1⟩:=hx.rules;(try simp at hs1);have z0:w.heap.size < w1.heap.size:=(by omega);have z1:w.heap.size+1 < w1.heap.size:=(by omega)))
       have XX:Ext (w2.alloc (Kp.obj a' A' ps.length c' r (.slice none 0 0))) w1:=by
        have X3:=X3.out
        (repeat (first | with_reducible exact za4 _ | with_reducible refine za9 ?_ _ | with_reducible refine zak ?_ (by first | (simp;done) | (simp;omega) | omega) _ | with_reducible refine zab ?_ | with_reducible refine Ext.trans ?_ (by assumption)))
       refine (HDo.out (by rw [hB];rfl) v1 _ w2.heap.size X1.out (HK0.out.keep XX)).mono ?_
       rintro e W ⟨rfl,kd⟩;have DW:=Hd (show W.heap[w.heap.size+1+1]?=some Rp.zobj by obtain ⟨_,_,_,_,_,_,_,kz,_⟩:=kd;exact kz.x.box B3'.out)
       clear XX d1 d2 z1 z2;go_wp2
       obtain ⟨a2,A2,c2,qs2,Ao,co,os,kz,hmO⟩:=kd;have BX:=Hd kz.box;have RO:=Hd kz.rp;have OO:=Hd kz.oso;have DD:=Hd kz.dd;have XK:=Hd kz.x;have HM:=Hd hmO;have hsW:=kz.x.size;have hlw:=kz.low;have hs1':=X1.out.size;clear kz hmO;have hq9:w.heap.size+1+1 < W.heap.size:=by omega
       have M:=Hd (fun W' (h:(relS (w.heap.size+1+1) (.cells (Rp.cs a2 A2 qs2.length c2 R2) 33) W.heap.size hq9).rel W W')=>zaw (cs:=Rp.cs a2 A2 qs2.length c2 R2) (zcr BX.out (by omega) W' h) [] [.slice Ao (List.length os) co] rfl rfl)
       (refine mrg (relS (w.heap.size+1+1) (.cells (Rp.cs a2 A2 qs2.length c2 R2) 33) W.heap.size hq9) (stored (w.heap.size+1+1) (.cells (Rp.cs a2 A2 qs2.length c2 R2) 33)) 9 ?_;simp only [Tc,Tz,Dc,Dz])
       (refine mpl ?_;go_big_quiet_step (fail);refine mnil ?_)
       (refine Rm.wpMix_nilp rfl rfl rfl ?_;simp only [Act.put,Sa,Sz,Ss])
       (refine mpl ?_;go_big_quiet_step (fail);refine mnil ?_)
       (refine mla (M.out) Tryz.underlying33 ?_;simp only [Act.put,Sa,Sz,Ss])
       (refine mpl ?_;go_big_quiet_step (fail);refine mnil ?_)
       (refine Rm.wpMix_nilp rfl rfl rfl ?_;simp only [Act.put,Sa,Sz,Ss])
       (refine mpl ?_;go_big_quiet_step (fail);refine mnil ?_)
       (refine ml1 (fun W' h=>show W'.cell? _=some (.slice Ao (List.length os) co) from za2 (zcr BX.out (by omega) W' h) 13) Tryz.underlying40 ?_;simp only [Act.put,Sa,Sz,Ss])
       refine zi8 DW.out rfl rfl rfl rfl rfl (by kernel_rfl) rfl (by simp [Value.oneCell']) ?_
       simp only [Act.put,Sa,Sz,Ss];refine Rm.wpMix_nil ?_;rintro W9 ⟨h9,E9⟩;have c9:=h9.1;have HE9:=Hd E9;have HR9:=Hd ((RO.out.chgAny c9 (fun k h1 h2 hm=>by rw [Mi] at hm;omega)).wide (B':=w.heap.size) (by omega) c9.size)
       have HO9:=Hd ((OO.out.chg c9 (fun k hk hm=>by rw [Mi] at hm;have:=OO.out.low k hk;omega)).wide (B':=w.heap.size) (by omega) c9.size)
       have HX9:=Hd (zaf (Ext.trans X1.out XK.out) c9 (fun g hg=>by rw [Mi] at hg;omega))
       clear E9 h9 c9 M;go_wp2
       refine bodyPost_ret (zax Tryz.results12 rfl rfl Tryz.underlying33 (by kernel_rfl) HE9.out) rfl ⟨_,rfl, ?_,HX9.out⟩
       rw [HR'.out.1,HR'.out.2];exact ⟨a2,A2,c2,qs2,Ao,co,os,rfl,HR9.out,HO9.out,HM.out,DD.out⟩
abbrev Lg.cs (a:LAd) (l:Lg):Array Value:=#[.int .i64 l.base, .slice a.cA l.cells.length a.cc, .slice a.sA l.seats.length a.sc, .slice a.eA l.ents.length a.ec]
def leadsB (r:Rp):Bool:=r.me == r.view % r.of
theorem zit {l:Lg} (h:logOk l=true):0<=l.base/\l.base<=1000000000/\l.ents.length<=60/\l.fin<=1000000000:=by
 have h1:=of_decide_eq_true h;have h2:=(zcu _ _ _).1 h1.1;have h3:=(zcu _ _ _).1 h1.2.2.2.1;exact ⟨h2.1,h2.2,h1.2.2.1,h3.2⟩
structure RpGood (r:Rp):Prop where
 of:r.of=1\/r.of=3\/r.of=5
 me0:0<=r.me
 me1:r.me < r.of
 view0:0<=r.view
 view1:r.view<=1000000000
 lok:logOk r.log=true
 base0:0<=r.log.base
 base1:r.log.base<=1000000000
 ents:r.log.ents.length<=60
 fin:r.log.fin<=1000000000
 c0:r.log.base<=r.commit
 c1:r.commit<=r.log.fin
 votes:r.votes.length<=20
theorem zf9 {r:Rp} (h:rpOk r=true):RpGood r:=by
 unfold rpOk at h;simp only [Bool.and_eq_true,decide_eq_true_eq,zcu] at h;obtain ⟨⟨⟨⟨⟨⟨⟨⟨⟨h1,h2⟩,h3⟩,h4⟩,h5⟩,h6⟩,h7⟩,h8⟩,h9⟩,h10⟩:=h;have ho:r.of=1\/r.of=3\/r.of=5:=by simp [ofB] at h1;omega
 obtain ⟨k1,k2,k3⟩:=hasNum_ok h7;obtain ⟨g1,g2,g3,g4⟩:=zit k1;exact ⟨ho,h2.1,by omega,h3.1,h3.2,k1,g1,g2,g3,g4,k2,k3,h8⟩
theorem hear_facts {r:Rp} {m:Mg} {kind:Int} (h:(rpOk r && hearB r m kind)=true):rpOk r=true/\iFits m=true/\m.kind=kind:=by
 unfold hearB at h;simp only [Bool.and_eq_true,beq_iff_eq] at h;exact ⟨h.1,h.2.1,h.2.2.1⟩
theorem zfv (p:Nat) (a:LAd) (A:Option Addr) (n c:Nat) (r:Rp) (O:Value) (w:World) (hb:w.heap[p]?=some (Kp.obj a A n c r O)) (ho:r.of=1\/r.of=3\/r.of=5) (h0:0<=r.view):Calls Tryz.prog 14 #[.pointer (some ⟨p,0,none⟩)] w fun e w'=>e = .returned (.bool (leadsB r))/\Ext w w':=by
 have HB:=Hd hb;have ho':r.of≠0:=by omega
 have ho2:(r.of == 0)=false:=by simpa using ho'
 clear hb ho
 go_enter Tryz.func14,Tryz.ntmps14
 go_wp2
 (refine mrg (relE w.heap.size) (fun _ _ _=>True) 18 ?_;simp only [Tc,Tz,Dc,Dz])
 ((refine mpl ?_;go_big_quiet_step (fail);refine mnil ?_);(refine Rm.wpMix_nilp rfl rfl rfl ?_;simp only [Act.put,Sa,Sz,Ss]);(iterate 2 (refine mpl ?_;go_big_quiet_step (fail);refine mnil ?_));(refine ml1 (fun W9' h9=>show W9'.cell? _=some (.int .i64 r.me) from za2 (Ext.box h9 HB.out) 0) Tryz.underlying3 ?_;simp only [Act.put,Sa,Sz,Ss]);(refine mpl ?_;go_big_quiet_step (fail);refine mnil ?_);(refine Rm.wpMix_nilp rfl rfl rfl ?_;simp only [Act.put,Sa,Sz,Ss]);(iterate 2 (refine mpl ?_;go_big_quiet_step (fail);refine mnil ?_));(refine ml1 (fun W9' h9=>show W9'.cell? _=some (.int .i64 r.view) from za2 (Ext.box h9 HB.out) 3) Tryz.underlying3 ?_;simp only [Act.put,Sa,Sz,Ss]);(refine mpl ?_;go_big_quiet_step (fail);refine mnil ?_);(refine Rm.wpMix_nilp rfl rfl rfl ?_;simp only [Act.put,Sa,Sz,Ss]);(iterate 2 (refine mpl ?_;go_big_quiet_step (fail);refine mnil ?_));(refine ml1 (fun W9' h9=>show W9'.cell? _=some (.int .i64 r.of) from za2 (Ext.box h9 HB.out) 1) Tryz.underlying3 ?_;simp only [Act.put,Sa,Sz,Ss]))
 ((iterate 3 (refine mpl ?_;go_big_quiet_step (fail);refine mnil ?_)))
 refine Rm.wpMix_nil ?_;rintro W1 hW1;have x1:Ext w W1:=hW1;go_wp2
 go_ret
 exact ⟨rfl,x1⟩
theorem c_half (p:Nat) (a:LAd) (A:Option Addr) (n c:Nat) (r:Rp) (O:Value) (w:World) (hb:w.heap[p]?=some (Kp.obj a A n c r O)) (ho:r.of=1\/r.of=3\/r.of=5):Calls Tryz.prog 57 #[.pointer (some ⟨p,0,none⟩)] w fun e w'=>e = .returned (.int .i64 ((r.of - 1) / 2))/\Ext w w':=by
 have d:=za2 hb;have z:=bx_lt hb;have h1:1<=r.of/\r.of<=5:=by omega
 clear hb ho
 go_enter Tryz.func57,Tryz.ntmps57
 go_wp2
 go_ret
 exact ⟨rfl,za4 _⟩
theorem kp_log {w w':World} {p:Nat} {a:LAd} {A:Option Addr} {n c:Nat} {r:Rp} {O:Value} (hb:w.heap[p]?=some (Kp.obj a A n c r O)) (hx:Ext w w'):∀ j v,(Lg.cs a r.log).toList[j]?=some v->w'.cell? ⟨p,6+j,none⟩=some v :=
 zaw (cs:=Lg.cs a r.log) (hx.box hb) [.int .i64 r.me, .int .i64 r.of, .int .i64 r.mode, .int .i64 r.view, .int .i64 r.normal, .int .i64 r.commit] [.slice A n c, .int .i64 r.cell, .int .i64 r.nonce,O] rfl rfl
section
variable {W0 w:World} {p:Nat} {a:LAd} {A:Option Addr} {c:Nat} {qs:List VtE} {R:Rp} {Ao:Option Addr} {co:Nat} {os:List OtE}
theorem zi0:Lg.none.small:=⟨by simp [Lg.none],by simp [Lg.none],by simp [Lg.none]⟩
theorem none_rd (w:World):LgR w LAd.none Lg.none:=⟨⟨Nat.le_refl _,by unfold maxLen;decide,fun h=>absurd h (by decide)⟩,⟨Nat.le_refl _,by unfold maxLen;decide,fun h=>absurd h (by decide)⟩,⟨Nat.le_refl _,by unfold maxLen;decide,fun h=>absurd h (by decide)⟩⟩
end
end Go.Proofs.YtckfjploafhenaaGreat
namespace Go.Proofs.YtckfjploafhenaaGreat
open Go.ChangeShapes Go.WideShapes Go.ChangeAt Go.RowKit Go.Joins Go.Deep
theorem own:ownKnob Tryz.prog.godebug=none:=by kernel_rfl
theorem laidOut:laidOutB Tryz.prog=true:=by kernel_rfl
theorem trodAll_stays {P:Program} (laid:laidOutB P=true) {H:Type} {enc:TypeId×Value->H} {W W':World} (hx:Ext W W'):∀ (ts:List TypeId) (vs:List Value) (ds:List (DataW H)) (ps:List MemPlace),
  (ts.all fun t=>P.readableRec t && decide (t < P.types.size))=true->(∀ x∈ps,x.block < W.heap.size)->DataW.TrodAll enc P W 0 (fun _=>true) true ts vs ds ps ->
  DataW.TrodAll enc P W' 0 (fun b=>decide (b < W.heap.size)) true ts vs ds ps
 | [],[],[],ps,_,_,h=>h
 | t::ts,v::vs,d::ds,ps,hr,hlt,h=>by
  obtain ⟨p,q,h1,h2,rfl⟩:=h;simp only [List.all_cons,Bool.and_eq_true,decide_eq_true_eq] at hr;exact ⟨p,q,Below.trod laid hr.1.1 hr.1.2 h1 hx (fun x hx=>hlt x (List.mem_append_left _ hx)),trodAll_stays laid hx ts vs ds q hr.2 (fun x hx=>hlt x (List.mem_append_right _ hx)) h2,rfl⟩
 | [],[],_::_,_,_,_,h=>h.elim
 | [],_::_,[],_,_,_,h=>h.elim
 | [],_::_,_::_,_,_,_,h=>h.elim
 | _::_,[],[],_,_,_,h=>h.elim
 | _::_,[],_::_,_,_,_,h=>h.elim
 | _::_,_::_,[],_,_,_,h=>h.elim
theorem law_post {P:Program} {T:TypeId} (laid:laidOutB P=true) (hbool:P.underlying T=some .bool) {H:Type} {enc:TypeId×Value->H} {s:ChangeSpec} {f:Func} {W W':World} {args:Array Value} {ds:List (DataW H)} {before:List MemPlace}
  (hW:DataW.Whole enc P f.params.toList s.vars false W args.toList ds [] before) (hx:Ext W W') (hv:s.vars=[]) (hr:(s.fn H (ds++[])).results=[.lit (.bool true)]) (ha:(s.fn H (ds++[])).args=ds) (hvs:(s.fn H (ds++[])).vars=[])
  (hts:(f.params.toList.all fun t=>P.readableRec t && decide (t < P.types.size))=true) (hres:f.resultTypes=#[T]) :
  s.post enc P f false true false false W args (.bool true) W':=by
 have hlt:∀ x∈before,x.block < W.heap.size:=fun x hx=>hW.lt x hx
 have hW2:=hW;obtain ⟨p,q,hA,hV,rfl,hfz,hnd⟩:=hW
 have hq:q=[]:=by
  rw [hv] at hV;exact hV
 subst hq;refine ⟨ds,[],_,[],p,[],hW2, ?_, ?_, ?_,hx.frame _,fun h=>by cases h⟩
 ·rw [hr,hres];exact trodAll_mk1 (shut_bool hbool _)
 ·rw [ha];exact trodAll_stays laid hx _ _ _ _ hts (fun x hx=>hlt x (List.mem_append_left _ hx)) hA
 ·rw [hvs,hv];rfl
section
variable {H:Type} {enc:TypeId×Value->H} {P:Program} {w:World} {base:Nat} {spare:Nat->Bool} {held:Bool}
end
section
variable {H:Type} {enc:TypeId×Value->H} {w:World} {base:Nat} {spare:Nat->Bool} {held:Bool}
end
section
variable {H:Type} {enc:TypeId×Value->H} {w:World} {base:Nat} {spare:Nat->Bool} {held:Bool}
end
end Go.Proofs.YtckfjploafhenaaGreat
namespace Go.Proofs.YtckfjploafhenaaGreat
open Go.ChangeShapes Go.WideShapes Go.ChangeAt Go.RowKit Go.Sort
end Go.Proofs.YtckfjploafhenaaGreat
