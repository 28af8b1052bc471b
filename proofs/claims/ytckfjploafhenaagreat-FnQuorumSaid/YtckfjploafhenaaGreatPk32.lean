/- MsgFits of the program and of the reference agree. -/
import Derived.Test.YtckfjploafhenaaGreatPk31
import Derived.Test.YtckfjploafhenaaGreatPk30
import Derived.Test.YtckfjploafhenaaGreatPk28
import Derived.Test.YtckfjploafhenaaGreatPk20
import Derived.Deep.QuietTactic
import Derived.Test.YtckfjploafhenaaGreatPk19
import Derived.Test.YtckfjploafhenaaGreatPk24
set_option maxRecDepth 100000
set_option maxHeartbeats 16000000
set_option linter.unusedVariables false
set_option linter.unusedSimpArgs false
namespace Go.Proofs.YtckfjploafhenaaGreat
open Go.ChangeShapes Go.WideShapes Go.ChangeAt Go.RowKit Go.Sort
def iAll (m:Mg) (f:ByteArray):Bool:=iFld m f 0 && (iFld m f 1 && (iFld m f 2 && (iFld m f 3 && (iFld m f 4 && (iFld m f 5 && (iFld m f 6 && (iFld m f 7 && iFld m f 8)))))))
theorem iTo_all (m:Mg) (f:ByteArray):decide (iTo m f 9)=iAll m f:=by
 rw [Bool.eq_iff_iff,decide_eq_true_iff];simp only [iAll,Bool.and_eq_true];constructor
 ·intro h;exact ⟨h 0 (by omega),h 1 (by omega),h 2 (by omega),h 3 (by omega),h 4 (by omega),h 5 (by omega),h 6 (by omega),h 7 (by omega),h 8 (by omega)⟩
 ·rintro ⟨h0,h1,h2,h3,h4,h5,h6,h7,h8⟩ j hj;have h9:j=0\/j=1\/j=2\/j=3\/j=4\/j=5\/j=6\/j=7\/j=8:=by omega
  rcases h9 with rfl | rfl | rfl | rfl | rfl | rfl | rfl | rfl | rfl <;> assumption
def iBits (f:ByteArray):List Bool:=[sHas f 70,sHas f 86,sHas f 79,sHas f 67,sHas f 78,sHas f 110,sHas f 99,sHas f 114,sHas f 65,sHas f 120,sHas f 76,f.toList.isEmpty]
def sBits (f:ByteArray):List Bool:=[sHas f 102,sHas f 118,sHas f 111,sHas f 99,sHas f 110,sHas f 107,sHas f 67,sHas f 82,sHas f 65,sHas f 100,sHas f 108,f.toList.isEmpty]
theorem bits_eq (k:Int):iBits (iForm k)=sBits (sForm k)/\(sHas (sForm k) 108=false->sHas (sForm k) 110=false):=by
 unfold iForm sForm
 repeat' split
 all_goals (first | contradiction | decide +kernel)
theorem iLets:iLet 0=70/\iLet 1=86/\iLet 2=79/\iLet 3=67/\iLet 4=78/\iLet 5=110/\iLet 6=99/\iLet 7=114/\iLet 8=65:=by decide
theorem ze3 (h:Bool) (b x lo hi:Int) (he:fOk b x=inB x lo hi):fOne h b x=numOk h x lo hi:=by unfold fOne numOk;rw [he]
theorem fits_eq (m:Mg):iFits m=sFits m:=by
 obtain ⟨hb,hn⟩:=bits_eq m.kind;unfold iFits sFits;rw [iTo_all];generalize iForm m.kind=F at *;generalize sForm m.kind=S at *;simp only [iBits,sBits,List.cons.injEq,and_true] at hb;obtain ⟨e1,e2,e3,e4,e5,e6,e7,e8,e9,e10,e11,e12⟩:=hb;obtain ⟨l0,l1,l2,l3,l4,l5,l6,l7,l8⟩:=iLets;simp only [iAll,iFld,l0,l1,l2,l3,l4,l5,l6,l7,l8,iVal,e1,e2,e3,e4,e5,e6,e7,e8,e9,e12,sN];rw [ze3 _ 70 m.frm 0 4 (by simp [fOk]),ze3 _ 86 m.view 0 1000000000 (by simp [fOk]),ze3 _ 79 m.op 0 1000000000 (by simp [fOk]),ze3 _ 67 m.commit 0 1000000000 (by simp [fOk]),ze3 _ 78 m.normal 0 1000000000 (by simp [fOk]),ze3 _ 110 m.nonce 0 1000000000 (by simp [fOk]),ze3 _ 99 m.client 0 1000000000 (by simp [fOk]),ze3 _ 114 m.req 1 1000000000 (by simp [fOk]),ze3 _ 65 m.answer (-1) 1000000000 (by simp [fOk])]
 have hc:iCmd m F=sCmd m S:=by unfold iCmd sCmd;rw [e10]
 rw [hc]
 have hkey:numOk (sHas S 118) m.view 0 1000000000=true->numOk (sHas S 110) m.normal 0 1000000000=true->sHas S 108=false->decide (m.normal<=m.view)=true:=by
  intro hv hm hl;rw [hn hl] at hm;simp only [numOk,Bool.false_and,Bool.not_false,Bool.true_and,Bool.false_or,beq_iff_eq] at hm
  have h0:0<=m.view:=by
   unfold numOk inB at hv;cases hs:sHas S 118 <;> simp [hs] at hv <;> omega
  simp
  omega
 unfold iLog sLog;rw [e11];generalize numOk (sHas S 102) m.frm 0 4=b1 at *;generalize numOk (sHas S 118) m.view 0 1000000000=b2 at *;generalize numOk (sHas S 111) m.op 0 1000000000=b3 at *;generalize numOk (sHas S 99) m.commit 0 1000000000=b4 at *;generalize numOk (sHas S 110) m.normal 0 1000000000=b5 at *;generalize numOk (sHas S 107) m.nonce 0 1000000000=b6 at *;generalize numOk (sHas S 67) m.client 0 1000000000=b7 at *;generalize numOk (sHas S 82) m.req 1 1000000000=b8 at *;generalize numOk (sHas S 65) m.answer (-1) 1000000000=b9 at *;generalize decide (m.normal<=m.view)=d at *;generalize zb8 m.log m.commit=x at *;generalize isZ m.log=y at *;generalize sCmd m S=c at *;generalize S.toList.isEmpty=z at *;cases hl:sHas S 108
 ·have hk:=fun a b=>hkey a b hl
  rw [Bool.eq_iff_iff];simp only [Bool.and_eq_true,Bf,if_false];constructor
  ·rintro ⟨⟨⟨h0,h1,h2,h3,h4,h5,h6,h7,h8,h9⟩,h10⟩,h11⟩;exact ⟨h0,h1,h8,h9,h2,h3,h4,h5,h6,h7,⟨h10,hk h2 h5⟩,h11⟩
  ·rintro ⟨h0,h1,h8,h9,h2,h3,h4,h5,h6,h7,⟨h10,_⟩,h11⟩;exact ⟨⟨⟨h0,h1,h2,h3,h4,h5,h6,h7,h8,h9⟩,h10⟩,h11⟩
 ·rw [Bool.eq_iff_iff];simp only [Bool.and_eq_true,if_true];constructor
  ·rintro ⟨⟨⟨h0,h1,h2,h3,h4,h5,h6,h7,h8,h9⟩,h10⟩,h11,h12⟩;exact ⟨h0,h1,h8,h9,h2,h3,h4,h5,h6,h7,⟨h10,h12⟩,h11⟩
  ·rintro ⟨h0,h1,h8,h9,h2,h3,h4,h5,h6,h7,⟨h10,h12⟩,h11⟩;exact ⟨⟨⟨h0,h1,h2,h3,h4,h5,h6,h7,h8,h9⟩,h10⟩,h11,h12⟩
def sHearB (r:Rp) (m:Mg) (kind:Int):Bool:=sFits m && ((m.kind == kind) && ((kind == 1) || (decide (m.frm < r.of) && (m.frm != r.me))))
theorem hear_eq {r:Rp} {m:Mg} {kind:Int} (h70:sHas (iForm kind) 70=true) (h102:sHas (sForm kind) 102=true) (hne:(kind == 1)=false):hearB r m kind=sHearB r m kind:=by
 unfold hearB sHearB;rw [fits_eq,h70,hne];cases hf:sFits m
 ·rfl
 ·cases hk:(m.kind == kind)
  ·rfl
  ·have hk':m.kind=kind:=by simpa using hk
   have h1:sN m (sForm m.kind) 1=true:=by
    unfold sFits at hf;simp only [Bool.and_eq_true] at hf;exact hf.2.1
   rw [hk'] at h1;simp only [sN,numOk,h102,Bool.true_and,Bool.not_true,Bool.false_and,Bool.or_false,inB,Bool.and_eq_true,decide_eq_true_eq] at h1
   have h2:inB m.frm 0 (r.of - 1)=decide (m.frm < r.of):=by
    unfold inB;rw [Bool.eq_iff_iff]
    simp
    omega
   rw [h2]
   simp
theorem zbn (a:LAd) (A:Option Addr) (c:Nat) (ps:List VtE) (r:Rp) (am:LAd) (m:Mg) (kind:Int) (w:World) (hr:RpR w a A c ps r) (hs:r.log.small) (hn:ps.length<=1048576) (hv:LgS ps) (hm:LgR w am m.log) (hms:m.log.small) :
  Calls Tryz.prog 22 #[Rp.val a A ps.length c r,Mg.val am m, .int .i64 kind] w fun e w'=>e = .returned (.bool (rpOk r && sHearB r m kind))/\Ext w w':=by
 have X0:Ext w ((w.alloc (Rp.obj a A ps.length c r)).alloc (Mg.obj am m)):=za9 (za1 _ _) _;have hcon:=zh3 a A c ps r _ (hr.keep X0) hs hn hv;have HFt:=Hd (fun W (h:Ext w W)=>c_sMsgFits am m W hms (hm.keep h))
 have D1:=Hd (hOld (o:=Mg.obj am m) (hNew (w:=w) (o:=Rp.obj a A ps.length c r) rfl));have D2:=Hd (hNew (w:=w.alloc (Rp.obj a A ps.length c r)) (o:=Mg.obj am m) (k:=w.heap.size+1) (by simp))
 have HX0:=Hd X0;obtain ⟨ff,hff⟩:∃ ff,sFits m=ff:=⟨_,rfl⟩;have hfc:=fun W (h:Ext w W)=>HFt.out W h
 rw [hff] at hfc;have HFc:=Hd hfc;obtain ⟨V,hV⟩:∃ V,(rpOk r && sHearB r m kind)=V:=⟨_,rfl⟩;have HV:=Hd (show V=(rpOk r && (ff && ((m.kind == kind) && ((kind == 1) || (decide (m.frm < r.of) && (m.frm != r.me)))))) by rw [<-hV,<-hff];rfl)
 rw [hV];clear X0 hr hv hs hm HFt hff hfc hV;cases q:rpOk r
 ·rw [q] at hcon HV;have HC:=Hd hcon;clear q hcon
  go_enter Tryz.func22,Tryz.ntmps22
  (go_wp2_with (with_reducible refine za5 7 ?_);refine za6 (D1.out) rfl Tryz.underlying33 (by kernel_rfl) ?_;simp only [Act.put,Sa,Sz,Ss])
  go_wp2_with fail
  refine HC.out.mono ?_;rintro e w1 ⟨rfl,x1⟩;have X1:=Hd (Ext.trans HX0.out x1);clear x1;go_wp2
  go_ret
  exact ⟨za7 (by rw [HV.out];rfl),X1.out⟩
 ·rw [q] at hcon HV;have HC:=Hd hcon;clear q hcon
  go_enter Tryz.func22,Tryz.ntmps22
  (go_wp2_with (with_reducible refine za5 7 ?_);refine za6 (D1.out) rfl Tryz.underlying33 (by kernel_rfl) ?_;simp only [Act.put,Sa,Sz,Ss])
  go_wp2_with fail
  refine HC.out.mono ?_;rintro e w1 ⟨rfl,x1⟩;have E1:=Hd (x1.box D1.out);have E2:=Hd (x1.box D2.out);have X1:=Hd (Ext.trans HX0.out x1);clear x1 D1 D2
  (go_wp2_with (with_reducible refine za5 11 ?_);refine zhw (E2.out) rfl rfl Tryz.underlying37 (by kernel_rfl) ?_;simp only [Act.put,Sa,Sz,Ss])
  go_wp2_with fail
  refine (HFc.out _ X1.out).mono ?_;rintro e w2 ⟨rfl,x2⟩;have X2:=Hd (Ext.trans X1.out x2);have d1:=za2 (x2.box E1.out);have d2:=za2 (x2.box E2.out);have z1:=bx_lt (x2.box E1.out);have z2:=bx_lt (x2.box E2.out);clear x2 E1 E2 X1 HFc;cases ff
  ·go_wp2
   go_ret
   exact ⟨za7 (by rw [HV.out];rfl),X2.out⟩
  ·go_wp2
   all_goals
    go_ret
    refine ⟨za7 ?_,X2.out⟩;rw [HV.out]
    (first | (simp [*];done) | (simp_all;done) | (simp_all;omega))
def RoT (w:World) (R:Rp) (O:List Ot) (V:Value):Prop:=∃ a A c qs Ao co os,V = .tuple #[Rp.val a A (List.length qs) c R, .slice Ao (List.length os) co]/\RpR w a A c qs R/\OsR w Ao co os/\List.map Prod.snd os=O /\
 ∀ (w':World) (p:Nat) (cs:Array Value),w.heap[p]?=some (.cells cs 33 (0,0))->Chg w w' [p]->RpR w' a A c qs R/\OsR w' Ao co os
theorem RoY.kept0 {w w':World} {B p:Nat} {R:Rp} {O:List Ot} {a:LAd} {A:Option Addr} {c:Nat} {qs:List VtE} {Ao:Option Addr} {co:Nat} {os:List OtE} (h1:RpO w B w.heap.size a A c qs R) (h2:OsO w B w.heap.size Ao co os) (h3:List.map Prod.snd os=O) (h4:∀ x∈a.fp++vsF A qs,x∉OtE.fps Ao os) (hg:Chg w w' [p]) (hp:p < B) {B':Nat} (hB:B'<=B) :
  RoY w' B' R O (.tuple #[Rp.val a A (List.length qs) c R, .slice Ao (List.length os) co]) :=
 ⟨a,A,c,qs,Ao,co,os,rfl,(h1.chgAny hg (fun k hk _ hm=>by rw [Mi] at hm;omega)).wide hB hg.size,(h2.chg hg (fun k hk hm=>by rw [Mi] at hm;have:=h2.low k hk;omega)).wide hB hg.size,h3,h4⟩
theorem c_sPrimaryOf (view n:Int) (w:World) (h:inB view 0 1000000000=true) (h2:ofB n=true):Calls Tryz.prog 65 #[.int .i64 view, .int .i64 n] w fun e w'=>e = .returned (.int .i64 (view % n))/\Ext w w':=by
 have hv:=(zcu _ _ _).1 h;have ho:=ofB_b h2;have ho':n≠0:=by omega
 have ho2:(n == 0)=false:=by simpa using ho'
 have HC:=Hd (fun W=>h▸zah view W)
 have HD:=Hd (fun W=>h2▸zda n W)
 clear h h2
 go_enter Tryz.func65,Tryz.ntmps65
 go_wp2_with fail
 refine (HC.out _).mono ?_;rintro e w1 ⟨rfl,x1⟩;go_wp2_with fail
 refine (HD.out _).mono ?_;rintro e w2 ⟨rfl,x2⟩;go_wp2
 go_ret
 exact ⟨zc0 (by first | rfl | (simp;done) | omega),Ext.trans x1 x2⟩
theorem zbq (a:LAd) (A:Option Addr) (n c:Nat) (r:Rp) (w:World) (h:inB r.view 0 1000000000=true) (h2:ofB r.of=true):Calls Tryz.prog 23 #[Rp.val a A n c r] w fun e w'=>e = .returned (.bool (leadsB r))/\Ext w w':=by
 have X0:=za1 w (Rp.obj a A n c r);have HB:=Hd (hNew (w:=w) (o:=Rp.obj a A n c r) rfl);have HH:=Hd h;have HH2:=Hd h2;clear h h2
 go_enter Tryz.func23,Tryz.ntmps23
 go_wp2
 (refine mrg (relE (w.alloc (Rp.obj a A n c r)).heap.size) (fun _ _ _=>True) 8 ?_;simp only [Tc,Tz,Dc,Dz])
 ((refine mpl ?_;go_big_quiet_step (fail);refine mnil ?_);(refine ml1 (fun W9' h9=>show W9'.cell? _=some (.int .i64 r.view) from za2 (Ext.box h9 HB.out) 3) Tryz.underlying3 ?_;simp only [Act.put,Sa,Sz,Ss]);(refine mpl ?_;go_big_quiet_step (fail);refine mnil ?_);(refine ml1 (fun W9' h9=>show W9'.cell? _=some (.int .i64 r.of) from za2 (Ext.box h9 HB.out) 1) Tryz.underlying3 ?_;simp only [Act.put,Sa,Sz,Ss]))
 (refine mdt Tryz.func65 (fun W9' h9=>c_sPrimaryOf r.view r.of W9' HH.out HH2.out) ?_;simp only [Act.put,Sa,Sz,Ss])
 ((refine mpl ?_;go_big_quiet_step (fail);refine mnil ?_);(refine ml1 (fun W9' h9=>show W9'.cell? _=some (.int .i64 r.me) from za2 (Ext.box h9 HB.out) 0) Tryz.underlying3 ?_;simp only [Act.put,Sa,Sz,Ss]);(refine mpl ?_;go_big_quiet_step (fail);refine mnil ?_))
 refine Rm.wpMix_nil ?_;rintro W1 hW1;have x1:Ext (w.alloc (Rp.obj a A n c r)) W1:=hW1;go_wp2
 go_ret
 exact ⟨za7 (by unfold leadsB;exact Bool.eq_iff_iff.2 (by simp only [beq_iff_eq];exact eq_comm)),Ext.trans X0 x1⟩
structure OsK (w:World) (B:Nat) (A:Option Addr) (c:Nat) (os:List OtE):Prop where
 row:Ow OtE.enc 47 18 w B (.slice A os.length c) os
 logs:OsF w B os
section
variable {w w':World} {B:Nat} {A:Option Addr} {c:Nat} {os:List OtE}
theorem OsK.keep (h:OsK w B A c os) (hx:Ext w w'):OsK w' B A c os:=⟨h.row.kept hx,fun q hq=>(h.logs q hq).keep hx⟩
theorem OsK.rd (h:OsK w B A c os):OsR w A c os:=⟨(Ow.rdF OtE.len h.row).1,fun q hq=>(h.logs q hq).rd⟩
theorem OsK.boxed {p:Nat} {cs:Array Value} {t:TypeId} (h:OsK w B A c os) (hb:w.heap[p]?=some (.cells cs t (0,0))) (h1:t≠162) (h2:t≠111) (h3:t≠104) (h4:t≠47) (hg:Chg w w' [p]):OsK w' B A c os :=
 ⟨h.row.chg hg (fun k hk hm=>by rw [Mi] at hm;subst hm;exact zam hb h.row h4 hk),fun q hq=>(h.logs q hq).boxed hb h1 h2 h3 hg⟩
theorem OsK.nil {p:Nat} (h:w.heap[p]?=some (.cells #[] 47 (0,0))) (hB:B<=p):OsK w B (some ⟨p,0,none⟩) 0 []:=⟨zd3 h hB,fun q hq=>(List.not_mem_nil hq).elim⟩
theorem none_lgF (w:World) (B:Nat):LgF w B LAd.none Lg.none:=⟨RdF.nil _ _ _ _ _,RdF.nil _ _ _ _ _,RdF.nil _ _ _ _ _⟩
theorem RoT.of {a:LAd} {A':Option Addr} {c':Nat} {qs:List VtE} {R:Rp} {B':Nat} {O:List Ot} (h:RpF w B' a A' c' qs R) (k:OsK w B A c os) (e:List.map Prod.snd os=O):RoT w R O (.tuple #[Rp.val a A' (List.length qs) c' R, .slice A (List.length os) c]) :=
 ⟨a,A',c',qs,A,c,os,rfl,h.rd,k.rd,e,fun w2 p cs hp hc=>⟨(h.boxed hp hc).rd,(k.boxed hp (by decide) (by decide) (by decide) (by decide) hc).rd⟩⟩
end
theorem zdi (a b:Int) (w:World):Calls Tryz.prog 26 #[.int .i64 a, .int .i64 b] w fun e w'=>e = .returned (.int .i64 (max a b))/\Ext w w':=by
 go_enter Tryz.func26,Tryz.ntmps26
 go_wp2
 all_goals
  go_ret
  exact ⟨zc0 (by omega),za4 _⟩
theorem hearR2_no {r:Rp} {m:Mg} {kind:Int} {R2:Rp} {O:List Ot} (h:(rpOk r && hearB r m kind)=false):zbu r m kind R2=sameR r/\hearO r m kind O=[]:=by
 unfold zbu hearO sameR;rw [h];cases q:rpOk r
 ·simp
 ·rw [q] at h;simp at h;simp [h]
theorem hearR2_yes {r:Rp} {m:Mg} {kind:Int} {R2:Rp} {O:List Ot} (h:(rpOk r && hearB r m kind)=true):zbu r m kind R2=R2/\hearO r m kind O=O/\sameR r=r:=by
 unfold zbu hearO sameR;rw [h];simp at h;simp [h.1,h.2]
theorem zdt {w w':World} {p:Nat} {a:LAd} {A:Option Addr} {n c:Nat} {r:Rp} (hb:w.heap[p]?=some (Rp.obj a A n c r)) (hx:Ext w w'):∀ j v,(Rp.cs a A n c r).toList[j]?=some v->w'.cell? ⟨p,0+j,none⟩=some v:=zaw (cs:=Rp.cs a A n c r) (hx.box hb) [] [] rfl rfl
theorem zi7 {w w':World} {p:Nat} {a:LAd} {m:Mg} (hb:w.heap[p]?=some (Mg.obj a m)) (hx:Ext w w'):∀ j v,(Mg.cs a m).toList[j]?=some v->w'.cell? ⟨p,0+j,none⟩=some v:=zaw (cs:=Mg.cs a m) (hx.box hb) [] [] rfl rfl
theorem rp_log {w w':World} {p:Nat} {a:LAd} {A:Option Addr} {n c:Nat} {r:Rp} (hb:w.heap[p]?=some (Rp.obj a A n c r)) (hx:Ext w w'):∀ j v,(Lg.cs a r.log).toList[j]?=some v->w'.cell? ⟨p,6+j,none⟩=some v :=
 zaw (cs:=Lg.cs a r.log) (hx.box hb) [.int .i64 r.me, .int .i64 r.of, .int .i64 r.mode, .int .i64 r.view, .int .i64 r.normal, .int .i64 r.commit] [.slice A n c, .int .i64 r.cell, .int .i64 r.nonce] rfl rfl
theorem rpOk_in {r:Rp} (h:rpOk r=true):inB r.view 0 1000000000=true/\ofB r.of=true:=by
 unfold rpOk at h;simp only [Bool.and_eq_true] at h;obtain ⟨⟨⟨⟨⟨⟨⟨⟨⟨h1,h2⟩,h3⟩,h4⟩,h5⟩,h6⟩,h7⟩,h8⟩,h9⟩,h10⟩:=h;exact ⟨h3,h1⟩
theorem OsK.less {w:World} {B B':Nat} {A:Option Addr} {c:Nat} {os:List OtE} (h:OsK w B A c os) (hB:B'<=B):OsK w B' A c os:=⟨h.row.less hB,fun q hq=>(h.logs q hq).less hB⟩
def half2 (r:Rp):Int:=Int.tdiv (r.of - 1) 2
theorem half2_nn {r:Rp} (h:0<=r.of):0<=half2 r:=by
 unfold half2;by_cases h:r.of=0
 ·rw [h];decide
 ·exact Int.tdiv_nonneg (by omega) (by omega)
theorem e_l6Half (a:LAd) (A:Option Addr) (n c:Nat) (r:Rp) (w:World) (h0:0<=r.of) (h1:r.of<=100):Calls Tryz.prog 28 #[Rp.val a A n c r] w fun e w'=>e = .returned (.int .i64 (half2 r))/\Ext w w':=by
 have X0:=za1 w (Rp.obj a A n c r)
 go_enter Tryz.func28,Tryz.ntmps28
 go_wp2
 go_ret
 exact ⟨rfl,X0⟩
def primB (view n:Int):Int:=if (inB view 0 1000000000 && ofB n)=true then view % n else -1
theorem e_sPrimaryOf (view n:Int) (w:World):Calls Tryz.prog 65 #[.int .i64 view, .int .i64 n] w fun e w'=>e = .returned (.int .i64 (primB view n))/\Ext w w':=by
 cases g1:inB view 0 1000000000
 ·have HC:=Hd (fun W=>g1▸zah view W)
  have HN:=Hd (show -1=primB view n by unfold primB;rw [g1];rfl)
  clear g1
  go_enter Tryz.func65,Tryz.ntmps65
  go_wp2_with fail
  refine (HC.out _).mono ?_;rintro e w1 ⟨rfl,x1⟩;go_wp2
  go_ret
  exact ⟨zc0 HN.out,x1⟩
 ·cases g2:ofB n
  ·have HC:=Hd (fun W=>g1▸zah view W)
   have HD:=Hd (fun W=>g2▸zda n W)
   have HN:=Hd (show -1=primB view n by unfold primB;rw [g1,g2];rfl)
   clear g1 g2
   go_enter Tryz.func65,Tryz.ntmps65
   go_wp2_with fail
   refine (HC.out _).mono ?_;rintro e w1 ⟨rfl,x1⟩;go_wp2_with fail
   refine (HD.out _).mono ?_;rintro e w2 ⟨rfl,x2⟩;go_wp2
   go_ret
   exact ⟨zc0 HN.out,Ext.trans x1 x2⟩
  ·refine (c_sPrimaryOf view n w g1 g2).mono ?_;rintro e w1 ⟨rfl,x1⟩;exact ⟨zc0 (by unfold primB;rw [g1,g2];rfl),x1⟩
def leads2 (r:Rp):Bool:=primB r.view r.of == r.me
theorem e_l6Leads (a:LAd) (A:Option Addr) (n c:Nat) (r:Rp) (w:World):Calls Tryz.prog 23 #[Rp.val a A n c r] w fun e w'=>e = .returned (.bool (leads2 r))/\Ext w w':=by
 have X0:=za1 w (Rp.obj a A n c r);have HB:=Hd (hNew (w:=w) (o:=Rp.obj a A n c r) rfl)
 go_enter Tryz.func23,Tryz.ntmps23
 go_wp2
 (refine mrg (relE (w.alloc (Rp.obj a A n c r)).heap.size) (fun _ _ _=>True) 8 ?_;simp only [Tc,Tz,Dc,Dz])
 ((refine mpl ?_;go_big_quiet_step (fail);refine mnil ?_);(refine ml1 (fun W9' h9=>show W9'.cell? _=some (.int .i64 r.view) from za2 (Ext.box h9 HB.out) 3) Tryz.underlying3 ?_;simp only [Act.put,Sa,Sz,Ss]);(refine mpl ?_;go_big_quiet_step (fail);refine mnil ?_);(refine ml1 (fun W9' h9=>show W9'.cell? _=some (.int .i64 r.of) from za2 (Ext.box h9 HB.out) 1) Tryz.underlying3 ?_;simp only [Act.put,Sa,Sz,Ss]))
 (refine mdt Tryz.func65 (fun W9' h9=>e_sPrimaryOf r.view r.of W9') ?_;simp only [Act.put,Sa,Sz,Ss])
 ((refine mpl ?_;go_big_quiet_step (fail);refine mnil ?_);(refine ml1 (fun W9' h9=>show W9'.cell? _=some (.int .i64 r.me) from za2 (Ext.box h9 HB.out) 0) Tryz.underlying3 ?_;simp only [Act.put,Sa,Sz,Ss]);(refine mpl ?_;go_big_quiet_step (fail);refine mnil ?_))
 refine Rm.wpMix_nil ?_;rintro W1 hW1;have x1:Ext (w.alloc (Rp.obj a A n c r)) W1:=hW1;go_wp2
 go_ret
 exact ⟨za7 (by unfold leads2;exact Bool.eq_iff_iff.2 (by simp only [beq_iff_eq])),Ext.trans X0 x1⟩
def Lg.lgE (l:Lg):Int:=if logOk l=true then l.fin else -1
theorem c_lgEnd (a:LAd) (l:Lg) (s1:l.cells.length<=1048576) (s2:l.seats.length<=1048576) (s3:l.ents.length<=1048576) (w:World) (hr:LgR w a l) :
  Calls Tryz.prog 24 #[Lg.val a l] w fun e w'=>e = .returned (.int .i64 l.lgE)/\Ext w w':=by
 cases hok:logOk l
 ·have X0:=za1 w (Lg.obj a l);have hcon:=zhk a l s1 s2 s3 _ (hr.keep X0);rw [hok] at hcon;have HN:=Hd (show -1=l.lgE by unfold Lg.lgE;rw [hok];rfl)
  go_enter Tryz.func24,Tryz.ntmps24
  go_wp2_with fail
  refine hcon.mono ?_;rintro e w1 ⟨rfl,x1⟩;clear hcon;go_wp2
  go_ret
  exact ⟨zc0 HN.out,Ext.trans X0 x1⟩
 ·refine (zdy a l s1 s2 s3 w hr hok).mono ?_;rintro e w1 ⟨rfl,x1⟩;exact ⟨zc0 (by unfold Lg.lgE;rw [hok];rfl),x1⟩
def btr2 (u v:Vt):Bool:=decide (v.normal < u.normal) || (u.normal == v.normal && decide (v.log.lgE < u.log.lgE))
def bSt2 (ps:List VtE) (k:Nat) (b:Option Nat):Bool:=match ps[k]? with
 | none=>false
 | some v=>v.2.kind == 6 && match b with
  | none=>true
  | some j=>match ps[j]? with
   | some u=>btr2 v.2 u.2
   | none=>true
def bT2 (ps:List VtE):Nat->Option Nat
 | 0=>none
 | k+1=>if bSt2 ps k (bT2 ps k)=true then some k else bT2 ps k
def onat2:Option Nat->Int
 | none=>-1
 | some j=>j
theorem bT2_lt (ps:List VtE):∀ k j,bT2 ps k=some j->j < k
 | 0,j,h=>by simp [bT2] at h
 | k+1,j,h=>by
  unfold bT2 at h;split at h
  ·simp at h;omega
  ·have:=bT2_lt ps k j h;omega
theorem bT2_kind {ps:List VtE} {k:Nat} (hk:k < ps.length) (h:(ps[k].2.kind == 6)=false):bT2 ps (k+1)=bT2 ps k:=by
 have:bSt2 ps k (bT2 ps k)=false:=by simp [bSt2,hk];intro he;simp [he] at h
 simp [bT2,this]
theorem bT2_none {ps:List VtE} {k:Nat} (hk:k < ps.length) (h:(ps[k].2.kind == 6)=true) (hb:bT2 ps k=none):bT2 ps (k+1)=some k:=by
 have:bSt2 ps k (bT2 ps k)=true:=by rw [hb];simp [bSt2,hk];simpa using h
 simp [bT2,this]
theorem bT2_some {ps:List VtE} {k j:Nat} (hk:k < ps.length) (h:(ps[k].2.kind == 6)=true) (hb:bT2 ps k=some j) (hj:j < ps.length):bT2 ps (k+1)=if btr2 ps[k].2 ps[j].2=true then some k else some j:=by
 have:bSt2 ps k (bT2 ps k)=btr2 ps[k].2 ps[j].2:=by
  have h6:ps[k].2.kind=6:=by simpa using h
  rw [hb];simp [bSt2,hk,hj,h6]
 show (if _ then _ else _)=_
 rw [this,hb]
theorem e_l7Best (A:Option Addr) (c:Nat) (ps:List VtE) (w:World) (hr:VsR w A c ps) (hs:LgS ps) (hn:ps.length<=1048576) :
  Calls Tryz.prog 205 #[.slice A ps.length c] w fun e w'=>e = .returned (.int .i64 (onat2 (bT2 ps ps.length)))/\Ext w w':=by
 have HS:=Hd hs;clear hs
 go_enter Tryz.func205,Tryz.ntmps205
 go_wp2
 go_loopw [3,4] (fun b i wr=>∃ k:Nat,k<=ps.length/\i = .int .i64 k/\b = .int .i64 (onat2 (bT2 ps k))/\Ext w wr) (fun _ i _=>ps.length - (intOf i).toNat)
 case atStart=>exact ⟨0,Nat.zero_le _,rfl,rfl,za4 _⟩
 case round =>
  obtain ⟨k,hk,rfl,rfl,X⟩:=hrel;by_cases hlt:k < ps.length
  ·obtain ⟨ab,ao,hA,hab,a0,a1,a2,a3,a4,a5,a6,a7,a8,a9⟩:=(hr.1.keep X).atVtE hlt;have hab1:¬ ab=wr.heap.size:=by omega
   have hab2:ab < wr.heap.size+1:=by omega
   subst hA;cases q6:(ps[k].2.kind == 6)
   ·have q6':(ps[k].2.kind != 6)=true:=by simp [bne,q6]
    have HB:=Hd (bT2_kind hlt q6);clear q6;go_wp2
    go_roundw
    case rel=>exact ⟨k+1,by omega,by go_num,by rw [HB.out],Ext.trans X (za1 _ _)⟩
    case measure=>simp [intOf] <;> omega
   ·have q6':(ps[k].2.kind != 6)=false:=by simp [bne,q6]
    cases hb:bT2 ps k with
    | none =>
     have HB:=Hd (bT2_none hlt q6 hb);have hlo:decide ((-1:Int) < 0)=true:=by decide
     clear q6 hb;simp only [onat2];go_wp2
     (refine mrx (fun _ _ _=>True) 34 (fun hg=>?_);simp only [Tc,Tz,Dc,Dz])
     (repeat (first | (refine mqu ?_;go_big_quiet_step (fail);refine mnil ?_) | (refine msk ?_;simp only [Act.put,Sa,Sz,Ss])))
     (refine Rm.wpMix_nil ?_;intro w2 hw2)
     go_wp2
     go_roundw
     case rel=>exact ⟨k+1,by omega,by go_num,by rw [HB.out],Ext.trans X (Ext.trans (za1 _ _) hw2)⟩
     case measure=>simp [intOf] <;> omega
    | some j =>
     have hjk:=bT2_lt ps k j hb;have hjl:j < ps.length:=by omega
     have HB:=Hd (bT2_some hlt q6 hb hjl);have hlo:decide ((j:Int) < 0)=false:=by simp
     obtain ⟨_,_,e,_,b0,b1,b2,b3,b4,b5,b6,b7,b8,b9⟩:=(hr.1.keep X).atVtE hjl;obtain ⟨rfl,rfl⟩:ab=_/\ao=_:=by simpa using e
     have hcv:=fun W (h:Ext wr W)=>c_lgEnd ps[k].1 ps[k].2.log (HS.out _ (List.getElem_mem hlt)).1 (HS.out _ (List.getElem_mem hlt)).2.1 (HS.out _ (List.getElem_mem hlt)).2.2 W ((hr.2 _ (List.getElem_mem hlt)).keep (Ext.trans X h))
     have hcu:=fun W (h:Ext wr W)=>c_lgEnd ps[j].1 ps[j].2.log (HS.out _ (List.getElem_mem hjl)).1 (HS.out _ (List.getElem_mem hjl)).2.1 (HS.out _ (List.getElem_mem hjl)).2.2 W ((hr.2 _ (List.getElem_mem hjl)).keep (Ext.trans X h))
     have HV:=Hd hcv;have HU:=Hd hcu;clear q6 hb e hcv hcu;simp only [onat2];cases g1:decide (ps[j].2.normal < ps[k].2.normal)
     ·cases g2:(ps[k].2.normal == ps[j].2.normal)
      ·have HW:=Hd (show bT2 ps (k+1)=some j by rw [HB.out,btr2,g1,g2];rfl)
       go_wp2
       (refine mrx (fun _ _ _=>True) 34 (fun hg=>?_);simp only [Tc,Tz,Dc,Dz])
       (repeat (first | (refine mqu ?_;go_big_quiet_step (fail);refine mnil ?_) | (refine msk ?_;simp only [Act.put,Sa,Sz,Ss])))
       (refine Rm.wpMix_nil ?_;intro w2 hw2)
       go_wp2
       go_roundw
       case rel=>exact ⟨k+1,by omega,by go_num,by rw [HW.out],Ext.trans X (Ext.trans (za1 _ _) hw2)⟩
       case measure=>simp [intOf] <;> omega
      ·cases g3:decide (ps[j].2.log.lgE < ps[k].2.log.lgE)
       ·have HW:=Hd (show bT2 ps (k+1)=some j by rw [HB.out,btr2,g1,g2,g3];rfl)
        go_wp2
        (refine mrx (fun _ _ _=>True) 34 (fun hg=>?_);simp only [Tc,Tz,Dc,Dz])
        (repeat (first | (refine mqu ?_;go_big_quiet_step (fail);refine mnil ?_) | (refine msk ?_;simp only [Act.put,Sa,Sz,Ss]) | (refine Rm.more ?_;refine mdt Tryz.func24 (fun W hW=>HV.out W (Ext.trans (za1 _ _) hW)) ?_;simp only [Act.put,Sa,Sz,Ss]) | (refine Rm.more ?_;refine mdt Tryz.func24 (fun W hW=>HU.out W (Ext.trans (za1 _ _) hW)) ?_;simp only [Act.put,Sa,Sz,Ss])))
        (refine Rm.wpMix_nil ?_;intro w2 hw2)
        go_wp2
        go_roundw
        case rel=>exact ⟨k+1,by omega,by go_num,by rw [HW.out],Ext.trans X (Ext.trans (za1 _ _) hw2)⟩
        case measure=>simp [intOf] <;> omega
       ·have HW:=Hd (show bT2 ps (k+1)=some k by rw [HB.out,btr2,g1,g2,g3];rfl)
        go_wp2
        (refine mrx (fun _ _ _=>True) 34 (fun hg=>?_);simp only [Tc,Tz,Dc,Dz])
        (repeat (first | (refine mqu ?_;go_big_quiet_step (fail);refine mnil ?_) | (refine msk ?_;simp only [Act.put,Sa,Sz,Ss]) | (refine Rm.more ?_;refine mdt Tryz.func24 (fun W hW=>HV.out W (Ext.trans (za1 _ _) hW)) ?_;simp only [Act.put,Sa,Sz,Ss]) | (refine Rm.more ?_;refine mdt Tryz.func24 (fun W hW=>HU.out W (Ext.trans (za1 _ _) hW)) ?_;simp only [Act.put,Sa,Sz,Ss])))
        (refine Rm.wpMix_nil ?_;intro w2 hw2)
        go_wp2
        go_roundw
        case rel=>exact ⟨k+1,by omega,by go_num,by rw [HW.out],Ext.trans X (Ext.trans (za1 _ _) hw2)⟩
        case measure=>simp [intOf] <;> omega
     ·have HW:=Hd (show bT2 ps (k+1)=some k by rw [HB.out,btr2,g1];rfl)
      go_wp2
      (refine mrx (fun _ _ _=>True) 34 (fun hg=>?_);simp only [Tc,Tz,Dc,Dz])
      (repeat (first | (refine mqu ?_;go_big_quiet_step (fail);refine mnil ?_) | (refine msk ?_;simp only [Act.put,Sa,Sz,Ss])))
      (refine Rm.wpMix_nil ?_;intro w2 hw2)
      go_wp2
      go_roundw
      case rel=>exact ⟨k+1,by omega,by go_num,by rw [HW.out],Ext.trans X (Ext.trans (za1 _ _) hw2)⟩
      case measure=>simp [intOf] <;> omega
  ·obtain rfl:k=ps.length:=by omega
   go_wp2
   go_ret
   exact ⟨rfl,X⟩
def cnt2 (kind:Int) (l:List Vt):Nat:=l.countP (fun v=>v.kind == kind)
theorem cnt2_next {kind:Int} {l:List Vt} {k:Nat} (h:k < l.length):cnt2 kind (l.take (k+1))=cnt2 kind (l.take k)+if (l[k].kind == kind)=true then 1 else 0:=by
 unfold cnt2;rw [List.take_add_one,List.countP_append,List.getElem?_eq_getElem h];simp [List.countP_cons]
theorem e_l7Count (A:Option Addr) (c:Nat) (qs:List VtE) (kind:Int) (w:World) (hr:Rd VtE.enc 10 w A c qs) (hn:qs.length<=1048576) :
  Calls Tryz.prog 202 #[.slice A qs.length c, .int .i64 kind] w fun e w'=>e = .returned (.int .i64 (cnt2 kind (qs.map Prod.snd)))/\Ext w w':=by
 have HR:=Hd hr;have HM:=Hd (show ∀ k (h:k < qs.length),∃ h2:k < (qs.map Prod.snd).length,(qs.map Prod.snd)[k]=qs[k].2 from fun k h=>⟨by simpa using h,by simp⟩)
 have HLe:=Hd (show ∀ k,cnt2 kind ((qs.map Prod.snd).take k)<=qs.length from fun k=>Nat.le_trans (List.countP_le_length) (by rw [List.length_take,List.length_map];omega))
 clear hr
 go_enter Tryz.func202,Tryz.ntmps202
 go_wp2
 go_loopw [5,6] (fun n i wr=>∃ k:Nat,k<=qs.length/\i = .int .i64 k/\n = .int .i64 (cnt2 kind ((qs.map Prod.snd).take k))/\Ext w wr) (fun _ i _=>qs.length - (intOf i).toNat)
 case atStart=>exact ⟨0,Nat.zero_le _,rfl,by simp [cnt2],za4 _⟩
 case round =>
  obtain ⟨k,hk,rfl,rfl,X⟩:=hrel;by_cases hlt:k < qs.length
  ·obtain ⟨ab,ao,hA,hab,a0,a1,a2,a3,a4,a5,a6,a7,a8,a9⟩:=(HR.out.keep X).atVtE hlt;subst hA;obtain ⟨h2,h3⟩:=HM.out k hlt;have hle:=HLe.out k;cases g1:(qs[k].2.kind == kind)
   ·have HN:=Hd (show cnt2 kind ((qs.map Prod.snd).take (k+1))=cnt2 kind ((qs.map Prod.snd).take k) by rw [cnt2_next h2,h3,g1];rfl)
    clear h3;go_wp2
    go_roundw
    case rel=>exact ⟨k+1,by omega,by go_num,by rw [HN.out],X⟩
    case measure=>simp [intOf] <;> omega
   ·have HN:=Hd (show cnt2 kind ((qs.map Prod.snd).take (k+1))=cnt2 kind ((qs.map Prod.snd).take k)+1 by rw [cnt2_next h2,h3,g1];rfl)
    clear h3;go_wp2
    go_roundw
    case rel=>exact ⟨k+1,by omega,by go_num,by rw [HN.out];go_num,X⟩
    case measure=>simp [intOf] <;> omega
  ·obtain rfl:k=qs.length:=by omega
   have HN:=Hd (show (qs.map Prod.snd).take qs.length=qs.map Prod.snd from List.take_of_length_le (by simp))
   rw [HN.out];go_wp2
   go_ret
   exact ⟨rfl,X⟩
theorem bT2_there (ps:List VtE):∀ k,k<=ps.length->(∃ j,∃ h:j < ps.length,j < k/\(ps[j].2.kind == 6)=true)->∃ b,bT2 ps k=some b
 | 0,_,⟨j,h,h2,_⟩=>absurd h2 (by omega)
 | k+1,hk,⟨j,h,h2,h3⟩=>by
  cases h6:(ps[k].2.kind == 6)
  ·rw [bT2_kind (by omega) h6]
   refine bT2_there ps k (by omega) ⟨j,h, ?_,h3⟩
   by_cases e:j=k
   ·subst e;rw [h6] at h3;cases h3
   ·omega
  ·cases hb:bT2 ps k with
   | none=>exact ⟨k,bT2_none (by omega) h6 hb⟩
   | some b =>
    have:=bT2_lt ps k b hb
    rw [bT2_some (by omega) h6 hb (by omega)]
    split
    ·exact ⟨_,rfl⟩
    ·exact ⟨_,rfl⟩
theorem f_l7Best (ps:List VtE) (h6:0 < cnt2 6 (ps.map Prod.snd)):∃ b,b < ps.length/\∀ (A:Option Addr) (c:Nat) (w:World),VsR w A c ps->LgS ps->ps.length<=1048576 ->
  Calls Tryz.prog 205 #[.slice A ps.length c] w fun e w'=>e = .returned (.int .i64 ((b:Nat):Int))/\Ext w w':=by
 have h:∃ j,∃ h:j < ps.length,j < ps.length/\(ps[j].2.kind == 6)=true:=by
  unfold cnt2 at h6;obtain ⟨v,hv,h⟩:=List.countP_pos_iff.1 h6;obtain ⟨q,hq,rfl⟩:=List.mem_map.1 hv;obtain ⟨j,hj,rfl⟩:=List.mem_iff_getElem.1 hq;exact ⟨j,hj,hj,by simpa using h⟩
 obtain ⟨b,hb⟩:=bT2_there ps ps.length (Nat.le_refl _) h;refine ⟨b,bT2_lt ps _ b hb,fun A c w hr hs hn=>?_⟩
 have:=e_l7Best A c ps w hr hs hn
 rw [hb] at this;exact this
abbrev Vt.cs3 (a:LAd) (v:Vt):Array Value:=#[.int .i64 v.kind, .int .i64 v.frm, .int .i64 v.view, .int .i64 v.normal, .int .i64 v.op, .int .i64 v.commit, .int .i64 v.log.base, .slice a.cA v.log.cells.length a.cc, .slice a.sA v.log.seats.length a.sc, .slice a.eA v.log.ents.length a.ec]
theorem row_vote2 {w:World} {A:Option Addr} {c:Nat} {qs:List VtE} (hr:Rd VtE.enc 10 w A c qs) {k:Nat} (hk:k < qs.length):∃ ab ao,A=some ⟨ab,ao,none⟩/\∀ W,Ext w W->∀ j v,(Vt.cs3 qs[k].1 qs[k].2).toList[j]?=some v->W.cell? ⟨ab,ao+k * 10+j,none⟩=some v:=by
 obtain ⟨b,o,e,hb,hc⟩:=hr.2.2 (by omega)
 exact ⟨b,o,e,fun W hW j v hv=>(Below.cell hW (p:=⟨b,o+k * 10+j,none⟩) hb).trans (hc k hk j v hv)⟩
end Go.Proofs.YtckfjploafhenaaGreat
