/- The keeper, with all that it holds its own. -/
import Derived.Test.YtckfjploafhenaaGreatPk28
import Derived.Test.YtckfjploafhenaaGreatPk26
import Derived.Test.YtckfjploafhenaaGreatPk27
set_option maxRecDepth 100000
set_option maxHeartbeats 16000000
set_option linter.unusedVariables false
set_option linter.unusedSimpArgs false
namespace Go.Proofs.YtckfjploafhenaaGreat
open Go.ChangeShapes Go.WideShapes Go.ChangeAt Go.RowKit Go.Sort
theorem RpO.chgN {w w':World} {B T:Nat} {a:LAd} {A:Option Addr} {c:Nat} {ps:List VtE} {r:Rp} {S:List Nat} (h:RpO w B T a A c ps r) (hg:Chg w w' S) (hne:∀ k∈a.fp++vsF A ps,k∉S):RpO w' B T a A c ps r :=
 ⟨h.l.chg hg (fun k hk=>hne k (List.mem_append_left _ hk)),h.v.chg hg (fun k hk=>hne k (List.mem_append_right _ hk)),h.e,h.d⟩
theorem RpO.apartO {w:World} {B B' T:Nat} {a:LAd} {A:Option Addr} {c:Nat} {ps:List VtE} {r:Rp} {Ao:Option Addr} {n co:Nat} {os:List OtE} (h:RpO w B T a A c ps r) (k:Ow OtE.enc 47 18 w B' (.slice Ao n co) os):∀ x∈a.fp++vsF A ps,x∉blk Ao:=fun x hx=>by
 rcases List.mem_append.1 hx with hx | hx
 ·exact lg_apartO h.l k x hx
 ·rcases List.mem_append.1 hx with hx | hx
  ·exact h.v.r.apart k (by decide) x hx
  ·obtain ⟨q,hq,hx⟩:=List.mem_flatMap.1 hx;exact lg_apartO (h.v.l q hq) k x hx
theorem RpO.apartB {w:World} {B T:Nat} {a:LAd} {A:Option Addr} {c:Nat} {ps:List VtE} {r:Rp} {p:Nat} {cs:Array Value} {t:TypeId} (h:RpO w B T a A c ps r) (hb:w.heap[p]?=some (.cells cs t (0,0))) (h1:t≠162) (h2:t≠111) (h3:t≠104) (h4:t≠45):p∉a.fp++vsF A ps:=fun hx=>by
 rcases List.mem_append.1 hx with hx | hx
 ·exact zcx hb h.l h1 h2 h3 hx
 ·rcases List.mem_append.1 hx with hx | hx
  ·exact zam hb h.v.r h4 hx
  ·obtain ⟨q,hq,hx⟩:=List.mem_flatMap.1 hx;exact zcx hb (h.v.l q hq) h1 h2 h3 hx
structure KZ (W0 w:World) (p:Nat) (a:LAd) (A:Option Addr) (c:Nat) (qs:List VtE) (R:Rp) (Ao:Option Addr) (co:Nat) (os:List OtE):Prop where
 box:w.heap[p]?=some (Kp.obj a A qs.length c R (.slice Ao os.length co))
 x:Ext W0 w
 low:W0.heap.size<=p
 rp:RpO w W0.heap.size w.heap.size a A c qs R
 row:Ow OtE.enc 47 18 w W0.heap.size (.slice Ao os.length co) os
 logs:OsQ w W0.heap.size os
 d:∀ x∈a.fp++vsF A qs,∀ q∈os,x∉q.1.fp
def KO (W0 w:World) (p:Nat) (R:Rp) (O:List Ot):Prop:=∃ a A c qs Ao co os,KZ W0 w p a A c qs R Ao co os/\os.map Prod.snd=O
def RoY (w:World) (B:Nat) (R:Rp) (O:List Ot) (V:Value):Prop:=∃ a A c qs Ao co os,V = .tuple #[Rp.val a A (List.length qs) c R, .slice Ao (List.length os) co]/\RpO w B w.heap.size a A c qs R/\OsO w B w.heap.size Ao co os/\List.map Prod.snd os=O/\∀ x∈a.fp++vsF A qs,x∉OtE.fps Ao os
section
variable {W0 w w':World} {p:Nat} {a:LAd} {A:Option Addr} {c:Nat} {qs:List VtE} {R R':Rp} {Ao:Option Addr} {co:Nat} {os:List OtE}
theorem KZ.keep (h:KZ W0 w p a A c qs R Ao co os) (hx:Ext w w'):KZ W0 w' p a A c qs R Ao co os :=
 ⟨hx.box h.box,Ext.trans h.x hx,h.low,(h.rp.kept hx).wide (Nat.le_refl _) hx.size,h.row.kept hx,h.logs.kept hx,h.d⟩
theorem KO.keep {O:List Ot} (h:KO W0 w p R O) (hx:Ext w w'):KO W0 w' p R O:=by
 obtain ⟨a,A,c,qs,Ao,co,os,h,e⟩:=h;exact ⟨a,A,c,qs,Ao,co,os,h.keep hx,e⟩
theorem KZ.pB (h:KZ W0 w p a A c qs R Ao co os):p∉a.fp++vsF A qs:=h.rp.apartB h.box (by decide) (by decide) (by decide) (by decide)
theorem KZ.pO (h:KZ W0 w p a A c qs R Ao co os):p∉blk Ao:=zam h.box h.row (by decide)
theorem KZ.pL (h:KZ W0 w p a A c qs R Ao co os):∀ q∈os,p∉q.1.fp:=fun q hq=>zcx h.box (h.logs.l q hq) (by decide) (by decide) (by decide)
theorem KZ.put (h:KZ W0 w p a A c qs R Ao co os) (hg:Chg w w' [p]) (hb:w'.heap[p]?=some (Kp.obj a A qs.length c R' (.slice Ao os.length co))) (hl:R'.log=R.log) (hv:R'.votes=R.votes):KZ W0 w' p a A c qs R' Ao co os:=by
 have hr:=(h.rp.chgN hg (fun k hk hm=>by rw [Mi] at hm;subst hm;exact h.pB hk)).wide (Nat.le_refl _) hg.size
 refine ⟨hb,zac h.x hg h.low,h.low,⟨by rw [hl];exact hr.l,hr.v,by rw [hv];exact hr.e,hr.d⟩,h.row.chg hg (fun k hk hm=>by rw [Mi] at hm;subst hm;exact h.pO hk),h.logs.chg hg (fun q hq k hk hm=>by rw [Mi] at hm;subst hm;exact h.pL q hq hk),h.d⟩
theorem KZ.sent {A':Option Addr} {c':Nat} {a':LAd} {v:Ot} {w1:World} (h:KZ W0 w p a A c qs R Ao co os) (hx:Ext w w1) (ho:LgO w1 w.heap.size w1.heap.size a' v.msg.log) (hg:Chg w1 w' (p::blk Ao)) (hb:w'.heap[p]?=some (Kp.obj a A qs.length c R (.slice A' (os++[(a',v)]).length c')))
  (hrow:Ow OtE.enc 47 18 w' W0.heap.size (.slice A' (os++[(a',v)]).length c') (os++[(a',v)])):KZ W0 w' p a A c qs R A' c' (os++[(a',v)]):=by
 have h1:=h.keep hx;have hlo:=h1.logs.l;have hst:OsQ w1 W0.heap.size (os++[(a',v)]):=h.logs.step h.x.size ho hx
 have hne:∀ q∈os++[(a',v)],∀ k∈q.1.fp,k∉p::blk Ao:=fun q hq k hk hm=>by
  rcases List.mem_cons.1 hm with e | hm
  ·subst e;exact zcx h1.box (hst.l q hq) (by decide) (by decide) (by decide) hk
  ·exact lg_apartO (hst.l q hq) h1.row k hk hm
 refine ⟨hb,zaf h1.x hg (fun g hg=>?_),h.low,(h1.rp.chgN hg (fun k hk hm=>?_)).wide (Nat.le_refl _) hg.size,hrow,hst.chg hg hne,fun x hx q hq hm=>?_⟩
 ·rcases List.mem_cons.1 hg with e | hg
  ·rw [e];exact h.low
  ·exact (h1.row.inB g hg).1
 ·rcases List.mem_cons.1 hm with e | hm
  ·rw [e] at hk;exact h1.pB hk
  ·exact h1.rp.apartO h1.row k hk hm
 ·rcases List.mem_append.1 hq with hq | hq
  ·exact h.d x hx q hq hm
  ·rw [Mi] at hq;subst hq;have h2:=(h.rp.fpIn x hx).2;have h3:=ho.low x hm;omega
theorem KZ.oso (h:KZ W0 w p a A c qs R Ao co os):OsO w W0.heap.size w.heap.size Ao co os:=h.logs.own h.row
theorem KZ.dd (h:KZ W0 w p a A c qs R Ao co os):∀ x∈a.fp++vsF A qs,x∉OtE.fps Ao os:=fun x hx hm=>by
 rcases List.mem_append.1 hm with hm | hm
 ·exact h.rp.apartO h.row x hx hm
 ·obtain ⟨q,hq,hm⟩:=List.mem_flatMap.1 hm;exact h.d x hx q hq hm
end
theorem LgO.lgF {w:World} {B T:Nat} {a:LAd} {l:Lg} (h:LgO w B T a l):LgF w B a l:=⟨Ow.rdF Cel.len h.c,Ow.rdF Sea.len h.s,Ow.rdF Ent.len h.e⟩
theorem c_sendZ (W0:World) (p:Nat) (a:LAd) (A:Option Addr) (c:Nat) (ps:List VtE) (r:Rp) (os:List OtE) (Ao:Option Addr) (co:Nat) (to:Int) (am:LAd) (m:Mg) (w:World) (hk:KZ W0 w p a A c ps r Ao co os) (hm:LgR w am m.log) (hs:m.log.small) (hos:os.length<=100000) :
  Calls Tryz.prog 62 #[.pointer (some ⟨p,0,none⟩), .int .i64 to,Mg.val am m] w fun e w'=>e = .returned (.tuple #[])/\∃ A' c' a',KZ W0 w' p a A c ps r A' c' (os++[(a',⟨to,m⟩)])/\Chg w w' (p::blk Ao):=by
 obtain ⟨i0,hi,hz0,hz1,hz2⟩:=info_parts Tryz.infoOt;have X0:=za1 w (Mg.obj am m);have HC:=Hd (c_copyLog am m.log hs _ (hm.keep X0));have HK:=Hd hk;have hsz:=hk.x.size;clear hm hs hk
 go_enter Tryz.func62,Tryz.ntmps62
 go_wp2_with fail
 refine HC.out.mono ?_;rintro e w1 ⟨a',rfl,o1,x1⟩;have B1:=x1.box (hNew (w:=w) (o:=Mg.obj am m) rfl);have b1:=za2 B1;have f1:=zad B1;have z1:=bx_lt B1;have P1:=zar (zar (zar (zar B1 13 (.int .i64 m.log.base)) 14 (.slice a'.cA m.log.cells.length a'.cc)) 15 (.slice a'.sA m.log.seats.length a'.sc)) 16 (.slice a'.eA m.log.ents.length a'.ec);simp only [Sa,Sz,Ss] at P1;have hcs:=zaq (zaq (zaq (zaq (Chg.refl w1 [w.heap.size]) (p:=⟨w.heap.size,13,none⟩) (by simp) (.int .i64 m.log.base)) (p:=⟨w.heap.size,14,none⟩) (by simp) (.slice a'.cA m.log.cells.length a'.cc)) (p:=⟨w.heap.size,15,none⟩) (by simp) (.slice a'.sA m.log.seats.length a'.sc)) (p:=⟨w.heap.size,16,none⟩) (by simp) (.slice a'.eA m.log.ents.length a'.ec)
 simp only [zag] at o1;have HO:=Hd (o1.chg1 hcs (by omega))
 have HP1:=Hd P1;have HX1:=Hd (zac (Ext.trans X0 x1) hcs (Nat.le_refl _));have HS:=Hd hcs.size;clear B1 P1 hcs o1 x1 X0 HC;go_wp2
 refine ziu (F:=fun W=>W.heap[w.heap.size]?=some (Mg.obj a' m)/\LgO W (w.heap.size+1) W.heap.size a' m.log/\Ext w W) ⟨HP1.out,HO.out.wide (Nat.le_refl _) (by exact HS.out),HX1.out⟩ ?_
 intro W2 ⟨E2,O2,X2⟩;clear b1 f1 z1 HP1 HO HX1 HS;have D2:=Hd (X2.box HK.out.box);have M2:=Hd (zaw (cs:=Mg.cs a' m) E2 [] [] rfl rfl);have HO2:=Hd O2;have HX2:=Hd X2;have hlt2:=bx_lt E2;clear E2 O2
 (refine mrg (relE W2.heap.size) (fun _ _ _=>True) 9 ?_;simp only [Tc,Tz,Dc,Dz])
 (iterate 2 (refine mpl ?_;go_big_quiet_step (fail);refine mnil ?_))
 (refine Rm.wpMix_nilp rfl rfl rfl ?_;simp only [Act.put,Sa,Sz,Ss])
 (refine mpl ?_;go_big_quiet_step (fail);refine mnil ?_)
 (refine ml1 (fun W hW=>za2 (Ext.box hW D2.out) 13) Tryz.underlying40 ?_;simp only [Act.put,Sa,Sz,Ss])
 (refine mpl ?_;go_big_quiet_step (fail);refine mnil ?_)
 (refine mla (fun W hW j v hj=>(Below.cell hW (p:=⟨w.heap.size,0+j,none⟩) hlt2).trans (M2.out j v hj)) Tryz.underlying37 ?_;simp only [Act.put,Sa,Sz,Ss])
 (refine mpl ?_;go_big_quiet_step (fail);refine mnil ?_)
 (refine Rm.wpMix_alloc (.cells (OtE.cells a' ⟨to,m⟩) 47) rfl (fun W=>by kernel_rfl) ?_;intro p1 hp1 hps1 hpi1;simp only [zen,Act.put,Sa,Sz,Ss])
 refine Rm.wpMix_nil ?_;rintro W3 ⟨X3,E3⟩;have X3':Ext W2 W3:=X3;have hB3:W0.heap.size<=W3.heap.size:=by have:=X2.size;have:=X3'.size;omega
 have HXw:=Hd (Ext.trans X2 X3');have HK3:=Hd (HK.out.keep HXw.out);have HO3:=Hd ((HO2.out.kept X3').wide (Nat.le_succ _) X3'.size);have HE3:=Hd E3;clear X3 X3' E3 hp1 hps1 hpi1 M2 HO2 HX2 D2 hlt2 X2;go_wp2_with (at_builtin;refine zcn (enc:=OtE.enc) rfl _ _ 40 rfl W0.heap.size 47 i0 Ot.zero 18 192 Tryz.underlying40 hi hz0 hz1 hz2 rfl (by decide) OtE.len OtE.one (.slice Ao os.length co) os rfl HK3.out.row (some ⟨p1,0,none⟩) 1 [(a',(⟨to,m⟩:Ot))] 1 rfl rfl (Rd.one HE3.out rfl) ?c1 ?c2 ?c3 ?_)
 case c1=>unfold maxLen;simp;omega
 case c2=>simp;omega
 case c3=>exact hB3
 intro v' w4 ho4 hg4;obtain ⟨A',c',rfl⟩:=ho4.form;have c4:=zaz hg4;have D4:=zbx HK3.out.box c4 HK3.out.pO;have d4:=za2 D4;have g4:=zad D4;have z4:=bx_lt D4;have P4:=zar D4 13 (.slice A' (os.length+1) c');simp only [Sa,Sz,Ss] at P4;have hl1:(os++[(a',(⟨to,m⟩:Ot))]).length=os.length+1:=by simp
 rw [hl1] at ho4;have c5:=zaq (Chg.refl w4 [p]) (p:=⟨p,13,none⟩) (by simp) (.slice A' (os.length+1) c')
 have hpb:=zam D4 ho4 (by decide)
 have c45:=(c4.more (fun k hk=>List.mem_cons_of_mem p hk)).trans (c5.more (fun k hk=>by rw [Mi] at hk;subst hk;exact List.mem_cons_self))
 have HF:=Hd (HK.out.sent HXw.out HO3.out c45 (by rw [hl1];exact P4) (by rw [hl1];exact ho4.chg c5 (fun k hk hm=>by rw [Mi] at hm;subst hm;exact hpb hk)))
 have HCg:=Hd ((zez (p::blk Ao) HXw.out).trans c45);clear c4 c5 c45 P4 ho4 hg4 D4 hpb hl1;go_wp2
 exact bodyPost_end (v := .tuple #[]) (by simp [results,Tryz.results62,go_sem]) rfl ⟨rfl,A',c',a',HF.out,HCg.out⟩
theorem c_sendAllZ (W0:World) (p:Nat) (a:LAd) (A:Option Addr) (c:Nat) (ps:List VtE) (r:Rp) (os:List OtE) (Ao:Option Addr) (co:Nat) (am:LAd) (m:Mg) (w:World) (B N:Nat) (hk:KZ W0 w p a A c ps r Ao co os) (hN:r.of=(N:Int)) (hN10:N<=10) (hm:LgF w B am m.log) (hs:m.log.small) (hos:os.length<=50000) :
  Calls Tryz.prog 20 #[.pointer (some ⟨p,0,none⟩),Mg.val am m] w fun e w'=>e = .returned (.tuple #[])/\∃ A' c' os',KZ W0 w' p a A c ps r A' c' (os++os')/\List.map Prod.snd os'=allTo r.me m N:=by
 have X0:=za1 w (Mg.obj am m);have D0:=hOld (o:=Mg.obj am m) hk.box;have d0:=za2 D0;have z0:=bx_lt D0;have hk0:KZ W0 (w.alloc (Mg.obj am m)) p a A c ps r Ao co (os++[]):=by simpa using hk.keep X0
 have HK0:=Hd hk0;have HM0:=Hd (hm.keep X0);have HN:=Hd hN;clear hk hm hk0 X0 D0
 go_enter Tryz.func20,Tryz.ntmps20
 go_wp2
 go_loopw [10] (fun i wr=>∃ (k:Nat) (os':List OtE) (A':Option Addr) (c':Nat),k<=N/\i = .int .i64 k/\List.map Prod.snd os'=allTo r.me m k/\KZ W0 wr p a A c ps r A' c' (os++os')/\wr.heap[w.heap.size]?=some (Mg.obj am m)/\LgF wr B am m.log) (fun i _=>N - (intOf i).toNat)
 case atStart=>exact ⟨0,[],Ao,co,Nat.zero_le _,rfl,rfl,HK0.out,hNew rfl,HM0.out⟩
 case round =>
  obtain ⟨k,os',A',c',hkN,rfl,hos',hk1,hE,hF⟩:=hrel;have HOS:=Hd hos';have HK:=Hd hk1;have HE:=Hd hE;have HF:=Hd hF
  have hl':os'.length<=k:=by
   have h1:=congrArg List.length hos';rw [List.length_map] at h1
   have:=allTo_len r.me m k
   omega
  clear d0 z0;have d1:=za2 hk1.box;have z1:=bx_lt hk1.box
  have hpw:p≠w.heap.size:=fun e=>by
   have h1:=hk1.box;rw [e,hE] at h1;simp only [Option.some.injEq,Obj.cells.injEq] at h1;exact absurd h1.2.1 (by decide)
  clear hk1 hE hF hos';by_cases hlt:k < N
  ·have hg:decide ((k:Int) < r.of)=true:=by have:=HN.out;simp;omega
   cases hb:((k:Int) != r.me)
   ·have HN':=Hd (HOS.out.trans (allTo_no hb).symm);go_wp2
    go_roundw
    case rel=>exact ⟨k+1,os',A',c',by omega,by go_num,HN'.out,HK.out,HE.out,HF.out⟩
    case measure=>simp [intOf] <;> omega
   ·have hq:(os++os').length<=100000:=by rw [List.length_append];omega
    (go_wp2_with (with_reducible refine za5 22 ?_);refine za6 (HE.out) rfl Tryz.underlying37 (by kernel_rfl) ?_;simp only [Act.put,Sa,Sz,Ss])
    go_wp2_with fail
    refine (c_sendZ W0 p a A c ps r (os++os') A' c' k am m wr HK.out HF.out.rd hs hq).mono ?_;rintro e w2 ⟨rfl,A2,c2,a2,hk2,cg⟩;have hpm:=zam HE.out HK.out.row (by decide)
    have HE2:=Hd (zbx HE.out cg (fun hm=>by
     rcases List.mem_cons.1 hm with e | hm
     ·exact hpw e.symm
     ·exact hpm hm))
    have HF2:=Hd (HF.out.sent HK.out.box (by decide) (by decide) (by decide) HK.out.row cg)
    have HK2:=Hd (show KZ W0 w2 p a A c ps r A2 c2 (os++(os' ++ [(a2,⟨k,m⟩)])) by rw [<-List.append_assoc];exact hk2)
    have HN':=Hd (show List.map Prod.snd (os' ++ [(a2,(⟨k,m⟩:Ot))])=allTo r.me m (k+1) by rw [allTo_yes hb,<-HOS.out];simp)
    clear hk2 cg hpm d1 z1;go_wp2
    go_roundw
    case rel=>exact ⟨k+1,_,A2,c2,by omega,by go_num,HN'.out,HK2.out,HE2.out,HF2.out⟩
    case measure=>simp [intOf] <;> omega
  ·obtain rfl:k=N:=by omega
   have hg:decide ((k:Int) < r.of)=false:=by have:=HN.out;simp;omega
   go_wp2
   exact bodyPost_end (v := .tuple #[]) (by simp [results,Tryz.results20,go_sem]) rfl ⟨rfl,A',c',os',HK.out,HOS.out⟩
def sHas (s:ByteArray) (b:Int):Bool:=(List.range s.size).any (fun i=>if h:i < s.size then (s[i].toNat:Int) == b else false)
def sTo (s:ByteArray) (b:Int) (k:Nat):Prop:=∀ j (h:j < s.size),j < k->((s[j].toNat:Int) == b)=false
theorem sTo.next {s:ByteArray} {b:Int} {k:Nat} (h:sTo s b k) (hk:k < s.size) (hs:((s[k].toNat:Int) == b)=false):sTo s b (k+1):=fun j hj hjk=>by
 by_cases he:j=k
 ·subst he;exact hs
 ·exact h j hj (by omega)
theorem sHas_yes {s:ByteArray} {b:Int} {k:Nat} (hk:k < s.size) (hs:((s[k].toNat:Int) == b)=true):sHas s b=true:=by
 unfold sHas;rw [List.any_eq_true];exact ⟨k,by simpa using hk,by rw [dif_pos hk];exact hs⟩
theorem sHas_no {s:ByteArray} {b:Int} (h:sTo s b s.size):sHas s b=false:=by
 unfold sHas;rw [List.any_eq_false];intro j hj;have hj':j < s.size:=by simpa using hj
 rw [dif_pos hj',h j hj' hj']
 simp
theorem zch (s:ByteArray) (b:Int) (hs:s.size<=100) (w:World):Calls Tryz.prog 86 #[.string s, .int .u8 b] w fun e w'=>e = .returned (.bool (sHas s b))/\Ext w w':=by
 go_enter Tryz.func86,Tryz.ntmps86
 go_wp2
 go_loopw [5] (fun i wr=>∃ k:Nat,k<=s.size/\i = .int .i64 k/\sTo s b k/\Ext w wr) (fun i _=>s.size - (intOf i).toNat)
 case atStart=>exact ⟨0,Nat.zero_le _,rfl,fun j hj hjk=>absurd hjk (by omega),za4 _⟩
 case round =>
  obtain ⟨k,hk,rfl,ht,X⟩:=hrel;have HT:=Hd ht;clear ht;by_cases hlt:k < s.size
  ·cases q:((s[k].toNat:Int) == b)
   ·have HN:=Hd (HT.out.next hlt q)
    go_wp2
    go_roundw
    case rel=>exact ⟨k+1,by omega,by go_num,HN.out,X⟩
    case measure=>simp [intOf] <;> omega
   ·have HN:=Hd (sHas_yes hlt q);go_wp2
    go_ret
    exact ⟨za7 HN.out.symm,X⟩
  ·obtain rfl:k=s.size:=by omega
   have HN:=Hd (sHas_no HT.out);go_wp2
   go_ret
   exact ⟨za7 HN.out.symm,X⟩
theorem c_has (s:ByteArray) (b:Int) (hs:s.size<=100) (w:World):Calls Tryz.prog 51 #[.string s, .int .u8 b] w fun e w'=>e = .returned (.bool (sHas s b))/\Ext w w':=by
 go_enter Tryz.func51,Tryz.ntmps51
 go_wp2
 go_loopw [8] (fun i wr=>∃ k:Nat,k<=s.size/\i = .int .i64 k/\sTo s b k/\Ext w wr) (fun i _=>s.size - (intOf i).toNat)
 case atStart=>exact ⟨0,Nat.zero_le _,rfl,fun j hj hjk=>absurd hjk (by omega),za4 _⟩
 case round =>
  obtain ⟨k,hk,rfl,ht,X⟩:=hrel;have HT:=Hd ht;clear ht;by_cases hlt:k < s.size
  ·cases q:((s[k].toNat:Int) == b)
   ·have HN:=Hd (HT.out.next hlt q)
    go_wp2
    go_roundw
    case rel=>exact ⟨k+1,by omega,by go_num,HN.out,X⟩
    case measure=>simp [intOf] <;> omega
   ·have HN:=Hd (sHas_yes hlt q);go_wp2
    go_ret
    exact ⟨za7 HN.out.symm,X⟩
  ·obtain rfl:k=s.size:=by omega
   have HN:=Hd (sHas_no HT.out);go_wp2
   go_ret
   exact ⟨za7 HN.out.symm,X⟩
def numOk (h:Bool) (x lo hi:Int):Bool:=h && inB x lo hi || !h && x == 0
theorem zan (h:Bool) (x lo hi:Int) (w:World):Calls Tryz.prog 110 #[.bool h, .int .i64 x, .int .i64 lo, .int .i64 hi] w fun e w'=>e = .returned (.bool (numOk h x lo hi))/\Ext w w':=by
 cases h
 ·go_enter Tryz.func110,Tryz.ntmps110
  go_wp2
  all_goals
   go_ret
   exact ⟨za7 (by first | (simp [numOk, *];done) | (simp_all [numOk];done)),za4 _⟩
 ·go_enter Tryz.func110,Tryz.ntmps110
  go_wp2_with (go_at_call 32;refine (zb6 _ _ _ _).mono ?_;rintro e w1 ⟨rfl,hx⟩;obtain ⟨hc1,hf1,hs1⟩:=hx.rules;(try simp at hs1))
  all_goals
   go_ret
   refine ⟨za7 ?_, ?_⟩
   ·(first | (simp [numOk, *];done) | (simp_all [numOk];done))
   ·(repeat (first | with_reducible exact za4 _ | with_reducible refine za9 ?_ _ | with_reducible refine zak ?_ (by first | (simp;done) | (simp;omega) | omega) _ | with_reducible refine zab ?_ | with_reducible refine Ext.trans ?_ (by assumption)))
def sForm (k:Int):ByteArray:=if k=1 then ⟨#[67,82,100]⟩ else if k=2 then ⟨#[102,118,111,99,67,82,100]⟩ else if k=3\/k=10 then ⟨#[102,118,111]⟩ else if k=4 then ⟨#[102,118,99]⟩ else if k=5 then ⟨#[102,118]⟩ else if k=6 then ⟨#[102,118,110,99,108]⟩ else if k=7\/k=11 then ⟨#[102,118,99,108]⟩ else if k=8 then ⟨#[102,107]⟩ else if k=9 then ⟨#[102,118,107,99,108]⟩ else if k=12 then ⟨#[118,67,82,65]⟩ else ⟨#[]⟩
def iForm (k:Int):ByteArray:=if k=1 then ⟨#[99,114,120]⟩ else if k=2 then ⟨#[70,86,79,67,99,114,120]⟩ else if k=3\/k=10 then ⟨#[70,86,79]⟩ else if k=4 then ⟨#[70,86,67]⟩ else if k=5 then ⟨#[70,86]⟩ else if k=6 then ⟨#[70,86,78,67,76]⟩ else if k=7\/k=11 then ⟨#[70,86,67,76]⟩ else if k=8 then ⟨#[70,110]⟩ else if k=9 then ⟨#[70,86,110,67,76]⟩ else if k=12 then ⟨#[86,99,114,65]⟩ else ⟨#[]⟩
theorem zcb (k:Int) (w:World):Calls Tryz.prog 77 #[.int .i64 k] w fun e w'=>e = .returned (.string (sForm k))/\Ext w w':=by
 go_enter Tryz.func77,Tryz.ntmps77
 go_wp2
 all_goals
  go_ret
  refine ⟨?_,za4 _⟩
  (first | (simp [sForm, *];done) | (simp_all [sForm];done))
theorem c_fields (k:Int) (w:World):Calls Tryz.prog 52 #[.int .i64 k] w fun e w'=>e = .returned (.string (iForm k))/\Ext w w':=by
 go_enter Tryz.func52,Tryz.ntmps52
 go_wp2
 all_goals
  go_ret
  refine ⟨?_,za4 _⟩
  (first | (simp [iForm, *];done) | (simp_all [iForm];done))
def fOk (b n:Int):Bool:=if b=70 then inB n 0 4 else if b=114 then inB n 1 1000000000 else if b=65 then inB n (-1) 1000000000 else inB n 0 1000000000
theorem c_fieldOk (b n:Int) (w:World):Calls Tryz.prog 99 #[.int .u8 b, .int .i64 n] w fun e w'=>e = .returned (.bool (fOk b n))/\Ext w w':=by
 go_enter Tryz.func99,Tryz.ntmps99
 go_wp2_with (first | (go_at_call 53;refine (zce _ _ _ _).mono ?_;rintro e w1 ⟨rfl,hx⟩;obtain ⟨hc1,hf1,hs1⟩:=hx.rules;(try simp at hs1)) | (go_at_call 141;refine (zgz _ _).mono ?_;rintro e w1 ⟨rfl,hx⟩;obtain ⟨hc1,hf1,hs1⟩:=hx.rules;(try simp at hs1)) | (go_at_call 142;refine (zde _ _).mono ?_;rintro e w1 ⟨rfl,hx⟩;obtain ⟨hc1,hf1,hs1⟩:=hx.rules;(try simp at hs1)) | (go_at_call 37;refine (zas _ _).mono ?_;rintro e w1 ⟨rfl,hx⟩;obtain ⟨hc1,hf1,hs1⟩:=hx.rules;(try simp at hs1)))
 all_goals
  go_ret
  refine ⟨za7 ?_, ?_⟩
  ·(first | (simp [fOk, *];done) | (simp_all [fOk];done))
  ·(repeat (first | with_reducible exact za4 _ | with_reducible refine za9 ?_ _ | with_reducible refine zak ?_ (by first | (simp;done) | (simp;omega) | omega) _ | with_reducible refine zab ?_ | with_reducible refine Ext.trans ?_ (by assumption)))
def nOff (b:Int):Nat:=if b=70 then 1 else if b=86 then 2 else if b=79 then 3 else if b=67 then 4 else if b=78 then 5 else if b=110 then 6 else if b=99 then 7 else if b=114 then 8 else 9
theorem c_numOf (P:Nat) (b:Int) (w:World):Calls Tryz.prog 98 #[.pointer (some ⟨P,0,none⟩), .int .u8 b] w fun e w'=>e = .returned (.pointer (some ⟨P,nOff b,none⟩))/\Ext w w':=by
 go_enter Tryz.func98,Tryz.ntmps98
 go_wp2
 all_goals
  go_ret
  refine ⟨?_,za4 _⟩
  (first | (simp [nOff, *];done) | (simp_all [nOff];done))
theorem iForm_small (k:Int):(iForm k).size<=100:=by unfold iForm;(repeat' split) <;> decide
theorem zbz (k:Int):(sForm k).size<=100:=by unfold sForm;(repeat' split) <;> decide
def fOne (h:Bool) (b n:Int):Bool:=h && fOk b n || !h && n == 0
def iLet (k:Nat):Int:=if h:k < 9 then (((⟨#[70,86,79,67,78,110,99,114,65]⟩:ByteArray)[k]'h).toNat:Int) else 0
def iVal (m:Mg):Nat->Int
 | 0=>m.frm
 | 1=>m.view
 | 2=>m.op
 | 3=>m.commit
 | 4=>m.normal
 | 5=>m.nonce
 | 6=>m.client
 | 7=>m.req
 | _=>m.answer
def Mg.cells (a:LAd) (m:Mg):Array Value:=match Mg.val a m with | .agg x=>x | _=>#[]
theorem iLet_at (a:LAd) (m:Mg) (k:Nat) (h:k < 9):(Mg.cells a m)[nOff (iLet k)]?=some (.int .i64 (iVal m k)):=by
 have h9:k=0\/k=1\/k=2\/k=3\/k=4\/k=5\/k=6\/k=7\/k=8:=by omega
 rcases h9 with rfl | rfl | rfl | rfl | rfl | rfl | rfl | rfl | rfl <;> rfl
def iFld (m:Mg) (f:ByteArray) (k:Nat):Bool:=fOne (sHas f (iLet k)) (iLet k) (iVal m k)
def iTo (m:Mg) (f:ByteArray) (k:Nat):Prop:=∀ j,j < k->iFld m f j=true
instance (m:Mg) (f:ByteArray) (k:Nat):Decidable (iTo m f k):=inferInstanceAs (Decidable (∀ j,j < k->_))
theorem iTo.next {m:Mg} {f:ByteArray} {k:Nat} (h:iTo m f k) (hs:iFld m f k=true):iTo m f (k+1):=fun j hj=>by
 by_cases he:j=k
 ·subst he;exact hs
 ·exact h j (by omega)
def iCmd (m:Mg) (f:ByteArray):Bool:=sHas f 120 && cmdOk m.ck m.cx m.cv || !sHas f 120 && (m.ck == 0 && m.cx == 0 && m.cv == 0)
def iLog (m:Mg) (f:ByteArray):Bool:=if sHas f 76=true then zb8 m.log m.commit && decide (m.normal<=m.view) else isZ m.log
def iFits (m:Mg):Bool:=!(iForm m.kind).toList.isEmpty && decide (iTo m (iForm m.kind) 9) && iCmd m (iForm m.kind) && iLog m (iForm m.kind)
theorem iNo_fld {m:Mg} {k:Nat} (hk:k < 9) (h:iFld m (iForm m.kind) k=false):iFits m=false:=by
 have:decide (iTo m (iForm m.kind) 9)=false:=decide_eq_false (fun hp=>by have:=hp k hk;rw [h] at this;cases this)
 simp [iFits,this]
theorem c_iMsgFits (a:LAd) (m:Mg) (w:World) (hs:m.log.small) (hr:LgR w a m.log):Calls Tryz.prog 50 #[Mg.val a m] w fun e w'=>e = .returned (.bool (iFits m))/\Ext w w':=by
 have X0:=za1 w (Mg.obj a m);obtain ⟨F,hF⟩:∃ F,iForm m.kind=F:=⟨_,rfl⟩;have HFm:=Hd hF;have hFs:F.size<=100:=by rw [<-hF];exact iForm_small _
 have hFl:=fun W=>c_fields m.kind W
 rw [hF] at hFl;have HF:=Hd hFl;clear hFl hF;cases he:F.toList.isEmpty
 ·go_enter Tryz.func50,Tryz.ntmps50
  go_wp2_with fail
  refine (HF.out _).mono ?_;rintro e w1 ⟨rfl,x1⟩;go_wp2
  have HE:=Hd he;clear he
  go_loopw [11] (fun i wr=>∃ k:Nat,k<=9/\i = .int .i64 k/\iTo m F k/\Ext (w.alloc (Mg.obj a m)) wr) (fun i _=>9 - (intOf i).toNat)
  case atStart=>exact ⟨0,Nat.zero_le _,rfl,fun j hj=>absurd hj (by omega),x1⟩
  case round =>
   obtain ⟨k,hk,rfl,ht,hx0⟩:=hrel;have HT:=Hd ht;have B1:=hx0.box (hNew (w:=w) (o:=Mg.obj a m) rfl);have b1:=za2 B1;have f1:=zad B1;have z1:=bx_lt B1;have X1:=Ext.trans X0 hx0;clear ht B1 x1;by_cases hlt:k < 9
   ·have hl:(((⟨#[70,86,79,67,78,110,99,114,65]⟩:ByteArray)[k]'hlt).toNat:Int)=iLet k:=by rw [iLet,dif_pos hlt]
    have hc:wr.cell? ⟨w.heap.size,nOff (iLet k),none⟩=some (.int .i64 (iVal m k)):=(b1 _).trans (iLet_at a m k hlt);clear b1;cases q:iFld m F k
    ·have HN:=Hd (iNo_fld (m:=m) hlt (by rw [HFm.out];exact q))
     simp only [iFld,fOne] at q;generalize iLet k=b at hl hc q;generalize iVal m k=n at hc q;cases qh:sHas F b
     ·simp only [qh,Bool.false_and,Bool.not_false,Bool.true_and,Bool.false_or] at q;have q':(n != 0)=true:=by simp only [bne,q];rfl
      clear q;go_wp2_with (first | (go_at_call 98;refine (c_numOf _ _ _).mono ?_;rintro e w1 ⟨rfl,hx⟩;obtain ⟨hc1,hf1,hs1⟩:=hx.rules;(try simp at hs1)) | (go_at_call 51;refine (c_has _ _ hFs _).mono ?_;rintro e w1 ⟨rfl,hx⟩;obtain ⟨hc1,hf1,hs1⟩:=hx.rules;(try simp at hs1)) | (go_at_call 99;refine (c_fieldOk _ _ _).mono ?_;rintro e w1 ⟨rfl,hx⟩;obtain ⟨hc1,hf1,hs1⟩:=hx.rules;(try simp at hs1)))
      go_ret
      refine ⟨za7 HN.out.symm, ?_⟩
      (repeat (first | with_reducible exact za4 _ | with_reducible refine za9 ?_ _ | with_reducible refine zak ?_ (by first | (simp;done) | (simp;omega) | omega) _ | with_reducible refine zab ?_ | with_reducible refine Ext.trans ?_ (by assumption)))
     ·simp only [qh,Bool.true_and,Bool.not_true,Bool.false_and,Bool.or_false] at q;go_wp2_with (first | (go_at_call 98;refine (c_numOf _ _ _).mono ?_;rintro e w1 ⟨rfl,hx⟩;obtain ⟨hc1,hf1,hs1⟩:=hx.rules;(try simp at hs1)) | (go_at_call 51;refine (c_has _ _ hFs _).mono ?_;rintro e w1 ⟨rfl,hx⟩;obtain ⟨hc1,hf1,hs1⟩:=hx.rules;(try simp at hs1)) | (go_at_call 99;refine (c_fieldOk _ _ _).mono ?_;rintro e w1 ⟨rfl,hx⟩;obtain ⟨hc1,hf1,hs1⟩:=hx.rules;(try simp at hs1)))
      go_ret
      refine ⟨za7 HN.out.symm, ?_⟩
      (repeat (first | with_reducible exact za4 _ | with_reducible refine za9 ?_ _ | with_reducible refine zak ?_ (by first | (simp;done) | (simp;omega) | omega) _ | with_reducible refine zab ?_ | with_reducible refine Ext.trans ?_ (by assumption)))
    ·have HN:=Hd (HT.out.next q)
     simp only [iFld,fOne] at q;generalize iLet k=b at hl hc q;generalize iVal m k=n at hc q;cases qh:sHas F b
     ·simp only [qh,Bool.false_and,Bool.not_false,Bool.true_and,Bool.false_or] at q;have q':(n != 0)=false:=by simp only [bne,q];rfl
      clear q;go_wp2_with (first | (go_at_call 98;refine (c_numOf _ _ _).mono ?_;rintro e w1 ⟨rfl,hx⟩;obtain ⟨hc1,hf1,hs1⟩:=hx.rules;(try simp at hs1)) | (go_at_call 51;refine (c_has _ _ hFs _).mono ?_;rintro e w1 ⟨rfl,hx⟩;obtain ⟨hc1,hf1,hs1⟩:=hx.rules;(try simp at hs1)) | (go_at_call 99;refine (c_fieldOk _ _ _).mono ?_;rintro e w1 ⟨rfl,hx⟩;obtain ⟨hc1,hf1,hs1⟩:=hx.rules;(try simp at hs1)))
      go_roundw
      case rel =>
       clear X1;refine ⟨k+1,by omega,by go_num,HN.out, ?_⟩
       (repeat (first | with_reducible exact za4 _ | with_reducible refine za9 ?_ _ | with_reducible refine zak ?_ (by first | (simp;done) | (simp;omega) | omega) _ | with_reducible refine zab ?_ | with_reducible refine Ext.trans ?_ (by assumption)))
      case measure=>simp [intOf] <;> omega
     ·simp only [qh,Bool.true_and,Bool.not_true,Bool.false_and,Bool.or_false] at q;go_wp2_with (first | (go_at_call 98;refine (c_numOf _ _ _).mono ?_;rintro e w1 ⟨rfl,hx⟩;obtain ⟨hc1,hf1,hs1⟩:=hx.rules;(try simp at hs1)) | (go_at_call 51;refine (c_has _ _ hFs _).mono ?_;rintro e w1 ⟨rfl,hx⟩;obtain ⟨hc1,hf1,hs1⟩:=hx.rules;(try simp at hs1)) | (go_at_call 99;refine (c_fieldOk _ _ _).mono ?_;rintro e w1 ⟨rfl,hx⟩;obtain ⟨hc1,hf1,hs1⟩:=hx.rules;(try simp at hs1)))
      go_roundw
      case rel =>
       clear X1;refine ⟨k+1,by omega,by go_num,HN.out, ?_⟩
       (repeat (first | with_reducible exact za4 _ | with_reducible refine za9 ?_ _ | with_reducible refine zak ?_ (by first | (simp;done) | (simp;omega) | omega) _ | with_reducible refine zab ?_ | with_reducible refine Ext.trans ?_ (by assumption)))
      case measure=>simp [intOf] <;> omega
   ·obtain rfl:k=9:=by omega
    have ht9:=decide_eq_true HT.out;have hv:(iCmd m F && iLog m F)=iFits m:=by unfold iFits;rw [HFm.out,ht9,HE.out];simp
    have HV:=Hd hv;clear ht9 hv HT HE HFm;have HR:=Hd hr;clear hr;cases qx:sHas F 120
    all_goals
     go_wp2_with (first | (go_at_call 51;refine (c_has _ _ hFs _).mono ?_;rintro e w1 ⟨rfl,hx⟩;obtain ⟨hc1,hf1,hs1⟩:=hx.rules;(try simp at hs1);have z0:w.heap.size < w1.heap.size:=(by omega)) | (go_at_call 100;refine (c_iCmdOk _ _ _ _).mono ?_;rintro e w1 ⟨rfl,hx⟩;obtain ⟨hc1,hf1,hs1⟩:=hx.rules;(try simp at hs1);have z0:w.heap.size < w1.heap.size:=(by omega)) | (go_at_call 96;refine (c_isLogZero _ _ _ hs.1 hs.2.1 hs.2.2).mono ?_;rintro e w1 ⟨rfl,hx⟩;obtain ⟨hc1,hf1,hs1⟩:=hx.rules;(try simp at hs1);have z0:w.heap.size < w1.heap.size:=(by omega)))
     any_goals
      go_ret
      refine ⟨za7 ?_, ?_⟩
      ·rw [<-HV.out]
       (first | (simp [iCmd,iLog, *];done) | (simp_all [iCmd,iLog];done))
      ·(repeat (first | with_reducible exact za4 _ | with_reducible refine za9 ?_ _ | with_reducible refine zak ?_ (by first | (simp;done) | (simp;omega) | omega) _ | with_reducible refine zab ?_ | with_reducible refine Ext.trans ?_ (by assumption)))
     have XX:Ext w w1:=by (repeat (first | with_reducible exact za4 _ | with_reducible refine za9 ?_ _ | with_reducible refine zak ?_ (by first | (simp;done) | (simp;omega) | omega) _ | with_reducible refine zab ?_ | with_reducible refine Ext.trans ?_ (by assumption)))
     have hK:=fun W (h:Ext w1 W)=>c_iLogOk a m.log hs.1 hs.2.1 hs.2.2 W (HR.out.keep (Ext.trans XX h))
     cases q5:logOk m.log
     ·rw [q5] at hK;have HK:=Hd hK;clear hK
      (refine mrx (fun _ _ _=>True) 22 (fun hg=>?_);simp only [Tc,Tz,Dc,Dz])
      (repeat (first | (refine mqu ?_;go_big_quiet_step (fail);refine mnil ?_) | (refine msk ?_;simp only [Act.put,Sa,Sz,Ss]) | (refine Rm.more ?_;refine mdt Tryz.func101 (fun W hW=>HK.out W hW) ?_;simp only [Act.put,Sa,Sz,Ss])))
      (refine Rm.wpMix_nil ?_;intro w2 hw2)
      go_wp2
      go_ret
      refine ⟨za7 ?_,Ext.trans XX hw2⟩;rw [<-HV.out]
      (first | (simp [iCmd,iLog,zb8, *];done) | (simp_all [iCmd,iLog,zb8];done))
     ·have hb:=logOk_b q5;have hE:=fun W=>c_end a m.log W (by omega) (by omega) (by omega)
      rw [q5] at hK;have HK:=Hd hK;have HE:=Hd hE;clear hE hK hb;have hF:=fun W=>zce m.commit m.log.base m.log.fin W
      cases q6:inB m.commit m.log.base m.log.fin
      all_goals
       rw [q6] at hF;have HF:=Hd hF;clear hF
       (refine mrx (fun _ _ _=>True) 22 (fun hg=>?_);simp only [Tc,Tz,Dc,Dz])
       (repeat (first | (refine mqu ?_;go_big_quiet_step (fail);refine mnil ?_) | (refine msk ?_;simp only [Act.put,Sa,Sz,Ss]) | (refine Rm.more ?_;refine mdt Tryz.func101 (fun W hW=>HK.out W hW) ?_;simp only [Act.put,Sa,Sz,Ss]) | (refine Rm.more ?_;refine mdt Tryz.func15 (fun W hW=>HE.out W) ?_;simp only [Act.put,Sa,Sz,Ss]) | (refine Rm.more ?_;refine mdt Tryz.func53 (fun W hW=>HF.out W) ?_;simp only [Act.put,Sa,Sz,Ss])))
       (refine Rm.wpMix_nil ?_;intro w2 hw2)
       go_wp2
       go_ret
       refine ⟨za7 ?_,Ext.trans XX hw2⟩;rw [<-HV.out]
       (first | (simp [iCmd,iLog,zb8, *];done) | (simp_all [iCmd,iLog,zb8];done))
 ·have HN:=Hd (show iFits m=false by unfold iFits;rw [HFm.out,he];rfl)
  go_enter Tryz.func50,Tryz.ntmps50
  go_wp2_with fail
  refine (HF.out _).mono ?_;rintro e w1 ⟨rfl,x1⟩;go_wp2
  go_ret
  exact ⟨za7 HN.out.symm,Ext.trans X0 x1⟩
end Go.Proofs.YtckfjploafhenaaGreat
