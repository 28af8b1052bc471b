/- OnOk of the program. -/
import Derived.Test.YtckfjploafhenaaGreatPk47
import Derived.Test.YtckfjploafhenaaGreatPk32
import Derived.RegionTactic
import Derived.BigRegion
import Derived.Deep.RegionWith
set_option maxRecDepth 100000
set_option maxHeartbeats 16000000
set_option linter.unusedVariables false
set_option linter.unusedSimpArgs false
namespace Go.Proofs.YtckfjploafhenaaGreat
open Go.ChangeShapes Go.WideShapes Go.ChangeAt Go.RowKit Go.Sort
section
variable {W0 W:World} {p P:Nat} {r:Rp} {am:LAd} {m:Mg}
theorem c_ok1 (hk:KO W0 W p r []) (hP:W0.heap[P]?=some (Mg.obj am m)) (hM:LgR W0 am m.log) (hs:r.log.small) (hms:m.log.small) (hb:(rpOk r && hearB r m 3)=true) :
  Calls Tryz.prog 13 #[.pointer (some ⟨p,0,none⟩), .pointer (some ⟨P,0,none⟩)] W fun e w'=>e = .returned (.tuple #[])/\KO W0 w' p (okR r m) (okO r m):=by
 obtain ⟨a,A,c,qs,Ao,co,os,hk,hos⟩:=hk;obtain rfl:os=[]:=by simpa using hos
 have HRok:=Hd (hear_facts hb).1;have G:=Hd (zf9 (hear_facts hb).1);have hg0:=G.out.base0;have hg1:=G.out.base1;have hg2:=G.out.ents;have hg3:=G.out.c0;have hg4:=G.out.c1;have hf1:=G.out.fin;have hf0:0<=r.log.fin:=by unfold Lg.fin;omega
 have hql:=hk.qlen;have hq20:qs.length<=20:=by have:=G.out.votes;omega
 have HQ:=Hd hql;have K0:=Hd hk;have M0:=Hd (hk.x.box hP);have HP:=Hd hP;clear hk hP hM hos hql
 go_enter Tryz.func13,Tryz.ntmps13
 cases g1:(r.mode != 1)
 ·cases g2:leadsB r
  ·have HF:=Hd (show r=okR r m/\([]:List Ot)=okO r m by
    have hB:okB r m=false:=by unfold okB;simp only [g2,Bool.false_and,Bool.and_false,Bool.true_and]
    unfold okR okO;rw [hB]
    exact ⟨rfl,rfl⟩)
   go_wp2
   (refine mrg (relE W.heap.size) (fun _ _ _=>True) 32 ?_;simp only [Tc,Tz,Dc,Dz])
   ((refine mpl ?_;go_big_quiet_step (fail);refine mnil ?_);(refine Rm.wpMix_nilp rfl rfl rfl ?_;simp only [Act.put,Sa,Sz,Ss]);(iterate 2 (refine mpl ?_;go_big_quiet_step (fail);refine mnil ?_));(refine ml1 (fun W9' h9=>show W9'.cell? _=some (.int .i64 r.mode) from za2 (Ext.box h9 K0.out.box) 2) Tryz.underlying3 ?_;simp only [Act.put,Sa,Sz,Ss]);(refine mpl ?_;go_big_quiet_step (fail);refine mnil ?_);(try simp only [g1,Bool.not_true,Bool.not_false]);(iterate 2 (refine mpl ?_;go_big_quiet_step (fail);refine mnil ?_)))
   (refine mdt Tryz.func14 (fun W9' h9=>zfv p a A qs.length c r _ W9' (Ext.box h9 K0.out.box) G.out.of G.out.view0) ?_;simp only [Act.put,Sa,Sz,Ss])
   ((refine mpl ?_;go_big_quiet_step (fail);refine mnil ?_);(try simp only [g2,Bool.not_true,Bool.not_false]);(iterate 2 (refine mpl ?_;go_big_quiet_step (fail);refine mnil ?_));(iterate 8 (refine msk ?_;simp only [Act.put,Sa,Sz,Ss]));(iterate 2 (refine mpl ?_;go_big_quiet_step (fail);refine mnil ?_));(iterate 9 (refine msk ?_;simp only [Act.put,Sa,Sz,Ss]));(refine mpl ?_;go_big_quiet_step (fail);refine mnil ?_))
   refine Rm.wpMix_nil ?_;rintro w1 hW;have xx:Ext W w1:=hW;have K1:=Hd (K0.out.keep xx);have M1:=Hd (xx.box M0.out);clear K0 M0 hW xx;go_wp2
   exact bodyPost_ret (v := .tuple #[]) (by simp [results,Tryz.results13,go_sem]) rfl ⟨rfl,K1.out.ko HF.out.1 HF.out.2⟩
  ·cases g3:(m.view != r.view)
   ·cases g4:decide (r.log.fin < m.op)
    ·have HB:=Hd (show okB r m=true by
      have h1:(r.mode == 1)=true:=by simpa using g1
      have h3:(m.view == r.view)=true:=by simpa using g3
      have h4:decide (m.op<=r.log.fin)=true:=by simp at g4 ⊢;omega
      unfold okB
      simp only [h1,g2,h3,h4,Bool.and_true])
     go_wp2
     (refine mrg (relE W.heap.size) (fun _ _ _=>True) 32 ?_;simp only [Tc,Tz,Dc,Dz])
     ((refine mpl ?_;go_big_quiet_step (fail);refine mnil ?_);(refine Rm.wpMix_nilp rfl rfl rfl ?_;simp only [Act.put,Sa,Sz,Ss]);(iterate 2 (refine mpl ?_;go_big_quiet_step (fail);refine mnil ?_));(refine ml1 (fun W9' h9=>show W9'.cell? _=some (.int .i64 r.mode) from za2 (Ext.box h9 K0.out.box) 2) Tryz.underlying3 ?_;simp only [Act.put,Sa,Sz,Ss]);(refine mpl ?_;go_big_quiet_step (fail);refine mnil ?_);(try simp only [g1,Bool.not_true,Bool.not_false]);(iterate 2 (refine mpl ?_;go_big_quiet_step (fail);refine mnil ?_)))
     (refine mdt Tryz.func14 (fun W9' h9=>zfv p a A qs.length c r _ W9' (Ext.box h9 K0.out.box) G.out.of G.out.view0) ?_;simp only [Act.put,Sa,Sz,Ss])
     ((refine mpl ?_;go_big_quiet_step (fail);refine mnil ?_);(try simp only [g2,Bool.not_true,Bool.not_false]);(iterate 2 (refine mpl ?_;go_big_quiet_step (fail);refine mnil ?_)))
     ((refine mpl ?_;go_big_quiet_step (fail);refine mnil ?_);(refine ml1 (fun W9' h9=>show W9'.cell? _=some (.int .i64 m.view) from za2 (Ext.box h9 M0.out) 2) Tryz.underlying3 ?_;simp only [Act.put,Sa,Sz,Ss]);(refine mpl ?_;go_big_quiet_step (fail);refine mnil ?_);(refine Rm.wpMix_nilp rfl rfl rfl ?_;simp only [Act.put,Sa,Sz,Ss]);(iterate 2 (refine mpl ?_;go_big_quiet_step (fail);refine mnil ?_));(refine ml1 (fun W9' h9=>show W9'.cell? _=some (.int .i64 r.view) from za2 (Ext.box h9 K0.out.box) 3) Tryz.underlying3 ?_;simp only [Act.put,Sa,Sz,Ss]);(refine mpl ?_;go_big_quiet_step (fail);refine mnil ?_);(try simp only [g3,Bool.not_true,Bool.not_false]);(iterate 2 (refine mpl ?_;go_big_quiet_step (fail);refine mnil ?_));(refine mpl ?_;go_big_quiet_step (fail);refine mnil ?_);(refine ml1 (fun W9' h9=>show W9'.cell? _=some (.int .i64 m.op) from za2 (Ext.box h9 M0.out) 3) Tryz.underlying3 ?_;simp only [Act.put,Sa,Sz,Ss]);(refine mpl ?_;go_big_quiet_step (fail);refine mnil ?_);(refine Rm.wpMix_nilp rfl rfl rfl ?_;simp only [Act.put,Sa,Sz,Ss]);(iterate 2 (refine mpl ?_;go_big_quiet_step (fail);refine mnil ?_)))
     (refine mla (fun W9' h9=>kp_log K0.out.box h9) Tryz.underlying30 ?_;simp only [Act.put,Sa,Sz,Ss])
     (refine mdt Tryz.func15 (fun W9' h9=>c_end a r.log W9' (by omega) (by omega) (by omega)) ?_;simp only [Act.put,Sa,Sz,Ss])
     ((refine mpl ?_;go_big_quiet_step (fail);refine mnil ?_);(try simp only [g4,Bool.not_true,Bool.not_false]);(refine mpl ?_;go_big_quiet_step (fail);refine mnil ?_))
     refine Rm.wpMix_nil ?_;rintro w1 hW;have xx:Ext W w1:=hW;have K1:=Hd (K0.out.keep xx);have M1:=Hd (xx.box M0.out);clear K0 M0 hW xx;clear g1 g2 g3 g4;obtain ⟨fv,hfv⟩:∃ x,findV 3 m.frm r.votes=x:=⟨_,rfl⟩;have HFv:=Hd hfv;have hcon:=c_find 3 m.frm p a A c qs r _ w1 K1.out.box (K1.out.rp.v.r.rd VtE.len).2 K1.out.rp.e (by omega)
     rw [hfv] at hcon;clear hfv;have dm:=za2 M1.out;have zm:=bx_lt M1.out;go_wp2_with fail
     refine hcon.mono ?_;rintro e w2 ⟨rfl,x2⟩;have K2:=Hd (K1.out.keep x2);have M2:=Hd (x2.box M1.out);clear hcon x2 K1 M1 dm zm;cases gF:decide (0<=fv)
     case' false =>
      have hcon:=c_vote K2.out LAd.none (okV m) (none_rd _) zi0;rw [voted_okV r m (by rw [HFv.out];exact gF)] at hcon
      have HC:=Hd hcon;have dm:=za2 M2.out;have zm:=bx_lt M2.out;clear hcon;go_wp2_with fail
      refine HC.out.mono ?_;rintro e wv ⟨rfl,Av,cv,qv,k3⟩;have Kv:=Hd k3
      have hqv:qv.length<=21:=by
       have h1:=k3.qlen
       have h2:(okL r m).length<=21:=by
        unfold okL;rw [HFv.out,gF]
        have:=G.out.votes
        simp only [Bf,if_false];split
        ·rw [List.length_append];simp;omega
        ·omega
       have h3:(r.votesTo (okL r m)).votes.length=(okL r m).length:=rfl;omega
      clear k3 HC K2 M2 dm zm
     case' true =>
      obtain ⟨k,hkv,hkl⟩:∃ k:Nat,fv=k/\k < r.votes.length:=by
       have h0:0<=findV 3 m.frm r.votes:=by rw [HFv.out];simpa using gF
       obtain ⟨k,h1,h2⟩:=idxOf_lt h0;exact ⟨k,by rw [<-HFv.out];exact h1,h2⟩
      subst hkv;have hkq:k < qs.length:=by have:=HQ.out;omega
      obtain ⟨g,gc,hAe,hgB,hgl⟩:=K2.out.rp.v.r.base (by omega)
      simp only [Value.slice.injEq] at hAe;obtain ⟨rfl,_,rfl⟩:=hAe;have HLk:=Hd (show okL r m=setOp r.votes k (max qs[k].2.op m.op) from okL_at HFv.out (by rw [<-K2.out.rp.e,List.getElem?_map,List.getElem?_eq_getElem hkq];rfl))
      have hkk:(k:Int) < (qs.length:Int):=by omega
      have HCell:=Hd (show ∀ W9,Ext w2 W9->W9.cell? ⟨g,k * 10+4,none⟩=some (.int .i64 qs[k].2.op) from fun W9 hW=>(World.ownsRow.cellAt (K2.out.rp.v.r.kept hW) (k * 10+4) (by omega)).trans (ze4 VtE.len qs k hkq 4 (by omega)))
      go_wp2
      (refine mrg (relE w2.heap.size) (fun _ _ _=>True) 20 ?_;simp only [Tc,Tz,Dc,Dz])
      ((refine mpl ?_;go_big_quiet_step (fail);refine mnil ?_);(refine Rm.wpMix_nilp rfl rfl rfl ?_;simp only [Act.put,Sa,Sz,Ss]);(iterate 2 (refine mpl ?_;go_big_quiet_step (fail);refine mnil ?_)))
      (refine ml1 (fun W9' h9=>show W9'.cell? _=some (.slice (some ⟨g,0,none⟩) qs.length c) from za2 (Ext.box h9 K2.out.box) 10) Tryz.underlying31 ?_;simp only [Act.put,Sa,Sz,Ss])
      ((iterate 2 (refine mpl ?_;go_big_quiet_step (fail);refine mnil ?_));(refine Rm.wpMix_nilp rfl rfl rfl ?_;simp only [Act.put,Sa,Sz,Ss]);(iterate 2 (refine mpl ?_;go_big_quiet_step (fail);refine mnil ?_)))
      (refine ml1 (fun W9' h9=>show W9'.cell? _=some (.slice (some ⟨g,0,none⟩) qs.length c) from za2 (Ext.box h9 K2.out.box) 10) Tryz.underlying31 ?_;simp only [Act.put,Sa,Sz,Ss])
      (iterate 3 (refine mpl ?_;go_big_quiet_step (fail);refine mnil ?_))
      (refine ml1 (fun W9' h9=>HCell.out W9' h9) Tryz.underlying3 ?_;simp only [Act.put,Sa,Sz,Ss])
      ((refine mpl ?_;go_big_quiet_step (fail);refine mnil ?_);(refine ml1 (fun W9' h9=>show W9'.cell? _=some (.int .i64 m.op) from za2 (Ext.box h9 M2.out) 3) Tryz.underlying3 ?_;simp only [Act.put,Sa,Sz,Ss]);(iterate 3 (refine mpl ?_;go_big_quiet_step (fail);refine mnil ?_)))
      refine Rm.wpMix_nil ?_;rintro w3 hW3;have x3:Ext w2 w3:=hW3;have K3a:=Hd (K2.out.keep x3);have hfr:=World.ownsRow.frozenAt K3a.out.rp.v.r;have e4:=HCell.out w3 x3;have hgl3:g < w3.heap.size:=Nat.lt_of_lt_of_le hgl x3.size;have HK4:=Hd (K3a.out.opset hkq (max qs[k].2.op m.op));rw [<-HLk.out] at HK4;clear hW3 x3 HCell;go_wp2_with (with_reducible refine za5 74 ?_)
      refine zb2 (F:=fun W9=>KZ W0 W9 p a (some ⟨g,0,none⟩) c (qs.set k (opE qs[k] (max qs[k].2.op m.op))) (r.votesTo (okL r m)) Ao co []) HK4.out ?_
      intro wv hk4;have K4:=Hd hk4;have hq4:(qs.set k (opE qs[k] (max qs[k].2.op m.op))).length<=20:=by rw [List.length_set];exact hq20
      obtain ⟨qs4,hqs4⟩:∃ q,qs.set k (opE qs[k] (max qs[k].2.op m.op))=q:=⟨_,rfl⟩;rw [hqs4] at K4 hq4;obtain ⟨Av,hAv⟩:∃ A:Option Addr,(some ⟨g,0,none⟩:Option Addr)=A:=⟨_,rfl⟩;obtain ⟨cv,hcv⟩:∃ x:Nat,c=x:=⟨_,rfl⟩;obtain ⟨qv,hqv_⟩:∃ q:List VtE,qs4=q:=⟨_,rfl⟩;have Kv:=Hd K4.out;rw [hAv,hcv,hqv_] at Kv;rw [hqv_] at hq4;have hqv:qv.length<=21:=by omega
      clear hk4 HK4 K3a K2 K4 hfr e4 hgl3 M2 hqs4 HLk hAv hcv hqv_ hq4
     all_goals
      obtain ⟨L,hL⟩:∃ L,okL r m=L:=⟨_,rfl⟩;have HL:=Hd hL;rw [hL] at Kv;clear hL;have Kv:=Hd (show KZ W0 wv p a Av cv qv (r.comTo L r.commit) Ao co [] from Kv.out)
      have hqn:qv.length<=1048576:=by omega
      have dk:=za2 Kv.out.box;dsimp only [Rp.comTo] at dk;have zk:=bx_lt Kv.out.box;obtain ⟨N,hN⟩:∃ N,zf2 (r.votesTo L)=N:=⟨_,rfl⟩;have HN:=Hd (show okN r m=N by unfold okN;rw [HL.out];exact hN)
      have hNb:=okN_b (m:=m) G.out;rw [HN.out] at hNb
      have HAg:=Hd (show ∀ W9,Ext wv W9->Calls Tryz.prog 18 #[.pointer (some ⟨p,0,none⟩)] W9 fun e w'=>e = .returned (.int .i64 N)/\Ext W9 w' from fun W9 hW=>by
       have h5:=c_agreed p a Av cv qv (r.votesTo L) _ W9 (hW.box Kv.out.box) ((Kv.out.rp.v.r.rd VtE.len).2.keep hW) Kv.out.rp.e hqn G.out.of hg0 hg1 hg2 (by show 0<=r.commit;omega) (by show r.commit<=r.log.fin;omega)
       rw [hN] at h5
       exact h5)
      clear hN;go_wp2_with fail
      refine (HAg.out _ (by first | exact za4 _ | exact zab (za4 _))).mono ?_
      rintro e w5 ⟨rfl,x5⟩;have K5:=Hd (Kv.out.keep (by first | exact x5 | exact Ext.trans (zab (za4 _)) x5))
      clear dk zk x5 HAg Kv;have dk:=za2 K5.out.box;dsimp only [Rp.comTo] at dk;have fk:=zad K5.out.box;have zk:=bx_lt K5.out.box;have P5:=zar K5.out.box 5 (.int .i64 N);simp only [Sa,Sz,Ss] at P5;have c5:=zaq (Chg.refl w5 [p]) (p:=⟨p,5,none⟩) (by simp) (.int .i64 N)
      have HK6:=Hd (K5.out.put (R':=r.comTo L N) c5 P5 rfl rfl);clear P5 c5;go_wp2_with (with_reducible refine za5 85 ?_)
      refine zb2 (F:=fun W9=>KZ W0 W9 p a Av cv qv (r.comTo L N) Ao co []) HK6.out ?_
      intro w6 hk6;have K6:=Hd hk6;clear hk6 HK6 K5 dk fk zk;have dk:=za2 K6.out.box;dsimp only [Rp.comTo] at dk;have zk:=bx_lt K6.out.box;have HOR:=Hd (show r.comTo L N=okR r m by unfold okR;rw [HB.out,HL.out,HN.out];rfl)
      cases gN:decide (r.commit < N)
      ·have HOO:=Hd (show ([]:List Ot)=okO r m by unfold okO;rw [HB.out,HN.out,gN];rfl)
       go_wp2
       exact bodyPost_end (v := .tuple #[]) (by simp [results,Tryz.results13,go_sem]) rfl ⟨rfl,K6.out.ko HOR.out HOO.out⟩
      ·obtain ⟨j0,hj0⟩:∃ j:Nat,(r.commit - r.log.base).toNat=j:=⟨_,rfl⟩;obtain ⟨n0,hn0⟩:∃ n:Nat,(N - r.commit).toNat=n:=⟨_,rfl⟩;obtain ⟨s0,hs0⟩:∃ n:Nat,r.of.toNat=n:=⟨_,rfl⟩;have HOO:=Hd (show ansO r.view r.log j0 n0++allTo r.me (comM r N) s0=okO r m by unfold okO;rw [HB.out,HN.out,gN,hj0,hn0,hs0];rfl)
       have hj1:r.log.base+(j0:Int)=r.commit:=by omega
       have hjn:j0+n0<=r.log.ents.length:=by have:r.log.fin=r.log.base+r.log.ents.length:=rfl;omega
       have hof:r.of=(s0:Int):=by have:=G.out.of;omega
       have hs10:s0<=10:=by have:=G.out.of;omega
       have HOf:=Hd hof;have hcon:=c_answer W0 p a Av cv qv (r.comTo L N) [] Ao co w6 K6.out j0 n0 N (by show r.log.base+(j0:Int)+(n0:Int)=N;omega) G.out.lok hjn (by simp)
       have hcon2:Calls Tryz.prog 19 #[.pointer (some ⟨p,0,none⟩), .int .i64 r.commit, .int .i64 N] w6 fun e w'=>e = .returned (.tuple #[])/\∃ A' c' os',KZ W0 w' p a Av cv qv (r.comTo L N) A' c' ([]++os')/\List.map Prod.snd os'=ansO r.view r.log j0 n0:=by
        rw [<-hj1];exact hcon
       have HC2:=Hd hcon2;clear hcon hcon2 hj1 hj0 hn0 hs0 hof;go_wp2_with fail
       refine HC2.out.mono ?_;rintro e w7 ⟨rfl,A7,c7,os7,hk7,ho7⟩;have K7:=Hd (show KZ W0 w7 p a Av cv qv (r.comTo L N) A7 c7 os7 from hk7)
       have HO7:=Hd ho7
       have hl7:os7.length<=60:=by
        have h1:=congrArg List.length ho7;rw [List.length_map] at h1
        have:=zi5 r.view r.log j0 n0
        omega
       clear hk7 ho7 K6 dk zk HC2;go_wp2
       (refine mrg (relE w7.heap.size) (fun _ _ _=>True) 17 ?_;simp only [Tc,Tz,Dc,Dz])
       ((iterate 2 (refine mpl ?_;go_big_quiet_step (fail);refine mnil ?_));(refine Rm.wpMix_nilp rfl rfl rfl ?_;simp only [Act.put,Sa,Sz,Ss]);(iterate 2 (refine mpl ?_;go_big_quiet_step (fail);refine mnil ?_));(refine ml1 (fun W9' h9=>show W9'.cell? _=some (.int .i64 r.me) from za2 (Ext.box h9 K7.out.box) 0) Tryz.underlying3 ?_;simp only [Act.put,Sa,Sz,Ss]);(refine mpl ?_;go_big_quiet_step (fail);refine mnil ?_);(refine Rm.wpMix_nilp rfl rfl rfl ?_;simp only [Act.put,Sa,Sz,Ss]);(iterate 2 (refine mpl ?_;go_big_quiet_step (fail);refine mnil ?_));(refine ml1 (fun W9' h9=>show W9'.cell? _=some (.int .i64 r.view) from za2 (Ext.box h9 K7.out.box) 3) Tryz.underlying3 ?_;simp only [Act.put,Sa,Sz,Ss]);(refine mpl ?_;go_big_quiet_step (fail);refine mnil ?_);(refine Rm.wpMix_nilp rfl rfl rfl ?_;simp only [Act.put,Sa,Sz,Ss]);(iterate 2 (refine mpl ?_;go_big_quiet_step (fail);refine mnil ?_)))
       (refine ml1 (fun W9' h9=>show W9'.cell? _=some (.int .i64 N) from za2 (Ext.box h9 K7.out.box) 5) Tryz.underlying3 ?_;simp only [Act.put,Sa,Sz,Ss])
       (refine mpl ?_;go_big_quiet_step (fail);refine mnil ?_)
       refine Rm.wpMix_nil ?_;rintro w8 hW8;have K8:=Hd (K7.out.keep (show Ext w7 w8 from hW8))
       clear K7 hW8;go_wp2_with fail
       refine (c_sendAllZ W0 p a Av cv qv (r.comTo L N) os7 A7 c7 LAd.none (comM r N) w8 0 s0 K8.out HOf.out hs10 (LgF.zero _ _) zi0 (by omega)).mono ?_
       rintro e w9 ⟨rfl,A9,c9,os9,hk9,ho9⟩;have K9:=Hd hk9;have HO9:=Hd (show List.map Prod.snd (os7++os9)=okO r m by rw [List.map_append,HO7.out,ho9];exact HOO.out)
       clear hk9 ho9 K8;go_wp2
       exact bodyPost_end (v := .tuple #[]) (by simp [results,Tryz.results13,go_sem]) rfl ⟨rfl,K9.out.ko HOR.out HO9.out⟩
    ·have hh:decide (m.op<=r.log.fin)=false:=by simp at g4 ⊢;omega
     have HF:=Hd (show r=okR r m/\([]:List Ot)=okO r m by
      have hB:okB r m=false:=by unfold okB;simp only [hh,Bool.false_and,Bool.and_false,Bool.true_and]
      unfold okR okO;rw [hB]
      exact ⟨rfl,rfl⟩)
     go_wp2
     (refine mrg (relE W.heap.size) (fun _ _ _=>True) 32 ?_;simp only [Tc,Tz,Dc,Dz])
     ((refine mpl ?_;go_big_quiet_step (fail);refine mnil ?_);(refine Rm.wpMix_nilp rfl rfl rfl ?_;simp only [Act.put,Sa,Sz,Ss]);(iterate 2 (refine mpl ?_;go_big_quiet_step (fail);refine mnil ?_));(refine ml1 (fun W9' h9=>show W9'.cell? _=some (.int .i64 r.mode) from za2 (Ext.box h9 K0.out.box) 2) Tryz.underlying3 ?_;simp only [Act.put,Sa,Sz,Ss]);(refine mpl ?_;go_big_quiet_step (fail);refine mnil ?_);(try simp only [g1,Bool.not_true,Bool.not_false]);(iterate 2 (refine mpl ?_;go_big_quiet_step (fail);refine mnil ?_)))
     (refine mdt Tryz.func14 (fun W9' h9=>zfv p a A qs.length c r _ W9' (Ext.box h9 K0.out.box) G.out.of G.out.view0) ?_;simp only [Act.put,Sa,Sz,Ss])
     ((refine mpl ?_;go_big_quiet_step (fail);refine mnil ?_);(try simp only [g2,Bool.not_true,Bool.not_false]);(iterate 2 (refine mpl ?_;go_big_quiet_step (fail);refine mnil ?_)))
     ((refine mpl ?_;go_big_quiet_step (fail);refine mnil ?_);(refine ml1 (fun W9' h9=>show W9'.cell? _=some (.int .i64 m.view) from za2 (Ext.box h9 M0.out) 2) Tryz.underlying3 ?_;simp only [Act.put,Sa,Sz,Ss]);(refine mpl ?_;go_big_quiet_step (fail);refine mnil ?_);(refine Rm.wpMix_nilp rfl rfl rfl ?_;simp only [Act.put,Sa,Sz,Ss]);(iterate 2 (refine mpl ?_;go_big_quiet_step (fail);refine mnil ?_));(refine ml1 (fun W9' h9=>show W9'.cell? _=some (.int .i64 r.view) from za2 (Ext.box h9 K0.out.box) 3) Tryz.underlying3 ?_;simp only [Act.put,Sa,Sz,Ss]);(refine mpl ?_;go_big_quiet_step (fail);refine mnil ?_);(try simp only [g3,Bool.not_true,Bool.not_false]);(iterate 2 (refine mpl ?_;go_big_quiet_step (fail);refine mnil ?_));(refine mpl ?_;go_big_quiet_step (fail);refine mnil ?_);(refine ml1 (fun W9' h9=>show W9'.cell? _=some (.int .i64 m.op) from za2 (Ext.box h9 M0.out) 3) Tryz.underlying3 ?_;simp only [Act.put,Sa,Sz,Ss]);(refine mpl ?_;go_big_quiet_step (fail);refine mnil ?_);(refine Rm.wpMix_nilp rfl rfl rfl ?_;simp only [Act.put,Sa,Sz,Ss]);(iterate 2 (refine mpl ?_;go_big_quiet_step (fail);refine mnil ?_)))
     (refine mla (fun W9' h9=>kp_log K0.out.box h9) Tryz.underlying30 ?_;simp only [Act.put,Sa,Sz,Ss])
     (refine mdt Tryz.func15 (fun W9' h9=>c_end a r.log W9' (by omega) (by omega) (by omega)) ?_;simp only [Act.put,Sa,Sz,Ss])
     ((refine mpl ?_;go_big_quiet_step (fail);refine mnil ?_);(try simp only [g4,Bool.not_true,Bool.not_false]);(refine mpl ?_;go_big_quiet_step (fail);refine mnil ?_))
     refine Rm.wpMix_nil ?_;rintro w1 hW;have xx:Ext W w1:=hW;have K1:=Hd (K0.out.keep xx);have M1:=Hd (xx.box M0.out);clear K0 M0 hW xx;go_wp2
     exact bodyPost_ret (v := .tuple #[]) (by simp [results,Tryz.results13,go_sem]) rfl ⟨rfl,K1.out.ko HF.out.1 HF.out.2⟩
   ·have hh:(m.view == r.view)=false:=by simpa using g3
    have HF:=Hd (show r=okR r m/\([]:List Ot)=okO r m by
     have hB:okB r m=false:=by unfold okB;simp only [hh,Bool.false_and,Bool.and_false,Bool.true_and]
     unfold okR okO;rw [hB]
     exact ⟨rfl,rfl⟩)
    go_wp2
    (refine mrg (relE W.heap.size) (fun _ _ _=>True) 32 ?_;simp only [Tc,Tz,Dc,Dz])
    ((refine mpl ?_;go_big_quiet_step (fail);refine mnil ?_);(refine Rm.wpMix_nilp rfl rfl rfl ?_;simp only [Act.put,Sa,Sz,Ss]);(iterate 2 (refine mpl ?_;go_big_quiet_step (fail);refine mnil ?_));(refine ml1 (fun W9' h9=>show W9'.cell? _=some (.int .i64 r.mode) from za2 (Ext.box h9 K0.out.box) 2) Tryz.underlying3 ?_;simp only [Act.put,Sa,Sz,Ss]);(refine mpl ?_;go_big_quiet_step (fail);refine mnil ?_);(try simp only [g1,Bool.not_true,Bool.not_false]);(iterate 2 (refine mpl ?_;go_big_quiet_step (fail);refine mnil ?_)))
    (refine mdt Tryz.func14 (fun W9' h9=>zfv p a A qs.length c r _ W9' (Ext.box h9 K0.out.box) G.out.of G.out.view0) ?_;simp only [Act.put,Sa,Sz,Ss])
    ((refine mpl ?_;go_big_quiet_step (fail);refine mnil ?_);(try simp only [g2,Bool.not_true,Bool.not_false]);(iterate 2 (refine mpl ?_;go_big_quiet_step (fail);refine mnil ?_)))
    ((refine mpl ?_;go_big_quiet_step (fail);refine mnil ?_);(refine ml1 (fun W9' h9=>show W9'.cell? _=some (.int .i64 m.view) from za2 (Ext.box h9 M0.out) 2) Tryz.underlying3 ?_;simp only [Act.put,Sa,Sz,Ss]);(refine mpl ?_;go_big_quiet_step (fail);refine mnil ?_);(refine Rm.wpMix_nilp rfl rfl rfl ?_;simp only [Act.put,Sa,Sz,Ss]);(iterate 2 (refine mpl ?_;go_big_quiet_step (fail);refine mnil ?_));(refine ml1 (fun W9' h9=>show W9'.cell? _=some (.int .i64 r.view) from za2 (Ext.box h9 K0.out.box) 3) Tryz.underlying3 ?_;simp only [Act.put,Sa,Sz,Ss]);(refine mpl ?_;go_big_quiet_step (fail);refine mnil ?_);(try simp only [g3,Bool.not_true,Bool.not_false]);(iterate 2 (refine mpl ?_;go_big_quiet_step (fail);refine mnil ?_));(iterate 9 (refine msk ?_;simp only [Act.put,Sa,Sz,Ss]));(refine mpl ?_;go_big_quiet_step (fail);refine mnil ?_))
    refine Rm.wpMix_nil ?_;rintro w1 hW;have xx:Ext W w1:=hW;have K1:=Hd (K0.out.keep xx);have M1:=Hd (xx.box M0.out);clear K0 M0 hW xx;go_wp2
    exact bodyPost_ret (v := .tuple #[]) (by simp [results,Tryz.results13,go_sem]) rfl ⟨rfl,K1.out.ko HF.out.1 HF.out.2⟩
 ·have hh:(r.mode == 1)=false:=by simpa using g1
  have HF:=Hd (show r=okR r m/\([]:List Ot)=okO r m by
   have hB:okB r m=false:=by unfold okB;simp only [hh,Bool.false_and,Bool.and_false,Bool.true_and]
   unfold okR okO;rw [hB]
   exact ⟨rfl,rfl⟩)
  go_wp2
  (refine mrg (relE W.heap.size) (fun _ _ _=>True) 32 ?_;simp only [Tc,Tz,Dc,Dz])
  ((refine mpl ?_;go_big_quiet_step (fail);refine mnil ?_);(refine Rm.wpMix_nilp rfl rfl rfl ?_;simp only [Act.put,Sa,Sz,Ss]);(iterate 2 (refine mpl ?_;go_big_quiet_step (fail);refine mnil ?_));(refine ml1 (fun W9' h9=>show W9'.cell? _=some (.int .i64 r.mode) from za2 (Ext.box h9 K0.out.box) 2) Tryz.underlying3 ?_;simp only [Act.put,Sa,Sz,Ss]);(refine mpl ?_;go_big_quiet_step (fail);refine mnil ?_);(try simp only [g1,Bool.not_true,Bool.not_false]);(refine mpl ?_;go_big_quiet_step (fail);refine mnil ?_);(iterate 3 (refine msk ?_;simp only [Act.put,Sa,Sz,Ss]));(iterate 2 (refine mpl ?_;go_big_quiet_step (fail);refine mnil ?_));(iterate 8 (refine msk ?_;simp only [Act.put,Sa,Sz,Ss]));(iterate 2 (refine mpl ?_;go_big_quiet_step (fail);refine mnil ?_));(iterate 9 (refine msk ?_;simp only [Act.put,Sa,Sz,Ss]));(refine mpl ?_;go_big_quiet_step (fail);refine mnil ?_))
  refine Rm.wpMix_nil ?_;rintro w1 hW;have xx:Ext W w1:=hW;have K1:=Hd (K0.out.keep xx);have M1:=Hd (xx.box M0.out);clear K0 M0 hW xx;go_wp2
  exact bodyPost_ret (v := .tuple #[]) (by simp [results,Tryz.results13,go_sem]) rfl ⟨rfl,K1.out.ko HF.out.1 HF.out.2⟩
end
theorem c_iOnOk (a:LAd) (A:Option Addr) (c:Nat) (ps:List VtE) (r:Rp) (am:LAd) (m:Mg) (w:World) (hr:RpR w a A c ps r) (hs:r.log.small) (hn:ps.length<=1048576) (hv:LgS ps) (hm:LgR w am m.log) (hms:m.log.small) :
  Calls Tryz.prog 6 #[Rp.val a A ps.length c r,Mg.val am m] w fun e w'=>∃ v,e = .returned v/\RoY w' w.heap.size (zbu r m 3 (okR r m)) (hearO r m 3 (okO r m)) v/\Ext w w':=by
 have X0:Ext w (((w.alloc (Rp.obj a A ps.length c r)).alloc (Mg.obj am m)).alloc Rp.zobj):=za9 (za9 (za1 _ _) _) _;have D1:=Hd (hOld (o:=Rp.zobj) (hOld (o:=Mg.obj am m) (hNew (w:=w) (o:=Rp.obj a A ps.length c r) rfl)));have D2:=Hd (hOld (o:=Rp.zobj) (hNew (w:=w.alloc (Rp.obj a A ps.length c r)) (o:=Mg.obj am m) (k:=w.heap.size+1) (by simp)))
 have D3:=Hd (hNew (w:=(w.alloc (Rp.obj a A ps.length c r)).alloc (Mg.obj am m)) (o:=Rp.zobj) (k:=w.heap.size+1+1) (by simp))
 have HM:=Hd (hm.keep X0)
 have HH:=Hd (c_hears3 a A c ps r am m 3 13 #[.pointer (some ⟨w.heap.size+1,0,none⟩)] (okR r m) (okO r m) (((w.alloc (Rp.obj a A ps.length c r)).alloc (Mg.obj am m)).alloc Rp.zobj) (hr.keep X0) hs hn hv (hm.keep X0) hms (enters Tryz.func13 (by kernel_rfl) rfl)
  (fun h1 W0 W p hx hk=>c_ok1 hk (Ext.box hx D2.out) (HM.out.keep hx) hs hms h1))
 have HX0:=Hd X0;clear X0 hr hm hv HM
 go_enter Tryz.func6,Tryz.ntmps6
 (go_wp2_with (with_reducible refine za5 6 ?_);refine za6 (D1.out) rfl Tryz.underlying33 (by kernel_rfl) ?_;simp only [Act.put,Sa,Sz,Ss])
 (go_wp2_with (with_reducible refine za5 7 ?_);refine za6 (D2.out) rfl Tryz.underlying37 (by kernel_rfl) ?_;simp only [Act.put,Sa,Sz,Ss])
 go_wp2_with fail
 refine HH.out.mono ?_;rintro e w1 ⟨v,rfl,⟨a1,A1,c1,qs,Ao,co,os,rfl,h1,h2,h3,h4⟩,x1⟩;have E3:=Hd (x1.box D3.out);have X1:=Hd (Ext.trans HX0.out x1);have H1:=Hd h1;have H2:=Hd h2;have H3:=Hd h3;have H4:=Hd h4;clear h1 h2 h3 h4 x1 HH D1 D2 D3
 (go_wp2_with (with_reducible refine za8 33 ?_);refine za3 ((w.heap.size+1+1)) (Rp.cs a1 A1 qs.length c1 (zbu r m 3 (okR r m))) rfl rfl (E3.out) (by kernel_rfl) rfl (by simp [Value.oneCell']) ?_)
 intro W9 e9 k9;have HE9:=Hd e9;have HF:=Hd (RoY.kept0 H1.out H2.out H3.out H4.out k9 (B':=w.heap.size) (by simp) (by simp;omega))
 have HX9:=Hd (zac X1.out k9 (by omega))
 clear e9 k9;go_wp2
 exact bodyPost_ret (zax Tryz.results6 rfl rfl Tryz.underlying33 (by kernel_rfl) HE9.out) rfl ⟨_,rfl,HF.out,HX9.out⟩
end Go.Proofs.YtckfjploafhenaaGreat
