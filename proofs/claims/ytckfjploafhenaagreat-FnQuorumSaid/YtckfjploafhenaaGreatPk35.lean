/- l7Start, where a vote to do was heard. -/
import Derived.Test.YtckfjploafhenaaGreatPk32
import Derived.Test.YtckfjploafhenaaGreatPk21
import Derived.Test.YtckfjploafhenaaGreatPk34
import Derived.Test.YtckfjploafhenaaGreatPk18
set_option maxRecDepth 100000
set_option maxHeartbeats 16000000
set_option linter.unusedVariables false
set_option linter.unusedSimpArgs false
namespace Go.Proofs.YtckfjploafhenaaGreat.Ai
open Go.ChangeShapes Go.WideShapes Go.ChangeAt Go.RowKit Go.Sort
def csS (K:Int):List (Bool×List Ck):=[(true,zca K),(false,[ii]),(true,zht)]
def atS (K:Int) (i:Nat):List At:=match (zav s00 (csS K)).1[i]? with
 | some x=>x.2
 | none=>[]
def zgr (K:Int):List (Nat×Ctr):=[(26,zdi),(71,zbt),(24,zbs),(89,zgy),(30,zdg K)]
def h_l7Start:List Hn:=[.loop [] [⟨0,[(25,1)]⟩,⟨1,[(25,1)]⟩,⟨2097152,[(25,-1)]⟩,⟨0,[(10,1),(25,-1)]⟩] [] ⟨0,[(10,1),(25,-1)]⟩, .join [⟨0,[(28,1)]⟩,⟨1,[(28,-1)]⟩], .join []]
def tmS (K:Int):List AV := .v (.agg (atS K 0))::one (.ptr 0 0)::one (.ptr 1 0)::one .nil::one (.ptr 2 0)::List.replicate 66 (one .unk)
def bxT (K:Int):List (Nat×List At):=[(33,atS K 0),(33,repZero.map zeroC),(45,atS K 2)]
def midS (K:Int):AS:={ (zav s00 (csS K)).2 with tm:=tmS K,bx:=bxT K,fa:=[]++(zav s00 (csS K)).2.fa }
theorem midS_n (K:Int):(midS K).n=(zav s00 (csS K)).2.n:=by kernel_rfl
theorem l1_l7Start:left ⟨tb 1,zgr 1,4,1,eqs⟩ Tryz.f203 (zbg 1) ((atS 1 0).map symO) (sndC (sndC (bodyC Tryz.f203))) (midS 1) h_l7Start=true:=by kernel_rfl
theorem l3_l7Start:left ⟨tb 3,zgr 3,4,1,eqs⟩ Tryz.f203 (zbg 3) ((atS 3 0).map symO) (sndC (sndC (bodyC Tryz.f203))) (midS 3) h_l7Start=true:=by kernel_rfl
theorem l5_l7Start:left ⟨tb 5,zgr 5,4,1,eqs⟩ Tryz.f203 (zbg 5) ((atS 5 0).map symO) (sndC (sndC (bodyC Tryz.f203))) (midS 5) h_l7Start=true:=by kernel_rfl
theorem l_l7Start {K:Int} (hK:K=1\/K=3\/K=5):left ⟨tb K,zgr K,4,1,eqs⟩ Tryz.f203 (zbg K) ((atS K 0).map symO) (sndC (sndC (bodyC Tryz.f203))) (midS K) h_l7Start=true:=by
 rcases hK with rfl | rfl | rfl
 ·exact l1_l7Start
 ·exact l3_l7Start
 ·exact l5_l7Start
theorem kepts_start {K:Int} {Q n c:Nat} {A:Option Addr} (hK:K=1\/K=3\/K=5):Kepts (cx K Q A n c) (zgr K):=⟨zfn hK,zcq hK,zc2 hK,q_l1Min hK,q_l6All hK,trivial⟩
abbrev vtZ3:Obj := .cells #[.int .i64 0, .int .i64 0, .int .i64 0, .int .i64 0, .int .i64 0, .int .i64 0, .int .i64 0, .slice none 0 0, .slice none 0 0, .slice none 0 0] 45
theorem s_l7Start {K:Int} {Q n c:Nat} {A:Option Addr} (hK:K=1\/K=3\/K=5) {R:Nat->Prop} {w:World} (hhp:Hp (cx K Q A n c) R w) {a:LAd} {V:Option Addr} {d:Nat} {ps:List VtE} {r:Rp} (hv:ValOk (cx K Q A n c) R w (true,zca K) (Rp.val a V ps.length d r)) (hr:VsR w V d ps) (hl:ps.length<=1048576) (hs:LgS ps)
  (ht:∀ p∈ps,CksOk (cx K Q A n c) R w zht (VtE.enc p)) (h6:0 < cnt2 6 (ps.map Prod.snd)) :
  Calls Tryz.prog 203 #[Rp.val a V ps.length d r] w (KPost (cx K Q A n c) (zbg K) R w [Rp.val a V ps.length d r]):=by
 obtain ⟨b,hb,hB⟩:=f_l7Best ps h6;have X0:Ext w ((w.alloc (Rp.obj a V ps.length d r)).alloc Rp.zobj):=za9 (za1 _ _) _;have hr1:=hr.keep X0;obtain ⟨ab,ao,hA,hrow⟩:=row_vote2 hr1.1 hb;have HSl:=Hd (show (Value.slice V ps.length d) = .slice (some ⟨ab,ao,none⟩) ps.length d by rw [hA])
 have D1:=Hd (hOld (o:=Rp.zobj) (hNew (w:=w) (o:=Rp.obj a V ps.length d r) rfl));have D2:=Hd (hNew (w:=w.alloc (Rp.obj a V ps.length d r)) (o:=Rp.zobj) (k:=w.heap.size+1) (by simp))
 have HX0:=Hd X0;have HRow:=Hd hrow
 have HBv:=Hd (show ∀ W,Ext ((w.alloc (Rp.obj a V ps.length d r)).alloc Rp.zobj) W->Calls Tryz.prog 205 #[.slice (some ⟨ab,ao,none⟩) ps.length d] W fun e w'=>e = .returned (.int .i64 (b:Int))/\Ext W w' from fun W h=>by
  have h5:=hB V d W (hr1.keep h) hs hl;rw [HSl.out] at h5
  exact h5)
 have HP:=Hd hhp;have HV:=Hd hv;have HT:=Hd (ht _ (List.getElem_mem hb));clear X0 hr hr1 hrow hB hhp hv ht h6 hs hA
 go_enter Tryz.func203,Tryz.ntmps203
 refine wp_seq_k fun K0 hK0=>?_
 have H0:=Hd hK0;clear hK0;go_wp2_with fail
 refine H0.out _ _ ?_;clear H0;refine wp_seq_k fun K1 hK1=>?_
 have H1:=Hd hK1;clear hK1
 (refine mrg (relE ((w.alloc (Rp.obj a V ps.length d r)).alloc Rp.zobj).heap.size) (fun _ _ _=>True) 8 ?_;simp only [Tc,Tz,Dc,Dz])
 (refine mpl ?_;go_big_quiet_step (fail);refine mnil ?_)
 (refine ml1 (fun W9' h9=>show W9'.cell? _=some (.slice (some ⟨ab,ao,none⟩) ps.length d) from (show W9'.cell? _=some (.slice V ps.length d) from za2 (Ext.box h9 D1.out) 10).trans (congrArg some HSl.out)) Tryz.underlying31 ?_;simp only [Act.put,Sa,Sz,Ss])
 (refine mpl ?_;go_big_quiet_step (fail);refine mnil ?_)
 (refine ml1 (fun W9' h9=>show W9'.cell? _=some (.slice (some ⟨ab,ao,none⟩) ps.length d) from (show W9'.cell? _=some (.slice V ps.length d) from za2 (Ext.box h9 D1.out) 10).trans (congrArg some HSl.out)) Tryz.underlying31 ?_;simp only [Act.put,Sa,Sz,Ss])
 (refine mdt Tryz.func205 (fun W9' h9=>HBv.out W9' h9) ?_;simp only [Act.put,Sa,Sz,Ss])
 (refine mpl ?_;go_big_quiet_step (fail);refine mnil ?_)
 (refine mla (fun W9' h9=>HRow.out W9' h9) Tryz.underlying45 ?_;simp only [Act.put,Sa,Sz,Ss])
 (refine Rm.wpMix_alloc (vtZ3) rfl (fun W=>by kernel_rfl) ?_;intro p5 hp5 hps5 hpi5;simp only [zen,Act.put,Sa,Sz,Ss])
 refine Rm.wpMix_nil ?_;rintro w2 ⟨h2,hz2⟩;have x2:Ext ((w.alloc (Rp.obj a V ps.length d r)).alloc Rp.zobj) w2:=h2;have hp5':((w.alloc (Rp.obj a V ps.length d r)).alloc Rp.zobj).heap.size<=p5:=hp5;simp only [zag] at hp5';have HZ2:=Hd hz2;have X2:=Hd x2;clear h2 hz2 x2 hp5 hps5 hpi5 HRow HBv
 (go_wp2_with (with_reducible refine za8 45 ?_);refine za3 (p5) (Vt.cs3 ps[b].1 ps[b].2) rfl rfl (HZ2.out) (by kernel_rfl) rfl (by simp [Value.oneCell']) ?_)
 intro w3 e3 k3;have x3:Ext ((w.alloc (Rp.obj a V ps.length d r)).alloc Rp.zobj) w3:=zaf X2.out k3 (fun g hg=>by rw [Mi] at hg;simp only [zag];omega)
 have E1:=x3.box D1.out;have E2:=x3.box D2.out;have X3:=Ext.trans HX0.out x3;clear k3 X2 HZ2 D1 D2 HX0 x3;simp only [Act.put,Sa,Sz,Ss];refine H1.out _ _ ?_;clear H1;obtain ⟨gw,hp3⟩:=draw_turn HP.out (zbe X3) (HP.out.cur.ext X3)
 have gr:=gw.gr fun g hg=>HP.out.lt hg
 have hnR:∀ g,w.heap.size<=g->¬ R g:=fun g h1 h2=>absurd (HP.out.lt h2) (by omega)
 have hQ:Q < w.heap.size:=HP.out.cur.lt
 obtain ⟨σ,hz,st⟩:=lay_stt hp3 gw (fun q hq=>HP.out.lt hq) (cs:=csS K) (us:=[Rp.val a V ps.length d r, .int .i64 b, .agg (VtE.enc ps[b]).toArray]) ⟨HV.out.ext gr,⟨⟨_,rfl,by simp only [i64lo];omega,by simp only [i64hi];omega⟩,trivial⟩,⟨_,rfl,HT.out.gr gr⟩,trivial⟩ (by
  have h:(csS K).all (fun o=>o.2.all wfB)=true:=by rcases hK with rfl | rfl | rfl <;> kernel_rfl
  exact fun o ho k hk=>zgp (List.all_eq_true.1 (List.all_eq_true.1 h o ho) k hk))
 refine left_ok (s:=midS K) (bp:=fun i=>if i=0 then w.heap.size else if i=1 then w.heap.size+1 else p5) (ze9 (baseK hK) (kepts_start hK) 4 1) rfl (show Q+1<=w.heap.size from hQ) (l_l7Start hK) (fun σ' q=>?_) (st (tmS K) (bxT K) [] _ _ rfl ?_ ?_ ?_)
 ·have h:=hz σ' (by rw [<-midS_n];exact q)
  have e:((zav s00 (csS K)).1.flatMap fun l=>l.2.map symO)=(atS K 0).map symO++(((atS K 1).map symO)++((atS K 2).map symO++[])):=by kernel_rfl
  rw [e,List.map_append] at h;have e2:nums [Rp.val a V ps.length d r, .int .i64 b, .agg (VtE.enc ps[b]).toArray]=nums [Rp.val a V ps.length d r]++nums [.int .i64 b, .agg (VtE.enc ps[b]).toArray]:=by kernel_rfl
  rw [e2] at h;exact (List.append_inj h (by kernel_rfl)).1
 ·intro i hi;have hi:i < 3:=hi;obtain rfl | rfl | rfl:i=0\/i=1\/i=2:=by omega
  ·exact ⟨Nat.le_refl _,hnR _ (Nat.le_refl _),show w.heap.size≠Q by omega⟩
  ·exact ⟨Nat.le_succ _,hnR _ (Nat.le_succ _),show w.heap.size+1≠Q by omega⟩
  ·exact ⟨show w.heap.size<=p5 by omega,hnR _ (show w.heap.size<=p5 by omega),show p5≠Q by omega⟩
 ·intro i j hi hj e;have hi:i < 3:=hi;have hj:j < 3:=hj;split at e <;> split at e <;> (try split at e) <;> (try split at e) <;> omega
 ·rintro σ' bp' q1 q2 ⟨⟨arr1,y1,t1⟩,_,⟨arr3,y3,t3⟩,_⟩;cases y1;cases y3;have b0:bp' 0=w.heap.size:=q2 0 (by show 0 < 3;omega)
  have b1:bp' 1=w.heap.size+1:=q2 1 (by show 1 < 3;omega)
  have b2:bp' 2=p5:=q2 2 (by show 2 < 3;omega)
  refine ⟨⟨⟨_,rfl,t1⟩, ?_, ?_,rfl, ?_,unk_all 66 _ rfl⟩,⟨⟨_,by rw [b0];exact E1,t1⟩,⟨_,by rw [b1];exact E2,zeros_ii (cs:=repZero) (by kernel_rfl)⟩,⟨_,by rw [b2];exact e3,t3⟩,trivial⟩,fun f hf=>by cases hf⟩
  ·show _=Value.pointer _;rw [b0]
  ·show _=Value.pointer _;rw [b1]
  ·show _=Value.pointer _;rw [b2]
end Go.Proofs.YtckfjploafhenaaGreat.Ai
namespace Go.Proofs.YtckfjploafhenaaGreat.Ai
open Go.RowKit
def zby (K:Int):List (Nat×Ctr):=[(202,c_l7Count),(28,zg9 K),(25,zdp),(163,c_l6Do K),(71,zbt),(27,zcs K),(23,zbq K),(65,zbp K)]
def csE (K:Int):List (Bool×List Ck):=[(true,zca K)]
def atE (K:Int):List At:=match (zav s00 (csE K)).1 with
 | x::_=>x.2
 | []=>[]
def tmE (K:Int):List AV := .v (.agg (atE K))::List.replicate 72 (one .un)
def midE (K:Int):AS:={ (zav s00 (csE K)).2 with tm:=tmE K,bx:=[],fa:=[]++(zav s00 (csE K)).2.fa }
def chk7 (E:Env) (K:Int) (t:AS):Bool:=Nat.beq t.tm.length 73 && match nth t.tm 1,nth t.tm 2,nth t.tm 4 with
 | some (.v (.one (.ptr i 0))),some (.v (.one (.ptr j 0))),some (.v (.one x))=>!Nat.beq i j && (match nth t.bx i,nth t.bx j with
  | some b,some b2=>Nat.beq b.1 33 && fitL (dz E) t b.2 (zca K) && (Nat.beq b2.1 33 && fitL (dz E) t b2.2 repZero) && (fitC (dz E) t x (.sl 47) && (match x with
   | .sl _ e=>ent t.fa 5 ((e.mul (-1)).plus 1)
   | .nil=>true
   | _=>false))
  | _,_=>false)
 | _,_,_=>false
def csL (K:Int):List (Bool×List Ck):=[(true,zca K),(true,zca K),(false,[.sl 47]),(true,repZero)]
def atL (K:Int) (i:Nat):List At:=match (zav s00 (csL K)).1[i]? with
 | some x=>x.2
 | none=>[]
def tmL (K:Int) (v:AV):List AV:=one .unk::one (.ptr 0 0)::one (.ptr 1 0)::one .unk :: .v (.one (.sl 47 (var 26)))::(List.replicate 58 (one .unk)++v::List.replicate 9 (one .unk))
def bxL (K:Int):List (Nat×List At):=[(33,atL K 1),(33,atL K 3)]
def midL (K:Int) (v:AV):AS:={ (zav s00 (csL K)).2 with tm:=tmL K v,bx:=bxL K,fa:=[⟨1,[(26,-1)]⟩]++(zav s00 (csL K)).2.fa }
def midT (K:Int):AS:=match posts (zav (midL K (.v (.agg (atL K 1)))) (zbg K).outs).2 ((atL K 1).map symO++(zav (midL K (.v (.agg (atL K 1)))) (zbg K).outs).1.flatMap fun l=>l.2.map symO) (zbg K).post with
 | some t=>{ t with tm:=setN t.tm 64 (.v (.tup (zav (midL K (.v (.agg (atL K 1)))) (zbg K).outs).1)) }
 | none=>s00
def thenC:Code->Code | .cond _ a _=>a | x=>x
theorem z71:line3 ⟨tb 1,zby 1,4,4,eqs⟩ (fstC (bodyC Tryz.f185)) (fstC (sndC (bodyC Tryz.f185))) (fstC (sndC (sndC (bodyC Tryz.f185)))) (midE 1) (chk7 ⟨tb 1,zby 1,4,4,eqs⟩ 1)=true:=by kernel_rfl
theorem z73:line3 ⟨tb 3,zby 3,4,4,eqs⟩ (fstC (bodyC Tryz.f185)) (fstC (sndC (bodyC Tryz.f185))) (fstC (sndC (sndC (bodyC Tryz.f185)))) (midE 3) (chk7 ⟨tb 3,zby 3,4,4,eqs⟩ 3)=true:=by kernel_rfl
theorem z75:line3 ⟨tb 5,zby 5,4,4,eqs⟩ (fstC (bodyC Tryz.f185)) (fstC (sndC (bodyC Tryz.f185))) (fstC (sndC (sndC (bodyC Tryz.f185)))) (midE 5) (chk7 ⟨tb 5,zby 5,4,4,eqs⟩ 5)=true:=by kernel_rfl
theorem z7 {K:Int} (hK:K=1\/K=3\/K=5):line3 ⟨tb K,zby K,4,4,eqs⟩ (fstC (bodyC Tryz.f185)) (fstC (sndC (bodyC Tryz.f185))) (fstC (sndC (sndC (bodyC Tryz.f185)))) (midE K) (chk7 ⟨tb K,zby K,4,4,eqs⟩ K)=true:=by
 rcases hK with rfl | rfl | rfl
 ·exact z71
 ·exact z73
 ·exact z75
theorem zf1:left ⟨tb 1,zby 1,4,4,eqs⟩ Tryz.f185 (zc1 1) ((atL 1 0).map symO) (sndC (sndC (sndC (sndC (bodyC Tryz.f185))))) (midL 1 (one .unk)) []=true:=by kernel_rfl
theorem zf3:left ⟨tb 3,zby 3,4,4,eqs⟩ Tryz.f185 (zc1 3) ((atL 3 0).map symO) (sndC (sndC (sndC (sndC (bodyC Tryz.f185))))) (midL 3 (one .unk)) []=true:=by kernel_rfl
theorem zf5:left ⟨tb 5,zby 5,4,4,eqs⟩ Tryz.f185 (zc1 5) ((atL 5 0).map symO) (sndC (sndC (sndC (sndC (bodyC Tryz.f185))))) (midL 5 (one .unk)) []=true:=by kernel_rfl
theorem zf {K:Int} (hK:K=1\/K=3\/K=5):left ⟨tb K,zby K,4,4,eqs⟩ Tryz.f185 (zc1 K) ((atL K 0).map symO) (sndC (sndC (sndC (sndC (bodyC Tryz.f185))))) (midL K (one .unk)) []=true:=by
 rcases hK with rfl | rfl | rfl
 ·exact zf1
 ·exact zf3
 ·exact zf5
theorem zt1:retB ⟨tb 1,zby 1,4,4,eqs⟩ Tryz.f185 (zc1 1) ((atL 1 0).map symO) (opsC (fstC (thenC (sndC (fstC (sndC (sndC (sndC (bodyC Tryz.f185))))))))) 2 (sndC (thenC (sndC (fstC (sndC (sndC (sndC (bodyC Tryz.f185)))))))) (midT 1)=true:=by kernel_rfl
theorem zt3:retB ⟨tb 3,zby 3,4,4,eqs⟩ Tryz.f185 (zc1 3) ((atL 3 0).map symO) (opsC (fstC (thenC (sndC (fstC (sndC (sndC (sndC (bodyC Tryz.f185))))))))) 2 (sndC (thenC (sndC (fstC (sndC (sndC (sndC (bodyC Tryz.f185)))))))) (midT 3)=true:=by kernel_rfl
theorem zt5:retB ⟨tb 5,zby 5,4,4,eqs⟩ Tryz.f185 (zc1 5) ((atL 5 0).map symO) (opsC (fstC (thenC (sndC (fstC (sndC (sndC (sndC (bodyC Tryz.f185))))))))) 2 (sndC (thenC (sndC (fstC (sndC (sndC (sndC (bodyC Tryz.f185)))))))) (midT 5)=true:=by kernel_rfl
theorem zt {K:Int} (hK:K=1\/K=3\/K=5):retB ⟨tb K,zby K,4,4,eqs⟩ Tryz.f185 (zc1 K) ((atL K 0).map symO) (opsC (fstC (thenC (sndC (fstC (sndC (sndC (sndC (bodyC Tryz.f185))))))))) 2 (sndC (thenC (sndC (fstC (sndC (sndC (sndC (bodyC Tryz.f185)))))))) (midT K)=true:=by
 rcases hK with rfl | rfl | rfl
 ·exact zt1
 ·exact zt3
 ·exact zt5
theorem midL_n (K:Int) (v:AV):(midL K v).n=(zav s00 (csL K)).2.n:=by kernel_rfl
end Go.Proofs.YtckfjploafhenaaGreat.Ai
namespace Go.Proofs.YtckfjploafhenaaGreat.Ai
open Go.RowKit
theorem list_get (l:List Value) {n:Nat} (h:l.length=n):l=(List.range n).map fun i=>l.getD i undef:=by
 subst h;refine List.ext_getElem (by simp) fun i h1 h2=>?_
 simp [List.getD_eq_getElem?_getD,List.getElem?_eq_getElem h1]
theorem of_chk7 {C:Cx} {E:Env} {K:Int} {w W:World} {R R2:Nat->Prop} {σ:Nat->Int} {bp:Nat->Nat} {t:AS} {a:Act} (st:Stt C w R σ bp R2 t a W) (h:chk7 E K t=true) :
  ∃ (f:Nat->Value) (p q:Nat) (u1 u2:Array Value),a=⟨((List.range 73).map f).toArray,[]⟩/\f 1 = .pointer (some ⟨p,0,none⟩)/\f 2 = .pointer (some ⟨q,0,none⟩)/\W.heap[p]?=some (.cells u1 33 (0,0))/\ValOk C R2 W (true,zca K) (.agg u1) /\
   W.heap[q]?=some (.cells u2 33 (0,0))/\ValOk C R2 W (true,repZero) (.agg u2)/\ValOk C R2 W (false,[.sl 47]) (f 4)/\num (f 4)<=1/\(w.heap.size<=p/\¬ R2 p/\p≠C.pc)/\(w.heap.size<=q/\¬ R2 q/\q≠C.pc)/\p≠q:=by
 unfold chk7 at h;simp only [Bool.and_eq_true] at h;obtain ⟨h0,h⟩:=h;have tm:=st.here.tm;have hf:=st.here.fs.fa;split at h
 ·rename_i i j x e1 e2 e4;simp only [Bool.and_eq_true,Bool.not_eq_true'] at h;obtain ⟨hij,h⟩:=h;split at h
  ·rename_i b b2 hb hb2;simp only [Bool.and_eq_true] at h;obtain ⟨⟨⟨c1,c2⟩,c3,c4⟩,c5,c6⟩:=h;obtain ⟨v1,g1,k1⟩:=tm.nth e1;obtain ⟨v2,g2,k2⟩:=tm.nth e2;obtain ⟨v4,g4,k4⟩:=tm.nth e4;have k1:v1 = .pointer (some ⟨bp i,0,none⟩):=k1;have k2:v2 = .pointer (some ⟨bp j,0,none⟩):=k2;have k4:AtOk C σ bp R2 W x v4:=k4;obtain ⟨u1,m1,l1⟩:=st.here.bx.nth hb;obtain ⟨u2,m2,l2⟩:=st.here.bx.nth hb2;rw [Nat.zero_add,Nat.eq_of_beq_eq_true c1] at m1;rw [Nat.zero_add,Nat.eq_of_beq_eq_true c3] at m2;have hi:=nth_lt hb;have hj:=nth_lt hb2;have hlen:a.tmps.toList.length=73:=by rw [<-tmOk_len tm];exact Nat.eq_of_beq_eq_true h0
   refine ⟨fun i=>a.tmps.toList.getD i undef,bp i,bp j,u1,u2, ?_, ?_, ?_,m1,⟨u1,rfl,(cksR_ok hf l1 c2).1⟩,m2,⟨u2,rfl,(cksR_ok hf l2 c4).1⟩, ?_, ?_,st.sw.own i hi,st.sw.own j hj,fun e=>?_⟩
   ·have e:=list_get a.tmps.toList hlen;have hd:=st.sw.df;obtain ⟨⟨l⟩,d⟩:=a;simp only at e hd;rw [hd,<-e]
   ·simp only [List.getD_eq_getElem?_getD,g1,k1];rfl
   ·simp only [List.getD_eq_getElem?_getD,g2,k2];rfl
   ·simp only [List.getD_eq_getElem?_getD,g4];exact ⟨(zid hf k4 c5).1,trivial⟩
   ·simp only [List.getD_eq_getElem?_getD,g4];show num v4<=1;split at c6
    ·rename_i T f;obtain ⟨_,m,_,rfl,hm,_⟩:=k4
     have:=zb0 σ hf _ _ c6
     rw [zbf,ze1] at this;simp only [num];omega
    ·have:v4 = .slice none 0 0:=k4
     rw [this];decide
    ·cases c6
   ·have:=st.sw.inj i j hi hj e
    rw [this] at hij;simp at hij
  ·cases h
 ·cases h
theorem tm_of {C:Cx} {K:Int} {W:World} {R:Nat->Prop} {σ:Nat->Int} {bp:Nat->Nat} {x:AV} {l:List Value} {v1 v2 v4 u:Value} (hl:l.length=73) (h1:l[1]?=some v1) (h2:l[2]?=some v2) (h4:l[4]?=some v4) (h63:l[63]?=some u) (k1:AVOk C σ bp R W (one (.ptr 0 0)) v1) (k2:AVOk C σ bp R W (one (.ptr 1 0)) v2)
  (k4:AVOk C σ bp R W (.v (.one (.sl 47 (var 26)))) v4) (k:AVOk C σ bp R W x u):TmOk C σ bp R W (tmL K x) l:=by
 match l,hl with
 | a0::a1::a2::a3::a4::l',hl =>
  cases h1;cases h2;cases h4;have hl:l'.length=68:=by simpa using hl
  have h63:l'[58]?=some u:=by simpa using h63
  have e:l'=l'.take 58++(u::l'.drop 59):=by
   have h:58 < l'.length:=by omega
   rw [List.getElem?_eq_getElem h] at h63;cases h63;rw [<-List.drop_eq_getElem_cons h,List.take_append_drop]
  rw [e];exact ⟨trivial,k1,k2,trivial,k4,tm_app (unk_all 58 _ (by simp;omega)) ⟨k,unk_all 9 _ (by simp;omega)⟩⟩
theorem wf_csL {K:Int} (hK:K=1\/K=3\/K=5):∀ o∈csL K,∀ k∈o.2,Ckwf k:=by
 have h:(csL K).all (fun o=>o.2.all wfB)=true:=by rcases hK with rfl | rfl | rfl <;> kernel_rfl
 exact fun o ho k hk=>zgp (List.all_eq_true.1 (List.all_eq_true.1 h o ho) k hk)
theorem flatL (K:Int):((zav s00 (csL K)).1.flatMap fun l=>l.2.map symO)=(atL K 0).map symO++((atL K 1).map symO++((atL K 2).map symO++((atL K 3).map symO++[]))):=by kernel_rfl
theorem frL {K:Int} (hK:K=1\/K=3\/K=5):(zav s00 (csL K)).1=[(true,atL K 0),(true,atL K 1),(false,[.sl 47 (var 26)]),(true,atL K 3)]:=by rcases hK with rfl | rfl | rfl <;> kernel_rfl
theorem lenL (K:Int) (σ:Nat->Int):(((atL K 0).map symO).map (Sy.ev σ)).length=13/\(((atL K 1).map symO).map (Sy.ev σ)).length=13:=⟨by kernel_rfl,by kernel_rfl⟩
theorem num_len {C:Cx} {K:Int} {W:World} {R:Nat->Prop} {v:Value} (h:ValOk C R W (true,zca K) v):(nums [v]).length=13:=by
 obtain ⟨arr,rfl,h⟩:=h
 have:=h.at.1
 simp [nums,Value.cells,zca] at this ⊢;omega
theorem look_stt {K:Int} {Q n c:Nat} {A:Option Addr} (hK:K=1\/K=3\/K=5) {R R':Nat->Prop} {w w' W:World} {v v' v4:Value} {u1 u2:Array Value} {p q:Nat} (hhp:Hp (cx K Q A n c) R w) (hp:Hp (cx K Q A n c) R' w') (gw:Gw (cx K Q A n c) R R' w w') (x7:Ext w' W) (hv:ValOk (cx K Q A n c) R w (true,zca K) v)
  (e1:v' = .agg u1) (m1:w'.heap[p]?=some (.cells u1 33 (0,0))) (hu1:ValOk (cx K Q A n c) R' w' (true,zca K) (.agg u1)) (m2:w'.heap[q]?=some (.cells u2 33 (0,0))) (hu2:ValOk (cx K Q A n c) R' w' (true,repZero) (.agg u2)) (hu4:ValOk (cx K Q A n c) R' w' (false,[.sl 47]) v4) (hn4:num v4<=1)
  (op:w.heap.size<=p/\¬ R' p/\p≠(cx K Q A n c).pc) (oq:w.heap.size<=q/\¬ R' q/\q≠(cx K Q A n c).pc) (hpq:p≠q):Hp (cx K Q A n c) R' W/\Gr R' R' w' W/\∃ σ,
   (∀ σ',Agr (zav s00 (csL K)).2.n σ' σ->((atL K 0).map symO).map (Sy.ev σ')=nums [v]/\((atL K 1).map symO).map (Sy.ev σ')=nums [v']) /\
   ∀ (x:AV) (l:List Value) (u:Value),l.length=73->l[1]?=some (.pointer (some ⟨p,0,none⟩))->l[2]?=some (.pointer (some ⟨q,0,none⟩))->l[4]?=some v4->l[63]?=some u ->
    (∀ σ' bp',LsOk (cx K Q A n c) σ' bp' R' W (atL K 1) u1.toList->AVOk (cx K Q A n c) σ' bp' R' W x u)->Stt (cx K Q A n c) w R σ (fun i=>if i=0 then p else q) R' (midL K x) ⟨l.toArray,[]⟩ W:=by
 subst e1;obtain ⟨gw2,hp2⟩:=draw_turn hp (zbe x7) (hp.cur.ext x7)
 have gr2:=gw2.gr fun g hg=>hp.lt hg
 have gwT:=gw.trans (fun g hg=>hhp.lt hg) gw2
 have grT:=gwT.gr fun g hg=>hhp.lt hg
 obtain ⟨σ,hz,st⟩:=lay_stt hp2 gwT (fun q hq=>hhp.lt hq) (cs:=csL K) (us:=[v, .agg u1,v4, .agg u2]) ⟨hv.ext grT,hu1.ext gr2,hu4.ext gr2,hu2.ext gr2,trivial⟩ (wf_csL hK)
 refine ⟨hp2,gr2,σ,fun σ' hq=>?_,fun x l u h0 h1 h2 h4 h63 hx=>st (tmL K x) (bxL K) [⟨1,[(26,-1)]⟩] (fun i=>if i=0 then p else q) ⟨l.toArray,[]⟩ rfl (fun i hi=>?_) (fun i j hi hj e=>?_) ?_⟩
 ·have h:=hz σ' hq;rw [flatL,List.map_append,List.map_append] at h;have e1:nums [v, .agg u1,v4, .agg u2]=nums [v]++(nums [.agg u1]++nums [v4, .agg u2]):=by simp [nums]
  rw [e1] at h;obtain ⟨h1,h2⟩:=List.append_inj h (by rw [(lenL K σ').1,num_len hv])
  exact ⟨h1,(List.append_inj h2 (by rw [(lenL K σ').2,num_len hu1])).1⟩
 ·have hi:i < 2:=hi;obtain rfl | rfl:i=0\/i=1:=by omega
  ·exact op
  ·exact oq
 ·have hi:i < 2:=hi;have hj:j < 2:=hj;obtain rfl | rfl:i=0\/i=1:=by omega
  ·obtain rfl | rfl:j=0\/j=1:=by omega
   ·rfl
   ·exact absurd e hpq
  ·obtain rfl | rfl:j=0\/j=1:=by omega
   ·exact absurd e.symm hpq
   ·rfl
 ·intro σ' bp' q1 q2 h;rw [frL hK] at h;obtain ⟨_,⟨arr1,y1,t1⟩,t4,⟨arr3,y3,t3⟩,_⟩:=h;cases y1;cases y3;have b0:bp' 0=p:=q2 0 (by show 0 < 2;omega)
  have b1:bp' 1=q:=q2 1 (by show 1 < 2;omega)
  have l4:SlOk (cx K Q A n c) R' W 47 v4 ((var 26).ev σ'):=t4.1;refine ⟨tm_of h0 h1 h2 h4 h63 (by show _=Value.pointer _;rw [b0]) (by show _=Value.pointer _;rw [b1]) l4 (hx σ' bp' t1),⟨⟨_,by rw [b0];exact x7.box m1,t1⟩,⟨_,by rw [b1];exact x7.box m2,t3⟩,trivial⟩,fun f hf=>?_⟩
  simp only [Mi] at hf;subst hf;obtain ⟨_,m,_,rfl,hm,_⟩:=l4;rw [zes] at hm;simp only [num] at hn4;simp only [Lin.ev,tev,hm];omega
end Go.Proofs.YtckfjploafhenaaGreat.Ai
