/- l7Look keeps its contract. -/
import Derived.Test.YtckfjploafhenaaGreatPk35
import Derived.Test.YtckfjploafhenaaGreatPk19
import Derived.Test.YtckfjploafhenaaGreatPk34
import Derived.Test.YtckfjploafhenaaGreatPk21
import Derived.Test.YtckfjploafhenaaGreatPk23
set_option maxRecDepth 100000
set_option maxHeartbeats 16000000
set_option linter.unusedVariables false
set_option linter.unusedSimpArgs false
namespace Go.Proofs.YtckfjploafhenaaGreat.Ai
open Go.ChangeShapes Go.WideShapes Go.ChangeAt Go.RowKit Go.Sort
theorem zhn {K:Int} {Q n c:Nat} {A:Option Addr} (hK:K=1\/K=3\/K=5):Kepts (cx K Q A n c) (zby K):=⟨q_l7Count hK,q_l6Half hK,zi3 hK,q_l6Do hK,zcq hK,q_l6Vote hK,zdw hK,zc5 hK,trivial⟩
theorem wf_start {K:Int} (hK:K=1\/K=3\/K=5):∀ o∈(zbg K).outs,∀ k∈o.2,Ckwf k:=by
 have h:(zbg K).outs.all (fun o=>o.2.all wfB)=true:=by rcases hK with rfl | rfl | rfl <;> kernel_rfl
 exact fun o ho k hk=>zgp (List.all_eq_true.1 (List.all_eq_true.1 h o ho) k hk)
theorem frame73 (f:Nat->Value) {p q:Nat} (h1:f 1 = .pointer (some ⟨p,0,none⟩)) (h2:f 2 = .pointer (some ⟨q,0,none⟩)):((List.range 73).map f).toArray=#[f 0, .pointer (some ⟨p,0,none⟩), .pointer (some ⟨q,0,none⟩),f 3,f 4,f 5,f 6,f 7,f 8,f 9,f 10,f 11,f 12,f 13,f 14,f 15,f 16,f 17,f 18,f 19,f 20,f 21,f 22,f 23,f 24,f 25,f 26,f 27,f 28,f 29,f 30,f 31,f 32,f 33,f 34,f 35,f 36,f 37,f 38,f 39,f 40,f 41,f 42,f 43,f 44,f 45,f 46,f 47,f 48,f 49,f 50,f 51,f 52,f 53,f 54,f 55,f 56,f 57,f 58,f 59,f 60,f 61,f 62,f 63,f 64,f 65,f 66,f 67,f 68,f 69,f 70,f 71,f 72]:=by
 rw [<-h1,<-h2];rfl
theorem zi2 {w w':World} {p:Nat} {a:LAd} {V:Option Addr} {n d:Nat} {r:Rp} (hb:w.heap[p]?=some (Rp.obj a V n d r)) (hx:Ext w w'):∀ j u,(#[.int .i64 r.me, .int .i64 r.of, .int .i64 r.mode, .int .i64 r.view, .int .i64 r.normal, .int .i64 r.commit, .int .i64 r.log.base, .slice a.cA r.log.cells.length a.cc, .slice a.sA r.log.seats.length a.sc, .slice a.eA r.log.ents.length a.ec, .slice V n d, .int .i64 r.cell, .int .i64 r.nonce]:Array Value).toList[j]?=some u->w'.cell? ⟨p,0+j,none⟩=some u :=
 zaw (cs:=#[.int .i64 r.me, .int .i64 r.of, .int .i64 r.mode, .int .i64 r.view, .int .i64 r.normal, .int .i64 r.commit, .int .i64 r.log.base, .slice a.cA r.log.cells.length a.cc, .slice a.sA r.log.seats.length a.sc, .slice a.eA r.log.ents.length a.ec, .slice V n d, .int .i64 r.cell, .int .i64 r.nonce]) (hx.box hb) [] [] rfl rfl
theorem look_post {K:Int} {Q n c:Nat} {A:Option Addr} (hK:K=1\/K=3\/K=5) {R:Nat->Prop} {w:World} {v:Value} (hhp:Hp (cx K Q A n c) R w) (hv:ValOk (cx K Q A n c) R w (true,zca K) v) :
  Calls Tryz.prog 185 #[v] w (KPost (cx K Q A n c) (zc1 K) R w [v]):=by
 have hB:(cx K Q A n c).B<=w.heap.size:=hhp.cur.lt
 have hwE:∀ o∈csE K,∀ k∈o.2,Ckwf k:=by
  have h:(csE K).all (fun o=>o.2.all wfB)=true:=by rcases hK with rfl | rfl | rfl <;> kernel_rfl
  exact fun o ho k hk=>zgp (List.all_eq_true.1 (List.all_eq_true.1 h o ho) k hk)
 obtain ⟨σ0,hz0,st0⟩:=lay_stt hhp (Gw.refl R w) (fun q hq=>hhp.lt hq) (cs:=csE K) (us:=[v]) ⟨hv,trivial⟩ hwE
 go_enter Tryz.func185,Tryz.ntmps185
 refine line3_ok (s:=midE K) (ze9 (baseK hK) (zhn hK) 4 4) hB rfl (z7 hK) (st0 (tmE K) [] [] (fun _=>0) _ rfl (fun i hi=>by simp at hi) (fun i j hi=>by simp at hi) ?_) (fun t ht a' w' σ' bp' R' st=>?_)
 ·exact fun σ' bp' q1 q2 h=>⟨⟨h.1,un_rep (l:=[]) (vs:=[]) trivial 72⟩,trivial,fun f hf=>by cases hf⟩
 obtain ⟨f,p,q,u1,u2,rfl,f1,f2,m1,hu1,m2,hu2,hu4,hn4,op,oq,hpq⟩:=of_chk7 st ht;obtain ⟨a,V,d,ps,r,e,hr,ho,hls,hpl,hs,hck⟩:=rep_of st.sw.hp.rows hu1;cases e;rw [frame73 f f1 f2];change Code.wp Tryz.prog _ _ _ _;have D1:=Hd m1;have D2:=Hd m2;have ST:=Hd st.sw;have HR:=Hd hr;have HH:=Hd (half2_nn ho.1);have hO:r.of<=100:=by omega
 have HO0:=Hd ho.1;have HO1:=Hd hO;have HU:=Hd hu1;have HU2:=Hd hu2;have HU4:=Hd hu4;have HPL:=Hd hpl;have HS:=Hd (show LgS ps from fun p hp=>hs p hp)
 have HCK:=Hd hck;have HN4:=Hd hn4;have HV:=Hd hv;clear st0 hz0 hwE st ht f1 f2 m1 m2 hu1 hu2 hu4 hr ho hls hpl hs hck hO hn4 hv;refine wp_seq_k fun K0 hK0=>?_
 have H0:=Hd hK0;clear hK0;refine wp_seq_k fun K1 hK1=>?_
 have H1:=Hd hK1;clear hK1;cases g1:leads2 r
 ·(refine mrg (relE w'.heap.size) (fun _ _ _=>True) 10 ?_;simp only [Tc,Tz,Dc,Dz])
  (refine mla (fun W9' h9=>zi2 D1.out h9) Tryz.underlying33 ?_;simp only [Act.put,Sa,Sz,Ss])
  (refine mdt Tryz.func23 (fun W9' h9=>g1▸e_l6Leads a V ps.length d r W9') ?_;simp only [Act.put,Sa,Sz,Ss])
  (refine mpl ?_;go_big_quiet_step (fail);refine mnil ?_)
  iterate 6 (refine msk ?_;simp only [Act.put,Sa,Sz,Ss])
  (refine mpl ?_;go_big_quiet_step (fail);refine mnil ?_)
  refine Rm.wpMix_nil ?_;rintro W hW;have x7:Ext w' W:=hW;clear hW;obtain ⟨hp2,gr2,σ,hz,mk⟩:=look_stt hK hhp ST.out.hp ST.out.gw x7 HV.out (v':=Rp.val a V ps.length d r) rfl D1.out HU.out D2.out HU2.out HU4.out HN4.out op oq hpq;refine H1.out _ _ (wp_cond_false rfl (wp_skip ?_));refine H0.out _ _ ?_;exact left_ok (s:=midL K (one .unk)) (ze9 (baseK hK) (zhn hK) 4 4) rfl hB (zf hK) (fun σ' q=>(hz σ' (by rw [<-midL_n K (one .unk)];exact q)).1) (mk (one .unk) _ _ rfl rfl rfl rfl rfl (fun _ _ _=>trivial))
 ·cases g2:decide (half2 r < (cnt2 6 (ps.map Prod.snd):Int))
  ·(refine mrg (relE w'.heap.size) (fun _ _ _=>True) 10 ?_;simp only [Tc,Tz,Dc,Dz])
   (refine mla (fun W9' h9=>zi2 D1.out h9) Tryz.underlying33 ?_;simp only [Act.put,Sa,Sz,Ss])
   (refine mdt Tryz.func23 (fun W9' h9=>g1▸e_l6Leads a V ps.length d r W9') ?_;simp only [Act.put,Sa,Sz,Ss])
   (iterate 2 (refine mpl ?_;go_big_quiet_step (fail);refine mnil ?_))
   (refine ml1 (fun W9' h9=>show W9'.cell? _=some (.slice V ps.length d) from za2 (Ext.box h9 D1.out) 10) Tryz.underlying31 ?_;simp only [Act.put,Sa,Sz,Ss])
   (refine mdt Tryz.func202 (fun W9' h9=>e_l7Count V d ps 6 W9' (HR.out.v.1.keep h9) HPL.out) ?_;simp only [Act.put,Sa,Sz,Ss])
   (refine mla (fun W9' h9=>zi2 D1.out h9) Tryz.underlying33 ?_;simp only [Act.put,Sa,Sz,Ss])
   (refine mdt Tryz.func28 (fun W9' h9=>e_l6Half a V ps.length d r W9' HO0.out HO1.out) ?_;simp only [Act.put,Sa,Sz,Ss])
   (iterate 2 (refine mpl ?_;go_big_quiet_step (fail);refine mnil ?_))
   refine Rm.wpMix_nil ?_;rintro W hW;have x7:Ext w' W:=hW;clear hW;obtain ⟨hp2,gr2,σ,hz,mk⟩:=look_stt hK hhp ST.out.hp ST.out.gw x7 HV.out (v':=Rp.val a V ps.length d r) rfl D1.out HU.out D2.out HU2.out HU4.out HN4.out op oq hpq;refine H1.out _ _ (wp_cond_false rfl (wp_skip ?_));refine H0.out _ _ ?_;exact left_ok (s:=midL K (one .unk)) (ze9 (baseK hK) (zhn hK) 4 4) rfl hB (zf hK) (fun σ' q=>(hz σ' (by rw [<-midL_n K (one .unk)];exact q)).1) (mk (one .unk) _ _ rfl rfl rfl rfl rfl (fun _ _ _=>trivial))
  ·have hcnt:0 < cnt2 6 (ps.map Prod.snd):=by
    have h1:=HH.out;have h2:=of_decide_eq_true g2;omega
   (refine mrg (relE w'.heap.size) (fun _ _ _=>True) 10 ?_;simp only [Tc,Tz,Dc,Dz])
   (refine mla (fun W9' h9=>zi2 D1.out h9) Tryz.underlying33 ?_;simp only [Act.put,Sa,Sz,Ss])
   (refine mdt Tryz.func23 (fun W9' h9=>g1▸e_l6Leads a V ps.length d r W9') ?_;simp only [Act.put,Sa,Sz,Ss])
   (iterate 2 (refine mpl ?_;go_big_quiet_step (fail);refine mnil ?_))
   (refine ml1 (fun W9' h9=>show W9'.cell? _=some (.slice V ps.length d) from za2 (Ext.box h9 D1.out) 10) Tryz.underlying31 ?_;simp only [Act.put,Sa,Sz,Ss])
   (refine mdt Tryz.func202 (fun W9' h9=>e_l7Count V d ps 6 W9' (HR.out.v.1.keep h9) HPL.out) ?_;simp only [Act.put,Sa,Sz,Ss])
   (refine mla (fun W9' h9=>zi2 D1.out h9) Tryz.underlying33 ?_;simp only [Act.put,Sa,Sz,Ss])
   (refine mdt Tryz.func28 (fun W9' h9=>e_l6Half a V ps.length d r W9' HO0.out HO1.out) ?_;simp only [Act.put,Sa,Sz,Ss])
   (iterate 2 (refine mpl ?_;go_big_quiet_step (fail);refine mnil ?_))
   refine Rm.wpMix_nil ?_;rintro W hW;have x7:Ext w' W:=hW;clear hW;obtain ⟨hp2,gr2,σ,hz,mk⟩:=look_stt hK hhp ST.out.hp ST.out.gw x7 HV.out (v':=Rp.val a V ps.length d r) rfl D1.out HU.out D2.out HU2.out HU4.out HN4.out op oq hpq;have HZ:=Hd hz;have HM:=Hd mk;have HP2:=Hd hp2;have D3:=Hd (x7.box D1.out);have S7:=Hd (s_l7Start hK hp2 (HU.out.ext gr2) (HR.out.v.keep x7) HPL.out HS.out (fun p hp=>(HCK.out p hp).gr gr2) hcnt)
   clear hz mk hp2;refine H1.out _ _ (wp_cond_true rfl ?_);clear H1;refine wp_seq_k fun K8 hK8=>?_
   have H8:=Hd hK8;clear hK8
   (go_wp2_with (with_reducible refine za5 63 ?_);refine zb3 (zi2 D3.out (za4 _)) rfl Tryz.underlying33 (by kernel_rfl) ?_;simp only [Act.put,Sa,Sz,Ss])
   go_wp2_with fail
   refine S7.out.mono ?_;rintro e w2 kp;have st:=HM.out (.v (.agg (atL K 1))) [f 0, .pointer (some ⟨p,0,none⟩), .pointer (some ⟨q,0,none⟩),f 3,f 4,f 5,f 6,f 7,f 8,f 9,f 10,f 11,f 12,f 13,f 14,f 15,f 16,f 17,f 18,f 19,f 20,f 21,f 22,f 23,f 24,f 25,f 26,f 27,f 28,f 29,f 30,f 31,f 32,f 33,f 34,f 35,f 36,f 37,f 38,f 39,f 40,f 41,f 42,f 43,f 44,f 45,f 46,f 47,f 48,f 49,f 50,f 51,Rp.val a V ps.length d r, .bool true, .bool true, .pointer (some ⟨p,10,none⟩), .slice V ps.length d, .int .i64 (cnt2 6 (ps.map Prod.snd)),Rp.val a V ps.length d r, .int .i64 (half2 r), .bool true, .bool true,f 62,Rp.val a V ps.length d r,f 64,f 65,f 66,f 67,f 68,f 69,f 70,f 71,f 72] (Rp.val a V ps.length d r) rfl rfl rfl rfl rfl (fun σ' bp' h=>⟨_,rfl,h⟩)
   have hsome:(posts (zav (midL K (.v (.agg (atL K 1)))) (zbg K).outs).2 ((atL K 1).map symO++(zav (midL K (.v (.agg (atL K 1)))) (zbg K).outs).1.flatMap fun l=>l.2.map symO) (zbg K).post).isSome=true:=by rcases hK with rfl | rfl | rfl <;> kernel_rfl
   obtain ⟨t,ht⟩:=Option.isSome_iff_exists.1 hsome;obtain ⟨v8,outs,σ1,R1,rfl,hv,ag,le,hbx,st2,tp⟩:=post_out st (i:=(atL K 1).map symO) (fun σ' q=>(HZ.out σ' (by rw [<-midL_n K (.v (.agg (atL K 1)))];exact q)).2) (wf_start hK) ht kp
   have hmid:midT K={ t with tm:=setN t.tm 64 (.v (.tup (zav (midL K (.v (.agg (atL K 1)))) (zbg K).outs).1)) }:=by
    unfold midT;rw [ht]
   have htup:∃ arr:Array Value,v8 = .tuple arr/\arr.toList=outs:=by
    have h3:=tp σ1 (fun _=>0) (zaa _ _)
    match outs,h3 with
    | [],h3=>exact h3.elim
    | [_],h3=>exact h3.2.elim
    | a::b::r,_=>exact ⟨(a::b::r).toArray,hv,rfl⟩
   obtain ⟨arr,rfl,harr⟩:=htup;have st3:=put_stt (d:=64) (x := .v (.tup (zav (midL K (.v (.agg (atL K 1)))) (zbg K).outs).1)) (v := .tuple arr) st2 fun σ' bp' q1 q2=>⟨arr,rfl,by rw [harr];exact tp σ' bp' q1⟩
   rw [<-hmid] at st3;rename_i hrest;refine hrest _ _ ?_;clear hrest;refine retB_ok (k:=2) (ze9 (baseK hK) (zhn hK) 4 4) rfl hB (zt hK) (fun σ' q=>?_) st3 (args:=[v]) (Q':=Exit.then K0 (bodyPost Tryz.prog Tryz.f185 (KPost (cx K Q A n c) (zc1 K) R w [v]))) (fun a' w' h=>h) (fun a' w' h=>H8.out a' w' h)
   have hn:(midT K).n=t.n:=by rw [hmid]
   exact (HZ.out σ' (((show Agr t.n σ' σ1 by rw [<-hn];exact q).less (by rw [<-midL_n K (.v (.agg (atL K 1)))];exact le)).trans (by rw [<-midL_n K (.v (.agg (atL K 1)))];exact ag))).1
end Go.Proofs.YtckfjploafhenaaGreat.Ai
namespace Go.Proofs.YtckfjploafhenaaGreat.Ai
open Go.ChangeShapes Go.WideShapes Go.ChangeAt Go.RowKit Go.Sort
end Go.Proofs.YtckfjploafhenaaGreat.Ai
namespace Go.Proofs.YtckfjploafhenaaGreat.Ai
open Go.RowKit
theorem kepts_run {K:Int} {Q n c:Nat} {A:Option Addr} (hK:K=1\/K=3\/K=5) (H:Hand K Q A n c):Kepts (cx K Q A n c) (zci K):=⟨q_NewGroup hK,zba hK,q_l9DrawGo hK,q_GroupDo hK H,trivial⟩
theorem kepts_rep {K:Int} {Q n c:Nat} {A:Option Addr} (hK:K=1\/K=3\/K=5):Kepts (cx K Q A n c) (zbk K):=⟨q_l4DrawRight hK,zba hK,zih hK,zeu hK,q_l9Made hK,q_l4DrawMsg hK,q_l9Spoil hK,trivial⟩
end Go.Proofs.YtckfjploafhenaaGreat.Ai
namespace Go.Proofs.YtckfjploafhenaaGreat.Ai
open Go.RowKit
theorem wf_look {K:Int} (hK:K=1\/K=3\/K=5):∀ o∈(zc1 K).outs,∀ k∈o.2,Ckwf k:=by
 have h:(zc1 K).outs.all (fun o=>o.2.all wfB)=true:=by rcases hK with rfl | rfl | rfl <;> kernel_rfl
 exact fun o ho k hk=>zgp (List.all_eq_true.1 (List.all_eq_true.1 h o ho) k hk)
theorem hand {K:Int} {Q n c:Nat} {A:Option Addr} (hK:K=1\/K=3\/K=5):Hand K Q A n c:=by
 refine ⟨⟨fun w R args hhp hargs hpre=>?_,fun args w=>fn_of (P:=Tryz.prog) Tryz.func185 rfl rfl args w,wf_look hK⟩⟩
 obtain ⟨v,hl,h1⟩:=vals1 hargs
 have hargs':args=#[v]:=by
  cases args;simp only at hl;rw [hl]
 subst hargs';exact look_post hK hhp h1
end Go.Proofs.YtckfjploafhenaaGreat.Ai
namespace Go.Proofs.YtckfjploafhenaaGreat.Ai
open Go.RowKit
theorem ok_draw {n c:Nat} {A:Option Addr} {w:World} (hc:CodeOk w A n w.heap.size) (hnc:n<=c) (hcm:c<=9223372036854775807) :
  Calls Tryz.prog 5 #[.slice A n c] w fun e w'=>∃ (a:LAd) (V:Option Addr) (d:Nat) (ps:List VtE) (r:Rp) (am:LAd) (m:Mg),e = .returned (.tuple #[Rp.val a V ps.length d r,Mg.val am m])/\RpR w' a V d ps r/\r.log.small/\ps.length<=1048576/\LgS ps/\LgR w' am m.log/\m.log.small/\Ext w w':=by
 refine (d_DrawOnOk hc hnc hcm (fun Q K hK=>kepts_run hK (hand hK)) (fun Q K hK=>kepts_rep hK)).mono ?_
 rintro e w' ⟨K,Q,R,v,u,hK,rfl,hr,hv,hu,X⟩;obtain ⟨a,V,d,ps,r,rfl,h1,h2,h3,h4,h5,_⟩:=rep_of hr hv;obtain ⟨am,m,rfl,g1,g2⟩:=msg_of hr hu;exact ⟨a,V,d,ps,r,am,m,rfl,h1,h3,h4,h5,g1,g2,X⟩
end Go.Proofs.YtckfjploafhenaaGreat.Ai
namespace Go.Proofs.YtckfjploafhenaaGreat
open Go.ChangeShapes Go.WideShapes Go.ChangeAt Go.RowKit Go.Sort
theorem c_searchCel (g:Nat) (lb:Array Value) (A:Option Addr) (c:Nat) (l:List Cel) (t:Int) (n0:Nat) (w:World) (eg:∀ args w,(callFunc g args).run Tryz.prog w = .ok (.enter g args) w) (ha:Rd Cel.enc 2 w A c l) (hn:l.length<=1048576) (h0:n0<=l.length)
  (hlo:∀ i (h:i < l.length),i < n0->l[i].key - t < 0) (hhi:∀ i (h:i < l.length),n0<=i->¬ l[i].key - t < 0)
  (hp:∀ W,Ext w W->∀ k (hk:k < l.length),Calls Tryz.prog g (#[.agg #[.int .i64 l[k].key, .int .i64 l[k].value], .int .i64 t]++lb) W fun e w'=>e = .returned (.int .i64 (l[k].key - t))/\Ext W w') :
  Calls Tryz.prog 192 #[.slice A l.length c, .int .i64 t, .func (.func g) #[] lb] w fun e w'=>e = .returned (.tuple #[.int .i64 n0, .bool (match l[n0]? with | some x=>x.key - t == 0 | none=>false)])/\Ext w w':=by
 obtain ⟨V,hV⟩:∃ V,(match l[n0]? with | some x=>x.key - t == 0 | none=>false)=V:=⟨_,rfl⟩
 rw [hV];have HV:=Hd hV;clear hV;have HP:=Hd hp;have HLo:=Hd hlo;have HHi:=Hd hhi;clear hp hlo hhi
 go_enter Tryz.func192,Tryz.ntmps192
 go_wp2
 go_loopw [9,10] (fun i j wr=>∃ lo hi:Nat,lo<=n0/\n0<=hi/\hi<=l.length/\i = .int .i64 lo/\j = .int .i64 hi/\Ext w wr) (fun i j _=>(intOf j).toNat - (intOf i).toNat)
 case atStart=>exact ⟨0,l.length,Nat.zero_le _,h0,Nat.le_refl _,rfl,rfl,za4 _⟩
 case round =>
  obtain ⟨lo,hi,h1,h2,h3,rfl,rfl,X⟩:=hrel;by_cases hlt:lo < hi
  ·obtain ⟨h,hh,hl,hu⟩:∃ h:Nat,((lo:Int)+(hi:Int)) / 2=(h:Int)/\lo<=h/\h < hi:=⟨(lo+hi) / 2,by omega,by omega,by omega⟩
   have hhl:h < l.length:=by omega
   have hcall:=HP.out wr X h hhl;obtain ⟨ab,ao,rfl,hab,a0,a1⟩:=(ha.keep X).atCel hhl;by_cases hcmp:l[h].key - t < 0
   ·have hge:h < n0:=by
     by_cases hc:h < n0
     ·exact hc
     ·have:=HHi.out h hhl (by omega);omega
    have hcmp':decide (l[h].key - t < 0)=true:=by simpa using hcmp
    have HQ:=Hd hcall;clear hcall HP HLo HHi hcmp;go_wp2_with fail
    refine HQ.out.mono ?_;rintro e w1 ⟨rfl,hx⟩;clear HQ;go_wp2
    go_roundw
    case rel=>exact ⟨h+1,hi,by omega,h2,h3,by go_num,rfl,Ext.trans X hx⟩
    case measure=>simp [intOf] <;> omega
   ·have hge:n0<=h:=by
     by_cases hc:n0<=h
     ·exact hc
     ·have:=HLo.out h hhl (by omega);omega
    have hcmp':decide (l[h].key - t < 0)=false:=by simpa using hcmp
    have HQ:=Hd hcall;clear hcall HP HLo HHi hcmp;go_wp2_with fail
    refine HQ.out.mono ?_;rintro e w1 ⟨rfl,hx⟩;clear HQ;go_wp2
    go_roundw
    case rel=>exact ⟨lo,h,h1,hge,by omega,rfl,rfl,Ext.trans X hx⟩
    case measure=>simp [intOf] <;> omega
  ·obtain rfl:lo=n0:=by omega
   obtain rfl:hi=lo:=by omega
   by_cases hlt2:hi < l.length
   ·have hv:=Hd (show (l[hi].key - t == 0)=V by rw [<-HV.out,List.getElem?_eq_getElem hlt2])
    have hcall:=HP.out wr X hi hlt2;obtain ⟨ab,ao,rfl,hab,a0,a1⟩:=(ha.keep X).atCel hlt2;have HQ:=Hd hcall;clear hcall HP HLo HHi;go_wp2_with fail
    refine HQ.out.mono ?_;rintro e w1 ⟨rfl,hx⟩;clear HQ;go_wp2
    refine bodyPost_ret (results_tmp2 Tryz.results192 _ _ _) rfl ⟨?_,Ext.trans X hx⟩;rw [<-hv.out];rfl
   ·have hv:=Hd (show false=V by rw [<-HV.out,List.getElem?_eq_none (by omega)])
    clear HP HLo HHi;go_wp2
    refine bodyPost_ret (results_tmp2 Tryz.results192 _ _ _) rfl ⟨?_,X⟩;rw [<-hv.out];rfl
theorem c_searchSea (g:Nat) (lb:Array Value) (A:Option Addr) (c:Nat) (l:List Sea) (t:Int) (n0:Nat) (w:World) (eg:∀ args w,(callFunc g args).run Tryz.prog w = .ok (.enter g args) w) (ha:Rd Sea.enc 3 w A c l) (hn:l.length<=1048576) (h0:n0<=l.length)
  (hlo:∀ i (h:i < l.length),i < n0->l[i].client - t < 0) (hhi:∀ i (h:i < l.length),n0<=i->¬ l[i].client - t < 0)
  (hp:∀ W,Ext w W->∀ k (hk:k < l.length),Calls Tryz.prog g (#[.agg #[.int .i64 l[k].client, .int .i64 l[k].req, .int .i64 l[k].answer], .int .i64 t]++lb) W fun e w'=>e = .returned (.int .i64 (l[k].client - t))/\Ext W w') :
  Calls Tryz.prog 147 #[.slice A l.length c, .int .i64 t, .func (.func g) #[] lb] w fun e w'=>e = .returned (.tuple #[.int .i64 n0, .bool (match l[n0]? with | some x=>x.client - t == 0 | none=>false)])/\Ext w w':=by
 obtain ⟨V,hV⟩:∃ V,(match l[n0]? with | some x=>x.client - t == 0 | none=>false)=V:=⟨_,rfl⟩
 rw [hV];have HV:=Hd hV;clear hV;have HP:=Hd hp;have HLo:=Hd hlo;have HHi:=Hd hhi;clear hp hlo hhi
 go_enter Tryz.func147,Tryz.ntmps147
 go_wp2
 go_loopw [9,10] (fun i j wr=>∃ lo hi:Nat,lo<=n0/\n0<=hi/\hi<=l.length/\i = .int .i64 lo/\j = .int .i64 hi/\Ext w wr) (fun i j _=>(intOf j).toNat - (intOf i).toNat)
 case atStart=>exact ⟨0,l.length,Nat.zero_le _,h0,Nat.le_refl _,rfl,rfl,za4 _⟩
 case round =>
  obtain ⟨lo,hi,h1,h2,h3,rfl,rfl,X⟩:=hrel;by_cases hlt:lo < hi
  ·obtain ⟨h,hh,hl,hu⟩:∃ h:Nat,((lo:Int)+(hi:Int)) / 2=(h:Int)/\lo<=h/\h < hi:=⟨(lo+hi) / 2,by omega,by omega,by omega⟩
   have hhl:h < l.length:=by omega
   have hcall:=HP.out wr X h hhl;obtain ⟨ab,ao,rfl,hab,a0,a1,a2⟩:=(ha.keep X).atSea hhl;by_cases hcmp:l[h].client - t < 0
   ·have hge:h < n0:=by
     by_cases hc:h < n0
     ·exact hc
     ·have:=HHi.out h hhl (by omega);omega
    have hcmp':decide (l[h].client - t < 0)=true:=by simpa using hcmp
    have HQ:=Hd hcall;clear hcall HP HLo HHi hcmp;go_wp2_with fail
    refine HQ.out.mono ?_;rintro e w1 ⟨rfl,hx⟩;clear HQ;go_wp2
    go_roundw
    case rel=>exact ⟨h+1,hi,by omega,h2,h3,by go_num,rfl,Ext.trans X hx⟩
    case measure=>simp [intOf] <;> omega
   ·have hge:n0<=h:=by
     by_cases hc:n0<=h
     ·exact hc
     ·have:=HLo.out h hhl (by omega);omega
    have hcmp':decide (l[h].client - t < 0)=false:=by simpa using hcmp
    have HQ:=Hd hcall;clear hcall HP HLo HHi hcmp;go_wp2_with fail
    refine HQ.out.mono ?_;rintro e w1 ⟨rfl,hx⟩;clear HQ;go_wp2
    go_roundw
    case rel=>exact ⟨lo,h,h1,hge,by omega,rfl,rfl,Ext.trans X hx⟩
    case measure=>simp [intOf] <;> omega
  ·obtain rfl:lo=n0:=by omega
   obtain rfl:hi=lo:=by omega
   by_cases hlt2:hi < l.length
   ·have hv:=Hd (show (l[hi].client - t == 0)=V by rw [<-HV.out,List.getElem?_eq_getElem hlt2])
    have hcall:=HP.out wr X hi hlt2;obtain ⟨ab,ao,rfl,hab,a0,a1,a2⟩:=(ha.keep X).atSea hlt2;have HQ:=Hd hcall;clear hcall HP HLo HHi;go_wp2_with fail
    refine HQ.out.mono ?_;rintro e w1 ⟨rfl,hx⟩;clear HQ;go_wp2
    refine bodyPost_ret (results_tmp2 Tryz.results147 _ _ _) rfl ⟨?_,Ext.trans X hx⟩;rw [<-hv.out];rfl
   ·have hv:=Hd (show false=V by rw [<-HV.out,List.getElem?_eq_none (by omega)])
    clear HP HLo HHi;go_wp2
    refine bodyPost_ret (results_tmp2 Tryz.results147 _ _ _) rfl ⟨?_,X⟩;rw [<-hv.out];rfl
structure CsOk (l:List Cel):Prop where
 len:l.length<=40
 num:∀ (i:Nat) (h:i < l.length),0<=l[i].key/\l[i].key<=1000000000/\0<=l[i].value/\l[i].value<=1000000000
 asc:∀ (i j:Nat) (hi:i < l.length) (hj:j < l.length),i < j->l[i].key < l[j].key
theorem CTo.ok {l:List Cel} (h:CTo l l.length) (hl:l.length<=40):CsOk l:=by
 have hs:∀ (i:Nat) (h:i < l.length),(wh l[i].key && wh l[i].value && cLow l i l[i].key)=true:=fun i hi=>by rw [<-cStep_at hi];exact h i hi
 refine ⟨hl,fun i hi=>?_,fun i j hi hj hij=>?_⟩
 ·have:=hs i hi
  simp only [wh,inB,Bool.and_eq_true,decide_eq_true_eq] at this;omega
 ·have hadj:∀ (k:Nat) (hk:k+1 < l.length),l[k].key < l[k+1].key:=fun k hk=>by
   have h1:=hs (k+1) hk;rw [cLow_at (show k < l.length by omega)] at h1
   simp only [Bool.and_eq_true,Bool.not_eq_true',decide_eq_false_iff_not] at h1;omega
  have hup:∀ (d:Nat) (hd:i+1+d < l.length),l[i].key < l[i+1+d].key:=fun d=>by
   induction d with
   | zero=>intro hd;exact hadj i hd
   | succ d ih =>
    intro hd;have h1:=ih (by omega)
    have h2:=hadj (i+1+d) (by omega)
    simp only [Nat.add_assoc] at h1 h2 ⊢;omega
  have:=hup (j - (i+1)) (by omega)
  simp only [show i+1+(j - (i+1))=j by omega] at this
  exact this
def lbC:List Cel->Int->Nat
 | [],_=>0
 | x::r,t=>if x.key - t < 0 then lbC r t+1 else 0
theorem lbC_le:∀ (l:List Cel) (t:Int),lbC l t<=l.length
 | [],_=>Nat.le_refl _
 | x::r,t=>by
  have:=lbC_le r t
  unfold lbC;split <;> simp <;> omega
theorem lbC_lo:∀ {l:List Cel} {t:Int} (i:Nat) (h:i < l.length),i < lbC l t->l[i].key - t < 0
 | [],_,i,h,_=>absurd h (by simp)
 | x::r,t,i,h,hi=>by
  unfold lbC at hi;by_cases hx:x.key - t < 0
  ·rw [if_pos hx] at hi;cases i with
   | zero=>exact hx
   | succ i=>exact lbC_lo (l:=r) i (by simpa using h) (by omega)
  ·rw [if_neg hx] at hi;omega
theorem lbC_at:∀ {l:List Cel} {t:Int} (n:Nat) (_:lbC l t=n) (h:n < l.length),¬ l[n].key - t < 0
 | [],_,_,_,h=>absurd h (by simp)
 | x::r,t,n,hn,h=>by
  unfold lbC at hn;by_cases hx:x.key - t < 0
  ·rw [if_pos hx] at hn;subst hn;exact lbC_at (l:=r) _ rfl (by simpa using h)
  ·rw [if_neg hx] at hn;subst hn;exact hx
theorem lbC_hi {l:List Cel} {t:Int} (ha:CsOk l) (i:Nat) (h:i < l.length) (hi:lbC l t<=i):¬ l[i].key - t < 0:=by
 have h0:lbC l t < l.length:=by omega
 have h1:=lbC_at (lbC l t) rfl h0;by_cases he:lbC l t=i
 ·simp only [he] at h1;exact h1
 ·have:=ha.asc (lbC l t) i h0 h (by omega)
  omega
def hasC (l:List Cel) (t:Int):Bool:=match l[lbC l t]? with | some x=>x.key - t == 0 | none=>false
def valC (l:List Cel) (t:Int):Int:=match l[lbC l t]? with | some x=>if (x.key - t == 0)=true then x.value else -1 | none=>-1
theorem c_cellFor1 (x:Cel) (t:Int) (h0:0<=x.key) (h1:x.key<=1000000000) (h2:0<=t) (h3:t<=1000000000) (w:World):Calls Tryz.prog 193 #[.agg #[.int .i64 x.key, .int .i64 x.value], .int .i64 t] w fun e w'=>e = .returned (.int .i64 (x.key - t))/\Ext w w':=by
 go_enter Tryz.func193,Tryz.ntmps193
 go_wp2
 go_ret
 exact ⟨rfl,za1 _ _⟩
theorem c_cellFor (A:Option Addr) (c:Nat) (l:List Cel) (t:Int) (w:World) (ha:Rd Cel.enc 2 w A c l) (hok:CsOk l) (h2:0<=t) (h3:t<=1000000000) :
  Calls Tryz.prog 170 #[.slice A l.length c, .int .i64 t] w fun e w'=>e = .returned (.tuple #[.int .i64 (lbC l t), .bool (hasC l t)])/\Ext w w':=by
 have hl:=hok.len
 have hC:Calls Tryz.prog 192 #[.slice A l.length c, .int .i64 t, .func (.func 193) #[] #[]] w fun e w'=>e = .returned (.tuple #[.int .i64 (lbC l t), .bool (hasC l t)])/\Ext w w' :=
  c_searchCel 193 #[] A c l t (lbC l t) w (enters Tryz.func193 (by kernel_rfl) rfl) ha (by omega) (lbC_le l t) (fun i h hi=>lbC_lo i h hi) (fun i h hi=>lbC_hi hok i h hi) (fun W2 _ k hk=>c_cellFor1 l[k] t (hok.num k hk).1 (hok.num k hk).2.1 h2 h3 W2)
 obtain ⟨b,hb⟩:∃ b,hasC l t=b:=⟨_,rfl⟩;obtain ⟨k,hk⟩:∃ k,lbC l t=k:=⟨_,rfl⟩;rw [hb,hk] at hC ⊢;have HC:=Hd hC;clear ha hok hC hb hk
 go_enter Tryz.func170,Tryz.ntmps170
 go_wp2_with fail
 refine HC.out.mono ?_;rintro e w1 ⟨rfl,x1⟩;go_wp2
 exact bodyPost_ret (results_tmp2 Tryz.results170 _ _ _) rfl ⟨rfl,x1⟩
theorem c_valueOf (A:Option Addr) (c:Nat) (l:List Cel) (t:Int) (w:World) (ha:Rd Cel.enc 2 w A c l) (hok:CsOk l) (h2:0<=t) (h3:t<=1000000000) :
  Calls Tryz.prog 149 #[.slice A l.length c, .int .i64 t] w fun e w'=>e = .returned (.int .i64 (valC l t))/\Ext w w':=by
 have HC:=Hd (c_cellFor A c l t w ha hok h2 h3);have hle:=lbC_le l t;have hl:=hok.len;obtain ⟨k,hk⟩:∃ k,lbC l t=k:=⟨_,rfl⟩;obtain ⟨b,hb⟩:∃ b,hasC l t=b:=⟨_,rfl⟩;have HA:=Hd ha;have HB:=Hd hb;have HKk:=Hd hk;have hC:=HC.out;rw [hk,hb] at hC;rw [hk] at hle;have HC':=Hd hC;clear hk hb hC HC ha hok;cases b
 ·have HV:=Hd (show valC l t=-1 by
   have h1:=HB.out;unfold hasC at h1;unfold valC;cases hx:l[lbC l t]? with
   | none=>rfl
   | some x=>rw [hx] at h1;simp only at h1 ⊢;rw [h1];rfl)
  go_enter Tryz.func149,Tryz.ntmps149
  go_wp2_with fail
  refine HC'.out.mono ?_;rintro e w1 ⟨rfl,x1⟩;go_wp2
  go_ret
  exact ⟨zc0 HV.out.symm,x1⟩
 ·have hlt:k < l.length:=by
   by_cases h:k < l.length
   ·exact h
   ·have h1:=HB.out;unfold hasC at h1;rw [HKk.out,List.getElem?_eq_none (by omega)] at h1
    cases h1
  have HV:=Hd (show valC l t=l[k].value by
   have h1:=HB.out;unfold hasC at h1;unfold valC;rw [HKk.out,List.getElem?_eq_getElem hlt] at *;simp only at h1 ⊢
   rw [h1];rfl)
  go_enter Tryz.func149,Tryz.ntmps149
  go_wp2_with fail
  refine HC'.out.mono ?_;rintro e w1 ⟨rfl,x1⟩;obtain ⟨ab,ao,rfl,hab,a0,a1⟩:=(HA.out.keep x1).atCel hlt;go_wp2
  go_ret
  exact ⟨zc0 HV.out.symm,x1⟩
structure SsOk (l:List Sea):Prop where
 len:l.length<=10
 num:∀ (i:Nat) (h:i < l.length),0<=l[i].client/\l[i].client<=1000000000/\1<=l[i].req/\l[i].req<=1000000000/\-1<=l[i].answer/\l[i].answer<=1000000000
 asc:∀ (i j:Nat) (hi:i < l.length) (hj:j < l.length),i < j->l[i].client < l[j].client
theorem STo.ok {l:List Sea} (h:STo l l.length) (hl:l.length<=10):SsOk l:=by
 have hs:∀ (i:Nat) (h:i < l.length),(wh l[i].client && inB l[i].req 1 1000000000 && inB l[i].answer (-1) 1000000000 && sLow l i l[i].client)=true:=fun i hi=>by rw [<-sStep_at hi];exact h i hi
 refine ⟨hl,fun i hi=>?_,fun i j hi hj hij=>?_⟩
 ·have:=hs i hi
  simp only [wh,inB,Bool.and_eq_true,decide_eq_true_eq] at this;omega
 ·have hadj:∀ (k:Nat) (hk:k+1 < l.length),l[k].client < l[k+1].client:=fun k hk=>by
   have h1:=hs (k+1) hk;rw [sLow_at (show k < l.length by omega)] at h1
   simp only [Bool.and_eq_true,Bool.not_eq_true',decide_eq_false_iff_not] at h1;omega
  have hup:∀ (d:Nat) (hd:i+1+d < l.length),l[i].client < l[i+1+d].client:=fun d=>by
   induction d with
   | zero=>intro hd;exact hadj i hd
   | succ d ih =>
    intro hd;have h1:=ih (by omega)
    have h2:=hadj (i+1+d) (by omega)
    simp only [Nat.add_assoc] at h1 h2 ⊢;omega
  have:=hup (j - (i+1)) (by omega)
  simp only [show i+1+(j - (i+1))=j by omega] at this
  exact this
def lbS:List Sea->Int->Nat
 | [],_=>0
 | x::r,t=>if x.client - t < 0 then lbS r t+1 else 0
theorem lbS_le:∀ (l:List Sea) (t:Int),lbS l t<=l.length
 | [],_=>Nat.le_refl _
 | x::r,t=>by
  have:=lbS_le r t
  unfold lbS;split <;> simp <;> omega
theorem lbS_lo:∀ {l:List Sea} {t:Int} (i:Nat) (h:i < l.length),i < lbS l t->l[i].client - t < 0
 | [],_,i,h,_=>absurd h (by simp)
 | x::r,t,i,h,hi=>by
  unfold lbS at hi;by_cases hx:x.client - t < 0
  ·rw [if_pos hx] at hi;cases i with
   | zero=>exact hx
   | succ i=>exact lbS_lo (l:=r) i (by simpa using h) (by omega)
  ·rw [if_neg hx] at hi;omega
theorem lbS_at:∀ {l:List Sea} {t:Int} (n:Nat) (_:lbS l t=n) (h:n < l.length),¬ l[n].client - t < 0
 | [],_,_,_,h=>absurd h (by simp)
 | x::r,t,n,hn,h=>by
  unfold lbS at hn;by_cases hx:x.client - t < 0
  ·rw [if_pos hx] at hn;subst hn;exact lbS_at (l:=r) _ rfl (by simpa using h)
  ·rw [if_neg hx] at hn;subst hn;exact hx
theorem lbS_hi {l:List Sea} {t:Int} (ha:SsOk l) (i:Nat) (h:i < l.length) (hi:lbS l t<=i):¬ l[i].client - t < 0:=by
 have h0:lbS l t < l.length:=by omega
 have h1:=lbS_at (lbS l t) rfl h0;by_cases he:lbS l t=i
 ·simp only [he] at h1;exact h1
 ·have:=ha.asc (lbS l t) i h0 h (by omega)
  omega
def hasS (l:List Sea) (t:Int):Bool:=match l[lbS l t]? with | some x=>x.client - t == 0 | none=>false
theorem c_seatFor1 (x:Sea) (t:Int) (h0:0<=x.client) (h1:x.client<=1000000000) (h2:0<=t) (h3:t<=1000000000) (w:World):Calls Tryz.prog 148 #[.agg #[.int .i64 x.client, .int .i64 x.req, .int .i64 x.answer], .int .i64 t] w fun e w'=>e = .returned (.int .i64 (x.client - t))/\Ext w w':=by
 go_enter Tryz.func148,Tryz.ntmps148
 go_wp2
 go_ret
 exact ⟨rfl,za1 _ _⟩
theorem c_seatFor (cA:Option Addr) (cn cc:Nat) (A:Option Addr) (c:Nat) (l:List Sea) (t:Int) (w:World) (ha:Rd Sea.enc 3 w A c l) (hok:SsOk l) (h2:0<=t) (h3:t<=1000000000) :
  Calls Tryz.prog 107 #[.agg #[.slice cA cn cc, .slice A l.length c], .int .i64 t] w fun e w'=>e = .returned (.tuple #[.int .i64 (lbS l t), .bool (hasS l t)])/\Ext w w':=by
 have hl:=hok.len;obtain ⟨w2,hw2⟩:∃ w2,w.alloc (.cells #[.slice cA cn cc, .slice A l.length c] 27)=w2:=⟨_,rfl⟩;have X0:Ext w w2:=by rw [<-hw2];exact za1 _ _
 have hC:Calls Tryz.prog 147 #[.slice A l.length c, .int .i64 t, .func (.func 148) #[] #[]] w2 fun e w'=>e = .returned (.tuple #[.int .i64 (lbS l t), .bool (hasS l t)])/\Ext w2 w' :=
  c_searchSea 148 #[] A c l t (lbS l t) w2 (enters Tryz.func148 (by kernel_rfl) rfl) (ha.keep X0) (by omega) (lbS_le l t) (fun i h hi=>lbS_lo i h hi) (fun i h hi=>lbS_hi hok i h hi) (fun W2 _ k hk=>c_seatFor1 l[k] t (hok.num k hk).1 (hok.num k hk).2.1 h2 h3 W2)
 obtain ⟨b,hb⟩:∃ b,hasS l t=b:=⟨_,rfl⟩;obtain ⟨k,hk⟩:∃ k,lbS l t=k:=⟨_,rfl⟩;rw [hb,hk] at hC ⊢;have HC:=Hd hC;have HX:=Hd X0;have HW:=Hd hw2;clear ha hok hC hb hk X0 hw2
 go_enter Tryz.func107,Tryz.ntmps107
 go_wp2_with fail
 rw [HW.out];refine HC.out.mono ?_;rintro e w1 ⟨rfl,x1⟩;go_wp2
 exact bodyPost_ret (results_tmp2 Tryz.results107 _ _ _) rfl ⟨rfl,Ext.trans HX.out x1⟩
end Go.Proofs.YtckfjploafhenaaGreat
