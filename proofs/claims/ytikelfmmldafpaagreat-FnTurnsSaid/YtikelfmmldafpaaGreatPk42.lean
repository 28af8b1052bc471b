/- l7Look: what is checked of it, and what a checked state says. -/
import Derived.Test.YtikelfmmldafpaaGreatPk41
namespace Go.Proofs.YtikelfmmldafpaaGreat.Ai
open Go.RowKit
set_option linter.unusedVariables false
set_option linter.unusedSimpArgs false
def t_l7Look (K:Int):List (Nat×Ctr):=[(87,c_l7Count),(88,c_l6Half K),(89,c_l6Find),(90,c_l6Do K),(86,c_l3Copy),(91,c_l6Vote K),(92,c_l6Leads K),(93,c_PrimaryOf K)]
def csE (K:Int):List (Bool×List Ck):=[(true,repCells K)]
def atE (K:Int):List At:=match (freshR s00 (csE K)).1 with
 | x::_=>x.2
 | []=>[]
def tmE (K:Int):List AV := .v (.agg (atE K))::List.replicate 72 (one .un)
def midE (K:Int):AS:={ (freshR s00 (csE K)).2 with tm:=tmE K,bx:=[],fa:=[]++(freshR s00 (csE K)).2.fa }
def chk7 (E:Env) (K:Int) (t:AS):Bool:=Nat.beq t.tm.length 73 && match nth t.tm 1,nth t.tm 2,nth t.tm 4 with
 | some (.v (.one (.ptr i 0))),some (.v (.one (.ptr j 0))),some (.v (.one x))=>!Nat.beq i j && (match nth t.bx i,nth t.bx j with
  | some b,some b2=>Nat.beq b.1 33 && fitL (dz E) t b.2 (repCells K) && (Nat.beq b2.1 33 && fitL (dz E) t b2.2 repZero) && (fitC (dz E) t x (.sl 117) && (match x with
   | .sl _ e=>ent t.fa 5 ((e.mul (-1)).plus 1)
   | .nil=>true
   | _=>false))
  | _,_=>false)
 | _,_,_=>false
def csL (K:Int):List (Bool×List Ck):=[(true,repCells K),(true,repCells K),(false,[.sl 117]),(true,repZero)]
def atL (K:Int) (i:Nat):List At:=match (freshR s00 (csL K)).1[i]? with
 | some x=>x.2
 | none=>[]
def tmL (K:Int) (v:AV):List AV:=one .unk::one (.ptr 0 0)::one (.ptr 1 0)::one .unk :: .v (.one (.sl 117 (var 26)))::(List.replicate 58 (one .unk)++v::List.replicate 9 (one .unk))
def bxL (K:Int):List (Nat×List At):=[(33,atL K 1),(33,atL K 3)]
def midL (K:Int) (v:AV):AS:={ (freshR s00 (csL K)).2 with tm:=tmL K v,bx:=bxL K,fa:=[⟨1,[(26,-1)]⟩]++(freshR s00 (csL K)).2.fa }
def midT (K:Int):AS:=match posts (freshR (midL K (.v (.agg (atL K 1)))) (c_l7Start K).outs).2 ((atL K 1).map symO++(freshR (midL K (.v (.agg (atL K 1)))) (c_l7Start K).outs).1.flatMap fun l=>l.2.map symO) (c_l7Start K).post with
 | some t=>{ t with tm:=setN t.tm 64 (.v (.tup (freshR (midL K (.v (.agg (atL K 1)))) (c_l7Start K).outs).1)) }
 | none=>s00
def thenC:Code→Code | .cond _ a _=>a | x=>x
theorem z71:line3 ⟨tb 1,t_l7Look 1,4,4,eqs⟩ (fstC (bodyC Tryz.f52)) (fstC (sndC (bodyC Tryz.f52))) (fstC (sndC (sndC (bodyC Tryz.f52)))) (midE 1) (chk7 ⟨tb 1,t_l7Look 1,4,4,eqs⟩ 1)=true:=by kernel_rfl
theorem z73:line3 ⟨tb 3,t_l7Look 3,4,4,eqs⟩ (fstC (bodyC Tryz.f52)) (fstC (sndC (bodyC Tryz.f52))) (fstC (sndC (sndC (bodyC Tryz.f52)))) (midE 3) (chk7 ⟨tb 3,t_l7Look 3,4,4,eqs⟩ 3)=true:=by kernel_rfl
theorem z75:line3 ⟨tb 5,t_l7Look 5,4,4,eqs⟩ (fstC (bodyC Tryz.f52)) (fstC (sndC (bodyC Tryz.f52))) (fstC (sndC (sndC (bodyC Tryz.f52)))) (midE 5) (chk7 ⟨tb 5,t_l7Look 5,4,4,eqs⟩ 5)=true:=by kernel_rfl
theorem z7 {K:Int} (hK:K=1∨K=3∨K=5):line3 ⟨tb K,t_l7Look K,4,4,eqs⟩ (fstC (bodyC Tryz.f52)) (fstC (sndC (bodyC Tryz.f52))) (fstC (sndC (sndC (bodyC Tryz.f52)))) (midE K) (chk7 ⟨tb K,t_l7Look K,4,4,eqs⟩ K)=true:=by
 rcases hK with rfl | rfl | rfl
 ·exact z71
 ·exact z73
 ·exact z75
theorem zf1:left ⟨tb 1,t_l7Look 1,4,4,eqs⟩ Tryz.f52 (c_l7Look 1) ((atL 1 0).map symO) (sndC (sndC (sndC (sndC (bodyC Tryz.f52))))) (midL 1 (one .unk)) []=true:=by kernel_rfl
theorem zf3:left ⟨tb 3,t_l7Look 3,4,4,eqs⟩ Tryz.f52 (c_l7Look 3) ((atL 3 0).map symO) (sndC (sndC (sndC (sndC (bodyC Tryz.f52))))) (midL 3 (one .unk)) []=true:=by kernel_rfl
theorem zf5:left ⟨tb 5,t_l7Look 5,4,4,eqs⟩ Tryz.f52 (c_l7Look 5) ((atL 5 0).map symO) (sndC (sndC (sndC (sndC (bodyC Tryz.f52))))) (midL 5 (one .unk)) []=true:=by kernel_rfl
theorem zf {K:Int} (hK:K=1∨K=3∨K=5):left ⟨tb K,t_l7Look K,4,4,eqs⟩ Tryz.f52 (c_l7Look K) ((atL K 0).map symO) (sndC (sndC (sndC (sndC (bodyC Tryz.f52))))) (midL K (one .unk)) []=true:=by
 rcases hK with rfl | rfl | rfl
 ·exact zf1
 ·exact zf3
 ·exact zf5
theorem zt1:retB ⟨tb 1,t_l7Look 1,4,4,eqs⟩ Tryz.f52 (c_l7Look 1) ((atL 1 0).map symO) (opsC (fstC (thenC (sndC (fstC (sndC (sndC (sndC (bodyC Tryz.f52))))))))) 2 (sndC (thenC (sndC (fstC (sndC (sndC (sndC (bodyC Tryz.f52)))))))) (midT 1)=true:=by kernel_rfl
theorem zt3:retB ⟨tb 3,t_l7Look 3,4,4,eqs⟩ Tryz.f52 (c_l7Look 3) ((atL 3 0).map symO) (opsC (fstC (thenC (sndC (fstC (sndC (sndC (sndC (bodyC Tryz.f52))))))))) 2 (sndC (thenC (sndC (fstC (sndC (sndC (sndC (bodyC Tryz.f52)))))))) (midT 3)=true:=by kernel_rfl
theorem zt5:retB ⟨tb 5,t_l7Look 5,4,4,eqs⟩ Tryz.f52 (c_l7Look 5) ((atL 5 0).map symO) (opsC (fstC (thenC (sndC (fstC (sndC (sndC (sndC (bodyC Tryz.f52))))))))) 2 (sndC (thenC (sndC (fstC (sndC (sndC (sndC (bodyC Tryz.f52)))))))) (midT 5)=true:=by kernel_rfl
theorem zt {K:Int} (hK:K=1∨K=3∨K=5):retB ⟨tb K,t_l7Look K,4,4,eqs⟩ Tryz.f52 (c_l7Look K) ((atL K 0).map symO) (opsC (fstC (thenC (sndC (fstC (sndC (sndC (sndC (bodyC Tryz.f52))))))))) 2 (sndC (thenC (sndC (fstC (sndC (sndC (sndC (bodyC Tryz.f52)))))))) (midT K)=true:=by
 rcases hK with rfl | rfl | rfl
 ·exact zt1
 ·exact zt3
 ·exact zt5
theorem midL_n (K:Int) (v:AV):(midL K v).n=(freshR s00 (csL K)).2.n:=by kernel_rfl
end Go.Proofs.YtikelfmmldafpaaGreat.Ai
namespace Go.Proofs.YtikelfmmldafpaaGreat.Ai
open Go.RowKit
set_option linter.unusedVariables false
set_option linter.unusedSimpArgs false
theorem list_get (l:List Value) {n:Nat} (h:l.length=n):l=(List.range n).map fun i=>l.getD i undef:=by
 subst h
 refine List.ext_getElem (by simp) fun i h1 h2=>?_
 simp [List.getD_eq_getElem?_getD,List.getElem?_eq_getElem h1]
theorem of_chk7 {C:Cx} {E:Env} {K:Int} {w W:World} {R R2:Nat→Prop} {σ:Nat→Int} {bp:Nat→Nat} {t:AS} {a:Act} (st:Stt C w R σ bp R2 t a W) (h:chk7 E K t=true) :
  ∃ (f:Nat→Value) (p q:Nat) (u1 u2:Array Value),a=⟨((List.range 73).map f).toArray,[]⟩∧f 1 = .pointer (some ⟨p,0,none⟩)∧f 2 = .pointer (some ⟨q,0,none⟩)∧W.heap[p]?=some (.cells u1 33 (0,0))∧ValOk C R2 W (true,repCells K) (.agg u1) ∧
   W.heap[q]?=some (.cells u2 33 (0,0))∧ValOk C R2 W (true,repZero) (.agg u2)∧ValOk C R2 W (false,[.sl 117]) (f 4)∧num (f 4)≤1∧(w.heap.size≤p∧¬ R2 p∧p≠C.pc)∧(w.heap.size≤q∧¬ R2 q∧q≠C.pc)∧p≠q:=by
 unfold chk7 at h
 simp only [Bool.and_eq_true] at h
 obtain ⟨h0,h⟩:=h
 have tm:=st.here.tm
 have hf:=st.here.fs.fa
 split at h
 ·rename_i i j x e1 e2 e4
  simp only [Bool.and_eq_true,Bool.not_eq_true'] at h
  obtain ⟨hij,h⟩:=h
  split at h
  ·rename_i b b2 hb hb2
   simp only [Bool.and_eq_true] at h
   obtain ⟨⟨⟨c1,c2⟩,c3,c4⟩,c5,c6⟩:=h
   obtain ⟨v1,g1,k1⟩:=tm.nth e1
   obtain ⟨v2,g2,k2⟩:=tm.nth e2
   obtain ⟨v4,g4,k4⟩:=tm.nth e4
   have k1:v1 = .pointer (some ⟨bp i,0,none⟩):=k1
   have k2:v2 = .pointer (some ⟨bp j,0,none⟩):=k2
   have k4:AtOk C σ bp R2 W x v4:=k4
   obtain ⟨u1,m1,l1⟩:=st.here.bx.nth hb
   obtain ⟨u2,m2,l2⟩:=st.here.bx.nth hb2
   rw [Nat.zero_add,Nat.eq_of_beq_eq_true c1] at m1
   rw [Nat.zero_add,Nat.eq_of_beq_eq_true c3] at m2
   have hi:=nth_lt hb
   have hj:=nth_lt hb2
   have hlen:a.tmps.toList.length=73:=by rw [←tmOk_len tm];exact Nat.eq_of_beq_eq_true h0
   refine ⟨fun i=>a.tmps.toList.getD i undef,bp i,bp j,u1,u2, ?_, ?_, ?_,m1,⟨u1,rfl,(cksR_ok hf l1 c2).1⟩,m2,⟨u2,rfl,(cksR_ok hf l2 c4).1⟩, ?_, ?_,st.sw.own i hi,st.sw.own j hj,fun e=>?_⟩
   ·have e:=list_get a.tmps.toList hlen
    have hd:=st.sw.df
    obtain ⟨⟨l⟩,d⟩:=a
    simp only at e hd
    rw [hd,←e]
   ·simp only [List.getD_eq_getElem?_getD,g1,k1];rfl
   ·simp only [List.getD_eq_getElem?_getD,g2,k2];rfl
   ·simp only [List.getD_eq_getElem?_getD,g4]
    exact ⟨(fitC_ok hf k4 c5).1,trivial⟩
   ·simp only [List.getD_eq_getElem?_getD,g4]
    show num v4≤1
    split at c6
    ·rename_i T f
     obtain ⟨_,m,_,rfl,hm,_⟩:=k4
     have:=ent_sound σ hf _ _ c6
     rw [ev_plus,ev_mul] at this
     simp only [num]
     omega
    ·have:v4 = .slice none 0 0:=k4
     rw [this]
     decide
    ·cases c6
   ·have:=st.sw.inj i j hi hj e
    rw [this] at hij
    simp at hij
  ·cases h
 ·cases h
theorem tm_of {C:Cx} {K:Int} {W:World} {R:Nat→Prop} {σ:Nat→Int} {bp:Nat→Nat} {x:AV} {l:List Value} {v1 v2 v4 u:Value} (hl:l.length=73) (h1:l[1]?=some v1) (h2:l[2]?=some v2) (h4:l[4]?=some v4) (h63:l[63]?=some u) (k1:AVOk C σ bp R W (one (.ptr 0 0)) v1) (k2:AVOk C σ bp R W (one (.ptr 1 0)) v2)
  (k4:AVOk C σ bp R W (.v (.one (.sl 117 (var 26)))) v4) (k:AVOk C σ bp R W x u):TmOk C σ bp R W (tmL K x) l:=by
 match l,hl with
 | a0::a1::a2::a3::a4::l',hl =>
  cases h1
  cases h2
  cases h4
  have hl:l'.length=68:=by simpa using hl
  have h63:l'[58]?=some u:=by simpa using h63
  have e:l'=l'.take 58++(u::l'.drop 59):=by
   have h:58 < l'.length:=by omega
   rw [List.getElem?_eq_getElem h] at h63
   cases h63
   rw [←List.drop_eq_getElem_cons h,List.take_append_drop]
  rw [e]
  exact ⟨trivial,k1,k2,trivial,k4,tm_app (unk_all 58 _ (by simp;omega)) ⟨k,unk_all 9 _ (by simp;omega)⟩⟩
theorem wf_csL {K:Int} (hK:K=1∨K=3∨K=5):∀ o∈csL K,∀ k∈o.2,Ckwf k:=by
 have h:(csL K).all (fun o=>o.2.all wfB)=true:=by rcases hK with rfl | rfl | rfl <;> kernel_rfl
 exact fun o ho k hk=>wfB_ok (List.all_eq_true.1 (List.all_eq_true.1 h o ho) k hk)
theorem flatL (K:Int):((freshR s00 (csL K)).1.flatMap fun l=>l.2.map symO)=(atL K 0).map symO++((atL K 1).map symO++((atL K 2).map symO++((atL K 3).map symO++[]))):=by kernel_rfl
theorem frL {K:Int} (hK:K=1∨K=3∨K=5):(freshR s00 (csL K)).1=[(true,atL K 0),(true,atL K 1),(false,[.sl 117 (var 26)]),(true,atL K 3)]:=by rcases hK with rfl | rfl | rfl <;> kernel_rfl
theorem lenL (K:Int) (σ:Nat→Int):(((atL K 0).map symO).map (Sy.ev σ)).length=13∧(((atL K 1).map symO).map (Sy.ev σ)).length=13:=⟨by kernel_rfl,by kernel_rfl⟩
theorem num_len {C:Cx} {K:Int} {W:World} {R:Nat→Prop} {v:Value} (h:ValOk C R W (true,repCells K) v):(nums [v]).length=13:=by
 obtain ⟨arr,rfl,h⟩:=h
 have:=h.at.1
 simp [nums,Value.cells,repCells] at this ⊢
 omega
theorem look_stt {K:Int} {Q n c:Nat} {A:Option Addr} (hK:K=1∨K=3∨K=5) {R R':Nat→Prop} {w w' W:World} {v v' v4:Value} {u1 u2:Array Value} {p q:Nat} (hhp:Hp (cx K Q A n c) R w) (hp:Hp (cx K Q A n c) R' w') (gw:Gw (cx K Q A n c) R R' w w') (x7:Ext w' W) (hv:ValOk (cx K Q A n c) R w (true,repCells K) v)
  (e1:v' = .agg u1) (m1:w'.heap[p]?=some (.cells u1 33 (0,0))) (hu1:ValOk (cx K Q A n c) R' w' (true,repCells K) (.agg u1)) (m2:w'.heap[q]?=some (.cells u2 33 (0,0))) (hu2:ValOk (cx K Q A n c) R' w' (true,repZero) (.agg u2)) (hu4:ValOk (cx K Q A n c) R' w' (false,[.sl 117]) v4) (hn4:num v4≤1)
  (op:w.heap.size≤p∧¬ R' p∧p≠(cx K Q A n c).pc) (oq:w.heap.size≤q∧¬ R' q∧q≠(cx K Q A n c).pc) (hpq:p≠q):Hp (cx K Q A n c) R' W∧Gr R' R' w' W∧∃ σ,
   (∀ σ',Agr (freshR s00 (csL K)).2.n σ' σ→((atL K 0).map symO).map (Sy.ev σ')=nums [v]∧((atL K 1).map symO).map (Sy.ev σ')=nums [v']) ∧
   ∀ (x:AV) (l:List Value) (u:Value),l.length=73→l[1]?=some (.pointer (some ⟨p,0,none⟩))→l[2]?=some (.pointer (some ⟨q,0,none⟩))→l[4]?=some v4→l[63]?=some u →
    (∀ σ' bp',LsOk (cx K Q A n c) σ' bp' R' W (atL K 1) u1.toList→AVOk (cx K Q A n c) σ' bp' R' W x u)→Stt (cx K Q A n c) w R σ (fun i=>if i=0 then p else q) R' (midL K x) ⟨l.toArray,[]⟩ W:=by
 subst e1
 obtain ⟨gw2,hp2⟩:=draw_turn hp (grown_of_ext x7) (hp.cur.ext x7)
 have gr2:=gw2.gr fun g hg=>hp.lt hg
 have gwT:=gw.trans (fun g hg=>hhp.lt hg) gw2
 have grT:=gwT.gr fun g hg=>hhp.lt hg
 obtain ⟨σ,hz,st⟩:=lay_stt hp2 gwT (fun q hq=>hhp.lt hq) (cs:=csL K) (us:=[v, .agg u1,v4, .agg u2]) ⟨hv.ext grT,hu1.ext gr2,hu4.ext gr2,hu2.ext gr2,trivial⟩ (wf_csL hK)
 refine ⟨hp2,gr2,σ,fun σ' hq=>?_,fun x l u h0 h1 h2 h4 h63 hx=>st (tmL K x) (bxL K) [⟨1,[(26,-1)]⟩] (fun i=>if i=0 then p else q) ⟨l.toArray,[]⟩ rfl (fun i hi=>?_) (fun i j hi hj e=>?_) ?_⟩
 ·have h:=hz σ' hq
  rw [flatL,List.map_append,List.map_append] at h
  have e1:nums [v, .agg u1,v4, .agg u2]=nums [v]++(nums [.agg u1]++nums [v4, .agg u2]):=by simp [nums]
  rw [e1] at h
  obtain ⟨h1,h2⟩:=List.append_inj h (by rw [(lenL K σ').1,num_len hv])
  exact ⟨h1,(List.append_inj h2 (by rw [(lenL K σ').2,num_len hu1])).1⟩
 ·have hi:i < 2:=hi
  obtain rfl | rfl:i=0∨i=1:=by omega
  ·exact op
  ·exact oq
 ·have hi:i < 2:=hi
  have hj:j < 2:=hj
  obtain rfl | rfl:i=0∨i=1:=by omega
  ·obtain rfl | rfl:j=0∨j=1:=by omega
   ·rfl
   ·exact absurd e hpq
  ·obtain rfl | rfl:j=0∨j=1:=by omega
   ·exact absurd e.symm hpq
   ·rfl
 ·intro σ' bp' q1 q2 h
  rw [frL hK] at h
  obtain ⟨_,⟨arr1,y1,t1⟩,t4,⟨arr3,y3,t3⟩,_⟩:=h
  cases y1
  cases y3
  have b0:bp' 0=p:=q2 0 (by show 0 < 2;omega)
  have b1:bp' 1=q:=q2 1 (by show 1 < 2;omega)
  have l4:SlOk (cx K Q A n c) R' W 117 v4 ((var 26).ev σ'):=t4.1
  refine ⟨tm_of h0 h1 h2 h4 h63 (by show _=Value.pointer _;rw [b0]) (by show _=Value.pointer _;rw [b1]) l4 (hx σ' bp' t1),⟨⟨_,by rw [b0];exact x7.box m1,t1⟩,⟨_,by rw [b1];exact x7.box m2,t3⟩,trivial⟩,fun f hf=>?_⟩
  simp only [Mi] at hf
  subst hf
  obtain ⟨_,m,_,rfl,hm,_⟩:=l4
  rw [ev_var] at hm
  simp only [num] at hn4
  simp only [Lin.ev,tev,hm]
  omega
end Go.Proofs.YtikelfmmldafpaaGreat.Ai
namespace Go.Proofs.YtikelfmmldafpaaGreat.Ai
open Go.ChangeShapes Go.WideShapes Go.ChangeAt Go.RowKit Go.Sort
set_option linter.unusedVariables false
set_option linter.unusedSimpArgs false
theorem kepts_look {K:Int} {Q n c:Nat} {A:Option Addr} (hK:K=1∨K=3∨K=5):Kepts (cx K Q A n c) (t_l7Look K):=⟨q_l7Count hK,q_l6Half hK,q_l6Find hK,q_l6Do hK,q_l3Copy hK,q_l6Vote hK,q_l6Leads hK,q_PrimaryOf hK,trivial⟩
theorem wf_start {K:Int} (hK:K=1∨K=3∨K=5):∀ o∈(c_l7Start K).outs,∀ k∈o.2,Ckwf k:=by
 have h:(c_l7Start K).outs.all (fun o=>o.2.all wfB)=true:=by rcases hK with rfl | rfl | rfl <;> kernel_rfl
 exact fun o ho k hk=>wfB_ok (List.all_eq_true.1 (List.all_eq_true.1 h o ho) k hk)
theorem frame73 (f:Nat→Value) {p q:Nat} (h1:f 1 = .pointer (some ⟨p,0,none⟩)) (h2:f 2 = .pointer (some ⟨q,0,none⟩)):((List.range 73).map f).toArray=#[f 0, .pointer (some ⟨p,0,none⟩), .pointer (some ⟨q,0,none⟩),f 3,f 4,f 5,f 6,f 7,f 8,f 9,f 10,f 11,f 12,f 13,f 14,f 15,f 16,f 17,f 18,f 19,f 20,f 21,f 22,f 23,f 24,f 25,f 26,f 27,f 28,f 29,f 30,f 31,f 32,f 33,f 34,f 35,f 36,f 37,f 38,f 39,f 40,f 41,f 42,f 43,f 44,f 45,f 46,f 47,f 48,f 49,f 50,f 51,f 52,f 53,f 54,f 55,f 56,f 57,f 58,f 59,f 60,f 61,f 62,f 63,f 64,f 65,f 66,f 67,f 68,f 69,f 70,f 71,f 72]:=by
 rw [←h1,←h2]
 rfl
theorem whole_rp {w w':World} {p:Nat} {a:LAd} {V:Option Addr} {n d:Nat} {r:Rp} (hb:w.heap[p]?=some (Rp.obj a V n d r)) (hx:Ext w w'):∀ j u,(#[.int .i64 r.me, .int .i64 r.of, .int .i64 r.mode, .int .i64 r.view, .int .i64 r.normal, .int .i64 r.commit, .int .i64 r.log.base, .slice a.cA r.log.cells.length a.cc, .slice a.sA r.log.seats.length a.sc, .slice a.eA r.log.ents.length a.ec, .slice V n d, .int .i64 r.cell, .int .i64 r.nonce]:Array Value).toList[j]?=some u→w'.cell? ⟨p,0+j,none⟩=some u :=
 cells_mid (cs:=#[.int .i64 r.me, .int .i64 r.of, .int .i64 r.mode, .int .i64 r.view, .int .i64 r.normal, .int .i64 r.commit, .int .i64 r.log.base, .slice a.cA r.log.cells.length a.cc, .slice a.sA r.log.seats.length a.sc, .slice a.eA r.log.ents.length a.ec, .slice V n d, .int .i64 r.cell, .int .i64 r.nonce]) (hx.box hb) [] [] rfl rfl
set_option maxRecDepth 100000 in
set_option maxHeartbeats 4000000 in
theorem look_post {K:Int} {Q n c:Nat} {A:Option Addr} (hK:K=1∨K=3∨K=5) {R:Nat→Prop} {w:World} {v:Value} (hhp:Hp (cx K Q A n c) R w) (hv:ValOk (cx K Q A n c) R w (true,repCells K) v) :
  Calls Tryz.prog 52 #[v] w (KPost (cx K Q A n c) (c_l7Look K) R w [v]):=by
 have hB:(cx K Q A n c).B≤w.heap.size:=hhp.cur.lt
 have hwE:∀ o∈csE K,∀ k∈o.2,Ckwf k:=by
  have h:(csE K).all (fun o=>o.2.all wfB)=true:=by rcases hK with rfl | rfl | rfl <;> kernel_rfl
  exact fun o ho k hk=>wfB_ok (List.all_eq_true.1 (List.all_eq_true.1 h o ho) k hk)
 obtain ⟨σ0,hz0,st0⟩:=lay_stt hhp (Gw.refl R w) (fun q hq=>hhp.lt hq) (cs:=csE K) (us:=[v]) ⟨hv,trivial⟩ hwE
 go_enter Tryz.func52,Tryz.ntmps52
 refine line3_ok (s:=midE K) (goods_of (baseK hK) (kepts_look hK) 4 4) hB rfl (z7 hK) (st0 (tmE K) [] [] (fun _=>0) _ rfl (fun i hi=>by simp at hi) (fun i j hi=>by simp at hi) ?_) (fun t ht a' w' σ' bp' R' st=>?_)
 ·exact fun σ' bp' q1 q2 h=>⟨⟨h.1,un_rep (l:=[]) (vs:=[]) trivial 72⟩,trivial,fun f hf=>by cases hf⟩
 obtain ⟨f,p,q,u1,u2,rfl,f1,f2,m1,hu1,m2,hu2,hu4,hn4,op,oq,hpq⟩:=of_chk7 st ht
 obtain ⟨a,V,d,ps,r,e,hr,ho,hls,hpl,hs,hck⟩:=rep_of st.sw.hp.rows hu1
 cases e
 rw [frame73 f f1 f2]
 change Code.wp Tryz.prog _ _ _ _
 have D1:=Hd m1
 have D2:=Hd m2
 have ST:=Hd st.sw
 have HR:=Hd hr
 have HH:=Hd (half2_nn ho.1)
 have hO:r.of≤100:=by omega
 have HO0:=Hd ho.1
 have HO1:=Hd hO
 have HU:=Hd hu1
 have HU2:=Hd hu2
 have HU4:=Hd hu4
 have HPL:=Hd hpl
 have HS:=Hd (show LgS ps from fun p hp=>hs p hp)
 have HCK:=Hd hck
 have HN4:=Hd hn4
 have HV:=Hd hv
 clear st0 hz0 hwE st ht f1 f2 m1 m2 hu1 hu2 hu4 hr ho hls hpl hs hck hO hn4 hv
 refine wp_seq_k fun K0 hK0=>?_
 have H0:=Hd hK0
 clear hK0
 refine wp_seq_k fun K1 hK1=>?_
 have H1:=Hd hK1
 clear hK1
 cases g1:leads2 r
 ·(refine Rm.wp_region_mix' (R:=relE w'.heap.size) (fun _ _ _=>True) (fun _ _ _ _ _ hq=>hq) 10 (by first | exact Nat.le_refl _ | omega | (simp;omega)) (by kernel_rfl) (by kernel_rfl) ?_;simp only [Tc,Tz,Dc,Dz])
  (refine Rm.wpMix_loadAgg (fun W9' h9=>whole_rp D1.out h9) rfl rfl rfl Tryz.underlying33 (by kernel_rfl) ?_;simp only [Act.put,Sa,Sz,Ss])
  (refine Rm.wpMix_det rfl rfl rfl (enters Tryz.func92 (by kernel_rfl) rfl) (fun W9' h9=>g1▸e_l6Leads a V ps.length d r W9') rfl ?_;simp only [Act.put,Sa,Sz,Ss])
  (iterate 1 (refine Rm.wpMix_plain rfl rfl ?_;go_big_quiet_step (fail);refine wpQuiet_nil ?_))
  iterate 6 (refine Rm.wpMix_skip rfl rfl ?_;simp only [Act.put,Sa,Sz,Ss])
  (iterate 1 (refine Rm.wpMix_plain rfl rfl ?_;go_big_quiet_step (fail);refine wpQuiet_nil ?_))
  refine Rm.wpMix_nil ?_
  rintro W hW
  have x7:Ext w' W:=hW
  clear hW
  obtain ⟨hp2,gr2,σ,hz,mk⟩:=look_stt hK hhp ST.out.hp ST.out.gw x7 HV.out (v':=Rp.val a V ps.length d r) rfl D1.out HU.out D2.out HU2.out HU4.out HN4.out op oq hpq
  refine H1.out _ _ (wp_cond_false rfl (wp_skip ?_))
  refine H0.out _ _ ?_
  exact left_ok (s:=midL K (one .unk)) (goods_of (baseK hK) (kepts_look hK) 4 4) rfl hB (zf hK) (fun σ' q=>(hz σ' (by rw [←midL_n K (one .unk)];exact q)).1) (mk (one .unk) _ _ rfl rfl rfl rfl rfl (fun _ _ _=>trivial))
 ·cases g2:decide (half2 r < (cnt2 6 (ps.map Prod.snd):Int))
  ·(refine Rm.wp_region_mix' (R:=relE w'.heap.size) (fun _ _ _=>True) (fun _ _ _ _ _ hq=>hq) 10 (by first | exact Nat.le_refl _ | omega | (simp;omega)) (by kernel_rfl) (by kernel_rfl) ?_;simp only [Tc,Tz,Dc,Dz])
   (refine Rm.wpMix_loadAgg (fun W9' h9=>whole_rp D1.out h9) rfl rfl rfl Tryz.underlying33 (by kernel_rfl) ?_;simp only [Act.put,Sa,Sz,Ss])
   (refine Rm.wpMix_det rfl rfl rfl (enters Tryz.func92 (by kernel_rfl) rfl) (fun W9' h9=>g1▸e_l6Leads a V ps.length d r W9') rfl ?_;simp only [Act.put,Sa,Sz,Ss])
   (iterate 2 (refine Rm.wpMix_plain rfl rfl ?_;go_big_quiet_step (fail);refine wpQuiet_nil ?_))
   (refine Rm.wpMix_load1 (fun W9' h9=>show W9'.cell? _=some (.slice V ps.length d) from bx_cell (Ext.box h9 D1.out) 10) rfl rfl rfl Tryz.underlying31 rfl ?_;simp only [Act.put,Sa,Sz,Ss])
   (refine Rm.wpMix_det rfl rfl rfl (enters Tryz.func87 (by kernel_rfl) rfl) (fun W9' h9=>e_l7Count V d ps 6 W9' (HR.out.v.1.keep h9) HPL.out) rfl ?_;simp only [Act.put,Sa,Sz,Ss])
   (refine Rm.wpMix_loadAgg (fun W9' h9=>whole_rp D1.out h9) rfl rfl rfl Tryz.underlying33 (by kernel_rfl) ?_;simp only [Act.put,Sa,Sz,Ss])
   (refine Rm.wpMix_det rfl rfl rfl (enters Tryz.func88 (by kernel_rfl) rfl) (fun W9' h9=>e_l6Half a V ps.length d r W9' HO0.out HO1.out) rfl ?_;simp only [Act.put,Sa,Sz,Ss])
   (iterate 2 (refine Rm.wpMix_plain rfl rfl ?_;go_big_quiet_step (fail);refine wpQuiet_nil ?_))
   refine Rm.wpMix_nil ?_
   rintro W hW
   have x7:Ext w' W:=hW
   clear hW
   obtain ⟨hp2,gr2,σ,hz,mk⟩:=look_stt hK hhp ST.out.hp ST.out.gw x7 HV.out (v':=Rp.val a V ps.length d r) rfl D1.out HU.out D2.out HU2.out HU4.out HN4.out op oq hpq
   refine H1.out _ _ (wp_cond_false rfl (wp_skip ?_))
   refine H0.out _ _ ?_
   exact left_ok (s:=midL K (one .unk)) (goods_of (baseK hK) (kepts_look hK) 4 4) rfl hB (zf hK) (fun σ' q=>(hz σ' (by rw [←midL_n K (one .unk)];exact q)).1) (mk (one .unk) _ _ rfl rfl rfl rfl rfl (fun _ _ _=>trivial))
  ·have hcnt:0 < cnt2 6 (ps.map Prod.snd):=by
    have h1:=HH.out
    have h2:=of_decide_eq_true g2
    omega
   (refine Rm.wp_region_mix' (R:=relE w'.heap.size) (fun _ _ _=>True) (fun _ _ _ _ _ hq=>hq) 10 (by first | exact Nat.le_refl _ | omega | (simp;omega)) (by kernel_rfl) (by kernel_rfl) ?_;simp only [Tc,Tz,Dc,Dz])
   (refine Rm.wpMix_loadAgg (fun W9' h9=>whole_rp D1.out h9) rfl rfl rfl Tryz.underlying33 (by kernel_rfl) ?_;simp only [Act.put,Sa,Sz,Ss])
   (refine Rm.wpMix_det rfl rfl rfl (enters Tryz.func92 (by kernel_rfl) rfl) (fun W9' h9=>g1▸e_l6Leads a V ps.length d r W9') rfl ?_;simp only [Act.put,Sa,Sz,Ss])
   (iterate 2 (refine Rm.wpMix_plain rfl rfl ?_;go_big_quiet_step (fail);refine wpQuiet_nil ?_))
   (refine Rm.wpMix_load1 (fun W9' h9=>show W9'.cell? _=some (.slice V ps.length d) from bx_cell (Ext.box h9 D1.out) 10) rfl rfl rfl Tryz.underlying31 rfl ?_;simp only [Act.put,Sa,Sz,Ss])
   (refine Rm.wpMix_det rfl rfl rfl (enters Tryz.func87 (by kernel_rfl) rfl) (fun W9' h9=>e_l7Count V d ps 6 W9' (HR.out.v.1.keep h9) HPL.out) rfl ?_;simp only [Act.put,Sa,Sz,Ss])
   (refine Rm.wpMix_loadAgg (fun W9' h9=>whole_rp D1.out h9) rfl rfl rfl Tryz.underlying33 (by kernel_rfl) ?_;simp only [Act.put,Sa,Sz,Ss])
   (refine Rm.wpMix_det rfl rfl rfl (enters Tryz.func88 (by kernel_rfl) rfl) (fun W9' h9=>e_l6Half a V ps.length d r W9' HO0.out HO1.out) rfl ?_;simp only [Act.put,Sa,Sz,Ss])
   (iterate 2 (refine Rm.wpMix_plain rfl rfl ?_;go_big_quiet_step (fail);refine wpQuiet_nil ?_))
   refine Rm.wpMix_nil ?_
   rintro W hW
   have x7:Ext w' W:=hW
   clear hW
   obtain ⟨hp2,gr2,σ,hz,mk⟩:=look_stt hK hhp ST.out.hp ST.out.gw x7 HV.out (v':=Rp.val a V ps.length d r) rfl D1.out HU.out D2.out HU2.out HU4.out HN4.out op oq hpq
   have HZ:=Hd hz
   have HM:=Hd mk
   have HP2:=Hd hp2
   have D3:=Hd (x7.box D1.out)
   have S7:=Hd (s_l7Start hK hp2 (HU.out.ext gr2) (HR.out.v.keep x7) HPL.out HS.out (fun p hp=>(HCK.out p hp).gr gr2) hcnt)
   clear hz mk hp2
   refine H1.out _ _ (wp_cond_true rfl ?_)
   clear H1
   refine wp_seq_k fun K8 hK8=>?_
   have H8:=Hd hK8
   clear hK8
   (go_wp2_with (with_reducible refine wl_stop 63 ?_);refine stop_loadAgg (whole_rp D3.out (ext_refl _)) rfl Tryz.underlying33 (by kernel_rfl) ?_;simp only [Act.put,Sa,Sz,Ss])
   go_wp2_with fail
   refine S7.out.mono ?_
   rintro e w2 kp
   have st:=HM.out (.v (.agg (atL K 1))) [f 0, .pointer (some ⟨p,0,none⟩), .pointer (some ⟨q,0,none⟩),f 3,f 4,f 5,f 6,f 7,f 8,f 9,f 10,f 11,f 12,f 13,f 14,f 15,f 16,f 17,f 18,f 19,f 20,f 21,f 22,f 23,f 24,f 25,f 26,f 27,f 28,f 29,f 30,f 31,f 32,f 33,f 34,f 35,f 36,f 37,f 38,f 39,f 40,f 41,f 42,f 43,f 44,f 45,f 46,f 47,f 48,f 49,f 50,f 51,Rp.val a V ps.length d r, .bool true, .bool true, .pointer (some ⟨p,10,none⟩), .slice V ps.length d, .int .i64 (cnt2 6 (ps.map Prod.snd)),Rp.val a V ps.length d r, .int .i64 (half2 r), .bool true, .bool true,f 62,Rp.val a V ps.length d r,f 64,f 65,f 66,f 67,f 68,f 69,f 70,f 71,f 72] (Rp.val a V ps.length d r) rfl rfl rfl rfl rfl (fun σ' bp' h=>⟨_,rfl,h⟩)
   have hsome:(posts (freshR (midL K (.v (.agg (atL K 1)))) (c_l7Start K).outs).2 ((atL K 1).map symO++(freshR (midL K (.v (.agg (atL K 1)))) (c_l7Start K).outs).1.flatMap fun l=>l.2.map symO) (c_l7Start K).post).isSome=true:=by rcases hK with rfl | rfl | rfl <;> kernel_rfl
   obtain ⟨t,ht⟩:=Option.isSome_iff_exists.1 hsome
   obtain ⟨v8,outs,σ1,R1,rfl,hv,ag,le,hbx,st2,tp⟩:=post_out st (i:=(atL K 1).map symO) (fun σ' q=>(HZ.out σ' (by rw [←midL_n K (.v (.agg (atL K 1)))];exact q)).2) (wf_start hK) ht kp
   have hmid:midT K={ t with tm:=setN t.tm 64 (.v (.tup (freshR (midL K (.v (.agg (atL K 1)))) (c_l7Start K).outs).1)) }:=by
    unfold midT
    rw [ht]
   have htup:∃ arr:Array Value,v8 = .tuple arr∧arr.toList=outs:=by
    have h3:=tp σ1 (fun _=>0) (agr_refl _ _)
    match outs,h3 with
    | [],h3=>exact h3.elim
    | [_],h3=>exact h3.2.elim
    | a::b::r,_=>exact ⟨(a::b::r).toArray,hv,rfl⟩
   obtain ⟨arr,rfl,harr⟩:=htup
   have st3:=put_stt (d:=64) (x := .v (.tup (freshR (midL K (.v (.agg (atL K 1)))) (c_l7Start K).outs).1)) (v := .tuple arr) st2 fun σ' bp' q1 q2=>⟨arr,rfl,by rw [harr];exact tp σ' bp' q1⟩
   rw [←hmid] at st3
   rename_i hrest
   refine hrest _ _ ?_
   clear hrest
   refine retB_ok (k:=2) (goods_of (baseK hK) (kepts_look hK) 4 4) rfl hB (zt hK) (fun σ' q=>?_) st3 (args:=[v]) (Q':=Exit.then K0 (bodyPost Tryz.prog Tryz.f52 (KPost (cx K Q A n c) (c_l7Look K) R w [v]))) (fun a' w' h=>h) (fun a' w' h=>H8.out a' w' h)
   have hn:(midT K).n=t.n:=by rw [hmid]
   exact (HZ.out σ' (((show Agr t.n σ' σ1 by rw [←hn];exact q).less (by rw [←midL_n K (.v (.agg (atL K 1)))];exact le)).trans (by rw [←midL_n K (.v (.agg (atL K 1)))];exact ag))).1
end Go.Proofs.YtikelfmmldafpaaGreat.Ai
