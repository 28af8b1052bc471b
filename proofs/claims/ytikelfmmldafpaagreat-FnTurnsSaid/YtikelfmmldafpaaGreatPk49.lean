/- The reference's functions on votes. -/
import Derived.Test.YtikelfmmldafpaaGreatPk16
import Derived.Test.YtikelfmmldafpaaGreatPk44
namespace Go.Proofs.YtikelfmmldafpaaGreat
open Go.ChangeShapes Go.WideShapes Go.ChangeAt Go.RowKit Go.Sort
set_option linter.unusedVariables false
set_option linter.unusedSimpArgs false
def VzV {α:Type} (enc:α→List Value) (e:TypeId) (sz B:Nat) (l:List α) (v:Value) (w:World):Prop:=∃ A c,v = .slice A l.length c∧((0 < l.length∧Ow enc e sz w B (.slice A l.length c) l)∨(l=[]∧c=0∧∃ p,A=some ⟨p,0,none⟩))
theorem VzV.inv {α:Type} {enc:α→List Value} {e:TypeId} {sz B:Nat} {l:List α} {A:Option Addr} {n c:Nat} {w:World} (h:VzV enc e sz B l (.slice A n c) w):n=l.length∧((0 < l.length∧Ow enc e sz w B (.slice A l.length c) l)∨(l=[]∧c=0∧∃ p,A=some ⟨p,0,none⟩)):=by
 obtain ⟨A',c',he,hk⟩:=h
 simp only [Value.slice.injEq] at he
 obtain ⟨rfl,rfl,rfl⟩:=he
 exact ⟨rfl,hk⟩
theorem run_appz {P:Program} {α:Type} {enc:α→List Value} {w:World} (p:Nat) (t ty e:TypeId) (i:TypeInfo) (z:Value) (size bytes:Nat) (ht:P.underlying t=some (.slice e)) (hi:P.info? e=some i) (hz:i.zero=some z)
  (hsize:i.size=size) (hby:i.bytes=bytes) (hzs:z.cells.size=size) (hsz:0 < size) (hlen:∀ x,(enc x).length=size) {A:Option Addr} {c:Nat} {l:List α} (hr:Rd enc size w A c l)
  (h63:l.length≤maxLen) (hbytes:l.length * bytes≤140737488355328) (b0:Nat) (hb0:b0≤w.heap.size) :
  ∃ v' w',(Builtin.append_ #[t,t] ty #[.slice (some ⟨p,0,none⟩) 0 0, .slice A l.length c]).run P w = .ok v' w'∧VzV enc e size b0 l v' w'∧Ext w w':=by
 by_cases h0:l.length=0
 ·obtain rfl:l=[]:=List.eq_nil_of_length_eq_zero h0
  refine ⟨.slice (some ⟨p,0,none⟩) 0 0,w, ?_,⟨some ⟨p,0,none⟩,0,rfl, .inr ⟨rfl,rfl,p,rfl⟩⟩,ext_refl _⟩
  cases A <;> simp [Builtin.append_,run_underlying ht,sizeOf,typeInfo,hi,Builtin.lenOf,Builtin.firstCells,loadCells,loadCellsFrom,storeCells]
 ·obtain ⟨v',w',h1,⟨A',c',h2,h3,h4⟩,h5⟩:=run_app0 (P:=P) (w:=w) p t ty e i z size bytes ht hi hz hsize hby hzs hsz hlen hr h63 hbytes b0 hb0
  exact ⟨v',w',h1,⟨A',c',h2, .inl ⟨by omega,h4 (by have:=h3.1;omega)⟩⟩,h5⟩
theorem rm_appz {P:Program} {ops:Array Oper} {w:World} {b:Nat} {B:Rm.Bnd} {L:(World→Prop)→Act→Prop} {o:Oper} {rest:List Oper} {C:World→Prop} {ps:List Nat} {a:Act} {α:Type} {enc:α→List Value} (s x:Operand) (t:TypeId)
  (ho:o.op = .call { callee := .builtin .append,args:=#[s,x],argTypes:=#[t,t] }) (hgd:o.guard=none) (e:TypeId) (i:TypeInfo) (z:Value) (size bytes:Nat) (ht:P.underlying t=some (.slice e)) (hi:P.info? e=some i) (hz:i.zero=some z)
  (hsize:i.size=size) (hby:i.bytes=bytes) (hzs:z.cells.size=size) (hsz:0 < size) (hlen:∀ x,(enc x).length=size) (p:Nat) (hs:a.eval s = .slice (some ⟨p,0,none⟩) 0 0) (A:Option Addr) (n c:Nat) (l:List α) (hn:n=l.length) (hx:a.eval x = .slice A n c)
  (b0:Nat) (hb0:b0≤w.heap.size) (hr:∀ W,Ext w W→Rd enc size W A c l) (hΦ:B.2 o.dst=VzV enc e size b0 l) (h63:l.length≤maxLen) (hbytes:l.length * bytes≤140737488355328)
  (h:∀ A' c',Rm.Mx (relE b) P ops ((relE b).rel w) B L rest (fun W=>C W∧VzV enc e size b0 l (.slice A' l.length c') W) ps (a.put o.dst (.slice A' l.length c'))):Rm.Mx (relE b) P ops ((relE b).rel w) B L (o::rest) C ps a:=by
 subst hn
 refine Rm.wpMix_app (by unfold isAlloc;rw [ho]) (by unfold Rm.isApp;rw [ho]) (by simp [Region.wanted,hgd]) ?_ (fun W hW=>?_) (fun v hv=>?_)
 ·rw [hΦ]
  exact fun v w w' ⟨A,c,he,hk⟩ hx=>⟨A,c,he,hk.imp (fun k=>⟨k.1,k.2.kept hx⟩) id⟩
 ·have hW':Ext w W:=hW
  obtain ⟨v',w',h1,h2,h3⟩:=run_appz (P:=P) (w:=W) p t o.type e i z size bytes ht hi hz hsize hby hzs hsz hlen (hr W hW') h63 hbytes b0 (Nat.le_trans hb0 hW'.size)
  refine ⟨v',w', ?_,by rw [hΦ];exact h2,h3⟩
  unfold execOp
  simp only [ho,resolve,invoke,builtin,Sem.run_bind,Sem.run_pure,Result.andThen_ok,List.map_toArray,List.map_cons,List.map_nil,hs,hx,h1]
 ·rw [hΦ] at hv ⊢
  obtain ⟨W,_,A',c',rfl,_⟩:=hv
  exact h A' c'
def Typed (w:World) (e:TypeId) (S:List Nat):Prop:=∀ g cs t',w.heap[g]?=some (.cells cs t' (0,0))→t'≠e→g∉S
theorem Ow.kind {α:Type} {enc:α→List Value} {e:TypeId} {sz:Nat} {w:World} {B:Nat} {A:Option Addr} {n c:Nat} {l:List α} (h:Ow enc e sz w B (.slice A n c) l):∀ k∈blk A,∃ cs,w.heap[k]?=some (.cells cs e (0,0)):=fun k hk=>by
 rcases h.2 with ⟨he,_⟩ | ⟨g,cap,cur,he,_,hg,_⟩
 ·simp only [Value.slice.injEq] at he
  rw [he.1] at hk
  exact absurd hk (by simp [blk])
 ·simp only [Value.slice.injEq] at he
  rw [he.1] at hk
  simp only [blk,Mi] at hk
  subst hk
  exact ⟨cur,hg⟩
theorem LgF.typed {w w':World} {B:Nat} {a:LAd} {l:Lg} {e:TypeId} {S:List Nat} (h:LgF w B a l) (hS:Typed w e S) (h1:124≠e) (h2:126≠e) (h3:65≠e) (hg:Chg w w' S):LgF w' B a l :=
 ⟨h.c.chg Cel.len hg (fun hl x hx=>by obtain ⟨cs,hc⟩:=(h.c.2 hl).kind x hx;exact hS x cs _ hc h1),
  h.s.chg Sea.len hg (fun hl x hx=>by obtain ⟨cs,hc⟩:=(h.s.2 hl).kind x hx;exact hS x cs _ hc h2),
  h.e.chg Ent.len hg (fun hl x hx=>by obtain ⟨cs,hc⟩:=(h.e.2 hl).kind x hx;exact hS x cs _ hc h3)⟩
theorem wl_appz {P:Program} {α:Type} {enc:α→List Value} {ops:Array Oper} {rest:List Oper} {o:Oper} {a:Act} {w:World} {Q:Exit→Act→World→Prop} (hgd:o.guard=none) (s x:Operand) (t:TypeId)
  (ho:o.op = .call { callee := .builtin .append,args:=#[s,x],argTypes:=#[t,t] })
  (b0:Nat) (e:TypeId) (i:TypeInfo) (z:Value) (size bytes:Nat) (ht:P.underlying t=some (.slice e)) (hi:P.info? e=some i) (hz:i.zero=some z)
  (hsize:i.size=size) (hby:i.bytes=bytes) (hzs:z.cells.size=size) (hsz:0 < size) (hlen:∀ x,(enc x).length=size) (hone:∀ x,∀ u∈enc x,u.oneCell'=true)
  (A0:Option Addr) (c0:Nat) (l0:List α) (n0:Nat) (hs:a.eval s = .slice A0 n0 c0) (hz0:VzV enc e size b0 l0 (.slice A0 n0 c0) w) (A:Option Addr) (c:Nat) (l:List α) (n:Nat) (hn:n=l.length) (hpos:0 < l.length) (hx:a.eval x = .slice A n c) (hr:Rd enc size w A c l)
  (h63:l0.length+l.length≤maxLen) (hbytes:(l0.length+l.length) * bytes≤140737488355328) (hbase:b0≤w.heap.size)
  (h:∀ v' w' S,Ow enc e size w' b0 v' (l0++l)→Chg w w' S→Typed w e S→(∀ g∈S,b0≤g)→wpList P ops Q rest (a.put o.dst v') w'):wpList P ops Q (o::rest) a w:=by
 obtain ⟨rfl,hk⟩:=hz0.inv
 rcases hk with ⟨hp,hk⟩ | ⟨rfl,rfl,p,rfl⟩
 ·exact wl_app hgd s x t ho b0 e i z size bytes ht hi hz hsize hby hzs hsz hlen hone (.slice A0 l0.length c0) l0 hs hk A c l n hn hx hr h63 hbytes hbase (fun v' w' h1 h2=>h v' w' _ h1 (chg_grown h2) (fun g cs t' hb hne=>box_apart hb hk hne) (fun g hg=>(hk.inB g hg).1))
 ·subst hn
  refine wpList_plain hgd fun K hK=>?_
  obtain ⟨v',w',h1,⟨A',c',h2,h3,h4⟩,h5⟩:=run_app0 (P:=P) (w:=w) p t o.type e i z size bytes ht hi hz hsize hby hzs hsz hlen hr (by simpa using h63) (by simpa using hbytes) b0 hbase
  unfold Oper.wp execOp
  simp only [List.length_nil] at hs
  simp only [ho,resolve,invoke,builtin,Sem.run_bind,Sem.run_pure,Result.andThen_ok,List.map_toArray,List.map_cons,List.map_nil,hs,hx,h1]
  subst h2
  exact hK _ _ (h _ _ [] (h4 (by have:=h3.1;omega)) (chg_ext _ h5) (fun _ _ _ _ _ hm=>List.not_mem_nil hm) (fun _ hm=>(List.not_mem_nil hm).elim))
abbrev Vt.cs2 (a:LAd) (v:Vt):Array Value:=#[.int .i64 v.kind, .int .i64 v.frm, .int .i64 v.view, .int .i64 v.normal, .int .i64 v.op, .int .i64 v.commit, .int .i64 v.log.base, .slice a.cA v.log.cells.length a.cc, .slice a.sA v.log.seats.length a.sc, .slice a.eA v.log.ents.length a.ec]
theorem vt_whole2 {w w':World} {p:Nat} {a:LAd} {v:Vt} (hb:w.heap[p]?=some (Vt.obj a v)) (hx:Ext w w'):∀ j u,(Vt.cs2 a v).toList[j]?=some u→w'.cell? ⟨p,0+j,none⟩=some u:=cells_mid (cs:=Vt.cs2 a v) (hx.box hb) [] [] rfl rfl
set_option maxRecDepth 100000 in
set_option maxHeartbeats 8000000 in
theorem c_l6Vote (B:Nat) (a:LAd) (A:Option Addr) (c:Nat) (qs:List VtE) (R:Rp) (av:LAd) (v:Vt) (w:World) (hF:RpF w B a A c qs R) (hV:LgF w B av v.log) (hB:B≤w.heap.size) (h20:R.votes.length≤20) :
  Calls Tryz.prog 91 #[Rp.val a A qs.length c R,VtE.val av v] w fun e w'=>(∃ A' c' qs',e = .returned (Rp.val a A' (List.length qs') c' (R.voted v))∧RpF w' B a A' c' qs' (R.voted v))∧Ext w w':=by
 obtain ⟨i0,hi,hz0,hz1,hz2⟩:=info_parts Tryz.infoVt
 have hql:R.votes.length=qs.length:=by rw [←hF.e,List.length_map]
 have X0:Ext w (((w.alloc (Rp.obj a A qs.length c R)).alloc (Vt.obj av v)).alloc Rp.zobj):=ext_to (ext_to (ext_alloc _ _) _) _
 have D1:=Hd (hOld (o:=Rp.zobj) (hOld (o:=Vt.obj av v) (hNew (w:=w) (o:=Rp.obj a A qs.length c R) rfl)))
 have D2:=Hd (hOld (o:=Rp.zobj) (hNew (w:=w.alloc (Rp.obj a A qs.length c R)) (o:=Vt.obj av v) (k:=w.heap.size+1) (by simp)))
 have D3:=Hd (hNew (w:=(w.alloc (Rp.obj a A qs.length c R)).alloc (Vt.obj av v)) (o:=Rp.zobj) (k:=w.heap.size+1+1) (by simp))
 have HX0:=Hd X0
 have HF:=Hd (hF.keep X0)
 have HV:=Hd (hV.keep X0)
 clear X0 hF hV
 by_cases hlt:qs.length < 20
 ·have HE:=Hd (show R.votesTo (R.votes++[v])=R.voted v by unfold Rp.voted;rw [if_pos (by omega)])
  have g20:decide ((qs.length:Int) < 20)=true:=by simp;omega
  clear hql h20
  go_enter Tryz.func91,Tryz.ntmps91
  go_wp2
  (refine Rm.wp_region_mix' (R:=relE (((w.alloc (Rp.obj a A qs.length c R)).alloc (Vt.obj av v)).alloc Rp.zobj).heap.size) (fun d=>if d=some 12 then VzV VtE.enc 57 10 w.heap.size qs else fun _ _=>True) (fun _ _ _ _ _ hq=>hq) 6 (by first | exact Nat.le_refl _ | omega | (simp;omega)) (by kernel_rfl) (by kernel_rfl) ?_;simp only [Tc,Tz,Dc,Dz])
  (refine Rm.wpMix_alloc (.cells #[] 57) rfl (fun W=>by kernel_rfl) ?_;intro p1 hp1 hps1 hpi1;simp only [layVal,Act.put,Sa,Sz,Ss])
  (iterate 1 (refine Rm.wpMix_plain rfl rfl ?_;go_big_quiet_step (fail);refine wpQuiet_nil ?_))
  (refine Rm.wpMix_load1 (fun W9' h9=>show W9'.cell? _=some (.slice A qs.length c) from bx_cell (Ext.box h9 D1.out) 10) rfl rfl rfl Tryz.underlying31 rfl ?_;simp only [Act.put,Sa,Sz,Ss])
  refine rm_appz (enc:=VtE.enc) _ _ 31 rfl rfl 57 i0 Vt.zero 10 128 Tryz.underlying31 hi hz0 hz1 hz2 rfl (by decide) VtE.len p1 rfl A qs.length c qs rfl rfl w.heap.size HX0.out.size (fun W hW=>(HF.out.keep hW).v.1) rfl (by unfold maxLen;omega) (by omega) (fun A1 c1=>?_)
  simp only [Act.put,Sa,Sz,Ss]
  (refine Rm.wpMix_loadAgg (fun W9' h9=>vt_whole2 D2.out h9) rfl rfl rfl Tryz.underlying57 (by kernel_rfl) ?_;simp only [Act.put,Sa,Sz,Ss])
  (refine Rm.wpMix_alloc (.cells (Vt.cs2 av v) 57) rfl (fun W=>by kernel_rfl) ?_;intro p2 hp2 hps2 hpi2;simp only [layVal,Act.put,Sa,Sz,Ss])
  refine Rm.wpMix_nil ?_
  rintro w2 ⟨⟨⟨h2,_⟩,hz⟩,hp⟩
  have x2:Ext (((w.alloc (Rp.obj a A qs.length c R)).alloc (Vt.obj av v)).alloc Rp.zobj) w2:=h2
  have hs0:=HX0.out.size
  have hs2:=x2.size
  have hp2':=bx_lt hp
  have HZ:=Hd hz
  have HP:=Hd hp
  have E1:=Hd (x2.box D1.out)
  have E3:=Hd (x2.box D3.out)
  have X2:=Hd (Ext.trans HX0.out x2)
  have HF2:=Hd (HF.out.keep x2)
  have HV2:=Hd (HV.out.keep x2)
  clear h2 hz hp x2 D1 D2 D3 HF HV hp1 hps1 hpi1 hp2 hps2 hpi2 HX0
  have hw2:w.heap.size+1+1 < w2.heap.size:=bx_lt E3.out
  go_wp2_with (at_builtin;refine wl_appz (enc:=VtE.enc) rfl _ _ 31 rfl w.heap.size 57 i0 Vt.zero 10 128 Tryz.underlying31 hi hz0 hz1 hz2 rfl (by decide) VtE.len VtE.one A1 c1 qs qs.length rfl HZ.out (some ⟨p2,0,none⟩) 1 [(av,v)] 1 rfl Nat.zero_lt_one rfl (Rd.one HP.out rfl) ?c1 ?c2 ?c3 ?_)
  case c1=>unfold maxLen;simp;omega
  case c2=>simp;omega
  case c3=>omega
  intro v' w4 S ho4 c4 hS hSb
  obtain ⟨A',c',rfl⟩:=ho4.form
  have hl1:(qs++[(av,v)]).length=qs.length+1:=by simp
  have E1':=box_out' E1.out c4 (hS _ _ _ E1.out (by decide))
  have E3':=box_out' E3.out c4 (hS _ _ _ E3.out (by decide))
  have b4:=bx_cell E1'
  have g4:=bx_frozen E1'
  have z4:=bx_lt E1'
  have P4:=box_put E1' 10 (.slice A' (qs.length+1) c')
  simp only [Sa,Sz,Ss] at P4
  have c5:=chg_set (Chg.refl w4 [w.heap.size]) (p:=⟨w.heap.size,10,none⟩) (by simp) (.slice A' (qs.length+1) c')
  have hb5:∀ {B:Nat} {a:LAd} {l:Lg},LgF w2 B a l→LgF (w4.setCell ⟨w.heap.size,10,none⟩ (.slice A' (qs.length+1) c')) B a l:=fun h=>(h.typed hS (by decide) (by decide) (by decide) c4).boxed E1' (by decide) (by decide) (by decide) c5
  have HP:=Hd P4
  have HL1:=Hd hl1
  have HF5:=Hd (show RpF (w4.setCell ⟨w.heap.size,10,none⟩ (.slice A' (qs.length+1) c')) B a A' c' (qs++[(av,v)]) (R.voted v) from by
   rw [←HE.out]
   refine ⟨hb5 HF2.out.l,((Ow.rdF VtE.len ho4).chg VtE.len c5 (fun _ x hx hm=>by rw [Mi] at hm;subst hm;exact box_apart E1' ho4 (by decide) hx)).less hB,fun p hp=>?_,by rw [List.map_append,HF2.out.e];rfl⟩
   rcases List.mem_append.1 hp with hp | hp
   ·exact hb5 (HF2.out.vl p hp)
   ·rw [Mi] at hp;subst hp;exact hb5 HV2.out)
  have HE3:=Hd (box_out' E3' c5 (by simp;omega))
  have HX5:=Hd (chg_new (ext_chg X2.out c4 hSb) c5 (Nat.le_refl _))
  clear hl1 E1' E3' P4 c5 c4 ho4 hS hSb hb5 E1 E3 X2 HF2 HV2 HZ
  go_wp2_with (with_reducible refine wl_stop 17 ?_)
  refine stop_go (F:=fun W=>W.heap[w.heap.size]?=some (Rp.obj a A' (qs.length+1) c' R)∧RpF W B a A' c' (qs++[(av,v)]) (R.voted v)∧W.heap[w.heap.size+1+1]?=some Rp.zobj∧Ext w W) ⟨HP.out,HF5.out,HE3.out,HX5.out⟩ ?_
  intro W7 ⟨e7,f7,z7,x7⟩
  have E7:=Hd e7
  have F7:=Hd f7
  have Z7:=Hd z7
  have X7:=Hd x7
  clear e7 f7 z7 x7 HP HF5 HE3 HX5 b4 g4 z4
  (go_wp2_with (with_reducible refine wl_stop 17 ?_);refine stop_load (E7.out) rfl Tryz.underlying33 (by kernel_rfl) ?_;simp only [Act.put,Sa,Sz,Ss])
  (go_wp2_with (with_reducible refine wl_stopS 33 ?_);refine stop_store ((w.heap.size+1+1)) (Rp.cs a A' (qs.length+1) c' R) rfl rfl (Z7.out) (by kernel_rfl) rfl (by simp [Value.oneCell']) ?_)
  intro W9 e9 k9
  have HE9:=Hd e9
  have HX9:=Hd (chg_new X7.out k9 (by omega))
  have HF9:=Hd (F7.out.boxed Z7.out k9)
  clear e9 k9
  go_wp2
  refine bodyPost_ret (results_box Tryz.results91 rfl Tryz.underlying33 (by kernel_rfl) HE9.out) rfl ⟨⟨A',c',qs++[(av,v)], ?_,HF9.out⟩,HX9.out⟩
  rw [←HE.out,HL1.out];rfl
 ·have HE:=Hd (show R=R.voted v by unfold Rp.voted;rw [if_neg (by omega)])
  have g20:decide ((qs.length:Int) < 20)=false:=by simp;omega
  clear hql h20
  go_enter Tryz.func91,Tryz.ntmps91
  (go_wp2_with (with_reducible refine wl_stop 17 ?_);refine stop_load (D1.out) rfl Tryz.underlying33 (by kernel_rfl) ?_;simp only [Act.put,Sa,Sz,Ss])
  (go_wp2_with (with_reducible refine wl_stopS 33 ?_);refine stop_store ((w.heap.size+1+1)) (Rp.cs a A qs.length c R) rfl rfl (D3.out) (by kernel_rfl) rfl (by simp [Value.oneCell']) ?_)
  intro W9 e9 k9
  have HE9:=Hd e9
  have HX9:=Hd (chg_new HX0.out k9 (by omega))
  have HF9:=Hd (HF.out.boxed D3.out k9)
  clear e9 k9
  go_wp2
  refine bodyPost_ret (results_box Tryz.results91 rfl Tryz.underlying33 (by kernel_rfl) HE9.out) rfl ⟨⟨A,c,qs, ?_,by rw [←HE.out];exact HF9.out⟩,HX9.out⟩
  rw [←HE.out]
set_option maxHeartbeats 4000000 in
theorem c_l6Find (A:Option Addr) (c:Nat) (qs:List VtE) (kind who:Int) (w:World) (hr:Rd VtE.enc 10 w A c qs) (hn:qs.length≤1048576) :
  Calls Tryz.prog 89 #[.slice A qs.length c, .int .i64 kind, .int .i64 who] w fun e w'=>e = .returned (.int .i64 (findV kind who (qs.map Prod.snd)))∧Ext w w':=by
 have HR:=Hd hr
 have hm:∀ k (h:k < qs.length),∃ h2:k < (qs.map Prod.snd).length,(qs.map Prod.snd)[k]=qs[k].2:=fun k h=>⟨by simpa using h,by simp⟩
 have HM:=Hd hm
 clear hr hm
 go_enter Tryz.func89,Tryz.ntmps89
 go_wp2
 go_loopw [7] (fun i wr=>∃ k:Nat,k≤qs.length∧i = .int .i64 k∧Hid (∀ j (h:j < (qs.map Prod.snd).length),j < k→isV kind who (qs.map Prod.snd)[j]=false)∧Ext w wr) (fun i _=>qs.length - (intOf i).toNat)
 case atStart=>exact ⟨0,Nat.zero_le _,rfl,Hd (fun j hj hk=>absurd hk (by omega)),ext_refl _⟩
 case round =>
  obtain ⟨k,hk,rfl,HB,X⟩:=hrel
  by_cases hlt:k < qs.length
  ·obtain ⟨ab,ao,hA,hab,a0,a1,a2,a3,a4,a5,a6,a7,a8,a9⟩:=(HR.out.keep X).atVtE hlt
   subst hA
   obtain ⟨h2,h3⟩:=HM.out k hlt
   have HE:=Hd h3
   clear h3
   cases g1:(qs[k].2.kind == kind)
   ·have HN:=Hd (no_next HB.out (fun _=>show isV kind who _=false by rw [HE.out];unfold isV;rw [g1];rfl))
    go_wp2
    go_roundw
    case rel=>exact ⟨k+1,by omega,by go_num,Hd HN.out,X⟩
    case measure=>simp [intOf] <;> omega
   ·cases g2:(qs[k].2.frm == who)
    ·have HN:=Hd (no_next HB.out (fun _=>show isV kind who _=false by rw [HE.out];unfold isV;rw [g1,g2];rfl))
     go_wp2
     go_roundw
     case rel=>exact ⟨k+1,by omega,by go_num,Hd HN.out,X⟩
     case measure=>simp [intOf] <;> omega
    ·have HN:=Hd (show findV kind who (qs.map Prod.snd)=k from idx_hit h2 (by rw [HE.out];unfold isV;rw [g1,g2];rfl) HB.out)
     go_wp2
     go_ret
     exact ⟨ret_int HN.out.symm,X⟩
  ·obtain rfl:k=qs.length:=by omega
   have HN:=Hd (show findV kind who (qs.map Prod.snd)=-1 from idx_miss (fun j hj=>HB.out j hj (by simpa using hj)))
   go_wp2
   go_ret
   exact ⟨ret_int HN.out.symm,X⟩
theorem cntV_next2 {kind:Int} {l:List Vt} {k:Nat} (h:k < l.length):cntV kind (l.take (k+1))=cntV kind (l.take k)+if (l[k].kind == kind)=true then 1 else 0:=by
 unfold cntV
 rw [List.take_add_one,List.countP_append,List.getElem?_eq_getElem h]
 simp [List.countP_cons]
set_option maxHeartbeats 4000000 in
theorem c_l7Count (A:Option Addr) (c:Nat) (qs:List VtE) (kind:Int) (w:World) (hr:Rd VtE.enc 10 w A c qs) (hn:qs.length≤1048576) :
  Calls Tryz.prog 87 #[.slice A qs.length c, .int .i64 kind] w fun e w'=>e = .returned (.int .i64 (cntV kind (qs.map Prod.snd)))∧Ext w w':=by
 have HR:=Hd hr
 have HM:=Hd (show ∀ k (h:k < qs.length),∃ h2:k < (qs.map Prod.snd).length,(qs.map Prod.snd)[k]=qs[k].2 from fun k h=>⟨by simpa using h,by simp⟩)
 have HLe:=Hd (show ∀ k,cntV kind ((qs.map Prod.snd).take k)≤qs.length from fun k=>Nat.le_trans (List.countP_le_length) (by rw [List.length_take,List.length_map];omega))
 clear hr
 go_enter Tryz.func87,Tryz.ntmps87
 go_wp2
 go_loopw [5,6] (fun n i wr=>∃ k:Nat,k≤qs.length∧i = .int .i64 k∧n = .int .i64 (cntV kind ((qs.map Prod.snd).take k))∧Ext w wr) (fun _ i _=>qs.length - (intOf i).toNat)
 case atStart=>exact ⟨0,Nat.zero_le _,rfl,by simp [cntV],ext_refl _⟩
 case round =>
  obtain ⟨k,hk,rfl,rfl,X⟩:=hrel
  by_cases hlt:k < qs.length
  ·obtain ⟨ab,ao,hA,hab,a0,a1,a2,a3,a4,a5,a6,a7,a8,a9⟩:=(HR.out.keep X).atVtE hlt
   subst hA
   obtain ⟨h2,h3⟩:=HM.out k hlt
   have hle:=HLe.out k
   cases g1:(qs[k].2.kind == kind)
   ·have HN:=Hd (show cntV kind ((qs.map Prod.snd).take (k+1))=cntV kind ((qs.map Prod.snd).take k) by rw [cntV_next2 h2,h3,g1];rfl)
    clear h3
    go_wp2
    go_roundw
    case rel=>exact ⟨k+1,by omega,by go_num,by rw [HN.out],X⟩
    case measure=>simp [intOf] <;> omega
   ·have HN:=Hd (show cntV kind ((qs.map Prod.snd).take (k+1))=cntV kind ((qs.map Prod.snd).take k)+1 by rw [cntV_next2 h2,h3,g1];rfl)
    clear h3
    go_wp2
    go_roundw
    case rel=>exact ⟨k+1,by omega,by go_num,by rw [HN.out];go_num,X⟩
    case measure=>simp [intOf] <;> omega
  ·obtain rfl:k=qs.length:=by omega
   have HN:=Hd (show (qs.map Prod.snd).take qs.length=qs.map Prod.snd from List.take_of_length_le (by simp))
   rw [HN.out]
   go_wp2
   go_ret
   exact ⟨rfl,X⟩
theorem c_l6Half (a:LAd) (A:Option Addr) (n c:Nat) (r:Rp) (w:World) (ho:ofB r.of=true):Calls Tryz.prog 88 #[Rp.val a A n c r] w fun e w'=>e = .returned (.int .i64 ((r.of - 1) / 2))∧Ext w w':=by
 have h1:=ofB_b ho
 have X0:=ext_alloc w (Rp.obj a A n c r)
 clear ho
 go_enter Tryz.func88,Tryz.ntmps88
 go_wp2
 go_ret
 exact ⟨rfl,X0⟩
def LgV9 (B:Nat) (l:Lg) (v:Value) (W:World):Prop:=∃ a,v=Lg.val a l∧LgF W B a l
theorem LgV9.mono (b B:Nat) (l:Lg):Rm.Mono (relE b) (LgV9 B l):=fun v w w' ⟨a,h,hf⟩ hx=>⟨a,h,hf.keep hx⟩
theorem LgV9.inv {B:Nat} {l:Lg} {a:LAd} {W:World} (h:LgV9 B l (Lg.val a l) W):LgF W B a l:=LgV8.inv (B:=B) h
set_option maxRecDepth 100000 in
set_option maxHeartbeats 4000000 in
theorem c_l6Do (a:LAd) (A:Option Addr) (n c:Nat) (r:Rp) (w:World) (hl:LgR w a r.log) (hs:r.log.small):Calls Tryz.prog 90 #[Rp.val a A n c r] w fun e w'=>(∃ a',e = .returned (Mg.val a' (doM r))∧LgF w' w.heap.size a' r.log)∧Ext w w':=by
 have X0:Ext w ((w.alloc (Rp.obj a A n c r)).alloc Mg.zobj):=ext_to (ext_alloc _ _) _
 have D1:=Hd (hOld (o:=Mg.zobj) (hNew (w:=w) (o:=Rp.obj a A n c r) rfl))
 have D2:=Hd (hNew (w:=w.alloc (Rp.obj a A n c r)) (o:=Mg.zobj) (k:=w.heap.size+1) (by simp))
 have HX0:=Hd X0
 have HL:=Hd (hl.keep X0)
 have HS:=Hd hs
 clear X0 hl hs
 go_enter Tryz.func90,Tryz.ntmps90
 go_wp2
 (refine Rm.wp_region_mix' (R:=relE ((w.alloc (Rp.obj a A n c r)).alloc Mg.zobj).heap.size) (fun _ _ _=>True) (fun _ _ _ _ _ hq=>hq) 12 (by first | exact Nat.le_refl _ | omega | (simp;omega)) (by kernel_rfl) (by kernel_rfl) ?_;simp only [Tc,Tz,Dc,Dz])
 ((iterate 1 (refine Rm.wpMix_plain rfl rfl ?_;go_big_quiet_step (fail);refine wpQuiet_nil ?_));(refine Rm.wpMix_load1 (fun W9' h9=>show W9'.cell? _=some (.int .i64 r.me) from bx_cell (Ext.box h9 D1.out) 0) rfl rfl rfl Tryz.underlying3 rfl ?_;simp only [Act.put,Sa,Sz,Ss]);(iterate 1 (refine Rm.wpMix_plain rfl rfl ?_;go_big_quiet_step (fail);refine wpQuiet_nil ?_));(refine Rm.wpMix_load1 (fun W9' h9=>show W9'.cell? _=some (.int .i64 r.view) from bx_cell (Ext.box h9 D1.out) 3) rfl rfl rfl Tryz.underlying3 rfl ?_;simp only [Act.put,Sa,Sz,Ss]);(iterate 1 (refine Rm.wpMix_plain rfl rfl ?_;go_big_quiet_step (fail);refine wpQuiet_nil ?_));(refine Rm.wpMix_load1 (fun W9' h9=>show W9'.cell? _=some (.int .i64 r.normal) from bx_cell (Ext.box h9 D1.out) 4) rfl rfl rfl Tryz.underlying3 rfl ?_;simp only [Act.put,Sa,Sz,Ss]);(iterate 1 (refine Rm.wpMix_plain rfl rfl ?_;go_big_quiet_step (fail);refine wpQuiet_nil ?_));(refine Rm.wpMix_load1 (fun W9' h9=>show W9'.cell? _=some (.int .i64 r.commit) from bx_cell (Ext.box h9 D1.out) 5) rfl rfl rfl Tryz.underlying3 rfl ?_;simp only [Act.put,Sa,Sz,Ss]);(iterate 1 (refine Rm.wpMix_plain rfl rfl ?_;go_big_quiet_step (fail);refine wpQuiet_nil ?_)))
 (refine Rm.wpMix_loadAgg (fun W9' h9=>rp_log D1.out h9) rfl rfl rfl Tryz.underlying30 (by kernel_rfl) ?_;simp only [Act.put,Sa,Sz,Ss])
 refine Rm.wpMix_call (LgV9 w.heap.size r.log) rfl rfl rfl (enters Tryz.func86 (by kernel_rfl) rfl) (LgV9.mono _ _ _) (fun W' hW'=>(c_l3Copy a r.log HS.out W' (HL.out.keep hW')).mono fun e w' ⟨a4,he,hf,hx⟩=>⟨_,he,⟨a4,rfl,hf.less (Nat.le_trans HX0.out.size (show Ext _ _ from hW').size)⟩,hx⟩) rfl (fun v6 hv6=>?_)
 obtain ⟨_,_,a4,rfl,_⟩:=hv6
 simp only [Act.put,Sa,Sz,Ss]
 (iterate 1 (refine Rm.wpMix_plain rfl rfl ?_;go_big_quiet_step (fail);refine wpQuiet_nil ?_))
 refine Rm.wpMix_nil ?_
 rintro w2 ⟨h2,hv2⟩
 have x2:Ext ((w.alloc (Rp.obj a A n c r)).alloc Mg.zobj) w2:=h2
 have HF:=Hd hv2.inv
 have Z2:=Hd (x2.box D2.out)
 have X2:=Hd (Ext.trans HX0.out x2)
 clear h2 hv2 x2 D1 D2 HX0
 (go_wp2_with (with_reducible refine wl_stopS 43 ?_);refine stop_store ((w.heap.size+1)) (Mg.cs a4 (doM r)) rfl rfl (Z2.out) (by kernel_rfl) rfl (by simp [Value.oneCell']) ?_)
 intro W9 e9 k9
 have HE9:=Hd e9
 have HX9:=Hd (chg_new X2.out k9 (by omega))
 have HF9:=Hd (HF.out.boxed Z2.out (by decide) (by decide) (by decide) k9)
 clear e9 k9
 go_wp2
 exact bodyPost_ret (results_box Tryz.results90 rfl Tryz.underlying43 (by kernel_rfl) HE9.out) rfl ⟨⟨a4,rfl,HF9.out⟩,HX9.out⟩
def relM (p g:Nat) (obj obj1:Obj) (B:Nat) (hp:p < B) (hg:g < B):Rm.Rel where
 rel a b:=Chg a b [p,g]∧(p < a.heap.size→b.heap[p]?=a.heap[p]?∨b.heap[p]?=some obj)∧(g < a.heap.size→b.heap[g]?=a.heap[g]?∨b.heap[g]?=some obj1)
 base:=B
 refl w:=⟨Chg.refl w _,fun _ => .inl rfl,fun _ => .inl rfl⟩
 trans a b c h k:=⟨h.1.trans k.1,fun hlt=>by
  rcases k.2.1 (Nat.lt_of_lt_of_le hlt h.1.size) with e | e
  ·rw [e];exact h.2.1 hlt
  ·exact .inr e,fun hlt=>by
  rcases k.2.2 (Nat.lt_of_lt_of_le hlt h.1.size) with e | e
  ·rw [e];exact h.2.2 hlt
  ·exact .inr e⟩
 ext a b h:=⟨chg_ext _ h,fun hlt => .inl (h.block p hlt),fun hlt => .inl (h.block g hlt)⟩
 size a b h:=h.1.size
 keep a b h q hq hlt:=h.1.block q hlt (by simp;omega)
def upd (cur:Array Value) (n:Nat) (L:List Value):Array Value:=(cur.toList.take n++L++cur.toList.drop (n+L.length)).toArray
theorem upd_size {cur:Array Value} {n:Nat} {L:List Value} (h:n+L.length≤cur.size):(upd cur n L).size=cur.size:=by
 unfold upd
 simp
 omega
theorem upd_take {cur:Array Value} {n:Nat} {L:List Value} (h:n+L.length≤cur.size):(upd cur n L).toList.take n=cur.toList.take n:=by
 unfold upd
 have hn:(cur.toList.take n).length=n:=by simp;omega
 simp only [List.append_assoc]
 rw [List.take_append_of_le_length (by omega)]
 exact List.take_of_length_le (by omega)
theorem upd_take2 {cur:Array Value} {n:Nat} {L:List Value} (h:n+L.length≤cur.size):(upd cur n L).toList.take (n+L.length)=cur.toList.take n++L:=by
 unfold upd
 have hn:(cur.toList.take n++L).length=n+L.length:=by simp;omega
 show (cur.toList.take n++L++_).take _=_
 rw [←hn]
 exact List.take_left
theorem upd_idem {cur:Array Value} {n:Nat} {L:List Value} (h:n+L.length≤cur.size):upd (upd cur n L) n L=upd cur n L:=by
 have h1:=upd_take h
 have hn:(cur.toList.take n++L).length=n+L.length:=by simp;omega
 have h2:(upd cur n L).toList.drop (n+L.length)=cur.toList.drop (n+L.length):=by
  show (cur.toList.take n++L++cur.toList.drop (n+L.length)).drop (n+L.length)=_
  rw [←hn]
  exact List.drop_left
 show ((upd cur n L).toList.take n++L++(upd cur n L).toList.drop (n+L.length)).toArray=_
 rw [h1,h2]
 rfl
theorem Ow.same {α:Type} {enc:α→List Value} {e:TypeId} {sz:Nat} {w w':World} {B:Nat} {A:Option Addr} {n c:Nat} {l:List α} (h:Ow enc e sz w B (.slice A n c) l) (hs:∀ k∈blk A,w'.heap[k]?=w.heap[k]?):Ow enc e sz w' B (.slice A n c) l:=by
 refine ⟨h.1, ?_⟩
 rcases h.2 with h2 | ⟨g,cap,cur,he,h3,h4,h5⟩
 ·exact .inl h2
 ·refine .inr ⟨g,cap,cur,he,h3, ?_,h5⟩
  simp only [Value.slice.injEq] at he
  rw [hs g (by rw [he.1];simp [blk])]
  exact h4
def ApV {α:Type} (enc:α→List Value) (e:TypeId) (sz:Nat) (g:Nat) (obj1:Obj) (B b0:Nat) (l:List α) (v:Value) (W:World):Prop:=∃ A c,v = .slice A l.length c∧Ow enc e sz W b0 (.slice A l.length c) l∧∀ k∈blk A,(k=g∧W.heap[g]?=some obj1)∨B≤k
theorem ApV.mono {α:Type} (enc:α→List Value) (e:TypeId) (sz:Nat) (p g:Nat) (obj obj1:Obj) (B b0:Nat) (hp:p < B) (hg:g < B) (l:List α):Rm.Mono (relM p g obj obj1 B hp hg) (ApV enc e sz g obj1 B b0 l):=fun v w w' ⟨A,c,he,ho,hk⟩ hx=>by
 have hs:∀ k∈blk A,w'.heap[k]?=w.heap[k]?:=fun k hm=>by
  have hlt:=(ho.inB k hm).2
  rcases hk k hm with ⟨e,h1⟩ | h1
  ·subst e
   rcases hx.2.2 hlt with h | h
   ·exact h
   ·rw [h,h1]
  ·exact hx.1.block k hlt (by simp;omega)
 refine ⟨A,c,he,ho.same hs,fun k hm=>?_⟩
 rcases hk k hm with ⟨e,h1⟩ | h1
 ·refine .inl ⟨e, ?_⟩
  rw [←e,hs k hm,e,h1]
 ·exact .inr h1
section
variable {P:Program} {α:Type} {enc:α→List Value}
theorem own_grow {W:World} (t ty e:TypeId) (i:TypeInfo) (z:Value) (size bytes:Nat) (ht:P.underlying t=some (.slice e)) (hi:P.info? e=some i) (hz:i.zero=some z)
  (hsize:i.size=size) (hby:i.bytes=bytes) (hzs:z.cells.size=size) (hsz:0 < size) (hlen:∀ x,(enc x).length=size) (b0:Nat) (v0:Value) (l0:List α) (hown:Ow enc e size W b0 v0 l0)
  {A:Option Addr} {c:Nat} {l:List α} (hr:Rd enc size W A c l) (hno:∀ g cap,v0 = .slice (some ⟨g,0,none⟩) l0.length cap→cap < l0.length+l.length)
  (h63:l0.length+l.length≤maxLen) (hbytes:(l0.length+l.length) * bytes≤140737488355328) (hb0:b0≤W.heap.size) :
  ∃ A' c' W',(Builtin.append_ #[t,t] ty #[v0, .slice A l.length c]).run P W = .ok (.slice A' (l0++l).length c') W'∧Ext W W'∧Ow enc e size W' b0 (.slice A' (l0++l).length c') (l0++l)∧∀ k∈blk A',W.heap.size≤k:=by
 subst hsize
 subst hby
 have hsmall:l0.length+l.length≤9223372036854775807:=by simp only [maxLen] at h63;omega
 have hf0:(l0.flatMap enc).length=l0.length * i.size:=hown.1
 have hf:=flat_length hlen l
 have hfl:((l0++l).flatMap enc).length=(l0.length+l.length) * i.size:=by rw [List.flatMap_append,List.length_append,hf0,hf,Nat.add_mul]
 have grown:∀ old:Nat,Ow enc e i.size (W.drew.alloc (.cells ((l0.flatMap enc).toArray++(l.flatMap enc).toArray++Builtin.zeroCells z.cells (grownCap W (l0.length+l.length) old e - (l0.length+l.length))) e)) b0 (.slice (some ⟨W.heap.size,0,none⟩) (l0++l).length (grownCap W (l0.length+l.length) old e)) (l0++l):=fun old=>by
  have hge:=grownCap_ge W (l0.length+l.length) old e
  have hcm:grownCap W (l0.length+l.length) old e≤maxLen:=grownCap_le_maxLen W (l0.length+l.length) old e h63
  refine ⟨by rw [List.length_append];exact hfl, .inr ⟨W.heap.size,_,_,rfl,hb0,heap_alloc_new W.drew _,by rw [List.length_append];exact hge,hcm, ?_, ?_⟩⟩
  ·simp only [Array.size_append,List.size_toArray,size_zeroCells,hzs,hf0,hf,←Nat.add_mul]
   congr 1
   omega
  ·simp only [Array.toList_append,List.append_assoc]
   rw [←List.append_assoc,List.length_append,←hfl,List.flatMap_append]
   exact List.take_left
 have hext:∀ o:Obj,Ext W (W.drew.alloc o):=fun o=>(ext_drew (ext_refl W)).trans (ext_alloc _ _)
 have hblk:∀ k∈blk (some (⟨W.heap.size,0,none⟩:Addr)),W.heap.size≤k:=fun k hk=>by simp only [blk,Mi] at hk;omega
 rcases hown.2 with ⟨rfl,h0⟩ | ⟨g,cap,cur,rfl,hbg,hg,hnc,hcm,hcs,htake⟩
 ·obtain rfl:l0=[]:=List.eq_nil_of_length_eq_zero h0
  by_cases hl:l.length=0
  ·obtain rfl:l=[]:=List.eq_nil_of_length_eq_zero hl
   refine ⟨none,0,W, ?_,ext_refl _,World.ownsRow_nil W b0 e i.size,by simp [blk]⟩
   cases A <;> simp [Builtin.append_,run_underlying ht,sizeOf,typeInfo,hi,Builtin.lenOf,Builtin.firstCells,loadCells,loadCellsFrom]
  ·obtain ⟨ad,rfl⟩:=hr.base (by omega)
   have hrun:=run_append_nil (P:=P) W t ty e i z ht hi hz ad l.length c (l.flatMap enc) hf (hr.flat hsz hlen) (by omega) (by omega) (by have hb:=hbytes;simp only [List.length_nil,Nat.zero_add] at hb;omega)
   have hgr:=grown 0
   simp only [List.length_nil,Nat.zero_add,List.flatMap_nil,List.nil_append,Array.empty_append] at hgr hrun ⊢
   exact ⟨_,_,_,hrun,hext _,hgr,hblk⟩
 ·have hnr:=hno g cap rfl
  obtain ⟨ad,rfl⟩:=hr.base (by omega)
  have holds:∀ j u,(l0.flatMap enc)[j]?=some u→W.cell? ((⟨g,0,none⟩:Addr).add j)=some u:=World.ownsRow.cells hown rfl
  have hrun:=run_append_grow (P:=P) (w:=W) t ty e i z ht hi hz ⟨g,0,none⟩ l0.length cap (l0.flatMap enc) hf0 holds ad l.length c (l.flatMap enc) hf (hr.flat hsz hlen) (by omega) (by omega) (growslice_fits (by omega) hbytes)
  have hgr:=grown cap
  rw [List.length_append] at hgr ⊢
  exact ⟨_,_,_,hrun,hext _,hgr,hblk⟩
theorem own_plan {w:World} (t ty e:TypeId) (i:TypeInfo) (z:Value) (size bytes:Nat) (ht:P.underlying t=some (.slice e)) (hi:P.info? e=some i) (hz:i.zero=some z)
  (hsize:i.size=size) (hby:i.bytes=bytes) (hzs:z.cells.size=size) (hsz:0 < size) (hlen:∀ x,(enc x).length=size) (hone:∀ x,∀ u∈enc x,u.oneCell'=true) (b0:Nat) (A0:Option Addr) (c0:Nat) (l0:List α) (hown:Ow enc e size w b0 (.slice A0 l0.length c0) l0)
  (p:Nat) (obj:Obj) (hp:p < w.heap.size) (hpA:p∉blk A0) {A:Option Addr} {c:Nat} {l:List α} (hr:∀ W S,Chg w W S→(∀ k∈S,k=p∨k∈blk A0)→Rd enc size W A c l)
  (h63:l0.length+l.length≤maxLen) (hbytes:(l0.length+l.length) * bytes≤140737488355328) (hb0:b0≤w.heap.size) :
  ∃ g obj1,(g=p→obj1=obj)∧(g=p∨(b0≤g∧g∈blk A0))∧∃ hg:g < w.heap.size,∀ W,(relM p g obj obj1 w.heap.size hp hg).rel w W→∃ v W',(Builtin.append_ #[t,t] ty #[.slice A0 l0.length c0, .slice A l.length c]).run P W = .ok v W'∧ApV enc e size g obj1 w.heap.size b0 (l0++l) v W'∧(relM p g obj obj1 w.heap.size hp hg).rel W W':=by
 by_cases hroom:∃ g,A0=some ⟨g,0,none⟩∧l0.length+l.length≤c0
 ·obtain ⟨g,rfl,hroom⟩:=hroom
  rcases hown.2 with ⟨he,_⟩ | ⟨g',cap,cur,he,hbg,hgg,hnc,hcm,hcs,htake⟩
  ·simp at he
  ·simp only [Value.slice.injEq,Option.some.injEq,Addr.mk.injEq,and_true,true_and] at he
   obtain ⟨rfl,rfl⟩:=he
   have hpg:p≠g:=fun e=>hpA (by simp [blk,e])
   have hf:=flat_length hlen l
   have hf0:(l0.flatMap enc).length=l0.length * size:=hown.1
   have hfit:l0.length * size+(l.flatMap enc).length≤cur.size:=by rw [hf,hcs,←Nat.add_mul];exact Nat.mul_le_mul_right _ hroom
   have hlt:=bx_lt hgg
   refine ⟨g, .cells (upd cur (l0.length * size) (l.flatMap enc)) e (0,0),fun e=>absurd e.symm hpg, .inr ⟨hbg,by simp [blk]⟩,hlt,fun W hW=>?_⟩
   have hcurW:∃ curW:Array Value,W.heap[g]?=some (.cells curW e (0,0))∧curW.size=cur.size∧upd curW (l0.length * size) (l.flatMap enc)=upd cur (l0.length * size) (l.flatMap enc):=by
    rcases hW.2.2 hlt with h | h
    ·exact ⟨cur,by rw [h];exact hgg,rfl,rfl⟩
    ·exact ⟨_,h,upd_size hfit,upd_idem hfit⟩
   obtain ⟨curW,hgW,hsW,huW⟩:=hcurW
   have hrW:=hr W [p,g] hW.1 (fun k hk=>by
    simp only [List.mem_cons,List.not_mem_nil,or_false] at hk
    rcases hk with e | e
    ·exact .inl e
    ·exact .inr (by simp [blk,e]))
   have hgo:∀ W',W'.heap[g]?=some (.cells (upd cur (l0.length * size) (l.flatMap enc)) e (0,0))→Chg W W' [g]→ApV enc e size g (.cells (upd cur (l0.length * size) (l.flatMap enc)) e (0,0)) w.heap.size b0 (l0++l) (.slice (some ⟨g,0,none⟩) (l0.length+l.length) c0) W'∧(relM p g obj (.cells (upd cur (l0.length * size) (l.flatMap enc)) e (0,0)) w.heap.size hp hlt).rel W W':=fun W' h1 h2=>by
    refine ⟨⟨some ⟨g,0,none⟩,c0,by rw [List.length_append],⟨?_, .inr ⟨g,c0,_,rfl,hbg,h1,by rw [List.length_append];exact hroom,hcm,by rw [upd_size hfit,hcs], ?_⟩⟩,fun k hk => .inl ⟨by simpa [blk] using hk,h1⟩⟩,h2.more (fun k hk=>by rw [Mi] at hk;simp [hk]),fun hlt' => .inl (h2.block p hlt' (by simpa using hpg)),fun _ => .inr h1⟩
    ·rw [List.flatMap_append,List.length_append,List.length_append,hf0,hf,Nat.add_mul]
    ·rw [List.length_append,Nat.add_mul,←hf,upd_take2 hfit,htake,List.flatMap_append]
   cases A with
   | none =>
    obtain rfl:l=[]:=List.eq_nil_of_length_eq_zero hrW.none_len
    have hu0:upd cur (l0.length * size) (([]:List α).flatMap enc)=cur:=by unfold upd;simp
    refine ⟨_,W,run_append_none (w:=W) (base:=b0) (c:=c) (size:=size) ht hi (.slice (some ⟨g,0,none⟩) l0.length c0) l0.length (l0.flatMap enc) ?_,(hgo W (by rw [←huW];rw [show upd curW (l0.length * size) (([]:List α).flatMap enc)=curW by unfold upd;simp];exact hgW) (Chg.refl W _)).1,(hgo W (by rw [←huW];rw [show upd curW (l0.length * size) (([]:List α).flatMap enc)=curW by unfold upd;simp];exact hgW) (Chg.refl W _)).2⟩
    rcases hW.2.2 hlt with h | h
    ·exact ⟨hown.1, .inr ⟨g,c0,cur,rfl,hbg,by rw [h];exact hgg,hnc,hcm,hcs,htake⟩⟩
    ·exact ⟨hown.1, .inr ⟨g,c0,cur,rfl,hbg,by rw [h,hu0],hnc,hcm,hcs,htake⟩⟩
   | some ad =>
    subst hsize
    have hrun:=run_append_room (P:=P) (w:=W) t ty e i ht hi g l0.length c0 curW hgW ad l.length c (l.flatMap enc) hf (hrW.flat hsz hlen) (flat_one hone l) hroom (by rw [hsW];exact hfit)
    have h1:(W.setRow g (upd curW (l0.length * i.size) (l.flatMap enc))).heap[g]?=some (.cells (upd cur (l0.length * i.size) (l.flatMap enc)) e (0,0)):=by
     rw [huW];exact setRow_heap W g curW _ e (0,0) hgW
    have h2:=hgo _ h1 (chg_setRow W g _)
    exact ⟨_,_,hrun,h2.1,h2.2⟩
 ·refine ⟨p,obj,fun _=>rfl, .inl rfl,hp,fun W hW=>?_⟩
  have hoW:Ow enc e size W b0 (.slice A0 l0.length c0) l0:=hown.chg hW.1 (fun k hk hm=>by
   simp only [List.mem_cons,List.not_mem_nil,or_false,or_self] at hm
   rw [hm] at hk
   exact hpA hk)
  have hrW:=hr W [p,p] hW.1 (fun k hk=>by
   simp only [List.mem_cons,List.not_mem_nil,or_false,or_self] at hk
   exact .inl hk)
  obtain ⟨A',c',W',h1,h2,h3,h4⟩:=own_grow (P:=P) (W:=W) t ty e i z size bytes ht hi hz hsize hby hzs hsz hlen b0 _ l0 hoW hrW (fun g cap he=>by
   simp only [Value.slice.injEq,true_and] at he
   obtain ⟨e1,rfl⟩:=he
   rcases Nat.lt_or_ge c0 (l0.length+l.length) with h | h
   ·exact h
   ·exact absurd ⟨g,e1,h⟩ hroom) h63 hbytes (Nat.le_trans hb0 hW.1.size)
  exact ⟨_,W',h1,⟨A',c',rfl,h3,fun k hk => .inr (Nat.le_trans hW.1.size (h4 k hk))⟩,Rm.Rel.ext _ _ _ h2⟩
variable {ops:Array Oper} {w:World} {L:(World→Prop)→Act→Prop} {o:Oper} {rest:List Oper} {C:World→Prop} {ps:List Nat} {a:Act}
theorem wpMix_stM {p g:Nat} {cs old:Array Value} {T:TypeId} {obj1:Obj} {B:Nat} {hp:p < B} {hgB:g < B} {N:Nat} {Φ:Option Tmp→Value→World→Prop} {ty:TypeId} {x y:Operand} (hgp:g=p→obj1 = .cells cs T (0,0)) (hg:w.heap[p]?=some (.cells old T (0,0))) (hop:o.op = .store ty x y) (hd:o.dst=none) (hw:Region.wanted o (yielded ops a.tmps)=true)
  (hx:a.eval x = .pointer (some ⟨p,0,none⟩)) (hy:a.eval y = .agg cs) (hi:(P.info? ty).map (·.size)=some cs.size) (hold:old.size=cs.size) (h1:cs.all (·.oneCell')=true) (hΦ:Φ none=fun _ W=>W.heap[p]?=some (.cells cs T (0,0)))
  (h:Rm.Mx (relM p g (.cells cs T (0,0)) obj1 B hp hgB) P ops ((relM p g (.cells cs T (0,0)) obj1 B hp hgB).rel w) (N,Φ) L rest (fun W=>C W∧W.heap[p]?=some (.cells cs T (0,0))) ps (a.put none undef)) :
  Rm.Mx (relM p g (.cells cs T (0,0)) obj1 B hp hgB) P ops ((relM p g (.cells cs T (0,0)) obj1 B hp hgB).rel w) (N,Φ) L (o::rest) C ps a:=by
 refine Rm.wpMix_store (by unfold isAlloc;rw [hop]) (by unfold Rm.isApp;rw [hop]) hw ?_ (fun W hW=>?_) (fun v hv=>?_)
 ·rw [hd]
  show Rm.Mono _ (Φ none)
  rw [hΦ]
  exact fun v w w' h hx=>by
   rcases hx.2.1 (bx_lt h) with e | e
   ·rw [e];exact h
   ·exact e
 ·have hgW:∃ old':Array Value,W.heap[p]?=some (.cells old' T (0,0))∧old'.size=cs.size:=by
   rcases hW.2.1 (bx_lt hg) with e | e
   ·exact ⟨old,by rw [e];exact hg,hold⟩
   ·exact ⟨cs,e,rfl⟩
  obtain ⟨old',hg',hs'⟩:=hgW
  have hset:=setRow_heap W p old' cs T (0,0) hg'
  have hch:=chg_setRow W p cs
  refine ⟨W.setRow p cs, ?_, ?_,hch.more (fun k hk=>by rw [Mi] at hk;simp [hk]),fun _ => .inr hset,fun hlt=>?_⟩
  ·unfold execOp
   simp only [hop,hx,hy,Instr.storeAt,Instr.sureAddr,Sem.run_bind,Sem.run_pure,Result.andThen_ok,run_storeVar_row W p T ty old' cs hg' hi hs' h1]
  ·rw [hd]
   show Φ none undef _
   rw [hΦ]
   exact hset
  ·by_cases e:g=p
   ·exact .inr (by rw [hgp e,e];exact hset)
   ·exact .inl (hch.block g hlt (by simpa using e))
 ·rw [hd]
  show Rm.Mx _ P ops _ _ L rest (fun W=>C W∧Φ none v W) ps (a.put none v)
  rw [hΦ]
  exact h
theorem rm_own {p g:Nat} {obj obj1:Obj} {hp:p < w.heap.size} {hg:g < w.heap.size} {N:Nat} {Φ:Option Tmp→Value→World→Prop} (s x:Operand) (t e:TypeId) (size b0:Nat)
  (ho:o.op = .call { callee := .builtin .append,args:=#[s,x],argTypes:=#[t,t] }) (hgd:o.guard=none) (A0:Option Addr) (n0 c0:Nat) (l0:List α) (hn0:n0=l0.length) (hs:a.eval s = .slice A0 n0 c0) (A:Option Addr) (n c:Nat) (l:List α) (hn:n=l.length) (hx:a.eval x = .slice A n c)
  (hrun:∀ W,(relM p g obj obj1 w.heap.size hp hg).rel w W→∃ v W',(Builtin.append_ #[t,t] o.type #[.slice A0 l0.length c0, .slice A l.length c]).run P W = .ok v W'∧ApV enc e size g obj1 w.heap.size b0 (l0++l) v W'∧(relM p g obj obj1 w.heap.size hp hg).rel W W')
  (hΦ:Φ o.dst=ApV enc e size g obj1 w.heap.size b0 (l0++l))
  (h:∀ A' c',Rm.Mx (relM p g obj obj1 w.heap.size hp hg) P ops ((relM p g obj obj1 w.heap.size hp hg).rel w) (N,Φ) L rest (fun W=>C W∧ApV enc e size g obj1 w.heap.size b0 (l0++l) (.slice A' (l0++l).length c') W) ps (a.put o.dst (.slice A' (l0++l).length c'))) :
  Rm.Mx (relM p g obj obj1 w.heap.size hp hg) P ops ((relM p g obj obj1 w.heap.size hp hg).rel w) (N,Φ) L (o::rest) C ps a:=by
 subst hn0
 subst hn
 refine Rm.wpMix_app (by unfold isAlloc;rw [ho]) (by unfold Rm.isApp;rw [ho]) (by simp [Region.wanted,hgd]) ?_ (fun W hW=>?_) (fun v hv=>?_)
 ·show Rm.Mono _ (Φ o.dst)
  rw [hΦ]
  exact ApV.mono _ _ _ _ _ _ _ _ _ _ _ _
 ·obtain ⟨v',w',h1,h2,h3⟩:=hrun W hW
  refine ⟨v',w', ?_,by show Φ o.dst v' w';rw [hΦ];exact h2,h3⟩
  unfold execOp
  simp only [ho,resolve,invoke,builtin,Sem.run_bind,Sem.run_pure,Result.andThen_ok,List.map_toArray,List.map_cons,List.map_nil,hs,hx,h1]
 ·obtain ⟨W,_,hW⟩:=hv
  have hW2:Φ o.dst v W:=hW
  rw [hΦ] at hW2
  obtain ⟨A',c',rfl,_⟩:=hW2
  show Rm.Mx _ P ops _ _ L rest (fun W=>C W∧Φ o.dst _ W) ps _
  rw [hΦ]
  exact h A' c'
end
theorem row_vote {w:World} {A:Option Addr} {c:Nat} {qs:List VtE} (hr:Rd VtE.enc 10 w A c qs) {k:Nat} (hk:k < qs.length):∃ ab ao,A=some ⟨ab,ao,none⟩∧∀ W,Ext w W→∀ j v,(Vt.cs2 qs[k].1 qs[k].2).toList[j]?=some v→W.cell? ⟨ab,ao+k * 10+j,none⟩=some v:=by
 obtain ⟨b,o,e,hb,hc⟩:=hr.2.2 (by omega)
 exact ⟨b,o,e,fun W hW j v hv=>(Below.cell hW (p:=⟨b,o+k * 10+j,none⟩) hb).trans (hc k hk j v hv)⟩
theorem OsV.inv {B:Nat} {O:List Ot} {A:Option Addr} {n c:Nat} {W:World} (h:OsV B O (.slice A n c) W):∃ os,n=List.length os∧List.map Prod.snd os=O∧OsK W B A c os:=by
 obtain ⟨A',c',os,he,h1,h2,h3⟩:=h
 simp only [Value.slice.injEq] at he
 obtain ⟨rfl,rfl,rfl⟩:=he
 exact ⟨os,rfl,h1,h2,h3⟩
abbrev vtZ:Obj := .cells #[.int .i64 0, .int .i64 0, .int .i64 0, .int .i64 0, .int .i64 0, .int .i64 0, .int .i64 0, .slice none 0 0, .slice none 0 0, .slice none 0 0] 57
theorem vt_log2 {w w':World} {p:Nat} {a:LAd} {v:Vt} (hb:w.heap[p]?=some (Vt.obj a v)) (hx:Ext w w'):∀ j u,(Lg.cs a v.log).toList[j]?=some u→w'.cell? ⟨p,6+j,none⟩=some u :=
 cells_mid (cs:=Lg.cs a v.log) (hx.box hb) [.int .i64 v.kind, .int .i64 v.frm, .int .i64 v.view, .int .i64 v.normal, .int .i64 v.op, .int .i64 v.commit] [] rfl rfl
theorem bestLog_at2 {l:List Vt} {b:Nat} (h:bestL l=b) (hb:b < l.length):bestLog l=l[b].log:=by
 unfold bestLog
 rw [h]
 simp [hb]
theorem kq_at2 {qs:List VtE} {l:List Vt} (he:qs.map Prod.snd=l) {k:Nat} (hk:k < qs.length):∃ h:k < l.length,l[k]=qs[k].2:=by
 have hl:l.length=qs.length:=by rw [←he,List.length_map]
 exact ⟨by omega,by simp [←he]⟩
set_option maxRecDepth 100000 in
set_option maxHeartbeats 16000000 in
theorem c_l7Start (B:Nat) (a:LAd) (A:Option Addr) (c:Nat) (qs:List VtE) (R:Rp) (w:World) (hF:RpF w B a A c qs R) (ht:RpT R) (hc:0 < cntV 6 R.votes) :
  Calls Tryz.prog 94 #[Rp.val a A qs.length c R] w fun e w'=>(∃ a' g A' c' os,e = .returned (.tuple #[Rp.val a' (some ⟨g,0,none⟩) 0 0 (startX R), .slice A' (List.length os) c'])∧RpF w' w.heap.size a' (some ⟨g,0,none⟩) 0 [] (startX R)∧OsK w' w.heap.size A' c' os∧List.map Prod.snd os=allTo R.me (startM (startX R)) R.of.toNat)∧Ext w w':=by
 have hL:R.votes.length=qs.length:=by rw [←hF.e,List.length_map]
 have hv20:=ht.votes
 obtain ⟨b,hb,hbl⟩:=best_there hv20 (fun v hv=>(ht.vok v hv).1) hc
 have hbq:b < qs.length:=by omega
 have X0:Ext w ((w.alloc (Rp.obj a A qs.length c R)).alloc Rp.zobj):=ext_to (ext_alloc _ _) _
 obtain ⟨ab,ao,hA,hrow⟩:=row_vote (hF.keep X0).v.1 hbq
 have HA:=Hd hA
 have HSl:=Hd (show (Value.slice A qs.length c) = .slice (some ⟨ab,ao,none⟩) qs.length c by rw [hA])
 have D1:=Hd (hOld (o:=Rp.zobj) (hNew (w:=w) (o:=Rp.obj a A qs.length c R) rfl))
 have D2:=Hd (hNew (w:=w.alloc (Rp.obj a A qs.length c R)) (o:=Rp.zobj) (k:=w.heap.size+1) (by simp))
 have HX0:=Hd X0
 have HF:=Hd (hF.keep X0)
 have hq20:qs.length≤20:=by omega
 have HE:=Hd (fun k (h:k < qs.length)=>kq_at2 hF.e h)
 have HS:=Hd (show LgS qs from fun q hq=>logOk_small (ht.vok q.2 (by rw [←hF.e];exact List.mem_map_of_mem hq)).1)
 have HVk:=Hd (show VsOk qs from fun q hq=>(ht.vok q.2 (by rw [←hF.e];exact List.mem_map_of_mem hq)).1)
 have HBB:=Hd (show onat (bTo qs qs.length)=(b:Int) by rw [←bestV_ok hq20 HVk.out,bestV_L hF.e,hb])
 have HBL:=Hd (show bestLog R.votes=R.votes[b].log from bestLog_at2 hb hbl)
 have hlok:=ht.vok _ (List.getElem_mem hbl)
 obtain ⟨hb2,hbe⟩:=HE.out b hbq
 have HBE:=Hd hbe
 rw [hbe] at hlok
 have HLok:=Hd hlok.1
 have HT:=Hd ht
 have HOf:=Hd ht.of
 have HRow:=Hd hrow
 clear X0 hF ht hbe hb hlok hrow hA
 go_enter Tryz.func94,Tryz.ntmps94
 go_wp2
 have HBv:=Hd (show ∀ W,Ext ((w.alloc (Rp.obj a A qs.length c R)).alloc Rp.zobj) W→Calls Tryz.prog 133 #[.slice (some ⟨ab,ao,none⟩) qs.length c] W fun e w'=>e = .returned (.int .i64 (b:Int))∧Ext W w' from fun W h=>by
  have h5:=c_l7Best A c qs W (HF.out.keep h).rd.v HS.out hq20 HVk.out
  rw [HBB.out,HSl.out] at h5
  exact h5)
 (refine Rm.wp_region_mix' (R:=relE ((w.alloc (Rp.obj a A qs.length c R)).alloc Rp.zobj).heap.size) (fun _ _ _=>True) (fun _ _ _ _ _ hq=>hq) 8 (by first | exact Nat.le_refl _ | omega | (simp;omega)) (by kernel_rfl) (by kernel_rfl) ?_;simp only [Tc,Tz,Dc,Dz])
 (iterate 1 (refine Rm.wpMix_plain rfl rfl ?_;go_big_quiet_step (fail);refine wpQuiet_nil ?_))
 (refine Rm.wpMix_load1 (fun W9' h9=>show W9'.cell? _=some (.slice (some ⟨ab,ao,none⟩) qs.length c) from (show W9'.cell? _=some (.slice A qs.length c) from bx_cell (Ext.box h9 D1.out) 10).trans (congrArg some HSl.out)) rfl rfl rfl Tryz.underlying31 rfl ?_;simp only [Act.put,Sa,Sz,Ss])
 (iterate 1 (refine Rm.wpMix_plain rfl rfl ?_;go_big_quiet_step (fail);refine wpQuiet_nil ?_))
 (refine Rm.wpMix_load1 (fun W9' h9=>show W9'.cell? _=some (.slice (some ⟨ab,ao,none⟩) qs.length c) from (show W9'.cell? _=some (.slice A qs.length c) from bx_cell (Ext.box h9 D1.out) 10).trans (congrArg some HSl.out)) rfl rfl rfl Tryz.underlying31 rfl ?_;simp only [Act.put,Sa,Sz,Ss])
 (refine Rm.wpMix_det rfl rfl rfl (enters Tryz.func133 (by kernel_rfl) rfl) (fun W9' h9=>HBv.out W9' h9) rfl ?_;simp only [Act.put,Sa,Sz,Ss])
 (iterate 1 (refine Rm.wpMix_plain rfl rfl ?_;go_big_quiet_step (fail);refine wpQuiet_nil ?_))
 (refine Rm.wpMix_loadAgg (fun W9' h9=>HRow.out W9' h9) rfl rfl rfl Tryz.underlying57 (by kernel_rfl) ?_;simp only [Act.put,Sa,Sz,Ss])
 (refine Rm.wpMix_alloc (vtZ) rfl (fun W=>by kernel_rfl) ?_;intro p5 hp5 hps5 hpi5;simp only [layVal,Act.put,Sa,Sz,Ss])
 refine Rm.wpMix_nil ?_
 rintro w2 ⟨h2,hz2⟩
 have x2:Ext ((w.alloc (Rp.obj a A qs.length c R)).alloc Rp.zobj) w2:=h2
 have hp5':((w.alloc (Rp.obj a A qs.length c R)).alloc Rp.zobj).heap.size≤p5:=hp5
 simp only [sz_alloc] at hp5'
 have HZ2:=Hd hz2
 have X2:=Hd x2
 clear h2 hz2 x2 hp5 hps5 hpi5 HRow HBv
 (go_wp2_with (with_reducible refine wl_stopS 57 ?_);refine stop_store (p5) (Vt.cs2 qs[b].1 qs[b].2) rfl rfl (HZ2.out) (by kernel_rfl) rfl (by simp [Value.oneCell']) ?_)
 intro w3 e3 k3
 have x3:Ext ((w.alloc (Rp.obj a A qs.length c R)).alloc Rp.zobj) w3:=ext_chg X2.out k3 (fun g hg=>by rw [Mi] at hg;simp only [sz_alloc];omega)
 have E5:=Hd e3
 have E1:=Hd (x3.box D1.out)
 have E2:=Hd (x3.box D2.out)
 have HF3:=Hd (HF.out.keep x3)
 have X3:=Hd (Ext.trans HX0.out x3)
 clear e3 k3 x3 X2 HZ2 D1 D2 HF HX0
 simp only [Act.put,Sa,Sz,Ss]
 go_wp2
 go_loopw [5,6] (fun n i wr=>∃ k:Nat,k≤qs.length∧i = .int .i64 k∧n = .int .i64 (maxDo R.votes k)∧Ext w3 wr) (fun _ i _=>qs.length - (intOf i).toNat)
 case atStart=>exact ⟨0,Nat.zero_le _,rfl,rfl,ext_refl _⟩
 case round =>
  obtain ⟨k,hk,rfl,rfl,X⟩:=hrel
  have d1:=bx_cell (X.box E1.out)
  have z1:=bx_lt (X.box E1.out)
  by_cases hlt:k < qs.length
  ·obtain ⟨ab',ao',hA',hab,a0,a1,a2,a3,a4,a5,a6,a7,a8,a9⟩:=(HF3.out.keep X).v.1.atVtE hlt
   obtain ⟨h2,h3⟩:=HE.out k hlt
   have hSl':(Value.slice A qs.length c) = .slice (some ⟨ab',ao',none⟩) qs.length c:=by rw [hA']
   rw [hSl'] at d1
   clear hA' hSl'
   cases g1:(qs[k].2.kind == 6)
   ·have HN:=Hd (show maxDo R.votes (k+1)=maxDo R.votes k by rw [maxDo_next h2,h3,g1];rfl)
    clear h3
    go_wp2
    go_roundw
    case rel=>exact ⟨k+1,by omega,by go_num,by rw [HN.out],X⟩
    case measure=>simp [intOf] <;> omega
   ·have HN:=Hd (show maxDo R.votes (k+1)=max (maxDo R.votes k) qs[k].2.commit by rw [maxDo_next h2,h3,g1];rfl)
    clear h3
    go_wp2_with fail
    refine (c_l1Max (maxDo R.votes k) qs[k].2.commit _).mono ?_
    rintro e wy ⟨rfl,y⟩
    have HY:=Hd (Ext.trans X y)
    clear y a0 a1 a2 a3 a4 a5 a6 a7 a8 a9 d1 z1
    go_wp2
    go_roundw
    case rel=>exact ⟨k+1,by omega,by go_num,by rw [HN.out],HY.out⟩
    case measure=>simp [intOf] <;> omega
  ·obtain rfl:k=qs.length:=by omega
   have f1:=bx_frozen (X.box E1.out)
   have c1:=chg_set (chg_set (Chg.refl wr [w.heap.size]) (p:=⟨w.heap.size,2,none⟩) (by simp) (.int .i64 1)) (p:=⟨w.heap.size,4,none⟩) (by simp) (.int .i64 R.view)
   have P1:=box_put (box_put (X.box E1.out) 2 (.int .i64 1)) 4 (.int .i64 R.view)
   simp only [Sa,Sz,Ss] at P1
   have HP1:=Hd P1
   have HQ1:=Hd (box_out' (X.box E5.out) c1 (by simp;omega))
   have HZ1:=Hd (box_out' (X.box E2.out) c1 (by simp))
   have HL1:=Hd ((HF3.out.keep X).vl _ (List.getElem_mem hbq) |>.boxed (X.box E1.out) (by decide) (by decide) (by decide) c1)
   have HX1:=Hd (chg_new (Ext.trans X3.out X) c1 (Nat.le_refl _))
   clear c1 P1 X E1 E2 E5 HF3 X3
   go_wp2_with (with_reducible refine wl_stop 41 ?_)
   refine stop_go (F:=fun W=>W.heap[w.heap.size]?=some (Rp.obj a A qs.length c ⟨R.me,R.of,1,R.view,R.view,R.commit,R.log,R.votes,R.cell,R.nonce⟩)∧W.heap[p5]?=some (Vt.obj qs[b].1 qs[b].2)∧W.heap[w.heap.size+1]?=some Rp.zobj∧LgF W B qs[b].1 qs[b].2.log∧Ext w W) ⟨HP1.out,HQ1.out,HZ1.out,HL1.out,HX1.out⟩ ?_
   intro W4 ⟨e1,e5,z2,l4,x4⟩
   have E1:=Hd e1
   have E5:=Hd e5
   have Z4:=Hd z2
   have L4:=Hd l4
   have X4:=Hd x4
   have hz4:=bx_lt z2
   clear e1 e5 z2 l4 x4 HP1 HQ1 HZ1 HL1 HX1 d1 z1 f1
   (go_wp2_with (with_reducible refine wl_stop 41 ?_);refine stop_loadAgg (vt_log2 E5.out (ext_refl _)) rfl Tryz.underlying30 (by kernel_rfl) ?_;simp only [Act.put,Sa,Sz,Ss])
   go_wp2_with fail
   refine (c_l3Copy qs[b].1 qs[b].2.log (logOk_small HLok.out) _ L4.out.rd).mono ?_
   rintro e w5 ⟨a4,rfl,f4,x5⟩
   have B5:=x5.box E1.out
   have b5:=bx_cell B5
   have g5:=bx_frozen B5
   have y5:=bx_lt B5
   have P5:=box_put (box_put (box_put (box_put B5 6 (.int .i64 qs[b].2.log.base)) 7 (.slice a4.cA qs[b].2.log.cells.length a4.cc)) 8 (.slice a4.sA qs[b].2.log.seats.length a4.sc)) 9 (.slice a4.eA qs[b].2.log.ents.length a4.ec)
   simp only [Sa,Sz,Ss] at P5
   have c5:=chg_set (chg_set (chg_set (chg_set (Chg.refl w5 [w.heap.size]) (p:=⟨w.heap.size,6,none⟩) (by simp) (.int .i64 qs[b].2.log.base)) (p:=⟨w.heap.size,7,none⟩) (by simp) (.slice a4.cA qs[b].2.log.cells.length a4.cc)) (p:=⟨w.heap.size,8,none⟩) (by simp) (.slice a4.sA qs[b].2.log.seats.length a4.sc)) (p:=⟨w.heap.size,9,none⟩) (by simp) (.slice a4.eA qs[b].2.log.ents.length a4.ec)
   have HP5:=Hd P5
   have HF5:=Hd ((f4.less (B':=w.heap.size+1+1) (by omega)).chg c5 (fun k hk=>by rw [Mi] at hk;omega))
   have HZ5:=Hd (box_out' (x5.box Z4.out) c5 (by simp))
   have HX5:=Hd (chg_new (Ext.trans X4.out x5) c5 (Nat.le_refl _))
   clear B5 P5 c5 f4 x5 E1 E5 Z4 L4 X4
   go_wp2_with (with_reducible refine wl_stop 46 ?_)
   refine stop_go (F:=fun W=>W.heap[w.heap.size]?=some (Rp.obj a4 A qs.length c ⟨R.me,R.of,1,R.view,R.view,R.commit,qs[b].2.log,R.votes,R.cell,R.nonce⟩)∧LgF W (w.heap.size+1+1) a4 qs[b].2.log∧W.heap[w.heap.size+1]?=some Rp.zobj∧Ext w W) ⟨HP5.out,HF5.out,HZ5.out,HX5.out⟩ ?_
   intro W6 ⟨e1,l6,z2,x6⟩
   have E6:=Hd e1
   have L6:=Hd l6
   have Z6:=Hd z2
   have X6:=Hd x6
   clear e1 l6 z2 x6 HP5 HF5 HZ5 HX5 b5 g5 y5
   (go_wp2_with (with_reducible refine wl_stop 46 ?_);refine stop_loadAgg (rp_log E6.out (ext_refl _)) rfl Tryz.underlying30 (by kernel_rfl) ?_;simp only [Act.put,Sa,Sz,Ss])
   go_wp2_with fail
   refine (c_sLogEnd a4 qs[b].2.log (logOk_small HLok.out).1 (logOk_small HLok.out).2.1 (logOk_small HLok.out).2.2 _ L6.out.rd HLok.out).mono ?_
   rintro e v1 ⟨rfl,y1⟩
   go_wp2_with fail
   refine (c_l1Min (maxDo R.votes qs.length) qs[b].2.log.fin _).mono ?_
   rintro e v2 ⟨rfl,y2⟩
   have y12:=Ext.trans y1 y2
   have v2_E1:=Hd (y12.box E6.out)
   have v2_F:=Hd (L6.out.keep y12)
   have v2_Z:=Hd (y12.box Z6.out)
   have v2_X:=Hd (Ext.trans X6.out y12)
   clear y1 y2 y12 E6 L6 Z6 X6
   cases g1:(R.of == 1)
   ·have HSX:=Hd (show (⟨R.me,R.of,1,R.view,R.view,(min (maxDo R.votes qs.length) qs[b].2.log.fin),qs[b].2.log,[],R.cell,R.nonce⟩:Rp)=startX R by
     unfold startX newC Rp.lead
     rw [HBL.out,HBE.out,g1,HT.out.cell,hL];rfl)
    have E6:=v2_E1.out
    have b6:=bx_cell E6
    have g6:=bx_frozen E6
    have z6:=bx_lt E6
    have P6:=box_put (box_put E6 5 (.int .i64 (min (maxDo R.votes qs.length) qs[b].2.log.fin))) 10 (.slice (some ⟨v2.heap.size,0,none⟩) 0 0)
    simp only [Sa,Sz,Ss] at P6
    have c6:=chg_set (chg_set (Chg.refl v2 [w.heap.size]) (p:=⟨w.heap.size,5,none⟩) (by simp) (.int .i64 (min (maxDo R.votes qs.length) qs[b].2.log.fin))) (p:=⟨w.heap.size,10,none⟩) (by simp) (.slice (some ⟨v2.heap.size,0,none⟩) 0 0)
    obtain ⟨G9,hG9⟩:∃ G9,G9=v2.heap.size:=⟨_,rfl⟩
    have HPX:=Hd (hOld (o := .cells #[] 57) (show _=some (Rp.obj a4 (some ⟨G9,0,none⟩) 0 0 (startX R)) by rw [hG9,←HSX.out];exact P6))
    have HFX:=Hd ((v2_F.out.chg c6 (fun k hk=>by rw [Mi] at hk;omega)).keep (ext_alloc _ (.cells #[] 57)))
    have HZX:=Hd (hOld (o := .cells #[] 57) (box_out' v2_Z.out c6 (by simp)))
    have HXX:=Hd (Ext.trans (chg_new v2_X.out c6 (Nat.le_refl _)) (ext_alloc _ (.cells #[] 57)))
    clear E6 P6 c6 hG9 v2_E1 v2_F v2_Z v2_X
    go_wp2
    refine code_go (F:=fun W=>W.heap[w.heap.size]?=some (Rp.obj a4 (some ⟨G9,0,none⟩) 0 0 (startX R))∧LgF W (w.heap.size+1+1) a4 qs[b].2.log∧W.heap[w.heap.size+1]?=some Rp.zobj∧Ext w W) ⟨HPX.out,HFX.out,HZX.out,HXX.out⟩ ?_
    clear b6 g6 z6
    intro W8 ⟨e8,f8,z8,x8⟩
    obtain ⟨X,hX⟩:∃ X,startX R=X:=⟨_,rfl⟩
    have hXo:X.of=R.of:=by rw [←hX];rfl
    have hXm:X.me=R.me:=by rw [←hX];rfl
    have hXl:X.log=qs[b].2.log:=by rw [←hX];show bestLog R.votes=_;rw [HBL.out,HBE.out]
    rw [←hXl] at f8
    rw [hX] at e8
    have E8:=Hd e8
    have F8:=Hd f8
    have Z8:=Hd z8
    have X8:=Hd x8
    have hq9:w.heap.size+1 < W8.heap.size:=bx_lt z8
    have hN:X.of=(R.of.toNat:Int):=by rw [hXo];have:=HOf.out;omega
    have HXs:=Hd (show X.log.small by rw [hXl];exact logOk_small HLok.out)
    have HXm:=Hd hXm
    have HX:=Hd hX
    have HN:=Hd hN
    clear e8 f8 z8 x8 hX hXo hXm hXl hN HPX HFX HZX HXX
    have HW1:=Hd (fun W' (h:(relS (w.heap.size+1) (.cells (Rp.cs a4 (some ⟨G9,0,none⟩) 0 0 X) 33) W8.heap.size hq9).rel W8 W')=>cells_mid (cs:=Rp.cs a4 (some ⟨G9,0,none⟩) 0 0 X) (relS_box E8.out (by omega) W' h) [] [] rfl rfl)
    have HWL:=Hd (fun W' (h:(relS (w.heap.size+1) (.cells (Rp.cs a4 (some ⟨G9,0,none⟩) 0 0 X) 33) W8.heap.size hq9).rel W8 W')=>cells_mid (cs:=Lg.cs a4 X.log) (relS_box E8.out (by omega) W' h) [.int .i64 X.me, .int .i64 X.of, .int .i64 X.mode, .int .i64 X.view, .int .i64 X.normal, .int .i64 X.commit] [.slice (some ⟨G9,0,none⟩) 0 0, .int .i64 X.cell, .int .i64 X.nonce] rfl rfl)
    (refine Rm.wp_region_mix' (R:=relS (w.heap.size+1) (.cells (Rp.cs a4 (some ⟨G9,0,none⟩) 0 0 X) 33) W8.heap.size hq9) (stored (w.heap.size+1) (.cells (Rp.cs a4 (some ⟨G9,0,none⟩) 0 0 X) 33)) (fun _ _ _ _ _ hq=>hq) 13 (by first | exact Nat.le_refl _ | omega | (simp;omega)) (by kernel_rfl) (by kernel_rfl) ?_;simp only [Tc,Tz,Dc,Dz])
    (refine Rm.wpMix_loadAgg (HW1.out) rfl rfl rfl Tryz.underlying33 (by kernel_rfl) ?_;simp only [Act.put,Sa,Sz,Ss])
    (refine Rm.wpMix_loadAgg (HW1.out) rfl rfl rfl Tryz.underlying33 (by kernel_rfl) ?_;simp only [Act.put,Sa,Sz,Ss])
    ((iterate 1 (refine Rm.wpMix_plain rfl rfl ?_;go_big_quiet_step (fail);refine wpQuiet_nil ?_));(refine Rm.wpMix_load1 (fun W9' h9=>show W9'.cell? _=some (.int .i64 X.me) from bx_cell (relS_box E8.out (by omega) W9' h9) 0) rfl rfl rfl Tryz.underlying3 rfl ?_;simp only [Act.put,Sa,Sz,Ss]);(iterate 1 (refine Rm.wpMix_plain rfl rfl ?_;go_big_quiet_step (fail);refine wpQuiet_nil ?_));(refine Rm.wpMix_load1 (fun W9' h9=>show W9'.cell? _=some (.int .i64 X.view) from bx_cell (relS_box E8.out (by omega) W9' h9) 3) rfl rfl rfl Tryz.underlying3 rfl ?_;simp only [Act.put,Sa,Sz,Ss]);(iterate 1 (refine Rm.wpMix_plain rfl rfl ?_;go_big_quiet_step (fail);refine wpQuiet_nil ?_));(refine Rm.wpMix_load1 (fun W9' h9=>show W9'.cell? _=some (.int .i64 X.commit) from bx_cell (relS_box E8.out (by omega) W9' h9) 5) rfl rfl rfl Tryz.underlying3 rfl ?_;simp only [Act.put,Sa,Sz,Ss]);(iterate 1 (refine Rm.wpMix_plain rfl rfl ?_;go_big_quiet_step (fail);refine wpQuiet_nil ?_)))
    (refine Rm.wpMix_loadAgg (HWL.out) rfl rfl rfl Tryz.underlying30 (by kernel_rfl) ?_;simp only [Act.put,Sa,Sz,Ss])
    (iterate 1 (refine Rm.wpMix_plain rfl rfl ?_;go_big_quiet_step (fail);refine wpQuiet_nil ?_))
    refine Rm.wpMix_call (OsV W8.heap.size (allTo X.me (startM X) R.of.toNat)) rfl rfl rfl (enters Tryz.func51 (by kernel_rfl) rfl) (OsV.mono _ _ _ _ _) (fun W' hW'=>(c_l6All a4 (some ⟨G9,0,none⟩) 0 0 X a4 (startM X) W' R.of.toNat HN.out (by have:=HOf.out;omega) (F8.out.chg hW'.1 (fun k hk=>by rw [Mi] at hk;omega)).rd HXs.out).mono fun e w' ⟨A',c',os,he,hmap,ho,hf,hx⟩=>⟨_,he,⟨A',c',os,rfl,hmap,ho.less hW'.1.size,fun p hp=>(hf p hp).less hW'.1.size⟩,Rm.Rel.ext _ _ _ hx⟩) rfl (fun v6 hv6=>?_)
    obtain ⟨_,_,A6,c6,os6,rfl,_⟩:=hv6
    simp only [Act.put,Sa,Sz,Ss]
    refine wpMix_st Z8.out rfl rfl rfl rfl rfl (by kernel_rfl) rfl (by simp [Value.oneCell']) ?_
    simp only [Act.put,Sa,Sz,Ss]
    refine Rm.wpMix_nil ?_
    rintro W9 ⟨⟨h9,hv9⟩,e9⟩
    have c9:=h9.1
    have HE9:=Hd e9
    obtain ⟨os9,hl9,hO9,hk9⟩:=hv9.inv
    have HX9:=Hd (ext_chg X8.out c9 (fun g hg=>by rw [Mi] at hg;omega))
    have HF9:=Hd ((F8.out.chg c9 (fun k hk=>by rw [Mi] at hk;omega)).less (B':=w.heap.size) (by omega))
    have HK9:=Hd (hk9.less (B':=w.heap.size) X8.out.size)
    have HL9:=Hd hl9
    have HO9:=Hd hO9
    clear c9 h9 e9 hv9 hl9 hO9 hk9
    go_wp2
    refine bodyPost_ret (results_box2 Tryz.results94 rfl rfl Tryz.underlying33 (by kernel_rfl) HE9.out) rfl ⟨⟨a4,G9,A6,c6,os9, ?_, ?_,HK9.out, ?_⟩,HX9.out⟩
    ·rw [HX.out,HL9.out]
     rfl
    ·rw [HX.out]
     exact ⟨HF9.out,⟨⟨Nat.le_refl _,by unfold maxLen;omega,fun h=>absurd h (by simp)⟩,fun h=>absurd h (by simp)⟩,fun p hp=>(List.not_mem_nil hp).elim,by rw [←HX.out];rfl⟩
    ·rw [HX.out,←HXm.out]
     exact HO9.out
   ·have HSX:=Hd (show (⟨R.me,R.of,1,R.view,R.view,qs[b].2.log.fin,qs[b].2.log,[],R.cell,R.nonce⟩:Rp)=startX R by
     unfold startX newC Rp.lead
     rw [HBL.out,HBE.out,g1,HT.out.cell]
     simp)
    have E7:=v2_E1.out
    have b7:=bx_cell E7
    have g7:=bx_frozen E7
    have z7:=bx_lt E7
    have P7:=box_put E7 5 (.int .i64 (min (maxDo R.votes qs.length) qs[b].2.log.fin))
    simp only [Sa,Sz,Ss] at P7
    have c7:=chg_set (Chg.refl v2 [w.heap.size]) (p:=⟨w.heap.size,5,none⟩) (by simp) (.int .i64 (min (maxDo R.votes qs.length) qs[b].2.log.fin))
    have HP7:=Hd P7
    have HF7:=Hd (v2_F.out.chg c7 (fun k hk=>by rw [Mi] at hk;omega))
    have HZ7:=Hd (box_out' v2_Z.out c7 (by simp))
    have HX7:=Hd (chg_new v2_X.out c7 (Nat.le_refl _))
    clear E7 P7 c7 v2_E1 v2_F v2_Z v2_X
    go_wp2_with (with_reducible refine wl_stop 54 ?_)
    refine stop_go (F:=fun W=>W.heap[w.heap.size]?=some (Rp.obj a4 A qs.length c ⟨R.me,R.of,1,R.view,R.view,(min (maxDo R.votes qs.length) qs[b].2.log.fin),qs[b].2.log,R.votes,R.cell,R.nonce⟩)∧LgF W (w.heap.size+1+1) a4 qs[b].2.log∧W.heap[w.heap.size+1]?=some Rp.zobj∧Ext w W) ⟨HP7.out,HF7.out,HZ7.out,HX7.out⟩ ?_
    intro W6 ⟨e1,l6,z2,x6⟩
    have E6:=Hd e1
    have L6:=Hd l6
    have Z6:=Hd z2
    have X6:=Hd x6
    clear e1 l6 z2 x6 HP7 HF7 HZ7 HX7 b7 g7 z7
    (go_wp2_with (with_reducible refine wl_stop 54 ?_);refine stop_loadAgg (rp_log E6.out (ext_refl _)) rfl Tryz.underlying30 (by kernel_rfl) ?_;simp only [Act.put,Sa,Sz,Ss])
    go_wp2_with fail
    refine (c_sLogEnd a4 qs[b].2.log (logOk_small HLok.out).1 (logOk_small HLok.out).2.1 (logOk_small HLok.out).2.2 _ L6.out.rd HLok.out).mono ?_
    rintro e v3 ⟨rfl,y1⟩
    have v3_E1:=Hd (y1.box E6.out)
    have v3_F:=Hd (L6.out.keep y1)
    have v3_Z:=Hd (y1.box Z6.out)
    have v3_X:=Hd (Ext.trans X6.out y1)
    clear y1 E6 L6 Z6 X6
    have E6:=v3_E1.out
    have b6:=bx_cell E6
    have g6:=bx_frozen E6
    have z6:=bx_lt E6
    have P6:=box_put (box_put E6 5 (.int .i64 qs[b].2.log.fin)) 10 (.slice (some ⟨v3.heap.size,0,none⟩) 0 0)
    simp only [Sa,Sz,Ss] at P6
    have c6:=chg_set (chg_set (Chg.refl v3 [w.heap.size]) (p:=⟨w.heap.size,5,none⟩) (by simp) (.int .i64 qs[b].2.log.fin)) (p:=⟨w.heap.size,10,none⟩) (by simp) (.slice (some ⟨v3.heap.size,0,none⟩) 0 0)
    obtain ⟨G9,hG9⟩:∃ G9,G9=v3.heap.size:=⟨_,rfl⟩
    have HPX:=Hd (hOld (o := .cells #[] 57) (show _=some (Rp.obj a4 (some ⟨G9,0,none⟩) 0 0 (startX R)) by rw [hG9,←HSX.out];exact P6))
    have HFX:=Hd ((v3_F.out.chg c6 (fun k hk=>by rw [Mi] at hk;omega)).keep (ext_alloc _ (.cells #[] 57)))
    have HZX:=Hd (hOld (o := .cells #[] 57) (box_out' v3_Z.out c6 (by simp)))
    have HXX:=Hd (Ext.trans (chg_new v3_X.out c6 (Nat.le_refl _)) (ext_alloc _ (.cells #[] 57)))
    clear E6 P6 c6 hG9 v3_E1 v3_F v3_Z v3_X
    go_wp2
    refine code_go (F:=fun W=>W.heap[w.heap.size]?=some (Rp.obj a4 (some ⟨G9,0,none⟩) 0 0 (startX R))∧LgF W (w.heap.size+1+1) a4 qs[b].2.log∧W.heap[w.heap.size+1]?=some Rp.zobj∧Ext w W) ⟨HPX.out,HFX.out,HZX.out,HXX.out⟩ ?_
    clear b6 g6 z6
    intro W8 ⟨e8,f8,z8,x8⟩
    obtain ⟨X,hX⟩:∃ X,startX R=X:=⟨_,rfl⟩
    have hXo:X.of=R.of:=by rw [←hX];rfl
    have hXm:X.me=R.me:=by rw [←hX];rfl
    have hXl:X.log=qs[b].2.log:=by rw [←hX];show bestLog R.votes=_;rw [HBL.out,HBE.out]
    rw [←hXl] at f8
    rw [hX] at e8
    have E8:=Hd e8
    have F8:=Hd f8
    have Z8:=Hd z8
    have X8:=Hd x8
    have hq9:w.heap.size+1 < W8.heap.size:=bx_lt z8
    have hN:X.of=(R.of.toNat:Int):=by rw [hXo];have:=HOf.out;omega
    have HXs:=Hd (show X.log.small by rw [hXl];exact logOk_small HLok.out)
    have HXm:=Hd hXm
    have HX:=Hd hX
    have HN:=Hd hN
    clear e8 f8 z8 x8 hX hXo hXm hXl hN HPX HFX HZX HXX
    have HW1:=Hd (fun W' (h:(relS (w.heap.size+1) (.cells (Rp.cs a4 (some ⟨G9,0,none⟩) 0 0 X) 33) W8.heap.size hq9).rel W8 W')=>cells_mid (cs:=Rp.cs a4 (some ⟨G9,0,none⟩) 0 0 X) (relS_box E8.out (by omega) W' h) [] [] rfl rfl)
    have HWL:=Hd (fun W' (h:(relS (w.heap.size+1) (.cells (Rp.cs a4 (some ⟨G9,0,none⟩) 0 0 X) 33) W8.heap.size hq9).rel W8 W')=>cells_mid (cs:=Lg.cs a4 X.log) (relS_box E8.out (by omega) W' h) [.int .i64 X.me, .int .i64 X.of, .int .i64 X.mode, .int .i64 X.view, .int .i64 X.normal, .int .i64 X.commit] [.slice (some ⟨G9,0,none⟩) 0 0, .int .i64 X.cell, .int .i64 X.nonce] rfl rfl)
    (refine Rm.wp_region_mix' (R:=relS (w.heap.size+1) (.cells (Rp.cs a4 (some ⟨G9,0,none⟩) 0 0 X) 33) W8.heap.size hq9) (stored (w.heap.size+1) (.cells (Rp.cs a4 (some ⟨G9,0,none⟩) 0 0 X) 33)) (fun _ _ _ _ _ hq=>hq) 13 (by first | exact Nat.le_refl _ | omega | (simp;omega)) (by kernel_rfl) (by kernel_rfl) ?_;simp only [Tc,Tz,Dc,Dz])
    (refine Rm.wpMix_loadAgg (HW1.out) rfl rfl rfl Tryz.underlying33 (by kernel_rfl) ?_;simp only [Act.put,Sa,Sz,Ss])
    (refine Rm.wpMix_loadAgg (HW1.out) rfl rfl rfl Tryz.underlying33 (by kernel_rfl) ?_;simp only [Act.put,Sa,Sz,Ss])
    ((iterate 1 (refine Rm.wpMix_plain rfl rfl ?_;go_big_quiet_step (fail);refine wpQuiet_nil ?_));(refine Rm.wpMix_load1 (fun W9' h9=>show W9'.cell? _=some (.int .i64 X.me) from bx_cell (relS_box E8.out (by omega) W9' h9) 0) rfl rfl rfl Tryz.underlying3 rfl ?_;simp only [Act.put,Sa,Sz,Ss]);(iterate 1 (refine Rm.wpMix_plain rfl rfl ?_;go_big_quiet_step (fail);refine wpQuiet_nil ?_));(refine Rm.wpMix_load1 (fun W9' h9=>show W9'.cell? _=some (.int .i64 X.view) from bx_cell (relS_box E8.out (by omega) W9' h9) 3) rfl rfl rfl Tryz.underlying3 rfl ?_;simp only [Act.put,Sa,Sz,Ss]);(iterate 1 (refine Rm.wpMix_plain rfl rfl ?_;go_big_quiet_step (fail);refine wpQuiet_nil ?_));(refine Rm.wpMix_load1 (fun W9' h9=>show W9'.cell? _=some (.int .i64 X.commit) from bx_cell (relS_box E8.out (by omega) W9' h9) 5) rfl rfl rfl Tryz.underlying3 rfl ?_;simp only [Act.put,Sa,Sz,Ss]);(iterate 1 (refine Rm.wpMix_plain rfl rfl ?_;go_big_quiet_step (fail);refine wpQuiet_nil ?_)))
    (refine Rm.wpMix_loadAgg (HWL.out) rfl rfl rfl Tryz.underlying30 (by kernel_rfl) ?_;simp only [Act.put,Sa,Sz,Ss])
    (iterate 1 (refine Rm.wpMix_plain rfl rfl ?_;go_big_quiet_step (fail);refine wpQuiet_nil ?_))
    refine Rm.wpMix_call (OsV W8.heap.size (allTo X.me (startM X) R.of.toNat)) rfl rfl rfl (enters Tryz.func51 (by kernel_rfl) rfl) (OsV.mono _ _ _ _ _) (fun W' hW'=>(c_l6All a4 (some ⟨G9,0,none⟩) 0 0 X a4 (startM X) W' R.of.toNat HN.out (by have:=HOf.out;omega) (F8.out.chg hW'.1 (fun k hk=>by rw [Mi] at hk;omega)).rd HXs.out).mono fun e w' ⟨A',c',os,he,hmap,ho,hf,hx⟩=>⟨_,he,⟨A',c',os,rfl,hmap,ho.less hW'.1.size,fun p hp=>(hf p hp).less hW'.1.size⟩,Rm.Rel.ext _ _ _ hx⟩) rfl (fun v6 hv6=>?_)
    obtain ⟨_,_,A6,c6,os6,rfl,_⟩:=hv6
    simp only [Act.put,Sa,Sz,Ss]
    refine wpMix_st Z8.out rfl rfl rfl rfl rfl (by kernel_rfl) rfl (by simp [Value.oneCell']) ?_
    simp only [Act.put,Sa,Sz,Ss]
    refine Rm.wpMix_nil ?_
    rintro W9 ⟨⟨h9,hv9⟩,e9⟩
    have c9:=h9.1
    have HE9:=Hd e9
    obtain ⟨os9,hl9,hO9,hk9⟩:=hv9.inv
    have HX9:=Hd (ext_chg X8.out c9 (fun g hg=>by rw [Mi] at hg;omega))
    have HF9:=Hd ((F8.out.chg c9 (fun k hk=>by rw [Mi] at hk;omega)).less (B':=w.heap.size) (by omega))
    have HK9:=Hd (hk9.less (B':=w.heap.size) X8.out.size)
    have HL9:=Hd hl9
    have HO9:=Hd hO9
    clear c9 h9 e9 hv9 hl9 hO9 hk9
    go_wp2
    refine bodyPost_ret (results_box2 Tryz.results94 rfl rfl Tryz.underlying33 (by kernel_rfl) HE9.out) rfl ⟨⟨a4,G9,A6,c6,os9, ?_, ?_,HK9.out, ?_⟩,HX9.out⟩
    ·rw [HX.out,HL9.out]
     rfl
    ·rw [HX.out]
     exact ⟨HF9.out,⟨⟨Nat.le_refl _,by unfold maxLen;omega,fun h=>absurd h (by simp)⟩,fun h=>absurd h (by simp)⟩,fun p hp=>(List.not_mem_nil hp).elim,by rw [←HX.out];rfl⟩
    ·rw [HX.out,←HXm.out]
     exact HO9.out
def RvV (B:Nat) (a:LAd) (R:Rp) (v:Value) (W:World):Prop:=∃ A c qs,v=Rp.val a A (List.length qs) c R∧RpF W B a A c qs R
theorem RvV.mono (b B:Nat) (a:LAd) (R:Rp):Rm.Mono (relE b) (RvV B a R):=fun v w w' ⟨A,c,qs,h,hf⟩ hx=>⟨A,c,qs,h,hf.keep hx⟩
theorem RvV.inv {B:Nat} {a:LAd} {R:Rp} {A:Option Addr} {n c:Nat} {W:World} (h:RvV B a R (Rp.val a A n c R) W):∃ qs,n=List.length qs∧RpF W B a A c qs R:=by
 obtain ⟨A',c',qs,he,hf⟩:=h
 simp only [Value.agg.injEq,Array.mk.injEq,List.cons.injEq,Value.slice.injEq,true_and,and_true] at he
 obtain ⟨rfl,rfl,rfl⟩:=he
 exact ⟨qs,rfl,hf⟩
def Oth (w:World) (S:List Nat):Prop:=∀ k∈S,∃ cs t,w.heap[k]?=some (.cells cs t (0,0))∧t≠124∧t≠126∧t≠65∧t≠57
theorem LgF.other {w w':World} {B:Nat} {a:LAd} {l:Lg} {S:List Nat} (h:LgF w B a l) (hg:Chg w w' S) (hS:Oth w S):LgF w' B a l :=
 ⟨h.c.chg Cel.len hg (fun hl x hx hm=>by obtain ⟨cs,t,hb,h1,_,_,_⟩:=hS x hm;exact box_apart hb (h.c.2 hl) h1 hx),
  h.s.chg Sea.len hg (fun hl x hx hm=>by obtain ⟨cs,t,hb,_,h1,_,_⟩:=hS x hm;exact box_apart hb (h.s.2 hl) h1 hx),
  h.e.chg Ent.len hg (fun hl x hx hm=>by obtain ⟨cs,t,hb,_,_,h1,_⟩:=hS x hm;exact box_apart hb (h.e.2 hl) h1 hx)⟩
theorem RpF.other {w w':World} {B:Nat} {a:LAd} {A:Option Addr} {c:Nat} {ps:List VtE} {r:Rp} {S:List Nat} (h:RpF w B a A c ps r) (hg:Chg w w' S) (hS:Oth w S):RpF w' B a A c ps r :=
 ⟨h.l.other hg hS,h.v.chg VtE.len hg (fun hl x hx hm=>by obtain ⟨cs,t,hb,_,_,_,h1⟩:=hS x hm;exact box_apart hb (h.v.2 hl) h1 hx),fun q hq=>(h.vl q hq).other hg hS,h.e⟩
theorem relM_box {p g q:Nat} {obj obj1 o:Obj} {B:Nat} {hp:p < B} {hg:g < B} {w:World} (h:w.heap[q]?=some o) (h1:q≠p) (h2:q≠g):∀ W,(relM p g obj obj1 B hp hg).rel w W→W.heap[q]?=some o :=
 fun W hW=>(hW.1.block q (bx_lt h) (by simp [h1,h2])).trans h
theorem ApV.own {α:Type} {enc:α→List Value} {e:TypeId} {sz g B b0:Nat} {obj1:Obj} {l:List α} {A:Option Addr} {n c:Nat} {W:World} (h:ApV enc e sz g obj1 B b0 l (.slice A n c) W):Ow enc e sz W b0 (.slice A l.length c) l:=by
 obtain ⟨A',c',he,ho,_⟩:=h
 simp only [Value.slice.injEq] at he
 obtain ⟨rfl,rfl,rfl⟩:=he
 exact ho
theorem outs_plan {w:World} {B:Nat} {A0:Option Addr} {c0:Nat} {os:List OtE} {A:Option Addr} {c:Nat} {om:List OtE} {M p:Nat} {cs:Array Value} (obj:Obj) (hk:OsK w B A0 c0 os) (hm:OsK w M A c om) (hp:w.heap[p]?=some (.cells cs 33 (0,0))) (hpM:p < M) (h0:∀ k∈blk A0,k < M) (hn:os.length+om.length≤1000) (hB:B≤w.heap.size) :
  ∃ g obj1,(g=p→obj1=obj)∧(g=p∨(B≤g∧g∈blk A0))∧∃ hp:p < w.heap.size,∃ hg:g < w.heap.size,∀ W,(relM p g obj obj1 w.heap.size hp hg).rel w W→∃ v W',(Builtin.append_ #[35,35] 35 #[.slice A0 os.length c0, .slice A om.length c]).run Tryz.prog W = .ok v W'∧ApV OtE.enc 117 18 g obj1 w.heap.size B (os++om) v W'∧(relM p g obj obj1 w.heap.size hp hg).rel W W':=by
 obtain ⟨i0,hi,hz0,hz1,hz2⟩:=info_parts Tryz.infoOt
 have hlt:=bx_lt hp
 obtain ⟨g,obj1,h1,h2,hg,h3⟩:=own_plan (P:=Tryz.prog) (enc:=OtE.enc) (w:=w) 35 35 117 i0 Ot.zero 18 192 Tryz.underlying35 hi hz0 hz1 hz2 rfl (by decide) OtE.len OtE.one B A0 c0 os hk.row p obj hlt (box_apart hp hk.row (by decide)) (A:=A) (c:=c) (l:=om) (fun W S hc hS=>(Ow.rdF OtE.len (hm.row.chg hc (fun k hk2 hk3=>by
   have hkM:=(hm.row.inB k hk2).1
   rcases hS k hk3 with e | e
   ·omega
   ·have:=h0 k e;omega))).1) (by unfold maxLen;omega) (by omega) hB
 exact ⟨g,obj1,h1,h2,hlt,hg,h3⟩
theorem outs_oth {w:World} {B:Nat} {A0:Option Addr} {c0:Nat} {os:List OtE} {p g:Nat} {cs:Array Value} (hk:OsK w B A0 c0 os) (hp:w.heap[p]?=some (.cells cs 33 (0,0))) (h:g=p∨(B≤g∧g∈blk A0)):Oth w [p,g]:=by
 have hP:∃ cs t,w.heap[p]?=some (.cells cs t (0,0))∧t≠124∧t≠126∧t≠65∧t≠57:=⟨cs,_,hp,by decide,by decide,by decide,by decide⟩
 intro k hk2
 simp only [List.mem_cons,List.not_mem_nil,or_false] at hk2
 rcases hk2 with rfl | rfl
 ·exact hP
 ·rcases h with rfl | ⟨_,h⟩
  ·exact hP
  ·obtain ⟨cs2,h2⟩:=hk.row.kind k h
   exact ⟨cs2,_,h2,by decide,by decide,by decide,by decide⟩
theorem outs_apart {w:World} {B:Nat} {A0:Option Addr} {c0:Nat} {os:List OtE} {p g q:Nat} {cs:Array Value} (hk:OsK w B A0 c0 os) (hq:w.heap[q]?=some (.cells cs 33 (0,0))) (hqp:q≠p) (h:g=p∨(B≤g∧g∈blk A0)):q≠g:=fun e=>by
 rcases h with rfl | ⟨_,h⟩
 ·exact hqp e
 ·exact box_apart hq hk.row (by decide) (e▸h)
theorem outs_join {w W:World} {B M:Nat} {A0:Option Addr} {c0:Nat} {os:List OtE} {A:Option Addr} {c:Nat} {om:List OtE} {p g:Nat} {obj obj1:Obj} {hp:p < w.heap.size} {hg:g < w.heap.size} {A5:Option Addr} {n5 c5:Nat} (hk:OsK w B A0 c0 os) (hm:OsK w M A c om) (hBM:B≤M) (hO:Oth w [p,g]) (hW:(relM p g obj obj1 w.heap.size hp hg).rel w W) (hv:ApV OtE.enc 117 18 g obj1 w.heap.size B (os++om) (.slice A5 n5 c5) W):OsK W B A5 c5 (os++om) :=
 ⟨hv.own,fun q hq=>by
  rcases List.mem_append.1 hq with hq | hq
  ·exact (hk.logs q hq).other hW.1 hO
  ·exact ((hm.logs q hq).other hW.1 hO).less hBM⟩
def joinΦ (p:Nat) (obj:Obj) (g:Nat) (obj1:Obj) (B b0:Nat) (l:List OtE):Option Tmp→Value→World→Prop
 | none=>fun _ W=>W.heap[p]?=some obj
 | some _=>ApV OtE.enc 117 18 g obj1 B b0 l
theorem rpT_in {r:Rp} (h:RpT r):inB r.view 0 1000000000=true∧ofB r.of=true:=⟨(inB_yes _ _ _).2 ⟨h.view0,h.view1⟩,by have:=h.of;unfold ofB;rcases this with h | h | h <;> rw [h] <;> rfl⟩
theorem look_end {R R1:Rp} {O1:List Ot} (h1:look1 R=R1) (h2:look1O R=O1) (hb:look2B R1=false):lookR R=R1∧lookO R=O1:=by
 unfold lookR lookO
 rw [h1,h2,hb]
 simp
theorem look_start {R R1:Rp} {O1:List Ot} (h1:look1 R=R1) (h2:look1O R=O1) (hb:look2B R1=true):lookR R=startX R1∧lookO R=O1++allTo R1.me (startM (startX R1)) R1.of.toNat:=by
 have h:=look1_id R
 rw [h1] at h
 unfold lookR lookO
 rw [h1,h2,hb,h.1,h.2.1]
 simp
end Go.Proofs.YtikelfmmldafpaaGreat
