/- append of a row that is read to a row of one's own. No program in sight. -/
import Derived.Test.YtckfjploafhenaaGreatPk19
import Derived.Laws.OwnMore
import Derived.Laws.AppendOwn
import Derived.Test.YtckfjploafhenaaGreatPk23
set_option maxRecDepth 100000
set_option maxHeartbeats 16000000
set_option linter.unusedVariables false
set_option linter.unusedSimpArgs false
namespace Go.Proofs.YtckfjploafhenaaGreat
open Go.ChangeShapes Go.WideShapes Go.ChangeAt Go.RowKit Go.Sort
theorem zh4 {P:Program} {w:World} {t ty e:TypeId} {i:TypeInfo} {size base c:Nat} (ht:P.underlying t=some (.slice e)) (hi:P.info? e=some i)
  (v:Value) (n:Nat) (xs:List Value) (hown:w.ownsRow base e size v n xs) :
  (Builtin.append_ #[t,t] ty #[v, .slice none 0 c]).run P w = .ok v w:=by
 rcases hown.2 with ⟨rfl,rfl⟩ | ⟨g,cap,cur,rfl,_,_,hnc,_⟩
 ·simp [Builtin.append_,run_underlying ht,sizeOf,typeInfo,hi,Builtin.lenOf,Builtin.firstCells]
 ·simp [Builtin.append_,run_underlying ht,sizeOf,typeInfo,hi,Builtin.lenOf,Builtin.firstCells,hnc,storeCells]
theorem wp_app {P:Program} {α:Type} {enc:α->List Value} {o:Oper} {a:Act} {w:World} {K:Act->World->Prop} {Q:Exit->Act->World->Prop} (s x:Operand) (t:TypeId)
  (ho:o.op = .call { callee := .builtin .append,args:=#[s,x],argTypes:=#[t,t] })
  (base:Nat) (e:TypeId) (i:TypeInfo) (z:Value) (size bytes:Nat) (ht:P.underlying t=some (.slice e)) (hi:P.info? e=some i) (hz:i.zero=some z)
  (hsize:i.size=size) (hby:i.bytes=bytes) (hzs:z.cells.size=size) (hsz:0 < size) (hlen:∀ x,(enc x).length=size) (hone:∀ x,∀ u∈enc x,u.oneCell'=true)
  (v:Value) (l0:List α) (hs:a.eval s=v) (hown:Ow enc e size w base v l0) (A:Option Addr) (c:Nat) (l:List α) (n:Nat) (hn:n=l.length) (hx:a.eval x = .slice A n c) (hr:Rd enc size w A c l)
  (h63:l0.length+l.length<=maxLen) (hbytes:(l0.length+l.length) * bytes<=140737488355328) (hbase:base<=w.heap.size)
  (h:∀ v' w',Ow enc e size w' base v' (l0++l)->w.grownBy w' v.ownBlock->K (a.put o.dst v') w'):o.wp P a w K Q:=by
 subst hn;cases A with
 | none =>
  have h0:=hr.none_len;obtain rfl:l=[]:=List.eq_nil_of_length_eq_zero h0;have hrun:=zh4 (P:=P) (w:=w) (ty:=o.type) (c:=c) ht hi v _ _ hown;unfold Oper.wp execOp;simp only [ho,resolve,invoke,builtin,Sem.run_bind,Sem.run_pure,Result.andThen_ok,List.map_toArray,List.map_cons,List.map_nil,hs,hx,List.length_nil,hrun];exact h v w (by simpa using hown) (World.grownBy.refl _ _)
 | some ad =>
  refine wp_append_own w s x t ho base e i z size bytes ht hi hz hsize hby hzs hsz v _ _ hs hown ad l.length c (l.flatMap enc) hx (zae hlen l) (hr.flat hsz hlen) (zdr hone l) h63 hbytes hbase (fun v' w' ho' hg _=>h v' w' ?_ hg)
  unfold Ow;rw [List.length_append,List.flatMap_append];exact ho'
theorem zcn {P:Program} {α:Type} {enc:α->List Value} {ops:Array Oper} {rest:List Oper} {o:Oper} {a:Act} {w:World} {Q:Exit->Act->World->Prop} (hgd:o.guard=none) (s x:Operand) (t:TypeId)
  (ho:o.op = .call { callee := .builtin .append,args:=#[s,x],argTypes:=#[t,t] })
  (base:Nat) (e:TypeId) (i:TypeInfo) (z:Value) (size bytes:Nat) (ht:P.underlying t=some (.slice e)) (hi:P.info? e=some i) (hz:i.zero=some z)
  (hsize:i.size=size) (hby:i.bytes=bytes) (hzs:z.cells.size=size) (hsz:0 < size) (hlen:∀ x,(enc x).length=size) (hone:∀ x,∀ u∈enc x,u.oneCell'=true)
  (v:Value) (l0:List α) (hs:a.eval s=v) (hown:Ow enc e size w base v l0) (A:Option Addr) (c:Nat) (l:List α) (n:Nat) (hn:n=l.length) (hx:a.eval x = .slice A n c) (hr:Rd enc size w A c l)
  (h63:l0.length+l.length<=maxLen) (hbytes:(l0.length+l.length) * bytes<=140737488355328) (hbase:base<=w.heap.size)
  (h:∀ v' w',Ow enc e size w' base v' (l0++l)->w.grownBy w' v.ownBlock->wpList P ops Q rest (a.put o.dst v') w'):wpList P ops Q (o::rest) a w :=
 wpList_plain hgd fun _ hK=>wp_app s x t ho base e i z size bytes ht hi hz hsize hby hzs hsz hlen hone v l0 hs hown A c l n hn hx hr h63 hbytes hbase fun v' w' h2 h3=>hK _ _ (h v' w' h2 h3)
theorem zd3 {α:Type} {enc:α->List Value} {e:TypeId} {sz:Nat} {w:World} {p B:Nat} (h:w.heap[p]?=some (.cells #[] e (0,0))) (hB:B<=p):Ow enc e sz w B (.slice (some ⟨p,0,none⟩) 0 0) ([]:List α) :=
 ⟨by simp, .inr ⟨p,0,#[],rfl,hB,h,Nat.le_refl _,by unfold maxLen;omega,by simp,by simp⟩⟩
theorem Rd.take {α:Type} {enc:α->List Value} {sz:Nat} {w:World} {A:Option Addr} {c:Nat} {l:List α} (h:Rd enc sz w A c l) (n:Nat):Rd enc sz w A c (l.take n):=by
 refine ⟨Nat.le_trans (by simp;omega) h.1,h.2.1,fun h0=>?_⟩
 have hl:0 < l.length:=by
  rw [List.length_take] at h0;omega
 obtain ⟨b,o,e,hb,hc⟩:=h.2.2 hl;refine ⟨b,o,e,hb,fun k hk j u hu=>?_⟩
 have hk2:k < l.length:=by rw [List.length_take] at hk;omega
 refine hc k hk2 j u ?_;rw [List.getElem_take] at hu;exact hu
abbrev Vt.obj (a:LAd) (v:Vt):Obj := .cells #[.int .i64 v.kind, .int .i64 v.frm, .int .i64 v.view, .int .i64 v.normal, .int .i64 v.op, .int .i64 v.commit, .int .i64 v.log.base, .slice a.cA v.log.cells.length a.cc, .slice a.sA v.log.seats.length a.sc, .slice a.eA v.log.ents.length a.ec] 45
theorem logOk_b {l:Lg} (h:logOk l=true):0<=l.base/\l.base<=1000000000/\l.ents.length<=60:=by
 have h1:=of_decide_eq_true h
 have:=(zcu _ _ _).1 h1.1
 exact ⟨this.1,this.2,h1.2.2.1⟩
structure VsQ (w:World) (B:Nat) (qs:List VtE):Prop where
 l:∀ p∈qs,LgO w B w.heap.size p.1 p.2.log
 nd:(qs.flatMap (fun p=>p.1.fp)).Nodup
theorem VsQ.nil (w:World) (B:Nat):VsQ w B []:=⟨by simp,by simp⟩
theorem VsQ.step {w w':World} {B:Nat} {qs:List VtE} {a:LAd} {v:Vt} (h:VsQ w B qs) (hB:B<=w.heap.size) (ho:LgO w' w.heap.size w'.heap.size a v.log) (hx:Ext w w'):VsQ w' B (qs++[(a,v)]):=by
 refine ⟨fun p hp=>?_, ?_⟩
 ·rcases List.mem_append.1 hp with hp | hp
  ·exact ((h.l p hp).kept hx).wide (Nat.le_refl _) hx.size
  ·rw [Mi] at hp;subst hp;exact ho.wide hB (Nat.le_refl _)
 ·simp only [List.flatMap_append,List.flatMap_cons,List.flatMap_nil,List.append_nil];rw [List.nodup_append];refine ⟨h.nd,ho.nd,fun x hx1 y hy he=>?_⟩
  subst he;obtain ⟨p,hp,hxp⟩:=List.mem_flatMap.1 hx1;have h1:=(h.l p hp).lt x hxp;have h2:=ho.low x hy;omega
theorem VsQ.chg {w w':World} {B:Nat} {qs:List VtE} {S:List Nat} (h:VsQ w B qs) (hg:Chg w w' S) (hne:∀ p∈qs,∀ k∈p.1.fp,k∉S):VsQ w' B qs :=
 ⟨fun p hp=>((h.l p hp).chg hg (hne p hp)).wide (Nat.le_refl _) hg.size,h.nd⟩
theorem VsQ.kept {w w':World} {B:Nat} {qs:List VtE} (h:VsQ w B qs) (hx:Ext w w'):VsQ w' B qs:=⟨fun p hp=>((h.l p hp).kept hx).wide (Nat.le_refl _) hx.size,h.nd⟩
theorem zg0 {w:World} {B B' T:Nat} {a:LAd} {l:Lg} {A:Option Addr} {n c:Nat} {qs:List VtE} (h:LgO w B T a l) (k:Ow VtE.enc 45 10 w B' (.slice A n c) qs):∀ x∈a.fp,x∉blk A:=fun x hx=>by
 unfold LAd.fp at hx;rw [List.mem_append,List.mem_append] at hx;rcases hx with (hx | hx) | hx
 ·exact h.c.apart k (by decide) x hx
 ·exact h.s.apart k (by decide) x hx
 ·exact h.e.apart k (by decide) x hx
theorem VsQ.own {w:World} {B:Nat} {A:Option Addr} {c:Nat} {qs:List VtE} (h:VsQ w B qs) (k:Ow VtE.enc 45 10 w B (.slice A qs.length c) qs):VsO w B w.heap.size A c qs:=by
 refine ⟨k,h.l, ?_,fun x hx=>?_⟩
 ·rw [List.nodup_append];refine ⟨k.nodup,h.nd,fun x hx y hy he=>?_⟩
  subst he;obtain ⟨p,hp,hxp⟩:=List.mem_flatMap.1 hy;exact zg0 (h.l p hp) k x hxp hx
 ·rcases List.mem_append.1 hx with hx | hx
  ·exact (k.inB x hx).2
  ·obtain ⟨p,hp,hxp⟩:=List.mem_flatMap.1 hx;exact (h.l p hp).lt x hxp
theorem RpO.fpIn {w:World} {B T:Nat} {a:LAd} {A:Option Addr} {c:Nat} {ps:List VtE} {r:Rp} (h:RpO w B T a A c ps r):∀ k∈a.fp++vsF A ps,B<=k/\k < T:=fun k hk=>by
 rcases List.mem_append.1 hk with hk | hk
 ·exact ⟨h.l.low k hk,h.l.top k hk⟩
 ·exact ⟨(h.v.low k hk).1,h.v.top k hk⟩
theorem zaq {w w':World} {S:List Nat} (h:Chg w w' S) {p:Addr} (hp:p.block∈S) (u:Value):Chg w (w'.setCell p u) S :=
 ⟨h.os,h.tape,h.output,by simpa using h.size,fun k hk hn=>(Below.heap_setCell _ _ _ _ (fun he=>hn (by rw [he];exact hp))).trans (h.block k hk hn)⟩
theorem VtE.one (p:VtE):∀ u∈p.enc,u.oneCell'=true:=by
 intro u hu;simp [VtE.enc] at hu;rcases hu with rfl | rfl | rfl | rfl | rfl | rfl | rfl | rfl | rfl | rfl <;> rfl
theorem Rd.one {α:Type} {enc:α->List Value} {sz:Nat} {w:World} {p:Nat} {cs:Array Value} {T:TypeId} {x:α} (h:w.heap[p]?=some (.cells cs T (0,0))) (hx:cs.toList=enc x):Rd enc sz w (some ⟨p,0,none⟩) 1 [x]:=by
 refine ⟨Nat.le_refl _,by unfold maxLen;omega,fun _=>⟨p,0,rfl,bx_lt h,fun k hk j u hu=>?_⟩⟩
 simp only [List.length_singleton] at hk;obtain rfl:k=0:=by omega
 rw [za2 h];simp only [List.getElem_cons_zero] at hu;rw [<-hx] at hu;simpa using hu
theorem c_copyVotes (A:Option Addr) (c:Nat) (ps:List VtE) (w:World) (hr:VsR w A c ps) (hn:ps.length<=1048576) (hs:LgS ps) :
  Calls Tryz.prog 97 #[.slice A ps.length c] w fun e w'=>∃ A' c' qs,e = .returned (.slice A' ps.length c')/\List.length qs=ps.length/\List.map Prod.snd qs=ps.map Prod.snd/\VsO w' w.heap.size w'.heap.size A' c' qs/\Ext w w':=by
 obtain ⟨i0,hi,hz0,hz1,hz2⟩:=info_parts Tryz.infoVt;have HS:=Hd hs;have HR:=Hd hr;have hL:=hr.len;clear hs hr
 go_enter Tryz.func97,Tryz.ntmps97
 go_wp2
 go_loopw [3,9] (fun v i wr=>∃ (k:Nat) (qs:List VtE),k<=ps.length/\i = .int .i64 k/\VsS ps qs k/\Ow VtE.enc 45 10 wr w.heap.size v qs/\VsQ wr w.heap.size qs/\Ext w wr) (fun _ i _=>ps.length - (intOf i).toNat)
 case atStart=>exact ⟨0,[],Nat.zero_le _,rfl,rfl,zd3 (hNew rfl) (Nat.le_refl _),VsQ.nil _ _,za1 _ _⟩
 case round =>
  obtain ⟨k,qs,hk,rfl,hq,ho,hQ,X⟩:=hrel;obtain ⟨A1,c1,rfl⟩:=ho.form;have hql:=hq.length hk;have HO:=Hd ho;have HQ:=Hd hQ;have HVS:=Hd hq;clear ho hQ hq;by_cases hlt:k < ps.length
  ·obtain ⟨ab,ao,hA,hab,a0,a1,a2,a3,a4,a5,a6,a7,a8,a9⟩:=(HR.out.1.keep X).atVtE hlt;subst hA;have X1:=za1 wr (Vt.obj ps[k].1 ps[k].2);have HCL:=Hd (c_copyLog ps[k].1 ps[k].2.log (HS.out _ (List.getElem_mem hlt)) (wr.alloc (Vt.obj ps[k].1 ps[k].2)) ((HR.out.2 _ (List.getElem_mem hlt)).keep (Ext.trans X X1)));have HQL:=Hd hql;clear hql;go_wp2_with fail
   refine HCL.out.mono ?_;rintro e w2 ⟨a',rfl,o2,x2⟩;have B2:=x2.box (hNew (w:=wr) (o:=Vt.obj ps[k].1 ps[k].2) rfl);have b2:=za2 B2;have f2:=zad B2;have z2:=bx_lt B2;have P2:=zar (zar (zar (zar B2 6 (.int .i64 ps[k].2.log.base)) 7 (.slice a'.cA ps[k].2.log.cells.length a'.cc)) 8 (.slice a'.sA ps[k].2.log.seats.length a'.sc)) 9 (.slice a'.eA ps[k].2.log.ents.length a'.ec);simp only [Sa,Sz,Ss] at P2;have HP2:=Hd P2;simp only [zag] at o2;have hnew:=o2.low;have HOn:=Hd o2;have HX:=Hd (Ext.trans X1 x2);have hws:=X.size;clear B2 P2 o2;go_wp2_with (with_reducible refine za5 18 ?_)
   have hcs:=zaq (zaq (zaq (zaq (Chg.refl w2 [wr.heap.size]) (p:=⟨wr.heap.size,6,none⟩) (by simp) (.int .i64 ps[k].2.log.base)) (p:=⟨wr.heap.size,7,none⟩) (by simp) (.slice a'.cA ps[k].2.log.cells.length a'.cc)) (p:=⟨wr.heap.size,8,none⟩) (by simp) (.slice a'.sA ps[k].2.log.seats.length a'.sc)) (p:=⟨wr.heap.size,9,none⟩) (by simp) (.slice a'.eA ps[k].2.log.ents.length a'.ec)
   refine zb2 (F:=fun W=>W.heap[wr.heap.size]?=some (Vt.obj a' ps[k].2)/\VsQ W w.heap.size (qs++[(a',ps[k].2)])/\Ow VtE.enc 45 10 W w.heap.size (.slice A1 qs.length c1) qs/\Ext w W) ?_ ?_
   ·refine ⟨HP2.out, ?_, ?_, ?_⟩
    ·refine (HQ.out.step hws (HOn.out.wide (by omega) (Nat.le_refl _)) HX.out).chg hcs (fun p hp x hx hm=>?_)
     rw [Mi] at hm;subst hm;rcases List.mem_append.1 hp with hp | hp
     ·have:=(HQ.out.l p hp).lt _ hx;omega
     ·rw [Mi] at hp;subst hp
      have:=hnew _ hx;omega
    ·refine (HO.out.kept HX.out).chg hcs (fun x hx hm=>?_)
     rw [Mi] at hm;subst hm
     have:=(HO.out.inB _ hx).2
     omega
    ·exact zac (Ext.trans X HX.out) hcs hws
   intro W3 ⟨E3,q3,o3,X3⟩;have e3:=za2 E3;have g3:=zad E3;have z3:=bx_lt E3;have HQ3:=Hd q3;have HO3:=Hd o3;clear b2 f2 z2 E3 q3 o3 hcs hnew a0 a1 a2 a3 a4 a5 a6 a7 a8 a9;have hgl:=HQL.out;go_wp2_with (at_builtin;refine zcn (enc:=VtE.enc) rfl _ _ 31 rfl w.heap.size 45 i0 Vt.zero 10 128 Tryz.underlying31 hi hz0 hz1 hz2 rfl (by decide) VtE.len VtE.one (.slice A1 qs.length c1) qs rfl (HO3.out.kept (za1 _ _)) (some ⟨W3.heap.size,0,none⟩) 1 [(a',ps[k].2)] 1 rfl rfl (Rd.one (hNew rfl) rfl) ?c1 ?c2 ?c3 ?_)
   case c1=>unfold maxLen;simp;omega
   case c2=>simp;omega
   case c3=>have:=X3.size;simp;omega
   intro v' w4 ho4 hg4;have c4:=zaz hg4;have X4:=Hd (zaf (za9 X3 (.cells #[.int .i64 ps[k].2.kind, .int .i64 ps[k].2.frm, .int .i64 ps[k].2.view, .int .i64 ps[k].2.normal, .int .i64 ps[k].2.op, .int .i64 ps[k].2.commit, .int .i64 ps[k].2.log.base, .slice a'.cA ps[k].2.log.cells.length a'.cc, .slice a'.sA ps[k].2.log.seats.length a'.sc, .slice a'.eA ps[k].2.log.ents.length a'.ec] 45)) c4 (fun g hg=>(HO3.out.inB g hg).1))
   have HQ4:=Hd ((HQ3.out.kept (za1 W3 (.cells #[.int .i64 ps[k].2.kind, .int .i64 ps[k].2.frm, .int .i64 ps[k].2.view, .int .i64 ps[k].2.normal, .int .i64 ps[k].2.op, .int .i64 ps[k].2.commit, .int .i64 ps[k].2.log.base, .slice a'.cA ps[k].2.log.cells.length a'.cc, .slice a'.sA ps[k].2.log.seats.length a'.sc, .slice a'.eA ps[k].2.log.ents.length a'.ec] 45))).chg c4 (fun p hp x hx hm=>zg0 (HQ3.out.l p hp) HO3.out x hx hm))
   have HO4:=Hd ho4;clear ho4 hg4 c4;go_wp2
   go_roundw
   case rel=>exact ⟨k+1,qs++[(a',ps[k].2)],by omega,by go_num,HVS.out.next hlt a',HO4.out,HQ4.out,X4.out⟩
   case measure=>simp [intOf] <;> omega
  ·obtain rfl:k=ps.length:=by omega
   have HQL:=Hd hql;rw [hql];clear hql;go_wp2
   go_ret
   have h1:=HVS.out;unfold VsS at h1;rw [List.take_length] at h1;refine ⟨A1,c1,qs,rfl,HQL.out,h1,HQ.out.own HO.out,X⟩
theorem c_copyReplica (a:LAd) (A:Option Addr) (c:Nat) (ps:List VtE) (r:Rp) (w:World) (hr:RpR w a A c ps r) (hs:r.log.small) (hn:ps.length<=1048576) (hv:LgS ps) :
  Calls Tryz.prog 49 #[Rp.val a A ps.length c r] w fun e w'=>∃ (a':LAd) (A':Option Addr) (c':Nat) (qs:List VtE),e = .returned (Rp.val a' A' ps.length c' r)/\qs.length=ps.length/\RpO w' w.heap.size w'.heap.size a' A' c' qs r/\Ext w w':=by
 have HS:=Hd hs;have HR:=Hd hr;have HV:=Hd hv;clear hs hr hv;have X0:Ext w ((w.alloc (Rp.obj a A ps.length c r)).alloc Rp.zobj):=za9 (za1 _ _) _
 go_enter Tryz.func49,Tryz.ntmps49
 go_wp2_with fail
 refine (c_copyLog a r.log HS.out _ (HR.out.l.keep X0)).mono ?_;rintro e w1 ⟨a',rfl,o1,x1⟩;have B1:=x1.box (hOld (o:=Rp.zobj) (hNew (w:=w) (o:=Rp.obj a A ps.length c r) rfl));have B2:=x1.box (hNew (w:=w.alloc (Rp.obj a A ps.length c r)) (o:=Rp.zobj) rfl);rw [zag] at B2;simp only [zag] at o1;have X1:=Ext.trans X0 x1;have b1:=za2 B1;have f1:=zad B1;have z1:=bx_lt B1;have P1:=zar (zar (zar (zar B1 6 (.int .i64 r.log.base)) 7 (.slice a'.cA r.log.cells.length a'.cc)) 8 (.slice a'.sA r.log.seats.length a'.sc)) 9 (.slice a'.eA r.log.ents.length a'.ec);simp only [Sa,Sz,Ss] at P1;have hcs:=zaq (zaq (zaq (zaq (Chg.refl w1 [w.heap.size]) (p:=⟨w.heap.size,6,none⟩) (by simp) (.int .i64 r.log.base)) (p:=⟨w.heap.size,7,none⟩) (by simp) (.slice a'.cA r.log.cells.length a'.cc)) (p:=⟨w.heap.size,8,none⟩) (by simp) (.slice a'.sA r.log.seats.length a'.sc)) (p:=⟨w.heap.size,9,none⟩) (by simp) (.slice a'.eA r.log.ents.length a'.ec)
 have HB2:=Hd (zap B2 hcs (by omega))
 have HP1:=Hd P1;have HO1:=Hd (o1.chg1 hcs (by omega))
 have HX1:=Hd (zac X1 hcs (Nat.le_refl _));have HCS:=Hd hcs;clear B1 B2 P1 o1 hcs;go_wp2_with fail
 refine (c_copyVotes A c ps _ (HR.out.v.keep HX1.out) hn HV.out).mono ?_;rintro e w2 ⟨A',c',qs,rfl,hql,hq,o2,x2⟩;have D1:=x2.box HP1.out;have D2:=x2.box HB2.out;have HO1':=Hd (HO1.out.kept x2);have X2:=Ext.trans HX1.out x2;have HX2:=Hd X2;have HO2:=Hd o2;clear b1 f1 z1 o2;have d1:=za2 D1;have g1:=zad D1;have z1:=bx_lt D1;have P1:=zar D1 10 (.slice A' ps.length c');simp only [Sa,Sz,Ss] at P1;have HP1:=Hd P1;have HD2:=Hd D2;have HQ:=Hd hq;have hs12:=HCS.out.size;have hsz:w.heap.size+1+1<=w1.heap.size:=by have:=x1.size;simp only [zag] at this;omega
 clear D1 D2 P1 hq;go_wp2_with (with_reducible refine za5 11 ?_)
 have hcs:=zaq (Chg.refl w2 [w.heap.size]) (p:=⟨w.heap.size,10,none⟩) (by simp) (.slice A' ps.length c')
 refine zb2 (F:=fun W=>W.heap[w.heap.size]?=some (Rp.obj a' A' ps.length c' r)/\W.heap[w.heap.size+1]?=some Rp.zobj/\RpO W (w.heap.size+1+1) W.heap.size a' A' c' qs r/\Ext w W) ?_ ?_
 ·have hlow:∀ k∈vsF A' qs,w1.heap.size<=k:=fun k hk=>by have:=(HO2.out.low k hk).1;omega
  refine ⟨HP1.out,zap HD2.out hcs (by omega),⟨?_, ?_,by rw [HQ.out];exact HR.out.e,fun k hk hm=>?_⟩,zac HX2.out hcs (Nat.le_refl _)⟩
  ·refine ((HO1'.out.chg1 hcs (by omega)).wide (Nat.le_refl _) ?_)
   have:=x2.size
   have:=hcs.size
   omega
  ·refine (HO2.out.chg hcs (fun k hk hm=>?_)).wide (by omega) hcs.size
   rw [Mi] at hm
   have:=hlow k hk
   omega
  ·have h1:=HO1.out.top k hk;have h2:=hlow k hm;omega
 intro W3 ⟨E1,E2,o3,X3⟩;clear d1 g1 z1 hcs hs12;have d1:=za2 E1;have g1:=zad E1;have z1:=bx_lt E1;have HE2:=Hd E2;have HO3:=Hd o3;clear E1 E2 o3;go_wp2_with (with_reducible refine za8 33 ?_)
 refine za3 (w.heap.size+1) #[.int .i64 r.me, .int .i64 r.of, .int .i64 r.mode, .int .i64 r.view, .int .i64 r.normal, .int .i64 r.commit, .int .i64 r.log.base, .slice a'.cA r.log.cells.length a'.cc, .slice a'.sA r.log.seats.length a'.sc, .slice a'.eA r.log.ents.length a'.ec, .slice A' ps.length c', .int .i64 r.cell, .int .i64 r.nonce] rfl rfl HE2.out (by kernel_rfl) rfl (by simp [Value.oneCell']) ?_
 intro W4 E4 C4;have hX4:=Hd (zac X3 C4 (by omega))
 have hf:=HO3.out.fpIn;have hO4:RpO W4 (w.heap.size+1+1) W3.heap.size a' A' c' qs r:=⟨HO3.out.l.chg1 C4 (by omega),HO3.out.v.chg C4 (fun k hk hm=>by rw [Mi] at hm;have:=(hf k (List.mem_append_right _ hk)).1;omega),HO3.out.e,HO3.out.d⟩
 have HO4:=Hd hO4;have hs4:=C4.size;clear C4 d1 g1 z1 hf hO4;go_wp2
 exact bodyPost_ret (zbm Tryz.results49 rfl Tryz.underlying33 (by kernel_rfl) E4) rfl ⟨a',A',c',qs,rfl,hql,⟨HO4.out.l.wide (by omega) hs4,HO4.out.v.wide (by omega) hs4,HO4.out.e,HO4.out.d⟩,hX4.out⟩
end Go.Proofs.YtckfjploafhenaaGreat
