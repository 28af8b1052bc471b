/- A store of what a call handed back, in a region that draws its order: one box turns from what it was to what is good. No program in sight. -/
import Derived.Test.YtckfjploafhenaaGreatPk15
import Derived.Test.YtckfjploafhenaaGreatPk25
import Derived.Test.YtckfjploafhenaaGreatPk19
import Derived.Test.YtckfjploafhenaaGreatPk40
set_option maxRecDepth 100000
set_option maxHeartbeats 16000000
set_option linter.unusedVariables false
set_option linter.unusedSimpArgs false
namespace Go.Proofs.YtckfjploafhenaaGreat
open Go.ChangeShapes Go.WideShapes Go.ChangeAt Go.RowKit Go.Sort
def Shp (p k:Nat) (T:TypeId) (W:World):Prop:=∃ old:Array Value,W.heap[p]?=some (.cells old T (0,0))/\old.size=k
def relG (p k:Nat) (T:TypeId) (G:World->Prop) (hG:∀ a b,G a->Ext a b->G b) (B:Nat) (hp:p < B):Rm.RelK .apps where
 rel a b:=Chg a b [p]/\(G a->G b)/\(Shp p k T a->Shp p k T b)
 base:=B
 refl w:=⟨Chg.refl w _,id,id⟩
 trans a b c h k:=⟨h.1.trans k.1,fun g=>k.2.1 (h.2.1 g),fun g=>k.2.2 (h.2.2 g)⟩
 ext a b h:=⟨zez _ h,fun g=>hG a b g h,fun ⟨old,h1,h2⟩=>⟨old,h.box h1,h2⟩⟩
 size a b h:=h.1.size
 keep a b h q hq hlt:=h.1.block q hlt (by rw [Mi];omega)
theorem relG_box {p k q B:Nat} {T:TypeId} {G:World->Prop} {hG:∀ a b,G a->Ext a b->G b} {hp:p < B} {o:Obj} {w:World} (h:w.heap[q]?=some o) (hne:q≠p):∀ W,(relG p k T G hG B hp).rel w W->W.heap[q]?=some o :=
 fun W hW=>(hW.1.block q (bx_lt h) (by rw [Mi];exact hne)).trans h
variable {P:Program} {ops:Array Oper} {w:World} {L:(World->Prop)->Act->Prop} {o:Oper} {rest:List Oper} {C:World->Prop} {ps:List Nat} {a:Act} {Bn:Rm.Bnd}
theorem wpMix_stG {p k B:Nat} {T ty:TypeId} {G:World->Prop} {hG:∀ a b,G a->Ext a b->G b} {hp:p < B} {x y:Operand} {cs:Array Value} (hSh:Shp p k T w) (hop:o.op = .store ty x y) (hd:o.dst=none) (hw:Region.wanted o (yielded ops a.tmps)=true)
  (hx:a.eval x = .pointer (some ⟨p,0,none⟩)) (hy:a.eval y = .agg cs) (hi:(P.info? ty).map (·.size)=some cs.size) (hk:cs.size=k) (h1:cs.all (·.oneCell')=true) (hC:∀ W,C W->(relG p k T G hG B hp).rel w W)
  (hres:∀ W W',C W->W'.heap[p]?=some (.cells cs T (0,0))->Chg W W' [p]->G W')
  (h:Rm.Mx (relG p k T G hG B hp) P ops ((relG p k T G hG B hp).rel w) Bn L rest (fun W=>C W/\G W) ps (a.put none undef)) :
  Rm.Mx (relG p k T G hG B hp) P ops ((relG p k T G hG B hp).rel w) Bn L (o::rest) C ps a:=by
 refine Rm.wpMix_storeC (fun _ W=>G W) hop (by show (match o.op with | .call { callee := .builtin .append, .. }=>true | _=>false)=false;rw [hop]) hw (fun v a b h hx=>hx.2.1 h) (fun W hW=>?_) (fun v hv=>?_)
 ·obtain ⟨old,hg,hs⟩:=(hC W hW).2.2 hSh;have hset:=setRow_heap W p old cs T (0,0) hg;have hch:=zcy W p cs;have hgood:=hres W _ hW hset hch;refine ⟨W.setRow p cs, ?_,hgood,hch,fun _=>hgood,fun _=>⟨cs,hset,hk⟩⟩
  unfold execOp;simp only [hop,hx,hy,Instr.storeAt,Instr.sureAddr,Sem.run_bind,Sem.run_pure,Result.andThen_ok,run_storeVar_row W p T ty old cs hg hi (hs.trans hk.symm) h1]
 ·rw [hd];exact h
theorem zbc {P:Program} {fn:Func} {tmps:Array Value} {w:World} {p k i j:Nat} {v u:Value} {cs:Array Value} {t T:TypeId} {fs:Array Field} (hr:fn.results=#[.cell k t, .tmp i, .tmp j]) (ht:tmps[k]?=some (.pointer (some ⟨p,0,none⟩))) (hi:tmps[i]?=some v) (hj:tmps[j]?=some u)
  (hu:P.underlying t=some (.struct fs)) (hie:(P.info? t).map (·.size)=some cs.size) (hb:w.heap[p]?=some (.cells cs T (0,0))):(results fn tmps).run P w = .ok (.tuple #[.agg cs,v,u]) w:=by
 have h1:=run_loadCells_list (P:=P) w ⟨p,0,none⟩ cs.toList (fun j v h=>by rw [Addr.add_lit,Nat.zero_add,za2 hb j];simpa using h)
 obtain ⟨ie,hie,hs⟩:=Option.map_eq_some_iff.1 hie;rw [Array.length_toList] at h1;have hagg:=zev hu w;have hti:(typeInfo t).run P w = .ok ie w:=by simp [typeInfo,hie,go_sem]
 have hload:(loadVar t ⟨p,0,none⟩).run P w = .ok (.agg cs) w:=by
  simp [loadVar,hagg,sizeOf,hti,hs,h1,Result.andThen]
 simp [results,hr,ht,hi,hj,asAddr,hload]
abbrev Ent.box (e:Ent):Obj := .cells #[.int .i64 e.client, .int .i64 e.req, .int .i64 e.kind, .int .i64 e.key, .int .i64 e.value] 104
abbrev Ent.val (e:Ent):Value := .agg #[.int .i64 e.client, .int .i64 e.req, .int .i64 e.kind, .int .i64 e.key, .int .i64 e.value]
theorem run_same {m:Img} {e:Ent} (h:hasS m.2 e.client=true) (h1:((zcd m.2 e.client).req == e.req)=true):entI m e=m/\entA m e=(zcd m.2 e.client).answer/\zb9 m e=2:=by
 have hs:sameE m.2 e=true:=by unfold sameE;rw [h,h1];rfl
 unfold entI entA zb9;rw [hs]
 simp
theorem run_old {m:Img} {e:Ent} (h:hasS m.2 e.client=true) (h1:((zcd m.2 e.client).req == e.req)=false) (h2:decide (e.req < (zcd m.2 e.client).req)=true):entI m e=m/\entA m e=-1/\zb9 m e=2:=by
 have hs:sameE m.2 e=false:=by unfold sameE;rw [h,h1];rfl
 have ho:oldE m.2 e=true:=by unfold oldE;rw [h,h2];rfl
 unfold entI entA zb9;rw [hs,ho]
 simp
theorem run_full {m:Img} {e:Ent} (h:hasS m.2 e.client=false) (h1:(m.2.length == 10)=true):entI m e=m/\entA m e=-1/\zb9 m e=3:=by
 have hs:sameE m.2 e=false:=by unfold sameE;rw [h];rfl
 have ho:oldE m.2 e=false:=by unfold oldE;rw [h];rfl
 have hf:fullE m.2 e=true:=by unfold fullE;rw [h,h1];rfl
 unfold entI entA zb9;rw [hs,ho,hf]
 simp
theorem run_done {m:Img} {e:Ent} (h:(hasS m.2 e.client=true/\((zcd m.2 e.client).req == e.req)=false/\decide (e.req < (zcd m.2 e.client).req)=false)\/(hasS m.2 e.client=false/\(m.2.length == 10)=false)) :
  entI m e=(runCs m.1 e.kind e.key e.value,putS m.2 ⟨e.client,e.req,runA m.1 e.kind e.key e.value⟩)/\entA m e=runA m.1 e.kind e.key e.value/\zb9 m e=0:=by
 have h3:sameE m.2 e=false/\oldE m.2 e=false/\fullE m.2 e=false:=by
  unfold sameE oldE fullE;rcases h with ⟨a,b,c⟩ | ⟨a,b⟩
  ·rw [a,b,c];exact ⟨rfl,rfl,rfl⟩
  ·rw [a,b];exact ⟨rfl,rfl,rfl⟩
 unfold entI entA zb9;rw [h3.1,h3.2.1,h3.2.2]
 simp
def ImG (p B:Nat) (cs:List Cel) (ss:List Sea) (W:World):Prop:=∃ A c A' c',W.heap[p]?=some (Im.obj A cs.length c A' ss.length c')/\RdF Cel.enc 162 2 W B A c cs/\RdF Sea.enc 111 3 W B A' c' ss
theorem ImG.ext {p B:Nat} {cs:List Cel} {ss:List Sea}:∀ a b,ImG p B cs ss a->Ext a b->ImG p B cs ss b:=fun a b ⟨A,c,A',c',h,h1,h2⟩ hx=>⟨A,c,A',c',hx.box h,h1.keep hx,h2.keep hx⟩
theorem ImgV.monoG {p k B B':Nat} {T:TypeId} {G:World->Prop} {hG:∀ a b,G a->Ext a b->G b} {hp:p < B} {cs:List Cel} {ss:List Sea} (hB:p < B'):Rm.Mono (relG p k T G hG B hp) (ImgV B' cs ss):=fun v a b ⟨A,c,A',c',h,h1,h2⟩ hx =>
 ⟨A,c,A',c',h,h1.chg Cel.enc_len hx.1 (zeq h1 (fun k hk=>by rw [Mi] at hk;omega)),h2.chg Sea.enc_len hx.1 (zeq h2 (fun k hk=>by rw [Mi] at hk;omega))⟩
theorem c_sRunEntry (cA:Option Addr) (cc:Nat) (cs:List Cel) (sA:Option Addr) (sc:Nat) (ss:List Sea) (e:Ent) (w:World) (hc:Rd Cel.enc 2 w cA cc cs) (hs:Rd Sea.enc 3 w sA sc ss) (hok:ImgP (cs,ss)) (he:e.ok=true) :
  Calls Tryz.prog 69 #[Im.val cA cs.length cc sA ss.length sc,e.val] w fun e9 w'=>(∃ A c A' c',e9 = .returned (.tuple #[Im.val A (entI (cs,ss) e).1.length c A' (entI (cs,ss) e).2.length c', .int .i64 (entA (cs,ss) e), .int .i64 (zb9 (cs,ss) e)]) /\
   RdF Cel.enc 162 2 w' w.heap.size A c (entI (cs,ss) e).1/\RdF Sea.enc 111 3 w' w.heap.size A' c' (entI (cs,ss) e).2)/\Ext w w':=by
 have hcl:cs.length<=40:=hok.c.len;have hsl:ss.length<=10:=hok.s.len;have hb:=ent_b he;obtain ⟨w1,hw1⟩:∃ w1,(((w.alloc (Im.obj cA cs.length cc sA ss.length sc)).alloc e.box).alloc Im.zobj)=w1:=⟨_,rfl⟩;have X0:Ext w w1:=by rw [<-hw1];exact za9 (za9 (za1 _ _) _) _
 have E1:=Hd (show w1.heap[w.heap.size]?=some (Im.obj cA cs.length cc sA ss.length sc) by rw [<-hw1];exact hOld (o:=Im.zobj) (hOld (o:=e.box) (hNew (w:=w) (o:=Im.obj cA cs.length cc sA ss.length sc) rfl)))
 have E2:=Hd (show w1.heap[w.heap.size+1]?=some e.box by rw [<-hw1];exact hOld (o:=Im.zobj) (hNew (w:=w.alloc (Im.obj cA cs.length cc sA ss.length sc)) (o:=e.box) (k:=w.heap.size+1) (by simp)))
 have E3:=Hd (show w1.heap[w.heap.size+1+1]?=some Im.zobj by rw [<-hw1];exact hNew (w:=(w.alloc (Im.obj cA cs.length cc sA ss.length sc)).alloc e.box) (o:=Im.zobj) (k:=w.heap.size+1+1) (by simp))
 have HC:=Hd hc;have HS:=Hd hs;have X:=Hd X0;have HOk:=Hd hok;have hz1:=bx_lt E3.out;have HW0:=Hd hw1;have HE:=Hd he
 have HIm:=Hd (show ∀ W,Ext w W->Calls Tryz.prog 112 #[Im.val cA cs.length cc sA ss.length sc] W fun e w'=>e = .returned (.bool true)/\Ext W w' from fun W h=>by
  have h5:=zfg cA cc cs sA sc ss W (hc.keep h) (hs.keep h) (by omega) (by omega)
  rw [show zbj cs ss=true from hok.ok] at h5
  exact h5)
 clear hc hs hok hw1 X0 he
 go_enter Tryz.func69,Tryz.ntmps69
 go_wp2_with (with_reducible refine za5 11 ?_)
 refine zb2 (F:=fun W=>W=w1) HW0.out ?_
 intro W1 hW1;subst hW1;clear HW0
 (go_wp2_with (with_reducible refine za5 11 ?_);refine za6 (E1.out) rfl Tryz.underlying27 (by kernel_rfl) ?_;simp only [Act.put,Sa,Sz,Ss])
 go_wp2_with fail
 refine (HIm.out _ X.out).mono ?_;rintro e9 w2 ⟨rfl,x⟩;obtain ⟨E1,E2,E3,X⟩:Hid _/\Hid _/\Hid _/\Hid _:=⟨Hd (x.box E1.out),Hd (x.box E2.out),Hd (x.box E3.out),Hd (Ext.trans X.out x)⟩;have hz_w2:=x.size;clear x;clear HIm
 (go_wp2_with (with_reducible refine za5 15 ?_);refine zhw (E2.out) rfl rfl Tryz.underlying104 (by kernel_rfl) ?_;simp only [Act.put,Sa,Sz,Ss])
 go_wp2_with fail
 have hcm:=c_sEntryOk e w2;rw [HE.out] at hcm;refine hcm.mono ?_;rintro e9 w3 ⟨rfl,x⟩;obtain ⟨E1,E2,E3,X⟩:Hid _/\Hid _/\Hid _/\Hid _:=⟨Hd (x.box E1.out),Hd (x.box E2.out),Hd (x.box E3.out),Hd (Ext.trans X.out x)⟩;have hz_w3:=x.size;clear x;clear hcm
 (go_wp2_with (with_reducible refine za5 21 ?_);refine za6 (E1.out) rfl Tryz.underlying27 (by kernel_rfl) ?_;simp only [Act.put,Sa,Sz,Ss])
 have d2:=za2 E2.out;have z2:=bx_lt E2.out;go_wp2_with fail
 refine (c_sSeatOf cA cc cs sA sc ss e.client w3 (HC.out.keep X.out) (HS.out.keep X.out) HOk.out).mono ?_;rintro e9 w4 ⟨⟨x,rfl,hx⟩,x4⟩;obtain ⟨E1,E2,E3,X⟩:Hid _/\Hid _/\Hid _/\Hid _:=⟨Hd (x4.box E1.out),Hd (x4.box E2.out),Hd (x4.box E3.out),Hd (Ext.trans X.out x4)⟩;have hz_w4:=x4.size;have HXs:=Hd hx;clear x4 hx d2 z2;have XA:=za1 w4 Sea.zobj;have EQ:=Hd (hNew (w:=w4) (o:=Sea.zobj) rfl);obtain ⟨E1,E2,E3,X⟩:Hid _/\Hid _/\Hid _/\Hid _:=⟨Hd (XA.box E1.out),Hd (XA.box E2.out),Hd (XA.box E3.out),Hd (Ext.trans X.out XA)⟩;clear XA
 (go_wp2_with (with_reducible refine za8 111 ?_);refine za3 (w4.heap.size) #[.int .i64 x.client, .int .i64 x.req, .int .i64 x.answer] rfl rfl (EQ.out) (by kernel_rfl) rfl (by simp [Value.oneCell']) ?_)
 intro w5 e5 k5;have hlt5:=bx_lt EQ.out;obtain ⟨E1,E2,E3,X⟩:Hid _/\Hid _/\Hid _/\Hid _:=⟨Hd (zap E1.out k5 (by omega)),Hd (zap E2.out k5 (by omega)),Hd (zap E3.out k5 (by omega)),Hd (zaf X.out k5 (fun k hk=>by rw [Mi] at hk;omega))⟩
 have E6:=Hd e5;have hs5:=bx_lt e5;clear e5 k5 EQ;obtain ⟨gh,hgh⟩:∃ b,hasS ss e.client=b:=⟨_,rfl⟩;have HGh:=Hd hgh;have HXv:=Hd (show gh=true->x=zcd ss e.client from fun h=>HXs.out (hgh.trans h))
 rw [hgh];clear hgh HXs;have d1:=za2 E1.out;have z1:=bx_lt E1.out;have d2:=za2 E2.out;have z2:=bx_lt E2.out;have d6:=za2 E6.out;have z6:=bx_lt E6.out;cases gh
 ·cases g3:((ss.length:Int) == 10)
  ·have HRun:=Hd (run_done (m:=(cs,ss)) (e:=e) (.inr ⟨HGh.out,by show (ss.length == 10)=false;simp at g3 ⊢;omega⟩))
   (go_wp2_with (with_reducible refine za5 63 ?_);refine za6 (E1.out) rfl Tryz.underlying27 (by kernel_rfl) ?_;simp only [Act.put,Sa,Sz,Ss])
   (go_wp2_with (with_reducible refine za5 65 ?_);refine zb3 (zaw (cs:=#[.int .i64 e.kind, .int .i64 e.key, .int .i64 e.value]) E2.out [.int .i64 e.client, .int .i64 e.req] [] rfl rfl) rfl Tryz.underlying35 (by kernel_rfl) ?_;simp only [Act.put,Sa,Sz,Ss])
   clear d1 z1 d2 z2 d6 z6;go_wp2_with fail
   refine (c_sRunCmd cA cc cs sA sc ss e w5 (HC.out.keep X.out) (HS.out.keep X.out) HOk.out HE.out).mono ?_;rintro e9 v6 ⟨⟨A6,c6,B6,d6,rfl,r6,s6⟩,x6⟩;obtain ⟨E1,E2,E3,X⟩:Hid _/\Hid _/\Hid _/\Hid _:=⟨Hd (x6.box E1.out),Hd (x6.box E2.out),Hd (x6.box E3.out),Hd (Ext.trans X.out x6)⟩;have hz_v6:=x6.size;have R6:=Hd (r6.less (B':=w.heap.size+1+1+1) (by omega))
   clear x6 r6 s6 E6;obtain ⟨L6,hL6⟩:∃ L,runCs cs e.kind e.key e.value=L:=⟨_,rfl⟩;obtain ⟨an,han⟩:∃ a,runA cs e.kind e.key e.value=a:=⟨_,rfl⟩;have HRun2:=Hd (show entI (cs,ss) e=(L6,putS ss ⟨e.client,e.req,an⟩)/\entA (cs,ss) e=an/\zb9 (cs,ss) e=0 by rw [<-hL6,<-han];exact HRun.out)
   rw [hL6] at R6;rw [hL6,han];clear hL6 han HRun;have XA:=za1 v6 Im.zobj;have EQ:=Hd (hNew (w:=v6) (o:=Im.zobj) rfl);obtain ⟨E1,E2,E3,X⟩:Hid _/\Hid _/\Hid _/\Hid _:=⟨Hd (XA.box E1.out),Hd (XA.box E2.out),Hd (XA.box E3.out),Hd (Ext.trans X.out XA)⟩;have R6:=Hd (R6.out.keep XA);clear XA
   (go_wp2_with (with_reducible refine za8 27 ?_);refine za3 (v6.heap.size) (Im.cs A6 L6.length c6 B6 ss.length d6) rfl rfl (EQ.out) (by kernel_rfl) rfl (by simp [Value.oneCell']) ?_)
   intro w7 e7 k7;have hlt7:=bx_lt EQ.out;obtain ⟨E1,E2,E3,X⟩:Hid _/\Hid _/\Hid _/\Hid _:=⟨Hd (zap E1.out k7 (by omega)),Hd (zap E2.out k7 (by omega)),Hd (zap E3.out k7 (by omega)),Hd (zaf X.out k7 (fun k hk=>by rw [Mi] at hk;omega))⟩
   have R6:=Hd (R6.out.boxed Cel.enc_len EQ.out (by decide) k7)
   have E9:=Hd e7;have hs7:=bx_lt e7;clear e7 k7 EQ;have d1:=za2 E1.out;have z1:=bx_lt E1.out;have d2:=za2 E2.out;have z2:=bx_lt E2.out;go_wp2_with fail
   refine (zf8 sA sc ss ⟨e.client,e.req,an⟩ w7 (HS.out.keep X.out) (by omega)).mono ?_
   rintro e9 w8 ⟨A5,c5,rfl,o5,x⟩;obtain ⟨E3,E9,X⟩:Hid _/\Hid _/\Hid _:=⟨Hd (x.box E3.out),Hd (x.box E9.out),Hd (Ext.trans X.out x)⟩;have hz_w8:=x.size;have R6:=Hd (R6.out.keep x);clear x d1 z1 d2 z2;have S5:=Hd ((Ow.rdF Sea.enc_len o5).less (B':=w.heap.size+1+1+1) (by omega))
   clear o5;have b6:=za2 E9.out;have g6:=zad E9.out;have z6:=bx_lt E9.out;obtain ⟨L5,hL5⟩:∃ L,refS ⟨e.client,e.req,an⟩ ss false=L:=⟨_,rfl⟩;rw [hL5] at S5;have HL5:=Hd (show putS ss ⟨e.client,e.req,an⟩=L5 by rw [<-hL5];exact (refS_put HOk.out.s.asc).symm)
   rw [hL5];clear hL5;have P6:=zar E9.out 1 (.slice A5 L5.length c5);simp only [Sa,Sz,Ss] at P6;have c6_:=zaq (Chg.refl w8 [v6.heap.size]) (p:=⟨v6.heap.size,1,none⟩) (by simp) (.slice A5 L5.length c5)
   have HP:=Hd P6;have HE3:=Hd (zap E3.out c6_ (by omega))
   have HX6:=Hd (zaf X.out c6_ (fun k hk=>by rw [Mi] at hk;omega))
   have HR6:=Hd (R6.out.boxed Cel.enc_len E9.out (by decide) c6_)
   have HS6:=Hd (S5.out.boxed Sea.enc_len E9.out (by decide) c6_)
   clear P6 c6_ S5 E1 E2 E3 E9 X R6;go_wp2_with (with_reducible refine za5 79 ?_)
   refine zb2 (F:=fun W=>W.heap[v6.heap.size]?=some (Im.obj A6 L6.length c6 A5 L5.length c5)/\W.heap[w.heap.size+1+1]?=some Im.zobj/\RdF Cel.enc 162 2 W (w.heap.size+1+1+1) A6 c6 L6/\RdF Sea.enc 111 3 W (w.heap.size+1+1+1) A5 c5 L5/\Ext w W) ⟨HP.out,HE3.out,HR6.out,HS6.out,HX6.out⟩ ?_
   intro W8 ⟨q1,q2,q3,q4,q5⟩;have E9:=Hd q1;have E3:=Hd q2;have R6:=Hd q3;have S5:=Hd q4;have X:=Hd q5;clear q1 q2 q3 q4 q5 HP HE3 HR6 HS6 HX6 b6 g6 z6
   (go_wp2_with (with_reducible refine za5 79 ?_);refine za6 (E9.out) rfl Tryz.underlying27 (by kernel_rfl) ?_;simp only [Act.put,Sa,Sz,Ss])
   (go_wp2_with (with_reducible refine za8 27 ?_);refine za3 ((w.heap.size+1+1)) (Im.cs A6 L6.length c6 A5 L5.length c5) rfl rfl (E3.out) (by kernel_rfl) rfl (by simp [Value.oneCell']) ?_)
   intro W9 e8 k9;have HE9:=Hd e8;have HX9:=Hd (zac X.out k9 (by omega))
   have HR9:=Hd (R6.out.boxed Cel.enc_len E3.out (by decide) k9)
   have HS9:=Hd (S5.out.boxed Sea.enc_len E3.out (by decide) k9)
   clear e8 k9;go_wp2
   exact bodyPost_ret (zbc Tryz.results69 rfl rfl rfl Tryz.underlying27 (by kernel_rfl) HE9.out) rfl ⟨⟨A6,c6,A5,c5,by rw [HRun2.out.1,HRun2.out.2.1,HRun2.out.2.2,HL5.out];rfl,by rw [HRun2.out.1];exact HR9.out.less (by omega),by rw [HRun2.out.1];show RdF _ _ _ _ _ _ _ (putS ss _);rw [HL5.out];exact HS9.out.less (by omega)⟩,HX9.out⟩
  ·have HRun:=Hd (run_full (m:=(cs,ss)) (e:=e) HGh.out (by show (ss.length == 10)=true;simp at g3 ⊢;omega))
   (go_wp2_with (with_reducible refine za5 60 ?_);refine za6 (E1.out) rfl Tryz.underlying27 (by kernel_rfl) ?_;simp only [Act.put,Sa,Sz,Ss])
   clear d1 z1 d2 z2 d6 z6;go_wp2_with fail
   refine (zck cA cc cs sA sc ss w5 (HC.out.keep X.out) (HS.out.keep X.out) (by omega) (by omega)).mono ?_
   rintro e9 v4 ⟨v5,rfl,⟨A4,c4,B4,d4,rfl,r4,s4⟩,x4⟩;obtain ⟨E3,X⟩:Hid _/\Hid _:=⟨Hd (x4.box E3.out),Hd (Ext.trans X.out x4)⟩;have hz_v4:=x4.size;have R4:=Hd r4;have S4:=Hd s4;clear x4 r4 s4
   (go_wp2_with (with_reducible refine za8 27 ?_);refine za3 ((w.heap.size+1+1)) (Im.cs A4 cs.length c4 B4 ss.length d4) rfl rfl (E3.out) (by kernel_rfl) rfl (by simp [Value.oneCell']) ?_)
   intro W9 e8 k9;have HE9:=Hd e8;have HX9:=Hd (zac X.out k9 (by omega))
   have HR9:=Hd (R4.out.boxed Cel.enc_len E3.out (by decide) k9)
   have HS9:=Hd (S4.out.boxed Sea.enc_len E3.out (by decide) k9)
   clear e8 k9;go_wp2
   exact bodyPost_ret (zbc Tryz.results69 rfl rfl rfl Tryz.underlying27 (by kernel_rfl) HE9.out) rfl ⟨⟨A4,c4,B4,d4,by rw [HRun.out.1,HRun.out.2.1,HRun.out.2.2];rfl,by rw [HRun.out.1];exact HR9.out.less (by omega),by rw [HRun.out.1];exact HS9.out.less (by omega)⟩,HX9.out⟩
 ·cases g1:(x.req == e.req)
  ·cases g2:decide (e.req < x.req)
   ·have hxv:=HXv.out rfl;have HRun:=Hd (run_done (m:=(cs,ss)) (e:=e) (.inl ⟨HGh.out,by rw [<-hxv];exact g1,by rw [<-hxv];exact g2⟩))
    clear hxv
    (go_wp2_with (with_reducible refine za5 63 ?_);refine za6 (E1.out) rfl Tryz.underlying27 (by kernel_rfl) ?_;simp only [Act.put,Sa,Sz,Ss])
    (go_wp2_with (with_reducible refine za5 65 ?_);refine zb3 (zaw (cs:=#[.int .i64 e.kind, .int .i64 e.key, .int .i64 e.value]) E2.out [.int .i64 e.client, .int .i64 e.req] [] rfl rfl) rfl Tryz.underlying35 (by kernel_rfl) ?_;simp only [Act.put,Sa,Sz,Ss])
    clear d1 z1 d2 z2 d6 z6;go_wp2_with fail
    refine (c_sRunCmd cA cc cs sA sc ss e w5 (HC.out.keep X.out) (HS.out.keep X.out) HOk.out HE.out).mono ?_;rintro e9 v6 ⟨⟨A6,c6,B6,d6,rfl,r6,s6⟩,x6⟩;obtain ⟨E1,E2,E3,X⟩:Hid _/\Hid _/\Hid _/\Hid _:=⟨Hd (x6.box E1.out),Hd (x6.box E2.out),Hd (x6.box E3.out),Hd (Ext.trans X.out x6)⟩;have hz_v6:=x6.size;have R6:=Hd (r6.less (B':=w.heap.size+1+1+1) (by omega))
    clear x6 r6 s6 E6;obtain ⟨L6,hL6⟩:∃ L,runCs cs e.kind e.key e.value=L:=⟨_,rfl⟩;obtain ⟨an,han⟩:∃ a,runA cs e.kind e.key e.value=a:=⟨_,rfl⟩;have HRun2:=Hd (show entI (cs,ss) e=(L6,putS ss ⟨e.client,e.req,an⟩)/\entA (cs,ss) e=an/\zb9 (cs,ss) e=0 by rw [<-hL6,<-han];exact HRun.out)
    rw [hL6] at R6;rw [hL6,han];clear hL6 han HRun;have XA:=za1 v6 Im.zobj;have EQ:=Hd (hNew (w:=v6) (o:=Im.zobj) rfl);obtain ⟨E1,E2,E3,X⟩:Hid _/\Hid _/\Hid _/\Hid _:=⟨Hd (XA.box E1.out),Hd (XA.box E2.out),Hd (XA.box E3.out),Hd (Ext.trans X.out XA)⟩;have R6:=Hd (R6.out.keep XA);clear XA
    (go_wp2_with (with_reducible refine za8 27 ?_);refine za3 (v6.heap.size) (Im.cs A6 L6.length c6 B6 ss.length d6) rfl rfl (EQ.out) (by kernel_rfl) rfl (by simp [Value.oneCell']) ?_)
    intro w7 e7 k7;have hlt7:=bx_lt EQ.out;obtain ⟨E1,E2,E3,X⟩:Hid _/\Hid _/\Hid _/\Hid _:=⟨Hd (zap E1.out k7 (by omega)),Hd (zap E2.out k7 (by omega)),Hd (zap E3.out k7 (by omega)),Hd (zaf X.out k7 (fun k hk=>by rw [Mi] at hk;omega))⟩
    have R6:=Hd (R6.out.boxed Cel.enc_len EQ.out (by decide) k7)
    have E9:=Hd e7;have hs7:=bx_lt e7;clear e7 k7 EQ;have d1:=za2 E1.out;have z1:=bx_lt E1.out;have d2:=za2 E2.out;have z2:=bx_lt E2.out;go_wp2_with fail
    refine (zf8 sA sc ss ⟨e.client,e.req,an⟩ w7 (HS.out.keep X.out) (by omega)).mono ?_
    rintro e9 w8 ⟨A5,c5,rfl,o5,x⟩;obtain ⟨E3,E9,X⟩:Hid _/\Hid _/\Hid _:=⟨Hd (x.box E3.out),Hd (x.box E9.out),Hd (Ext.trans X.out x)⟩;have hz_w8:=x.size;have R6:=Hd (R6.out.keep x);clear x d1 z1 d2 z2;have S5:=Hd ((Ow.rdF Sea.enc_len o5).less (B':=w.heap.size+1+1+1) (by omega))
    clear o5;have b6:=za2 E9.out;have g6:=zad E9.out;have z6:=bx_lt E9.out;obtain ⟨L5,hL5⟩:∃ L,refS ⟨e.client,e.req,an⟩ ss false=L:=⟨_,rfl⟩;rw [hL5] at S5;have HL5:=Hd (show putS ss ⟨e.client,e.req,an⟩=L5 by rw [<-hL5];exact (refS_put HOk.out.s.asc).symm)
    rw [hL5];clear hL5;have P6:=zar E9.out 1 (.slice A5 L5.length c5);simp only [Sa,Sz,Ss] at P6;have c6_:=zaq (Chg.refl w8 [v6.heap.size]) (p:=⟨v6.heap.size,1,none⟩) (by simp) (.slice A5 L5.length c5)
    have HP:=Hd P6;have HE3:=Hd (zap E3.out c6_ (by omega))
    have HX6:=Hd (zaf X.out c6_ (fun k hk=>by rw [Mi] at hk;omega))
    have HR6:=Hd (R6.out.boxed Cel.enc_len E9.out (by decide) c6_)
    have HS6:=Hd (S5.out.boxed Sea.enc_len E9.out (by decide) c6_)
    clear P6 c6_ S5 E1 E2 E3 E9 X R6;go_wp2_with (with_reducible refine za5 79 ?_)
    refine zb2 (F:=fun W=>W.heap[v6.heap.size]?=some (Im.obj A6 L6.length c6 A5 L5.length c5)/\W.heap[w.heap.size+1+1]?=some Im.zobj/\RdF Cel.enc 162 2 W (w.heap.size+1+1+1) A6 c6 L6/\RdF Sea.enc 111 3 W (w.heap.size+1+1+1) A5 c5 L5/\Ext w W) ⟨HP.out,HE3.out,HR6.out,HS6.out,HX6.out⟩ ?_
    intro W8 ⟨q1,q2,q3,q4,q5⟩;have E9:=Hd q1;have E3:=Hd q2;have R6:=Hd q3;have S5:=Hd q4;have X:=Hd q5;clear q1 q2 q3 q4 q5 HP HE3 HR6 HS6 HX6 b6 g6 z6
    (go_wp2_with (with_reducible refine za5 79 ?_);refine za6 (E9.out) rfl Tryz.underlying27 (by kernel_rfl) ?_;simp only [Act.put,Sa,Sz,Ss])
    (go_wp2_with (with_reducible refine za8 27 ?_);refine za3 ((w.heap.size+1+1)) (Im.cs A6 L6.length c6 A5 L5.length c5) rfl rfl (E3.out) (by kernel_rfl) rfl (by simp [Value.oneCell']) ?_)
    intro W9 e8 k9;have HE9:=Hd e8;have HX9:=Hd (zac X.out k9 (by omega))
    have HR9:=Hd (R6.out.boxed Cel.enc_len E3.out (by decide) k9)
    have HS9:=Hd (S5.out.boxed Sea.enc_len E3.out (by decide) k9)
    clear e8 k9;go_wp2
    exact bodyPost_ret (zbc Tryz.results69 rfl rfl rfl Tryz.underlying27 (by kernel_rfl) HE9.out) rfl ⟨⟨A6,c6,A5,c5,by rw [HRun2.out.1,HRun2.out.2.1,HRun2.out.2.2,HL5.out];rfl,by rw [HRun2.out.1];exact HR9.out.less (by omega),by rw [HRun2.out.1];show RdF _ _ _ _ _ _ _ (putS ss _);rw [HL5.out];exact HS9.out.less (by omega)⟩,HX9.out⟩
   ·have hxv:=HXv.out rfl;have HRun:=Hd (run_old (m:=(cs,ss)) (e:=e) HGh.out (by rw [<-hxv];exact g1) (by rw [<-hxv];exact g2))
    clear hxv
    (go_wp2_with (with_reducible refine za5 49 ?_);refine za6 (E1.out) rfl Tryz.underlying27 (by kernel_rfl) ?_;simp only [Act.put,Sa,Sz,Ss])
    clear d1 z1 d2 z2 d6 z6;go_wp2_with fail
    refine (zck cA cc cs sA sc ss w5 (HC.out.keep X.out) (HS.out.keep X.out) (by omega) (by omega)).mono ?_
    rintro e9 v4 ⟨v5,rfl,⟨A4,c4,B4,d4,rfl,r4,s4⟩,x4⟩;obtain ⟨E3,X⟩:Hid _/\Hid _:=⟨Hd (x4.box E3.out),Hd (Ext.trans X.out x4)⟩;have hz_v4:=x4.size;have R4:=Hd r4;have S4:=Hd s4;clear x4 r4 s4
    (go_wp2_with (with_reducible refine za8 27 ?_);refine za3 ((w.heap.size+1+1)) (Im.cs A4 cs.length c4 B4 ss.length d4) rfl rfl (E3.out) (by kernel_rfl) rfl (by simp [Value.oneCell']) ?_)
    intro W9 e8 k9;have HE9:=Hd e8;have HX9:=Hd (zac X.out k9 (by omega))
    have HR9:=Hd (R4.out.boxed Cel.enc_len E3.out (by decide) k9)
    have HS9:=Hd (S4.out.boxed Sea.enc_len E3.out (by decide) k9)
    clear e8 k9;go_wp2
    exact bodyPost_ret (zbc Tryz.results69 rfl rfl rfl Tryz.underlying27 (by kernel_rfl) HE9.out) rfl ⟨⟨A4,c4,B4,d4,by rw [HRun.out.1,HRun.out.2.1,HRun.out.2.2];rfl,by rw [HRun.out.1];exact HR9.out.less (by omega),by rw [HRun.out.1];exact HS9.out.less (by omega)⟩,HX9.out⟩
  ·have hxv:=HXv.out rfl;have HRun:=Hd (run_same (m:=(cs,ss)) (e:=e) HGh.out (by rw [<-hxv];exact g1))
   have HAn:=Hd (show x.answer=(zcd ss e.client).answer by rw [hxv])
   clear hxv;go_wp2
   clear d1 z1 d2 z2 d6 z6;have hp5:w.heap.size+1+1 < w5.heap.size:=by omega
   have HW1:=Hd (fun W' (h:(relG (w.heap.size+1+1) 2 27 (ImG (w.heap.size+1+1) (w.heap.size+1+1+1) cs ss) ImG.ext w5.heap.size hp5).rel w5 W')=>zaw (cs:=Im.cs cA cs.length cc sA ss.length sc) (relG_box E1.out (by omega) W' h) [] [] rfl rfl)
   (refine mrg (relG (w.heap.size+1+1) 2 27 (ImG (w.heap.size+1+1) (w.heap.size+1+1+1) cs ss) ImG.ext w5.heap.size hp5) (fun _ _ _=>True) 5 ?_;simp only [Tc,Tz,Dc,Dz])
   (refine mla (HW1.out) Tryz.underlying27 ?_;simp only [Act.put,Sa,Sz,Ss])
   refine mcl Tryz.func116 (ImgV (w.heap.size+1+1+1) cs ss) (ImgV.monoG (by omega)) (fun W' hW'=>(zck cA cc cs sA sc ss W' (HC.out.keep (zaf X.out hW'.1 (fun g hg=>by rw [Mi] at hg;omega))) (HS.out.keep (zaf X.out hW'.1 (fun g hg=>by rw [Mi] at hg;omega))) (by omega) (by omega)).mono fun e9 w' ⟨v,h1,h2,hx⟩=>⟨v,h1,h2.less (by have:=hW'.1.size;omega),Rm.RelK.ext _ _ _ hx⟩) (fun v6 hv6=>?_)
   obtain ⟨_,_,A4,c4,B4,d4,rfl,_⟩:=hv6;simp only [Act.put,Sa,Sz,Ss]
   (refine mpl ?_;go_big_quiet_step (fail);refine mnil ?_)
   (refine ml1 (fun W9' h9=>show W9'.cell? _=some (.int .i64 x.answer) from za2 (relG_box E6.out (by omega) W9' h9) 2) Tryz.underlying3 ?_;simp only [Act.put,Sa,Sz,Ss])
   refine wpMix_stG (cs:=Im.cs A4 cs.length c4 B4 ss.length d4) ⟨_,E3.out,rfl⟩ rfl rfl rfl rfl rfl (by kernel_rfl) rfl (by simp [Value.oneCell']) (fun W hW=>hW.1) (fun W W' hW he hch=>?_) ?_
   ·obtain ⟨A',c',B',d',hv,h1,h2⟩:=hW.2;simp only [Value.agg.injEq,Array.mk.injEq,List.cons.injEq,Value.slice.injEq,true_and,and_true] at hv;obtain ⟨⟨rfl,rfl⟩,rfl,rfl⟩:=hv;exact ⟨_,_,_,_,he,h1.chg Cel.enc_len hch (zeq h1 (fun k hk=>by rw [Mi] at hk;omega)),h2.chg Sea.enc_len hch (zeq h2 (fun k hk=>by rw [Mi] at hk;omega))⟩
   simp only [Act.put,Sa,Sz,Ss];refine Rm.wpMix_nil ?_;rintro W9 ⟨⟨h9,_⟩,A7,c7,B7,d7,e7,r7,s7⟩;have HE9:=Hd e7;have HX9:=Hd (zaf X.out h9.1 (fun k hk=>by rw [Mi] at hk;omega))
   have HR9:=Hd r7;have HS9:=Hd s7;clear h9 e7 r7 s7;go_wp2
   exact bodyPost_ret (zbc Tryz.results69 rfl rfl rfl Tryz.underlying27 (by kernel_rfl) HE9.out) rfl ⟨⟨A7,c7,B7,d7,by rw [HRun.out.1,HRun.out.2.1,HRun.out.2.2,<-HAn.out];rfl,by rw [HRun.out.1];exact HR9.out.less (by omega),by rw [HRun.out.1];exact HS9.out.less (by omega)⟩,HX9.out⟩
end Go.Proofs.YtckfjploafhenaaGreat
