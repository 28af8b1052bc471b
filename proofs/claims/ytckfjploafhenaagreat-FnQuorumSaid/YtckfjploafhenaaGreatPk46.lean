/- Committed of the reference and of the program. -/
import Derived.Test.YtckfjploafhenaaGreatPk45
import Derived.Test.YtckfjploafhenaaGreatPk27
import Derived.Test.YtckfjploafhenaaGreatPk24
import Derived.Test.YtckfjploafhenaaGreatPk30
set_option maxRecDepth 100000
set_option maxHeartbeats 16000000
set_option linter.unusedVariables false
set_option linter.unusedSimpArgs false
namespace Go.Proofs.YtckfjploafhenaaGreat
open Go.ChangeShapes Go.WideShapes Go.ChangeAt Go.RowKit Go.Sort
abbrev Ent.zbox:Obj := .cells #[.int .i64 0, .int .i64 0, .int .i64 0, .int .i64 0, .int .i64 0] 104
theorem c_iLogAt (a:LAd) (l:Lg) (j:Nat) (w:World) (hr:LgR w a l) (hok:logOk l=true) (hj:j < l.ents.length) :
  Calls Tryz.prog 58 #[Lg.val a l, .int .i64 (l.base+j+1)] w fun e9 w'=>e9 = .returned (.tuple #[l.ents[j].val, .bool true])/\Ext w w':=by
 obtain ⟨hb0,hb1,h60,hIm,hAll⟩:=log_b hok;have hsm:=logOk_sm hok;obtain ⟨w1,hw1⟩:∃ w1,((w.alloc (Lg.obj a l)).alloc Ent.zbox)=w1:=⟨_,rfl⟩;have X0:Ext w w1:=by rw [<-hw1];exact za9 (za1 _ _) _
 have E1:=Hd (show w1.heap[w.heap.size]?=some (Lg.obj a l) by rw [<-hw1];exact hOld (o:=Ent.zbox) (hNew (w:=w) (o:=Lg.obj a l) rfl))
 have E2:=Hd (show w1.heap[w.heap.size+1]?=some Ent.zbox by rw [<-hw1];exact hNew (w:=w.alloc (Lg.obj a l)) (o:=Ent.zbox) (k:=w.heap.size+1) (by simp))
 have HK:=Hd (show ∀ W,Ext w1 W->Calls Tryz.prog 101 #[Lg.val a l] W fun e w'=>e = .returned (.bool true)/\Ext W w' from fun W h=>by
  have h5:=c_iLogOk a l hsm.1 hsm.2.1 hsm.2.2 W (hr.keep (Ext.trans X0 h));rw [hok] at h5
  exact h5)
 have HF:=Hd (show ∀ W,Calls Tryz.prog 53 #[.int .i64 (l.base+j+1), .int .i64 (l.base+1), .int .i64 l.fin] W fun e w'=>e = .returned (.bool true)/\Ext W w' from fun W=>by
  have h5:=zce (l.base+j+1) (l.base+1) l.fin W;rw [show inB (l.base+j+1) (l.base+1) l.fin=true by rw [zcu];unfold Lg.fin;omega] at h5
  exact h5)
 have HR:=Hd hr;have X:=Hd X0;have hz1_:=bx_lt E2.out;have HW0:=Hd hw1;have hsub:l.base+(j:Int)+1 - l.base - 1=(j:Int):=by omega
 clear hr hok hw1 X0 hIm hAll hsm
 go_enter Tryz.func58,Tryz.ntmps58
 go_wp2
 refine ziu (F:=fun W=>W=w1) HW0.out ?_
 intro W1 hW1;subst hW1;clear HW0;have d1:=za2 E1.out;have z1:=bx_lt E1.out
 (refine mrx (fun _ _ _=>True) 13 (fun hg=>?_);simp only [Tc,Tz,Dc,Dz])
 (repeat (first | (refine mqu ?_;go_big_quiet_step (fail);refine mnil ?_) | (refine msk ?_;simp only [Act.put,Sa,Sz,Ss]) | (refine Rm.more ?_;refine mdt Tryz.func101 (fun W hW=>HK.out W hW) ?_;simp only [Act.put,Sa,Sz,Ss]) | (refine Rm.more ?_;refine mdt Tryz.func15 (fun W hW=>c_end a l W (by omega) (by omega) (by omega)) ?_;simp only [Act.put,Sa,Sz,Ss]) | (refine Rm.more ?_;refine mdt Tryz.func53 (fun W hW=>HF.out W) ?_;simp only [Act.put,Sa,Sz,Ss])))
 (refine Rm.wpMix_nil ?_;intro w2 hw2)
 obtain ⟨E1,E2,X⟩:Hid _/\Hid _/\Hid _:=⟨Hd (hw2.box E1.out),Hd (hw2.box E2.out),Hd (Ext.trans X.out hw2)⟩;have hsz2:=hw2.size;obtain ⟨ab,ao,hA,hab,a0,a1,a2,a3,a4⟩:=(HR.out.2.2.keep X.out).atEnt hj;clear hw2 d1 z1 HK HF;have d1:=za2 E1.out;have z1:=bx_lt E1.out
 (go_wp2_with (with_reducible refine za8 104 ?_);refine za3 ((w.heap.size+1)) #[.int .i64 l.ents[j].client, .int .i64 l.ents[j].req, .int .i64 l.ents[j].kind, .int .i64 l.ents[j].key, .int .i64 l.ents[j].value] rfl rfl (E2.out) (by kernel_rfl) rfl (by simp [Value.oneCell']) ?_)
 intro W9 e8 k9;have HE9:=Hd e8;have HX9:=Hd (zac X.out k9 (by omega))
 clear e8 k9;go_wp2
 exact bodyPost_ret (zaj Tryz.results58 rfl rfl Tryz.underlying104 (by kernel_rfl) HE9.out) rfl ⟨rfl,HX9.out⟩
theorem c_sLogAt (a:LAd) (l:Lg) (j:Nat) (w:World) (hr:LgR w a l) (hok:logOk l=true) (hj:j < l.ents.length) :
  Calls Tryz.prog 68 #[Lg.val a l, .int .i64 (l.base+j+1)] w fun e9 w'=>e9 = .returned (.tuple #[l.ents[j].val, .bool true])/\Ext w w':=by
 obtain ⟨hb0,hb1,h60,hIm,hAll⟩:=log_b hok;have hsm:=logOk_sm hok;obtain ⟨w1,hw1⟩:∃ w1,((w.alloc (Lg.obj a l)).alloc Ent.zbox)=w1:=⟨_,rfl⟩;have X0:Ext w w1:=by rw [<-hw1];exact za9 (za1 _ _) _
 have E1:=Hd (show w1.heap[w.heap.size]?=some (Lg.obj a l) by rw [<-hw1];exact hOld (o:=Ent.zbox) (hNew (w:=w) (o:=Lg.obj a l) rfl))
 have E2:=Hd (show w1.heap[w.heap.size+1]?=some Ent.zbox by rw [<-hw1];exact hNew (w:=w.alloc (Lg.obj a l)) (o:=Ent.zbox) (k:=w.heap.size+1) (by simp))
 have HK:=Hd (show ∀ W,Ext w1 W->Calls Tryz.prog 66 #[Lg.val a l] W fun e w'=>e = .returned (.bool true)/\Ext W w' from fun W h=>by
  have h5:=zhk a l hsm.1 hsm.2.1 hsm.2.2 W (hr.keep (Ext.trans X0 h));rw [hok] at h5
  exact h5)
 have HE:=Hd (show ∀ W,Ext w1 W->Calls Tryz.prog 24 #[Lg.val a l] W fun e w'=>e = .returned (.int .i64 l.fin)/\Ext W w' from fun W h=>zdy a l hsm.1 hsm.2.1 hsm.2.2 W (hr.keep (Ext.trans X0 h)) hok)
 have HR:=Hd hr;have X:=Hd X0;have hz1_:=bx_lt E2.out;have HW0:=Hd hw1;have hsub:l.base+(j:Int)+1 - l.base - 1=(j:Int):=by omega
 have g1:decide (l.base+(j:Int)+1<=l.base)=false:=by simp;omega
 have g2:decide (l.fin < l.base+(j:Int)+1)=false:=by unfold Lg.fin;simp;omega
 clear hr hok hw1 X0 hIm hAll hsm
 go_enter Tryz.func68,Tryz.ntmps68
 go_wp2_with (with_reducible refine za5 6 ?_)
 refine zb2 (F:=fun W=>W=w1) HW0.out ?_
 intro W1 hW1;subst hW1;clear HW0;have d1:=za2 E1.out;have z1:=bx_lt E1.out;go_wp2_with fail
 refine (HK.out _ (za4 _)).mono ?_;rintro e9 w2 ⟨rfl,hw2⟩;obtain ⟨E1,E2,X⟩:Hid _/\Hid _/\Hid _:=⟨Hd (hw2.box E1.out),Hd (hw2.box E2.out),Hd (Ext.trans X.out hw2)⟩;have HX2:=Hd hw2;have hsz2:=hw2.size;clear hw2 d1 z1 HK;have d1:=za2 E1.out;have z1:=bx_lt E1.out;go_wp2_with fail
 refine (HE.out _ HX2.out).mono ?_;rintro e9 w3 ⟨rfl,hw3⟩;obtain ⟨E1,E2,X⟩:Hid _/\Hid _/\Hid _:=⟨Hd (hw3.box E1.out),Hd (hw3.box E2.out),Hd (Ext.trans X.out hw3)⟩;have hsz3:=hw3.size;obtain ⟨ab,ao,hA,hab,a0,a1,a2,a3,a4⟩:=(HR.out.2.2.keep X.out).atEnt hj;clear hw3 d1 z1 HE HX2;have d1:=za2 E1.out;have z1:=bx_lt E1.out
 (go_wp2_with (with_reducible refine za8 104 ?_);refine za3 ((w.heap.size+1)) #[.int .i64 l.ents[j].client, .int .i64 l.ents[j].req, .int .i64 l.ents[j].kind, .int .i64 l.ents[j].key, .int .i64 l.ents[j].value] rfl rfl (E2.out) (by kernel_rfl) rfl (by simp [Value.oneCell']) ?_)
 intro W9 e8 k9;have HE9:=Hd e8;have HX9:=Hd (zac X.out k9 (by omega))
 clear e8 k9;go_wp2
 exact bodyPost_ret (zaj Tryz.results68 rfl rfl Tryz.underlying104 (by kernel_rfl) HE9.out) rfl ⟨rfl,HX9.out⟩
theorem c_iSeatOf (cA:Option Addr) (cc:Nat) (cs:List Cel) (sA:Option Addr) (sc:Nat) (ss:List Sea) (t:Int) (w:World) (hc:Rd Cel.enc 2 w cA cc cs) (hs:Rd Sea.enc 3 w sA sc ss) (hok:ImgP (cs,ss)) (h0:0<=t) (h1:t<=1000000000) :
  Calls Tryz.prog 61 #[Im.val cA cs.length cc sA ss.length sc, .int .i64 t] w fun e w'=>(∃ x:Sea,e = .returned (.tuple #[.agg #[.int .i64 x.client, .int .i64 x.req, .int .i64 x.answer], .bool (hasS ss t)])/\(hasS ss t=true->x=zcd ss t))/\Ext w w':=by
 have hcl:cs.length<=40:=hok.c.len;have hsl:ss.length<=10:=hok.s.len;have X0:Ext w ((w.alloc (Im.obj cA cs.length cc sA ss.length sc)).alloc Sea.zobj):=za9 (za1 _ _) _;have D1:=Hd (hOld (o:=Sea.zobj) (hNew (w:=w) (o:=Im.obj cA cs.length cc sA ss.length sc) rfl));have D2:=Hd (hNew (w:=w.alloc (Im.obj cA cs.length cc sA ss.length sc)) (o:=Sea.zobj) (k:=w.heap.size+1) (by simp))
 have HC:=Hd (show ∀ W,Ext ((w.alloc (Im.obj cA cs.length cc sA ss.length sc)).alloc Sea.zobj) W->Calls Tryz.prog 105 #[Im.val cA cs.length cc sA ss.length sc] W fun e w'=>e = .returned (.bool true)/\Ext W w' from fun W h=>by
  have h5:=c_iImageOk cA cc cs sA sc ss W (hc.keep (Ext.trans X0 h)) (hs.keep (Ext.trans X0 h)) (by omega) (by omega)
  rw [show zbj cs ss=true from hok.ok] at h5
  exact h5)
 have HX0:=Hd X0;have HR:=Hd (hs.keep X0);have HOk:=Hd hok;obtain ⟨n,hn⟩:∃ n,lbS ss t=n:=⟨_,rfl⟩;obtain ⟨gh,hgh⟩:∃ b,hasS ss t=b:=⟨_,rfl⟩
 have HSf:=Hd (show ∀ W,Ext ((w.alloc (Im.obj cA cs.length cc sA ss.length sc)).alloc Sea.zobj) W->Calls Tryz.prog 107 #[Im.val cA cs.length cc sA ss.length sc, .int .i64 t] W fun e w'=>e = .returned (.tuple #[.int .i64 n, .bool gh])/\Ext W w' from fun W h=>by
  rw [<-hn,<-hgh]
  exact c_seatFor cA cs.length cc sA sc ss t W (hs.keep (Ext.trans X0 h)) hok.s.ok h0 h1)
 have HN:=Hd hn;have HG:=Hd hgh;clear X0 hc hs hok hn hgh
 go_enter Tryz.func61,Tryz.ntmps61
 go_wp2_with fail
 refine (HC.out _ (za4 _)).mono ?_;rintro e9 w2 ⟨rfl,x2⟩;have E1:=Hd (x2.box D1.out);have E2:=Hd (x2.box D2.out);have X2:=Hd x2;have hz2:=x2.size;simp only [zag] at hz2;clear x2 D1 D2 HC;have d1:=za2 E1.out;have z1:=bx_lt E1.out;go_wp2_with fail
 refine (HSf.out _ X2.out).mono ?_;rintro e9 w3 ⟨rfl,x3⟩;obtain ⟨E1,E2,X3⟩:Hid _/\Hid _/\Hid _:=⟨Hd (x3.box E1.out),Hd (x3.box E2.out),Hd (Ext.trans X2.out x3)⟩;have hz3:=x3.size;clear x3 d1 z1 HSf X2;cases gh
 ·(go_wp2_with (with_reducible refine za8 111 ?_);refine za3 ((w.heap.size+1)) #[.int .i64 0, .int .i64 0, .int .i64 0] rfl rfl (E2.out) (by kernel_rfl) rfl (by simp [Value.oneCell']) ?_)
  intro W9 e9 k9;have HE9:=Hd e9;have HX9:=Hd (zac (Ext.trans HX0.out X3.out) k9 (by omega))
  clear e9 k9;go_wp2
  exact bodyPost_ret (zaj Tryz.results61 rfl rfl Tryz.underlying111 (by kernel_rfl) HE9.out) rfl ⟨⟨Sea.z,by rw [HG.out];rfl,fun h=>by rw [HG.out] at h;cases h⟩,HX9.out⟩
 ·have hk:=hasS_in HG.out;rw [HN.out] at hk;obtain ⟨ab,ao,hA,hab,a0,a1,a2⟩:=(HR.out.keep X3.out).atSea hk;subst hA;have HS:=Hd (show ss[n]=zcd ss t by unfold zcd;rw [HN.out];simp [hk])
  have d1:=za2 E1.out;have z1:=bx_lt E1.out
  (go_wp2_with (with_reducible refine za8 111 ?_);refine za3 ((w.heap.size+1)) #[.int .i64 ss[n].client, .int .i64 ss[n].req, .int .i64 ss[n].answer] rfl rfl (E2.out) (by kernel_rfl) rfl (by simp [Value.oneCell']) ?_)
  intro W9 e9 k9;have HE9:=Hd e9;have HX9:=Hd (zac (Ext.trans HX0.out X3.out) k9 (by omega))
  clear e9 k9;go_wp2
  exact bodyPost_ret (zaj Tryz.results61 rfl rfl Tryz.underlying111 (by kernel_rfl) HE9.out) rfl ⟨⟨ss[n],by rw [HG.out];rfl,fun _=>HS.out⟩,HX9.out⟩
def repB (m:Img) (e:Ent):Bool:=(zb9 m e == 0) || ((zb9 m e == 3) || ((zb9 m e == 2) && ((zcd m.2 e.client).req == e.req)))
def repM (view:Int) (e:Ent) (x:Int):Mg:=⟨12,0,view,0,0,0,0,e.client,e.req,x,0,0,0,Lg.none⟩
def repO (view:Int) (l:Lg) (j:Nat):List Ot :=
 match l.ents[j]? with
 | some e=>if repB (allI (l.cells,l.seats) (l.ents.take j)) e=true then [⟨-1,repM view e (entA (allI (l.cells,l.seats) (l.ents.take j)) e)⟩] else []
 | none=>[]
def ansO (view:Int) (l:Lg) (j:Nat):Nat->List Ot
 | 0=>[]
 | n+1=>ansO view l j n++repO view l (j+n)
theorem repO_len (view:Int) (l:Lg) (j:Nat):(repO view l j).length<=1:=by
 unfold repO;split
 ·split <;> simp
 ·simp
theorem zi5 (view:Int) (l:Lg) (j:Nat):∀ n,(ansO view l j n).length<=n
 | 0=>Nat.le_refl _
 | n+1=>by
  have h1:=zi5 view l j n;have h2:=repO_len view l (j+n);unfold ansO;rw [List.length_append];omega
theorem zh5 (view:Int) (l:Lg) (j n:Nat):ansO view l j (n+1)=ansO view l j n++repO view l (j+n):=rfl
theorem repO_yes {view:Int} {l:Lg} {j:Nat} (h:j < l.ents.length) {m:Img} (hm:allI (l.cells,l.seats) (l.ents.take j)=m) (hb:repB m l.ents[j]=true):repO view l j=[⟨-1,repM view l.ents[j] (entA m l.ents[j])⟩]:=by
 unfold repO;rw [List.getElem?_eq_getElem h,hm];show (if repB m l.ents[j]=true then _ else _)=_
 rw [if_pos hb]
theorem repO_no {view:Int} {l:Lg} {j:Nat} (h:j < l.ents.length) {m:Img} (hm:allI (l.cells,l.seats) (l.ents.take j)=m) (hb:repB m l.ents[j]=false):repO view l j=[]:=by
 unfold repO;rw [List.getElem?_eq_getElem h,hm];show (if repB m l.ents[j]=true then _ else _)=_
 rw [hb];rfl
theorem code_cases (m:Img) (e:Ent):(zb9 m e=0)\/(zb9 m e=3)\/(zb9 m e=2/\hasS m.2 e.client=true):=by
 unfold zb9;by_cases h:(sameE m.2 e || oldE m.2 e)=true
 ·rw [if_pos h];refine .inr (.inr ⟨rfl, ?_⟩);simp only [sameE,oldE,Bool.or_eq_true,Bool.and_eq_true] at h;rcases h with h | h <;> exact h.1
 ·rw [if_neg h];split
  ·exact .inr (.inl rfl)
  ·exact .inl rfl
def VsOk (ps:List VtE):Prop:=∀ p∈ps,logOk p.2.log=true
instance (ps:List VtE):Decidable (VsOk ps):=inferInstanceAs (Decidable (∀ p∈ps,_))
def Rp.votesTo (r:Rp) (l:List Vt):Rp:=⟨r.me,r.of,r.mode,r.view,r.normal,r.commit,r.log,l,r.cell,r.nonce⟩
def Rp.voted (r:Rp) (v:Vt):Rp:=if r.votes.length < 20 then r.votesTo (r.votes++[v]) else r
def isV (kind who:Int) (v:Vt):Bool:=v.kind == kind && v.frm == who
def findV (kind who:Int) (l:List Vt):Int:=idxOf (isV kind who) l
abbrev Vt.cs (a:LAd) (v:Vt):Array Value:=#[.int .i64 v.kind, .int .i64 v.frm, .int .i64 v.view, .int .i64 v.normal, .int .i64 v.op, .int .i64 v.commit, .int .i64 v.log.base, .slice a.cA v.log.cells.length a.cc, .slice a.sA v.log.seats.length a.sc, .slice a.eA v.log.ents.length a.ec]
theorem vt_log {w w':World} {p:Nat} {a:LAd} {v:Vt} (hb:w.heap[p]?=some (Vt.obj a v)) (hx:Ext w w'):∀ j u,(Lg.cs a v.log).toList[j]?=some u->w'.cell? ⟨p,6+j,none⟩=some u :=
 zaw (cs:=Lg.cs a v.log) (hx.box hb) [.int .i64 v.kind, .int .i64 v.frm, .int .i64 v.view, .int .i64 v.normal, .int .i64 v.op, .int .i64 v.commit] [] rfl rfl
theorem vt_whole {w w':World} {p:Nat} {a:LAd} {v:Vt} (hb:w.heap[p]?=some (Vt.obj a v)) (hx:Ext w w'):∀ j u,(Vt.cs a v).toList[j]?=some u->w'.cell? ⟨p,0+j,none⟩=some u :=
 zaw (cs:=Vt.cs a v) (hx.box hb) [] [] rfl rfl
section
variable {W0 w w':World} {p:Nat} {a:LAd} {A:Option Addr} {c:Nat} {qs:List VtE} {R:Rp} {Ao:Option Addr} {co:Nat} {os:List OtE}
theorem KZ.voted {A':Option Addr} {c':Nat} {a':LAd} {v:Vt} {w1:World} (h:KZ W0 w p a A c qs R Ao co os) (hx:Ext w w1) (ho:LgO w1 w.heap.size w1.heap.size a' v.log) (hg:Chg w1 w' (p::blk A)) (hb:w'.heap[p]?=some (Kp.obj a A' (qs++[(a',v)]).length c' (R.votesTo (R.votes++[v])) (.slice Ao os.length co)))
  (hrow:Ow VtE.enc 45 10 w' W0.heap.size (.slice A' (qs++[(a',v)]).length c') (qs++[(a',v)])):KZ W0 w' p a A' c' (qs++[(a',v)]) (R.votesTo (R.votes++[v])) Ao co os:=by
 have h1:=h.keep hx;have hq:VsQ w1 W0.heap.size (qs++[(a',v)]):=(show VsQ w W0.heap.size qs from ⟨h.rp.v.l,(List.nodup_append.1 h.rp.v.nd).2.1⟩).step h.x.size ho hx
 have hneL:∀ q∈qs++[(a',v)],∀ k∈q.1.fp,k∉p::blk A:=fun q hq' k hk hm=>by
  rcases List.mem_cons.1 hm with e | hm
  ·subst e;exact zcx h1.box (hq.l q hq') (by decide) (by decide) (by decide) hk
  ·exact zg0 (hq.l q hq') h1.rp.v.r k hk hm
 have hv:=(hq.chg hg hneL).own hrow
 have hl:LgO w' W0.heap.size w'.heap.size a R.log:=(h1.rp.l.chg hg (fun k hk hm=>by
  rcases List.mem_cons.1 hm with e | hm
  ·subst e;exact zcx h1.box h1.rp.l (by decide) (by decide) (by decide) hk
  ·exact zg0 h1.rp.l h1.rp.v.r k hk hm)).wide (Nat.le_refl _) hg.size
 have hnew:∀ k∈a'.fp,w.heap.size<=k:=ho.low;have hlow:∀ k∈a.fp++vsF A qs,k < w.heap.size:=fun k hk=>(h.rp.fpIn k hk).2
 have hlo:=(h1.logs.chg hg (fun q hq' k hk hm=>by
  rcases List.mem_cons.1 hm with e | hm
  ·subst e;exact h1.pL q hq' hk
  ·exact h1.d k (List.mem_append_right _ (List.mem_append_left _ hm)) q hq' hk))
 refine ⟨hb,zaf h1.x hg (fun g hg'=>?_),h.low,⟨hl,hv, ?_,fun k hk hm=>?_⟩,h1.row.chg hg (fun k hk hm=>?_),hlo,fun x hx' q hq' hm=>?_⟩
 ·rcases List.mem_cons.1 hg' with e | hm
  ·rw [e];exact h.low
  ·exact (h1.rp.v.r.inB g hm).1
 ·rw [List.map_append,h.rp.e];rfl
 ·rcases List.mem_append.1 hm with hm | hm
  ·exact zg0 hl hrow k hk hm
  ·rw [List.flatMap_append] at hm;rcases List.mem_append.1 hm with hm | hm
   ·exact h.rp.d k hk (List.mem_append_right _ hm)
   ·have h2:=hnew k (by simpa using hm)
    have h3:=hlow k (List.mem_append_left _ hk);omega
 ·rcases List.mem_cons.1 hm with e | hm
  ·subst e;exact h1.pO hk
  ·exact h1.rp.apartO h1.row k (List.mem_append_right _ (List.mem_append_left _ hm)) hk
 ·rcases List.mem_append.1 hx' with hx' | hx'
  ·exact h.d x (List.mem_append_left _ hx') q hq' hm
  ·rcases List.mem_append.1 hx' with hx' | hx'
   ·exact zg0 (hlo.l q hq') hrow x hm hx'
   ·rw [List.flatMap_append] at hx';rcases List.mem_append.1 hx' with hx' | hx'
    ·exact h.d x (List.mem_append_right _ (List.mem_append_right _ hx')) q hq' hm
    ·have h2:=hnew x (by simpa using hx')
     have h3:=(h.logs.l q hq').lt x hm;omega
theorem KZ.qlen (h:KZ W0 w p a A c qs R Ao co os):R.votes.length=qs.length:=by rw [<-h.rp.e,List.length_map]
theorem c_vote (hk:KZ W0 w p a A c qs R Ao co os) (av:LAd) (v:Vt) (hl:LgR w av v.log) (hs:v.log.small) :
  Calls Tryz.prog 17 #[.pointer (some ⟨p,0,none⟩),VtE.val av v] w fun e w'=>e = .returned (.tuple #[])/\∃ A' c' qs',KZ W0 w' p a A' c' qs' (R.voted v) Ao co os:=by
 obtain ⟨i0,hi,hz0,hz1,hz2⟩:=info_parts Tryz.infoVt;have hql:=hk.qlen;have X0:=za1 w (Vt.obj av v);have HB:=Hd (hNew (w:=w) (o:=Vt.obj av v) rfl);have HC:=Hd (c_copyLog av v.log hs _ (hl.keep X0));have HK:=Hd hk;have d:=za2 hk.box;have z:=bx_lt hk.box;by_cases h20:qs.length < 20
 ·have HV:=Hd (show R.votesTo (R.votes++[v])=R.voted v by unfold Rp.voted;rw [if_pos (by omega)])
  have g20:decide ((qs.length:Int) < 20)=true:=by simp;omega
  clear hk hl hs hql
  go_enter Tryz.func17,Tryz.ntmps17
  (go_wp2_with (with_reducible refine za5 12 ?_);refine zb3 (vt_log HB.out (za4 _)) rfl Tryz.underlying30 (by kernel_rfl) ?_;simp only [Act.put,Sa,Sz,Ss])
  go_wp2_with fail
  refine HC.out.mono ?_;rintro e w1 ⟨a',rfl,o1,x1⟩;have B1:=x1.box HB.out;have b1:=za2 B1;have f1:=zad B1;have z1:=bx_lt B1;have P1:=zar (zar (zar (zar B1 6 (.int .i64 v.log.base)) 7 (.slice a'.cA v.log.cells.length a'.cc)) 8 (.slice a'.sA v.log.seats.length a'.sc)) 9 (.slice a'.eA v.log.ents.length a'.ec);simp only [Sa,Sz,Ss] at P1;have hcs:=zaq (zaq (zaq (zaq (Chg.refl w1 [w.heap.size]) (p:=⟨w.heap.size,6,none⟩) (by simp) (.int .i64 v.log.base)) (p:=⟨w.heap.size,7,none⟩) (by simp) (.slice a'.cA v.log.cells.length a'.cc)) (p:=⟨w.heap.size,8,none⟩) (by simp) (.slice a'.sA v.log.seats.length a'.sc)) (p:=⟨w.heap.size,9,none⟩) (by simp) (.slice a'.eA v.log.ents.length a'.ec)
  simp only [zag] at o1;have HO:=Hd (o1.chg1 hcs (by omega))
  have HP1:=Hd P1;have HX1:=Hd (zac (Ext.trans X0 x1) hcs (Nat.le_refl _));have HS:=Hd hcs.size;clear B1 P1 hcs o1 x1 X0 HC HB d z;go_wp2
  refine ziu (F:=fun W=>W.heap[w.heap.size]?=some (Vt.obj a' v)/\LgO W (w.heap.size+1) W.heap.size a' v.log/\Ext w W) ⟨HP1.out,HO.out.wide (Nat.le_refl _) (by exact HS.out),HX1.out⟩ ?_
  intro W2 ⟨E2,O2,X2⟩;clear b1 f1 z1 HP1 HO HX1 HS;have D2:=Hd (X2.box HK.out.box);have HE2:=Hd E2;have HO2:=Hd O2;have HX2:=Hd X2;clear E2 O2
  (refine mrg (relE W2.heap.size) (fun _ _ _=>True) 8 ?_;simp only [Tc,Tz,Dc,Dz])
  (iterate 2 (refine mpl ?_;go_big_quiet_step (fail);refine mnil ?_))
  (refine Rm.wpMix_nilp rfl rfl rfl ?_;simp only [Act.put,Sa,Sz,Ss])
  (iterate 2 (refine mpl ?_;go_big_quiet_step (fail);refine mnil ?_))
  (refine ml1 (fun W9' h9=>show W9'.cell? _=some (.slice A qs.length c) from za2 (Ext.box h9 D2.out) 10) Tryz.underlying31 ?_;simp only [Act.put,Sa,Sz,Ss])
  (refine mla (fun W9' h9=>vt_whole HE2.out h9) Tryz.underlying45 ?_;simp only [Act.put,Sa,Sz,Ss])
  (refine Rm.wpMix_alloc (.cells (Vt.cs a' v) 45) rfl (fun W=>by kernel_rfl) ?_;intro p1 hp1 hps1 hpi1;simp only [zen,Act.put,Sa,Sz,Ss])
  refine Rm.wpMix_nil ?_;rintro W3 ⟨X3,E3⟩;have X3':Ext W2 W3:=X3;have hB3:W0.heap.size<=W3.heap.size:=by have:=HK.out.x.size;have:=X2.size;have:=X3'.size;omega
  have HXw:=Hd (Ext.trans X2 X3');have HK3:=Hd (HK.out.keep HXw.out);have HO3:=Hd ((HO2.out.kept X3').wide (Nat.le_succ _) X3'.size);have HE3:=Hd E3;clear X3 X3' E3 hp1 hps1 hpi1 HE2 HO2 HX2 D2 X2;go_wp2_with (at_builtin;refine zcn (enc:=VtE.enc) rfl _ _ 31 rfl W0.heap.size 45 i0 Vt.zero 10 128 Tryz.underlying31 hi hz0 hz1 hz2 rfl (by decide) VtE.len VtE.one (.slice A qs.length c) qs rfl HK3.out.rp.v.r (some ⟨p1,0,none⟩) 1 [(a',v)] 1 rfl rfl (Rd.one HE3.out rfl) ?c1 ?c2 ?c3 ?_)
  case c1=>unfold maxLen;simp;omega
  case c2=>simp;omega
  case c3=>exact hB3
  intro v' w4 ho4 hg4;obtain ⟨A',c',rfl⟩:=ho4.form;have c4:=zaz hg4;have hpA:p∉blk A:=fun hm=>HK3.out.pB (List.mem_append_right _ (List.mem_append_left _ hm))
  have D4:=zbx HK3.out.box c4 hpA;have d4:=za2 D4;have g4:=zad D4;have z4:=bx_lt D4;have P4:=zar D4 10 (.slice A' (qs.length+1) c');simp only [Sa,Sz,Ss] at P4;have hl1:(qs++[(a',v)]).length=qs.length+1:=by simp
  rw [hl1] at ho4;have c5:=zaq (Chg.refl w4 [p]) (p:=⟨p,10,none⟩) (by simp) (.slice A' (qs.length+1) c')
  have hpb:=zam D4 ho4 (by decide)
  have c45:=(c4.more (fun k hk=>List.mem_cons_of_mem p hk)).trans (c5.more (fun k hk=>by rw [Mi] at hk;subst hk;exact List.mem_cons_self))
  have HF:=Hd (HK.out.voted HXw.out HO3.out c45 (by rw [hl1];exact P4) (by rw [hl1];exact ho4.chg c5 (fun k hk hm=>by rw [Mi] at hm;subst hm;exact hpb hk)))
  clear c4 c5 c45 P4 ho4 hg4 D4 hpb hl1 HXw HO3 HK3 HK;go_wp2
  refine bodyPost_end (v := .tuple #[]) (by simp [results,Tryz.results17,go_sem]) rfl ?_
  rw [<-HV.out];exact ⟨rfl,A',c',_,HF.out⟩
 ·have HV:=Hd (show R=R.voted v by unfold Rp.voted;rw [if_neg (by omega)])
  have g20:decide ((qs.length:Int) < 20)=false:=by simp;omega
  have HF:=Hd (HK.out.keep X0);clear hk hl hs hql HC HB X0
  go_enter Tryz.func17,Tryz.ntmps17
  go_wp2
  refine bodyPost_end (v := .tuple #[]) (by simp [results,Tryz.results17,go_sem]) rfl ?_
  rw [<-HV.out];exact ⟨rfl,A,c,qs,HF.out⟩
end
theorem c_find1 (kind who:Int) (K B:Nat) (av:LAd) (v:Vt) (w:World) (hK:K < w.heap.size) (hB:B < w.heap.size) (hc:w.cell? ⟨K,0,none⟩=some (.int .i64 kind)) (hd:w.cell? ⟨B,0,none⟩=some (.int .i64 who)) :
  Calls Tryz.prog 55 #[VtE.val av v, .pointer (some ⟨K,0,none⟩), .pointer (some ⟨B,0,none⟩)] w fun e w'=>e = .returned (.bool (isV kind who v))/\Ext w w':=by
 have h1:¬ K=w.heap.size:=by omega
 have h2:¬ B=w.heap.size:=by omega
 go_enter Tryz.func55,Tryz.ntmps55
 go_wp2
 all_goals
  go_ret
  exact ⟨za7 (by simp_all [isV]),za1 _ _⟩
theorem idxOf_map {α β:Type} (f:α->β) (p:β->Bool) (l:List α):idxOf (fun x=>p (f x)) l=idxOf p (l.map f):=by
 unfold idxOf;rw [List.findIdx?_map];rfl
theorem c_find (kind who:Int) (p:Nat) (a:LAd) (A:Option Addr) (c:Nat) (qs:List VtE) (R:Rp) (O:Value) (w:World) (hb:w.heap[p]?=some (Kp.obj a A qs.length c R O)) (hr:Rd VtE.enc 10 w A c qs) (he:qs.map Prod.snd=R.votes) (hn:qs.length<=1048576) :
  Calls Tryz.prog 16 #[.pointer (some ⟨p,0,none⟩), .int .i64 kind, .int .i64 who] w fun e w'=>e = .returned (.int .i64 (findV kind who R.votes))/\Ext w w':=by
 have X0:Ext w ((w.alloc (.cells #[.int .i64 kind] 3)).alloc (.cells #[.int .i64 who] 3)):=za9 (za1 _ _) _
 have hcon:=Hd (c_idxVtE 55 #[.pointer (some ⟨w.heap.size,0,none⟩), .pointer (some ⟨w.heap.size+1,0,none⟩)] (fun q=>isV kind who q.2) (enters Tryz.func55 (by kernel_rfl) rfl) A c qs _ (hr.keep X0) (by omega)
  (fun W hW k hk=>c_find1 kind who w.heap.size (w.heap.size+1) _ _ W (bx_lt (hW.box (hOld (o := .cells #[.int .i64 who] 3) (hNew (w:=w) (o := .cells #[.int .i64 kind] 3) rfl)))) (bx_lt (hW.box (hNew (w:=w.alloc (.cells #[.int .i64 kind] 3)) (o := .cells #[.int .i64 who] 3) (k:=w.heap.size+1) (by simp))))
   (za2 (hW.box (hOld (o := .cells #[.int .i64 who] 3) (hNew (w:=w) (o := .cells #[.int .i64 kind] 3) rfl))) 0) (za2 (hW.box (hNew (w:=w.alloc (.cells #[.int .i64 kind] 3)) (o := .cells #[.int .i64 who] 3) (k:=w.heap.size+1) (by simp))) 0)))
 have HV:=Hd (show idxOf (fun q:VtE=>isV kind who q.2) qs=findV kind who R.votes by unfold findV;rw [<-he];exact idxOf_map Prod.snd (isV kind who) qs)
 have d:=za2 hb;have z:=bx_lt hb;have HX0:=Hd X0;clear hb hr he X0
 go_enter Tryz.func16,Tryz.ntmps16
 go_wp2_with fail
 refine hcon.out.mono ?_;rintro e w1 ⟨rfl,x1⟩;rw [HV.out];go_wp2
 go_ret
 exact ⟨rfl,Ext.trans HX0.out x1⟩
section
variable {w:World} {p:Nat} {a:LAd} {A:Option Addr} {n c:Nat} {R:Rp} {O:Value}
end
end Go.Proofs.YtckfjploafhenaaGreat
