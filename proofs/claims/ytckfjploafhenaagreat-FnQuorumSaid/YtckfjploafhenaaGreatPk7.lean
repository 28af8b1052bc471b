/- The interpreter's calls are sound: a contract's promise under the caller's symbols. -/
import Derived.Test.YtckfjploafhenaaGreatPk6
set_option maxRecDepth 100000
set_option maxHeartbeats 16000000
set_option linter.unusedVariables false
set_option linter.unusedSimpArgs false
namespace Go.Proofs.YtckfjploafhenaaGreat.Ai
open Go.RowKit
structure Goods (C:Cx) (E:Env):Prop extends Good C E where
 ct:∀ f c,look f E.ct=some c->Keeps C f c
 fn:∀ f c,look f E.ct=some c->∀ (args:Array Value) (w:World),(callFunc f args).run C.P w = .ok (.enter f args) w
 wf:∀ f c,look f E.ct=some c->∀ o∈c.outs,∀ k∈o.2,Ckwf k
section
variable {C:Cx} {E:Env} {w0:World} {R0:Nat->Prop} {σ:Nat->Int} {bp:Nat->Nat} {R R':Nat->Prop} {s s':AS} {a:Act} {w w':World} {W:List (BE×Bool)} {o:Oper} {ov:Option AV} {tg:Option Nat}
theorem zff {α β:Type} {f:α->Option β}:∀ {l:List α} {r:List β},l.mapM f=some r->(∀ p∈l,∃ q∈r,f p=some q)/\∀ q∈r,∃ p∈l,f p=some q
 | [],r,h=>by
  simp only [List.mapM_nil] at h;cases h
  simp
 | p::l,r,h=>by
  rw [List.mapM_cons] at h;cases hp:f p with
  | none=>rw [hp] at h;cases h
  | some q =>
   rw [hp] at h;cases hl:l.mapM f with
   | none=>rw [hl] at h;cases h
   | some m =>
    rw [hl] at h;cases h;obtain ⟨k1,k2⟩:=zff hl;refine ⟨fun x hx=>?_,fun y hy=>?_⟩
    ·rcases List.mem_cons.1 hx with rfl | hx
     ·exact ⟨q,List.mem_cons_self,hp⟩
     ·obtain ⟨y,hy,e⟩:=k1 x hx;exact ⟨y,List.mem_cons_of_mem _ hy,e⟩
    ·rcases List.mem_cons.1 hy with rfl | hy
     ·exact ⟨p,List.mem_cons_self,hp⟩
     ·obtain ⟨x,hx,e⟩:=k2 y hy;exact ⟨x,List.mem_cons_of_mem _ hx,e⟩
theorem cks_ok {bp':Nat->Nat} (hf:∀ f∈s.fa,0<=f.ev σ) {d:Nat}:∀ {l:List At} {cs:List Ck} {vs:List Value},LsOk C σ bp' R w l vs->fitL d s l cs=true->CksOk C R w cs vs/\(l.map symC).map (Sy.ev σ)=vs.map num
 | [],[],[],_,_=>⟨trivial,rfl⟩
 | [],[],_::_,h,_=>h.elim
 | [],_::_,vs,h,e=>by simp [fitL] at e
 | _::_,[],vs,h,e=>by simp [fitL] at e
 | _::_,_::_,[],h,_=>h.elim
 | x::l,c::cs,v::vs,h,e=>by
  simp only [fitL,Bool.and_eq_true] at e;obtain ⟨b1,b2⟩:=cks_ok hf h.2 e.2;refine ⟨⟨(zid hf h.1 e.1).1,b1⟩, ?_⟩;simp only [List.map_cons];rw [symC_num h.1 e.1,b2]
theorem args_ok {d:Nat} (h:St C w0 σ bp R s a w) (hW:∀ x∈W,x.1.ev σ=x.2):∀ {as:List Operand} {l:List (Bool×List At)} {cs:List (Bool×List Ck)},evL W s as=some l->fitsA d s l cs=true ->
  zey C R w cs (as.map a.eval)/\(l.flatMap fun x=>x.2.map symC).map (Sy.ev σ)=nums (as.map a.eval)
 | [],l,cs,hl,e=>by
  cases hl;cases cs with
  | nil=>exact ⟨trivial,rfl⟩
  | cons c r=>simp [fitsA] at e
 | x::as,l,cs,hl,e=>by
  simp only [evL] at hl;split at hl
  ·rename_i y m hy hm;cases hl;cases cs with
   | nil=>simp [fitsA] at e
   | cons c r =>
    simp only [fitsA,Bool.and_eq_true,beq_iff_eq] at e;obtain ⟨⟨e1,e2⟩,e3⟩:=e;obtain ⟨b1,b2⟩:=args_ok h hW hm e3
    have key:ValOk C R w c (a.eval x)/\(y.2.map symC).map (Sy.ev σ)=(a.eval x).cells.toList.map num:=by
     unfold evF at hy;split at hy
     ·rename_i z hz;cases hy;have hv:AtOk C σ bp R w z (a.eval x):=zbr h hW hz;obtain ⟨c1,c2⟩:=cks_ok h.fs.fa (show LsOk C σ bp R w [z] [a.eval x] from ⟨hv,trivial⟩) e2
      refine ⟨?_, ?_⟩
      ·unfold ValOk;rw [<-e1];exact c1
      ·have hs:solid z=true:=by
        cases hc:c.2 with
        | nil=>rw [hc] at e2;simp [fitL] at e2
        | cons k q =>
         rw [hc] at e2;simp only [fitL,Bool.and_eq_true] at e2;exact (zid h.fs.fa hv e2.1).2
       rw [(hv.cells hs).1];exact c2
     ·rename_i z hz;cases hy;obtain ⟨arr,q1,q2⟩:=zbr h hW hz;obtain ⟨c1,c2⟩:=cks_ok h.fs.fa q2 e2;refine ⟨?_, ?_⟩
      ·unfold ValOk;rw [<-e1];exact ⟨arr,q1,c1⟩
      ·rw [q1];exact c2
     ·cases hy
    refine ⟨⟨key.1,b1⟩, ?_⟩;simp only [List.flatMap_cons,List.map_append,nums,List.map_cons];rw [key.2,b2];rfl
  ·cases hl
theorem CksOk.at:∀ {cs:List Ck} {vs:List Value},CksOk C R w cs vs->cs.length=vs.length/\∀ (j:Nat) (c:Ck) (v:Value),cs[j]?=some c->vs[j]?=some v->CkOk C R w c v
 | [],[],_=>⟨rfl,fun j c v h=>by simp at h⟩
 | [],_::_,h=>h.elim
 | _::_,[],h=>h.elim
 | c::cs,v::vs,h=>by
  obtain ⟨e1,e2⟩:=CksOk.at h.2;refine ⟨by simp [e1],fun j c' v' h1 h2=>?_⟩
  cases j with
  | zero =>
   simp only [List.getElem?_cons_zero,Option.some.injEq] at h1 h2;subst h1;subst h2;exact h.1
  | succ j=>exact e2 j c' v' (by simpa using h1) (by simpa using h2)
theorem freshC_num (h:Stt C w0 R0 σ bp R s a w) {c:Ck} {v:Value} (hv:CkOk C R w c v) (hk:Ckwf c) :
  ∃ σ1,Agr s.n σ1 σ/\s.n<=(s.freshC c).2.n/\(s.freshC c).2.tm=s.tm/\(s.freshC c).2.bx=s.bx/\Stt C w0 R0 σ1 bp R (s.freshC c).2 a w/\∀ σ' bp',Agr (s.freshC c).2.n σ' σ1->AtOk C σ' bp' R w (s.freshC c).1 v/\(symO (s.freshC c).1).ev σ'=num v:=by
 cases c with
 | bool =>
  obtain ⟨b,rfl⟩:=hv;obtain ⟨e1,e2,e3,e4⟩:=zdn s [ge 0,le 1];refine ⟨upd σ s.n (if b then 1 else 0),zg6 _ _ _,by simp only [AS.freshC];rw [e3];omega,e1,e2, ?_, ?_⟩
  ·refine zf7 h _ _ fun σ' bp' ha hb f hf=>?_
   simp only [List.mem_cons,List.not_mem_nil,or_false] at hf;rcases hf with rfl | rfl
   ·rw [ev_ge,zc3 ha];cases b <;> simp
   ·rw [ev_le,zc3 ha];cases b <;> simp
  ·intro σ' bp' ha;simp only [AS.freshC] at ha ⊢;rw [e3] at ha;rw [e4];refine ⟨?_, ?_⟩
   ·show Value.bool b = .bool _;simp only [BE.ev,zbf,zc3 ha];cases b <;> simp
   ·simp only [symO,Sy.ev,zbf,zc3 ha];cases b <;> simp [num]
 | int k lo hi =>
  obtain ⟨σ1,a1,n1,t1,b1,st1,k1⟩:=zcw h hv hk
  exact ⟨σ1,a1,n1,t1,b1,st1,fun σ' bp' ha=>⟨k1 σ' bp' ha,by
   have hu:=k1 σ' bp' ha;simp only [AS.freshC] at hu ⊢
   rw [hu.1];rfl⟩⟩
 | str =>
  obtain ⟨σ1,a1,n1,t1,b1,st1,k1⟩:=zcw h hv hk
  exact ⟨σ1,a1,n1,t1,b1,st1,fun σ' bp' ha=>⟨k1 σ' bp' ha,by
   obtain ⟨t,e,h2,_⟩:=k1 σ' bp' ha
   rw [e];exact h2.symm⟩⟩
 | sl T =>
  obtain ⟨σ1,a1,n1,t1,b1,st1,k1⟩:=zcw h hv hk
  exact ⟨σ1,a1,n1,t1,b1,st1,fun σ' bp' ha=>⟨k1 σ' bp' ha,by
   obtain ⟨_,m,_,e,h2,_⟩:=k1 σ' bp' ha
   rw [e];exact h2⟩⟩
 | cur =>
  obtain ⟨σ1,a1,n1,t1,b1,st1,k1⟩:=zcw h hv hk
  exact ⟨σ1,a1,n1,t1,b1,st1,fun σ' bp' ha=>⟨k1 σ' bp' ha,by
   rw [show v=_ from k1 σ' bp' ha];exact zc4 σ' 0⟩⟩
theorem freshL_num:∀ (cs:List Ck) (vs:List Value) {s:AS} {σ:Nat->Int},Stt C w0 R0 σ bp R s a w->CksOk C R w cs vs->(∀ c∈cs,Ckwf c) ->
  ∃ σ1,Agr s.n σ1 σ/\s.n<=(s.freshL cs).2.n/\(s.freshL cs).2.tm=s.tm/\(s.freshL cs).2.bx=s.bx/\Stt C w0 R0 σ1 bp R (s.freshL cs).2 a w/\∀ σ' bp',Agr (s.freshL cs).2.n σ' σ1->LsOk C σ' bp' R w (s.freshL cs).1 vs/\((s.freshL cs).1.map symO).map (Sy.ev σ')=vs.map num
 | [],[],s,σ,h,_,_=>⟨σ,zaa _ _,Nat.le_refl _,rfl,rfl,h,fun _ _ _=>⟨trivial,rfl⟩⟩
 | [],_::_,s,σ,h,hl,_=>hl.elim
 | _::_,[],s,σ,h,hl,_=>hl.elim
 | c::cs,v::vs,s,σ,h,hl,hw=>by
  obtain ⟨σ1,a1,n1,t1,b1,st1,k1⟩:=freshC_num h hl.1 (hw c List.mem_cons_self);obtain ⟨σ2,a2,n2,t2,b2,st2,k2⟩:=freshL_num cs vs st1 hl.2 (fun c' hc=>hw c' (List.mem_cons_of_mem _ hc))
  refine ⟨σ2,(a2.less n1).trans a1,Nat.le_trans n1 n2,t2.trans t1,b2.trans b1,st2,fun σ' bp' ha=>?_⟩
  obtain ⟨x1,x2⟩:=k1 σ' bp' (((show Agr _ σ' σ2 from ha).less n2).trans a2)
  obtain ⟨y1,y2⟩:=k2 σ' bp' ha;refine ⟨⟨x1,y1⟩, ?_⟩;exact congr (congrArg List.cons x2) y2
theorem zha:∀ (cs:List (Bool×List Ck)) (vs:List Value) {s:AS} {σ:Nat->Int},Stt C w0 R0 σ bp R s a w->zey C R w cs vs->(∀ c∈cs,∀ k∈c.2,Ckwf k) ->
  ∃ σ1,Agr s.n σ1 σ/\s.n<=(zav s cs).2.n/\(zav s cs).2.tm=s.tm/\(zav s cs).2.bx=s.bx/\Stt C w0 R0 σ1 bp R (zav s cs).2 a w/\∀ σ' bp',Agr (zav s cs).2.n σ' σ1 ->
   TpOk C σ' bp' R w (zav s cs).1 vs/\((zav s cs).1.flatMap fun l=>l.2.map symO).map (Sy.ev σ')=nums vs
 | [],[],s,σ,h,_,_=>⟨σ,zaa _ _,Nat.le_refl _,rfl,rfl,h,fun _ _ _=>⟨trivial,rfl⟩⟩
 | [],_::_,s,σ,h,hl,_=>hl.elim
 | _::_,[],s,σ,h,hl,_=>hl.elim
 | (g,ks)::cs,v::vs,s,σ,h,hl,hw=>by
  have hv:∃ us,CksOk C R w ks us/\v.cells.toList.map num=us.map num/\((g=true/\∃ arr,v = .agg arr/\arr.toList=us)\/(g=false/\us=[v])):=by
   have:=hl.1
   cases g with
   | true =>
    obtain ⟨arr,rfl,hc⟩:=this;exact ⟨arr.toList,hc,rfl, .inl ⟨rfl,arr,rfl,rfl⟩⟩
   | false =>
    have hc:CksOk C R w ks [v]:=this;refine ⟨[v],hc, ?_, .inr ⟨rfl,rfl⟩⟩
    have:v.cells=#[v]:=by
     cases ks with
     | nil=>exact hc.elim
     | cons c r =>
      have hc:=hc.1;cases c with
      | int k lo hi=>obtain ⟨n,rfl,_⟩:=hc;rfl
      | bool=>obtain ⟨n,rfl⟩:=hc;rfl
      | str=>obtain ⟨n,rfl,_⟩:=hc;rfl
      | sl T=>obtain ⟨n,_,_,_,rfl,_⟩:=hc;rfl
      | cur=>rw [show v=_ from hc];rfl
    rw [this]
  obtain ⟨us,u1,u2,u3⟩:=hv;obtain ⟨σ1,a1,n1,t1,b1,st1,k1⟩:=freshL_num ks us h u1 (hw _ List.mem_cons_self);obtain ⟨σ2,a2,n2,t2,b2,st2,k2⟩:=zha cs vs st1 hl.2 (fun c' hc=>hw c' (List.mem_cons_of_mem _ hc))
  refine ⟨σ2,(a2.less n1).trans a1,Nat.le_trans n1 n2,t2.trans t1,b2.trans b1,st2,fun σ' bp' ha=>?_⟩
  obtain ⟨x1,x2⟩:=k1 σ' bp' (((show Agr _ σ' σ2 from ha).less n2).trans a2)
  obtain ⟨y1,y2⟩:=k2 σ' bp' ha;refine ⟨?_, ?_⟩
  ·rcases u3 with ⟨rfl,arr,rfl,rfl⟩ | ⟨rfl,rfl⟩
   ·exact ⟨⟨arr,rfl,x1⟩,y1⟩
   ·exact ⟨x1,y1⟩
  ·show (List.flatMap _ (_::_)).map _=_;simp only [List.flatMap_cons,List.map_append,nums];rw [x2,u2];congr 1
theorem posts_ok:∀ {ps:List (List Lin×Lin)} {s t:AS} {l:List Sy},posts s l ps=some t->Sm s t/\∀ σ,Fs σ s->(∀ p∈ps,(∀ q∈p.1,0<=q.ev (ζ (l.map (Sy.ev σ))))->0<=p.2.ev (ζ (l.map (Sy.ev σ))))->Fs σ t
 | [],s,t,l,h=>by cases h;exact ⟨Sm.refl _,fun σ h _=>h⟩
 | (pr,co)::ps,s,t,l,h=>by
  simp only [posts] at h;split at h
  ·rename_i pr' co' h1 h2
   have key:∀ u,posts u l ps=some t->Sm s u->(∀ σ,Fs σ s->((∀ q∈pr,0<=q.ev (ζ (l.map (Sy.ev σ))))->0<=co'.ev σ)->Fs σ u)->Sm s t/\∀ σ,Fs σ s->(∀ p∈(pr,co)::ps,(∀ q∈p.1,0<=q.ev (ζ (l.map (Sy.ev σ))))->0<=p.2.ev (ζ (l.map (Sy.ev σ))))->Fs σ t:=by
    intro u hu hsm hfs;obtain ⟨k1,k2⟩:=posts_ok hu;refine ⟨hsm.trans k1,fun σ hs hp=>k2 σ (hfs σ hs fun hq=>?_) fun p hpm=>hp p (List.mem_cons_of_mem _ hpm)⟩
    rw [zhi rfl h2];exact hp _ List.mem_cons_self hq
   obtain ⟨m1,m2⟩:=zff h1
   have hpr:∀ σ,Fs σ s->(∀ q∈pr'.filter (fun p=>!ent s.fa 3 p),0<=q.ev σ)->∀ q∈pr,0<=q.ev (ζ (l.map (Sy.ev σ))):=by
    intro σ hs hq q hm;obtain ⟨q',hq',e⟩:=m1 q hm;rw [<-zhi rfl e];cases he:ent s.fa 3 q'
    ·exact hq q' (List.mem_filter.2 ⟨hq',by rw [he];rfl⟩)
    ·exact zb0 σ hs.fa _ _ he
   refine key _ h ?_ ?_
   ·split
    ·exact ziq _ _
    ·exact ⟨rfl,rfl,rfl⟩
   ·intro σ hs hc;split
    ·rename_i hnil;exact hs.fact (hc (hpr σ hs (by rw [hnil];simp)))
    ·refine ⟨hs.fa,hs.lt,fun c hcm hp=>?_⟩
     rcases List.mem_cons.1 hcm with rfl | hcm
     ·refine hc (hpr σ hs fun q hq=>?_)
      exact hp (.lin q) (List.mem_map.2 ⟨q,hq,rfl⟩)
     ·exact hs.cf c hcm hp
  ·cases h
theorem op_call (hG:Goods C E) (h:Stt C w0 R0 σ bp R s a w) (hW:Lits s.n σ W) {f:FuncId} {as:Array Operand} {ts:Array TypeId} (hop:o.op = .call { callee := .value (.func f),args:=as,argTypes:=ts }) (hx:opx E W s o.op=some (ov,s')):Does C.P ((execOp a.eval o).run C.P w) (Outs C w0 R0 R w (tgt W s o.op) σ bp s s' a ov):=by
 rw [hop] at hx;simp only [opx,Option.bind_eq_some_iff,Option.map_eq_some_iff] at hx;obtain ⟨l,hl,r,hr,e⟩:=hx;cases e
 have run:(execOp a.eval o).run C.P w=(callFunc f (as.map a.eval)).run C.P w:=by
  have ef:a.eval (.func f) = .func (.func f) #[] #[]:=rfl;unfold execOp;simp [hop,resolve,Deferred.ofValue,invoke,ef]
 rw [run];unfold call at hr;split at hr
 ·cases hr
 ·rename_i c hc;rw [hG.fn f c hc];simp only [Does];cases hfit:fitsA (max 5 E.d) s l c.ins <;> rw [hfit] at hr
  ·cases hr
  ·simp only [cond_true] at hr;split at hr
   ·cases hr
   ·rename_i pre hpre;cases hent:pre.all (ent s.fa (max 5 E.d)) <;> rw [hent] at hr
    ·cases hr
    ·simp only [cond_true] at hr;split at hr
     ·cases hr
     ·rename_i t ht;cases hr;obtain ⟨m1,m2⟩:=zff hpre;have hin:=fun σ' bp' (q1:Agr s.n σ' σ) (q2:Agb s.bx.length bp' bp)=>args_ok (h.st σ' bp' q1 q2) (hW σ' q1) hl hfit
      have hin0:=hin σ bp (zaa _ _) (zai _ _);refine Calls.mono (hG.ct f c hc w R (as.map a.eval) h.sw.hp (by rw [Array.toList_map];exact hin0.1) ?_) ?_
      ·intro p hp;obtain ⟨q,hq,e⟩:=m1 p hp;rw [Array.toList_map,<-hin0.2,<-zhi rfl e];exact zb0 σ h.here.fs.fa _ _ (List.all_eq_true.1 hent q hq)
      ·rintro e w' ⟨v,outs,R',rfl,hv,hg,hp',ho,hpost⟩;refine ⟨v,rfl, ?_⟩;obtain ⟨h1,hgr⟩:=turn_stt h hg hp';obtain ⟨σ1,a1,n1,t1,b1,st1,k1⟩:=zha c.outs outs h1 ho (hG.wf f c hc);obtain ⟨p1,p2⟩:=posts_ok ht
       have st2:Stt C w0 R0 σ1 bp R' t a w':=by
        refine st1.sm p1 fun σ' bp' q1 q2 st=>p2 σ' st.fs ?_
        have e1:=(hin σ' bp ((q1.less n1).trans a1) (zai _ _)).2;have e2:=(k1 σ' bp q1).2;rw [List.map_append,e1,e2];intro p hp hq;rw [Array.toList_map] at hpost;exact hpost p hp hq
       refine ⟨σ1,bp,R',a1,by rw [p1.n];exact n1,zai _ _,by rw [p1.bx,b1];exact Nat.le_refl _,st2,fun x hx σ' bp' q1 q2=>?_,Fr.of_gw hg fun g hg=>h.sw.hp.lt hg⟩
       cases hx;rw [p1.n] at q1;have tp:=(k1 σ' bp' q1).1
       have hlen:∀ (x:List At) (us:List Value) (ks:List Ck),TpOk C σ' bp' R' w' [(false,x)] us->zey C R' w' [(false,ks)] us->∃ y,x=[y]:=by
        intro x us ks g1 g2;cases us with
        | nil=>exact g1.elim
        | cons u r =>
         have:=zc8 g1.1
         match x,this with
         | [y],_=>exact ⟨y,rfl⟩
       generalize hres:(zav s c.outs).1=res at tp;subst hv
       match res,outs,tp with
       | [],[],_=>exact ⟨#[],rfl,trivial⟩
       | [(true,x)],[u],tp=>exact tp.1
       | [(false,[])],[u],tp=>exact tp.1.elim
       | [(false,[y])],[u],tp=>exact tp.1.1
       | [(false,_::_::_)],[u],tp=>exact tp.1.2.elim
       | (true,_)::p::r,u::v::q,tp=>exact ⟨(u::v::q).toArray,rfl,tp⟩
       | (false,[])::p::r,u::v::q,tp=>exact ⟨(u::v::q).toArray,rfl,tp⟩
       | (false,[_])::p::r,u::v::q,tp=>exact ⟨(u::v::q).toArray,rfl,tp⟩
       | (false,_::_::_)::p::r,u::v::q,tp=>exact ⟨(u::v::q).toArray,rfl,tp⟩
       | [],_::_,tp=>exact tp.elim
       | (true,_)::_,[],tp=>exact tp.elim
       | (false,_)::_,[],tp=>exact tp.elim
       | (true,_)::p::r,[_],tp=>cases p;rename_i b _;cases b <;> exact tp.2.elim
       | (false,_)::p::r,[_],tp=>cases p;rename_i b _;cases b <;> exact tp.2.elim
       | [(true,_)],_::_::_,tp=>exact tp.2.elim
       | [(false,_)],_::_::_,tp=>exact tp.2.elim
end
end Go.Proofs.YtckfjploafhenaaGreat.Ai
namespace Go.Proofs.YtckfjploafhenaaGreat.Ai
open Go.RowKit
section
variable {C:Cx} {tg:Option Nat} {E:Env} {w0:World} {R0:Nat->Prop} {σ:Nat->Int} {bp:Nat->Nat} {R R':Nat->Prop} {s s':AS} {a:Act} {w w':World} {W:List (BE×Bool)} {o:Oper} {ov:Option AV}
theorem op_store (hG:Good C E) (hB:C.B<=w0.heap.size) (h:Stt C w0 R0 σ bp R s a w) (hW:Lits s.n σ W) {t:Nat} {x y:Operand} (hop:o.op = .store t x y) (hx:opx E W s o.op=some (ov,s')):Does C.P ((execOp a.eval o).run C.P w) (Outs C w0 R0 R w (tgt W s o.op) σ bp s s' a ov):=by
 have hx0:=hx;rw [hop] at hx;simp only [opx,Option.bind_eq_some_iff] at hx;obtain ⟨T,hT,l,hl,hx⟩:=hx;cases hc:Nat.beq l.length T.cells.length <;> rw [hc] at hx
 ·cases hx
 ·simp only [cond_true] at hx;split at hx
  ·rename_i b p hv;exact op_store_box hG hB h hW hop hv hx0
  ·rename_i U p hv;exact op_store_row hG hB h hW hop hv hx0
  ·cases hx
theorem opx_sound (hG:Goods C E) (hB:C.B<=w0.heap.size) (h:Stt C w0 R0 σ bp R s a w) (hW:Lits s.n σ W) (hx:opx E W s o.op=some (ov,s')):Does C.P ((execOp a.eval o).run C.P w) (Outs C w0 R0 R w (tgt W s o.op) σ bp s s' a ov):=by
 have hg:=hG.toGood;cases hop:o.op with
 | move x=>rw [<-hop];exact op_move h hW hop hx
 | assign x=>rw [<-hop];exact op_assign h hW hop hx
 | pick c x y=>rw [<-hop];exact op_pick h hW hop hx
 | alloc t=>rw [<-hop];exact op_alloc hg hB h hW hop hx
 | box t x=>rw [<-hop];exact op_box hg hB h hW hop hx
 | build t ps=>rw [<-hop];exact op_build hg h hW hop hx
 | buildSlice t n ps=>rw [<-hop];exact op_buildSlice hg hB h hW hop hx
 | load t x=>rw [<-hop];exact op_load hg h hW hop hx
 | store t x y=>rw [<-hop];exact op_store hg hB h hW hop hx
 | nilCheck x=>rw [<-hop];exact op_nilCheck h hW hop hx
 | binOp bo t x y t2=>rw [<-hop];exact op_bin hg h hW hop hx
 | convert ta tb x=>rw [<-hop];exact op_convert hg hB h hW hop hx
 | fieldAddr t x f=>rw [<-hop];exact op_fieldAddr hg h hW hop hx
 | indexAddr t x i=>rw [<-hop];exact op_indexAddr hg h hW hop hx
 | index t x i=>rw [<-hop];exact op_index hg h hW hop hx
 | extract x i=>rw [<-hop];exact op_extract h hW hop hx
 | unOp u t x =>
  cases u with
  | not=>rw [<-hop];exact op_not h hW hop hx
  | _=>rw [hop] at hx;simp [opx] at hx
 | slice t x lo hi mx =>
  cases mx with
  | none=>rw [<-hop];exact op_slice hg h hW hop hx
  | some m=>rw [hop] at hx;simp [opx] at hx
 | call c =>
  obtain ⟨callee,as,ts⟩:=c;cases callee with
  | value f =>
   cases f with
   | func g=>rw [<-hop];exact op_call hG h hW hop hx
   | _=>rw [hop] at hx;simp [opx] at hx
  | invoke r m=>rw [hop] at hx;simp [opx] at hx
  | builtin b =>
   cases b with
   | len=>rw [<-hop];exact op_len hg h hW hop hx
   | append=>rw [<-hop];exact op_append hg hB h hW hop hx
   | _=>rw [hop] at hx;simp [opx] at hx
 | _=>rw [hop] at hx;simp [opx] at hx
end
structure Kp (s t:AS):Prop where
 tm:t.tm=s.tm
 bx:t.bx=s.bx
theorem Kp.refl (s:AS):Kp s s:=⟨rfl,rfl⟩
theorem Kp.trans {a b c:AS} (h:Kp a b) (k:Kp b c):Kp a c:=⟨k.tm.trans h.tm,k.bx.trans h.bx⟩
theorem Sm.kp {s t:AS} (h:Sm s t):Kp s t:=⟨h.tm,h.bx⟩
theorem zhu (s:AS) (r:List (Lin->Lin)):Kp s (s.fresh r).2:=⟨(zdn s r).1,(zdn s r).2.1⟩
theorem freshC_kp (s:AS) (c:Ck):Kp s (s.freshC c).2:=by
 cases c with
 | cur=>exact Kp.refl s
 | _=>exact zhu s _
theorem freshL_kp:∀ (l:List Ck) (s:AS),Kp s (s.freshL l).2
 | [],s=>Kp.refl s
 | c::l,s=>(freshC_kp s c).trans (freshL_kp l _)
theorem freshR_kp:∀ (l:List (Bool×List Ck)) (s:AS),Kp s (zav s l).2
 | [],s=>Kp.refl s
 | c::l,s=>(freshL_kp c.2 s).trans (freshR_kp l _)
theorem fint_kp (s:AS) (k:IntKind):Kp s (s.fint k).2:=freshC_kp _ _
theorem numOr_kp (s:AS) (d:Nat) (k:IntKind) (e:Lin):Kp s (s.numOr d k e).2:=by
 unfold AS.numOr;cases s.lim d k e
 ·exact fint_kp s k
 ·exact Kp.refl s
theorem quo_kp (s:AS) (d:Nat) (a:Lin) (b:Int):Kp s (s.quo d a b).2:=by
 unfold AS.quo;cases ent s.fa (max 5 d) a
 ·exact zhu s _
 ·refine (zhu s [ge 0,fun r=>a.sub (r.mul b),fun r=>((r.mul b).sub a).plus (b - 1)]).trans ?_
  simp only [cond_true];split
  ·split
   ·exact (ziq _ _).kp
   ·exact Kp.refl _
  ·exact Kp.refl _
theorem call_kp {E:Env} {s:AS} {f:Nat} {l:List (Bool×List At)} {r:AV×AS} (h:call E s f l=some r):Kp s r.2:=by
 unfold call at h;split at h
 ·cases h
 ·rename_i c hc;cases hf:fitsA (max 5 E.d) s l c.ins <;> rw [hf] at h
  ·cases h
  ·simp only [cond_true] at h;split at h
   ·cases h
   ·rename_i pre hp;cases he:pre.all (ent s.fa (max 5 E.d)) <;> rw [he] at h
    ·cases h
    ·simp only [cond_true] at h;split at h
     ·cases h
     ·rename_i t ht;cases h;exact (freshR_kp c.outs s).trans (posts_ok ht).1.kp
theorem bin_kp {d:Nat} {s:AS} {o:BinOp} {x y:AV} {r:AV×AS} (h:bin d s o x y=some r):Kp s r.2:=by
 unfold bin at h;split at h
 ·rename_i k a j b
  have bb:∀ {c:Bool} {p:Option (AV×AS)},(bif c then p else none)=some r->p=some r:=by
   intro c p h;cases c
   ·cases h
   ·exact h
  have tr:∀ {b:BE},some (s.tru b)=some r->Kp s r.2:=by
   intro b h;cases h;exact Kp.refl s
  have nr:∀ {e:Lin},some (s.numOr d k e)=some r->Kp s r.2:=by
   intro e h;cases h;exact numOr_kp s d k e
  have fi:some ((one (s.fint k).1,(s.fint k).2):AV×AS)=some r->Kp s r.2:=by
   intro h;cases h;exact fint_kp s k
  split at h
  ·exact tr (bb h)
  ·exact tr (bb h)
  ·exact tr (bb h)
  ·exact tr (bb h)
  ·exact tr (bb h)
  ·exact tr (bb h)
  ·exact nr (bb h)
  ·exact nr (bb h)
  ·have h:=bb h;split at h
   ·exact nr h
   ·exact nr h
   ·exact fi h
  ·have h:=bb h;split at h
   ·rename_i c e1 e2;cases h;exact quo_kp s d a _
   ·cases h
  ·have h:=bb h;cases h;exact zhu s _
  ·exact fi (bb h)
  ·exact fi (bb h)
  ·have h:=bb h;split at h
   ·cases hn:nn b.c <;> rw [hn] at h
    ·exact fi h
    ·cases h;exact zhu s _
   ·exact fi h
  ·exact fi (bb h)
  ·exact fi (bb h)
  ·cases h
 ·cases h
theorem opx_kp {E:Env} {W:List (BE×Bool)} {s s':AS} {op:Op} {ov:Option AV} (h:opx E W s op=some (ov,s')):s'.tm=s.tm/\(ov.isSome=true->s'.bx.length=s.bx.length->s'.bx=s.bx):=by
 have of:Kp s s'->s'.tm=s.tm/\(ov.isSome=true->s'.bx.length=s.bx.length->s'.bx=s.bx):=fun k=>⟨k.tm,fun _ _=>k.bx⟩
 have mk:∀ {α:Type} {x:Option α} {g:α->AV},x.map (fun v=>(some (g v),s))=some (ov,s')->Kp s s':=by
  intro α x g h;simp only [Option.map_eq_some_iff] at h;obtain ⟨v,_,e⟩:=h;cases e;exact Kp.refl s
 have bb:∀ {c:Bool} {p:Option (Option AV×AS)},(bif c then p else none)=some (ov,s')->p=some (ov,s'):=by
  intro c p h;cases c
  ·cases h
  ·exact h
 have cc:∀ {c:Bool} {p q:Option (Option AV×AS)},(bif c then p else q)=some (ov,s')->p=some (ov,s')\/q=some (ov,s'):=by
  intro c p q h;cases c
  ·exact .inr h
  ·exact .inl h
 have sm:∀ {v:Option AV},some (v,s)=some (ov,s')->Kp s s':=by
  intro v h;cases h;exact Kp.refl s
 unfold opx at h;split at h
 ·exact of (mk h)
 ·exact of (mk h)
 ·split at h
  ·exact of (sm h)
  ·exact of (sm h)
  ·exact of (sm h)
  ·cases h
 ·split at h
  ·split at h
   ·exact of (sm h)
   ·exact of (sm h)
   ·split at h
    ·exact of (sm h)
    ·cases h
  ·cases h
 ·simp only [Option.bind_eq_some_iff] at h;obtain ⟨T,hT,h⟩:=h;cases h;exact ⟨rfl,fun _ hl=>by simp at hl⟩
 ·simp only [Option.bind_eq_some_iff,Option.map_eq_some_iff] at h;obtain ⟨T,hT,l,hl,m,hm,h⟩:=h;cases h;exact ⟨rfl,fun _ hl=>by simp at hl⟩
 ·simp only [Option.bind_eq_some_iff] at h;obtain ⟨T,hT,q,hq,h⟩:=h;split at h
  ·exact of (sm h)
  ·exact of (sm h)
  ·cases h
 ·simp only [Option.bind_eq_some_iff] at h;obtain ⟨T,hT,h⟩:=h;split at h
  ·simp only [Option.bind_eq_some_iff] at h;obtain ⟨c,hc,h⟩:=h;exact of (mk (bb h))
  ·simp only [Option.bind_eq_some_iff] at h;obtain ⟨V,hV,h⟩:=h;have h:=bb h;simp only [Option.map_eq_some_iff] at h;obtain ⟨v,_,e⟩:=h;cases e;exact of (freshL_kp _ s)
  ·cases h
 ·simp only [Option.bind_eq_some_iff] at h;obtain ⟨T,hT,l,hl,h⟩:=h;have h:=bb h;split at h
  ·simp only [Option.bind_eq_some_iff] at h;obtain ⟨c,hc,U,hU,m,hm,h⟩:=h;have h:=bb h;cases h;exact ⟨rfl,fun hn=>by cases hn⟩
  ·simp only [Option.bind_eq_some_iff] at h;obtain ⟨V,hV,h⟩:=h;exact of (sm (bb h))
  ·cases h
 ·split at h
  ·exact of (sm (bb h))
  ·cases h
 ·split at h
  ·have h:=bb h;cases h;exact of (freshC_kp s (.int .u8 0 255))
  ·cases h
 ·simp only [Option.bind_eq_some_iff] at h;obtain ⟨T,hT,h⟩:=h;cases ha:T.agg <;> rw [ha] at h
  ·cases h
  ·exact of (mk h)
 ·simp only [Option.bind_eq_some_iff] at h;obtain ⟨T,hT,V,hV,h⟩:=h;exact of (sm (bb h))
 ·split at h
  ·split at h
   ·exact of (sm (bb h))
   ·cases h
  ·cases h
 ·split at h
  ·simp only [Option.bind_eq_some_iff] at h;obtain ⟨p,hp,h⟩:=h;exact of (mk h)
  ·cases h
 ·split at h
  ·rename_i A T v _ _ _;cases hc:(A.agg || T.agg) <;> rw [hc] at h
   ·simp only [cond_false] at h;split at h
    ·exact of (sm (bb h))
    ·exact of (sm (bb h))
    ·rcases cc h with h | h
     ·exact of (sm h)
     ·have h:=bb h;cases h;exact of (numOr_kp s _ _ _)
    ·cases h
   ·cases h
  ·cases h
 ·exact of (mk h)
 ·split at h
  ·split at h
   ·rename_i r hr;cases h;exact of (bin_kp hr)
   ·have h:=bb h;split at h
    ·cases h;exact of (freshC_kp s .bool)
    ·cases h;exact of (zhu s [ge 0,le 1])
    ·cases h
  ·cases h
 ·split at h
  ·split at h
   ·exact of (sm (bb h))
   ·exact of (sm (bb h))
   ·cases h
  ·cases h
 ·split at h
  ·simp only [Option.bind_eq_some_iff] at h;obtain ⟨T,hT,V,hV,h⟩:=h;split at h
   ·split at h
    ·exact of (sm (bb h))
    ·cases h
   ·cases h
  ·cases h
 ·simp only [Option.bind_eq_some_iff,Option.map_eq_some_iff] at h;obtain ⟨l,hl,r,hr,e⟩:=h;cases e;exact of (call_kp hr)
 ·cases h
end Go.Proofs.YtckfjploafhenaaGreat.Ai
