/- The interpreter's drawn regions: what the check of one says. -/
import Derived.Test.YtckfjploafhenaaGreatPk9
set_option maxRecDepth 100000
set_option maxHeartbeats 16000000
set_option linter.unusedVariables false
set_option linter.unusedSimpArgs false
namespace Go.Proofs.YtckfjploafhenaaGreat.Ai
open Go.RowKit
def before (s:AS) (ops:List Oper) (pres:List (List Nat)) (wr:List (Nat×Nat)) (i:Nat) (pre:List Dl) (D:Dl):AS :=
 view s (byIx D.pr pre) (maskT pres i D.pr 0 ops) (maskB pres i D.pr wr) D.lo
structure Chk (E:Env) (ops:List Oper) (s:AS) (pres:List (List Nat)) (wr:List (Nat×Nat)) (i:Nat) (o:Oper) (pre:List Dl) (D:Dl) (u:AS):Prop where
 pr:nth pres i=some D.pr
 ix:D.ix=i
 dst:D.dst=o.dst
 st:step1 E ops (before s ops pres wr i pre D) o=some u
 hi:D.hi=u.n
 nb:D.nb=u.bx.length
 v:∀ d,D.dst=some d->nth u.tm d=some D.v
 fa:∀ f∈D.fa,f∈u.fa
 cf:∀ f∈D.cf,f∈u.cf
 bx:∀ b t l,D.bx=some (b,t,l)->nth u.bx b=some (t,l)/\(i,b)∈wr
 le:D.lo<=D.hi
 tg:∀ b,tgs (before s ops pres wr i pre D) o=some b->D.wr=some b
 nu:u.bx.length=(before s ops pres wr i pre D).bx.length\/((before s ops pres wr i pre D).bx.length=s.bx.length/\u.bx.length=s.bx.length+1/\D.wr=some s.bx.length)
 bok:∀ b t l,D.bx=some (b,t,l)->(∀ c,nth s.bx b=some c->c.1=t/\c.2.length=l.length)/\(nth s.bx b=none->b=s.bx.length)
 nm:s.bx.length∈maskB pres i D.pr wr->(before s ops pres wr i pre D).bx.length=s.bx.length
 one:∀ D'∈pre,(∀ d,D.dst=some d->D'.dst≠some d)/\(∀ b,D.wr=some b->D'.wr=some b->D'.ix∈D.pr)
 iv:inV (symOk s.n (byIx D.pr pre) D.lo D.hi) (lt D.nb) D.v=true
 ifa:∀ f∈D.fa,inL (symOk s.n (byIx D.pr pre) D.lo D.hi) f=true
 icf:∀ f∈D.cf,inC (symOk s.n (byIx D.pr pre) D.lo D.hi) f=true
 ibx:∀ b t l,D.bx=some (b,t,l)->inAs (symOk s.n (byIx D.pr pre) D.lo D.hi) (lt D.nb) l=true
section
variable {E:Env} {ops:List Oper} {s:AS} {pres:List (List Nat)} {wr:List (Nat×Nat)}
theorem chk_of {i:Nat} {o:Oper} {pre:List Dl} {pr:List Nat} {u:AS} {D:Dl} {n:Nat} (hpr:nth pres i=some pr) (hs:step1 E ops (view s (byIx pr pre) (maskT pres i pr 0 ops) (maskB pres i pr wr) n) o=some u)
  (hD:mkD i pr o (view s (byIx pr pre) (maskT pres i pr 0 ops) (maskB pres i pr wr) n) u (look i wr)=some D) (hok:okD s pre (byIx pr pre) (maskB pres i pr wr) (view s (byIx pr pre) (maskT pres i pr 0 ops) (maskB pres i pr wr) n) u o (look i wr) D=true):Chk E ops s pres wr i o pre D u/\D.lo=n:=by
 unfold mkD at hD;split at hD
 ·rename_i v b hv hb;have hDn:=Option.some.inj hD;have e1:D.pr=pr:=by rw [<-hDn]
  have e2:D.lo=n:=by rw [<-hDn];rfl
  have e3:D.dst=o.dst:=by rw [<-hDn]
  have e4:D.v=v:=by rw [<-hDn]
  have e5:D.bx=b:=by rw [<-hDn]
  have e6:D.hi=u.n:=by rw [<-hDn]
  have e7:D.nb=u.bx.length:=by rw [<-hDn]
  have e8:D.ix=i:=by rw [<-hDn]
  have e9:∀ f∈D.fa,f∈u.fa:=by rw [<-hDn];exact fun f hf=>List.mem_of_mem_take hf
  have e10:∀ f∈D.cf,f∈u.cf:=by rw [<-hDn];exact fun f hf=>List.mem_of_mem_take hf
  have hb2:∀ b',look i wr=some b'->∃ c,nth u.bx b'=some c/\b=some (b',c):=by
   intro b' hl;rw [hl] at hb;simp only [Option.map_eq_some_iff] at hb;obtain ⟨c,hc,e⟩:=hb;exact ⟨c,hc,e.symm⟩
  have hb3:look i wr=none->b=none:=by
   intro hl;rw [hl] at hb;simp only [Option.some.injEq] at hb;exact hb.symm
  have hb4:∀ b' t l,b=some (b',t,l)->look i wr=some b'/\nth u.bx b'=some (t,l):=by
   intro b' t l e;cases hl:look i wr with
   | none=>rw [hb3 hl] at e;cases e
   | some b'' =>
    obtain ⟨c,hc,e'⟩:=hb2 b'' hl;rw [e] at e';simp only [Option.some.injEq,Prod.mk.injEq] at e';obtain ⟨rfl,rfl⟩:=e';exact ⟨rfl,hc⟩
  have hw:∀ b',look i wr=some b'->D.wr=some b':=by
   intro b' hl;obtain ⟨c,hc,e⟩:=hb2 b' hl;unfold Dl.wr;rw [e5,e];rfl
  subst e2;subst e1;unfold okD at hok;simp only [Bool.and_eq_true] at hok;obtain ⟨⟨⟨⟨⟨⟨⟨⟨⟨⟨o1,o2⟩,o3⟩,o4⟩,o5⟩,o6⟩,o7⟩,o8⟩,o9⟩,o10⟩,o11⟩:=hok;refine ⟨⟨hpr,e8,e3,hs,e6,e7, ?_,e9,e10, ?_, ?_, ?_, ?_, ?_, ?_, ?_,o8, ?_, ?_, ?_⟩,rfl⟩
  ·intro d hd;rw [e3] at hd;rw [hd] at hv;rw [e4];exact hv
  ·intro b' t l hb';rw [e5] at hb';obtain ⟨h1,h2⟩:=hb4 b' t l hb';exact ⟨h2,zga _ h1⟩
  ·rw [e6];exact Nat.le_of_ble_eq_true o1
  ·intro b' hb';change tgt [] _ o.op=some b' at hb';unfold before at hb';rw [hb'] at o3;simp only at o3;split at o3
   ·rename_i c hc;rw [hw c hc,Nat.eq_of_beq_eq_true o3]
   ·cases o3
  ·simp only [Bool.or_eq_true,Bool.and_eq_true] at o4;rcases o4 with o4 | ⟨⟨h1,h2⟩,h3⟩
   ·exact .inl (Nat.eq_of_beq_eq_true o4)
   ·refine .inr ⟨Nat.eq_of_beq_eq_true h1,Nat.eq_of_beq_eq_true h2, ?_⟩;split at h3
    ·rename_i c hc;rw [hw c hc,Nat.eq_of_beq_eq_true h3]
    ·cases h3
  ·intro b' t l hb';unfold boxOk at o5;rw [hb'] at o5;simp only at o5;constructor
   ·intro c hc;rw [hc] at o5;simp only [Bool.and_eq_true] at o5;exact ⟨Nat.eq_of_beq_eq_true o5.1,Nat.eq_of_beq_eq_true o5.2⟩
   ·intro hc;rw [hc] at o5;exact Nat.eq_of_beq_eq_true o5
  ·intro hm;rw [(zf4 _ _).2 hm] at o6;simp only [Bool.not_true,Bool.false_or] at o6;exact Nat.eq_of_beq_eq_true o6
  ·intro D' hD'
   have:=List.all_eq_true.1 o7 D' hD'
   simp only [Bool.and_eq_true] at this;obtain ⟨h1,h2⟩:=this;constructor
   ·intro d hd hd';rw [hd,hd'] at h1;simp only [Nat.beq_refl] at h1;cases h1
   ·intro b' hb' hb'';unfold Dl.wr at hb' hb'';simp only [Option.map_eq_some_iff] at hb' hb'';obtain ⟨x,hx,rfl⟩:=hb';obtain ⟨y,hy,e⟩:=hb'';rw [hx,hy] at h2;simp only [Bool.or_eq_true] at h2;rcases h2 with h2 | h2
    ·rw [e,Nat.beq_refl] at h2;cases h2
    ·exact (zf4 _ _).1 h2
  ·exact List.all_eq_true.1 o9
  ·exact List.all_eq_true.1 o10
  ·intro b' t l hb';rw [hb'] at o11;exact o11
 ·cases hD
structure Chks (E:Env) (ops:List Oper) (s:AS) (pres:List (List Nat)) (wr:List (Nat×Nat)) (ds:List Dl) (n:Nat):Prop where
 c:∀ j D,ds[j]?=some D->∃ o u,ops[j]?=some o/\Chk E ops s pres wr j o (ds.take j) D u
 rg:∀ (j k:Nat) D D',j < k->ds[j]?=some D->ds[k]?=some D'->D.hi<=D'.lo
 lo:∀ D∈ds,s.n<=D.lo/\D.hi<=n
 n:s.n<=n
theorem anyGo_spec:∀ {l:List Oper} {i:Nat} {ds dsF:List Dl} {n nF:Nat},anyGo E ops s pres wr i l ds n=some (dsF,nF)->ds.length=i->ops.drop i=l->Chks E ops s pres wr ds n->Chks E ops s pres wr dsF nF/\dsF.length=i+l.length
 | [],i,ds,dsF,n,nF,h,hi,hl,hc=>by
  cases h;exact ⟨hc,hi⟩
 | o::l,i,ds,dsF,n,nF,h,hi,hl,hc=>by
  simp only [anyGo] at h;split at h
  ·cases h
  ·rename_i pr hpr;split at h
   ·cases h
   ·rename_i u hu;split at h
    ·cases h
    ·rename_i D hD;cases hok:okD s ds (byIx pr ds) (maskB pres i pr wr) (view s (byIx pr ds) (maskT pres i pr 0 ops) (maskB pres i pr wr) n) u o (look i wr) D <;> rw [hok] at h
     ·cases h
     simp only [cond_true] at h;obtain ⟨k,klo⟩:=chk_of hpr hu hD hok
     have hoi:ops[i]?=some o:=by
      have:=congrArg (fun l=>l[0]?) hl
      simp only [List.getElem?_drop,Nat.add_zero,List.getElem?_cons_zero] at this;exact this
     have hdr:ops.drop (i+1)=l:=by
      have:=congrArg (List.drop 1) hl
      simpa [List.drop_drop,Nat.add_comm] using this
     have:=anyGo_spec h (by simp [hi]) hdr ⟨fun j D' hj=>?_,fun j k' D1 D2 hjk h1 h2=>?_,fun D' hD'=>?_, ?_⟩
     ·refine ⟨this.1, ?_⟩;rw [this.2,List.length_cons];omega
     ·by_cases hji:j < ds.length
      ·rw [List.getElem?_append_left hji] at hj;rw [List.take_append_of_le_length (Nat.le_of_lt hji)];exact hc.c j D' hj
      ·have hje:j=ds.length:=by
        have:=(List.getElem?_eq_some_iff.1 hj).1
        simp at this;omega
       subst hje;rw [List.getElem?_append_right (Nat.le_refl _),Nat.sub_self] at hj;cases hj;rw [List.take_left];rw [hi];exact ⟨o,u,hoi,k⟩
     ·have hk':k'<=ds.length:=by
       have:=(List.getElem?_eq_some_iff.1 h2).1
       simp at this;omega
      rw [List.getElem?_append_left (by omega)] at h1
      by_cases hk2:k' < ds.length
      ·rw [List.getElem?_append_left hk2] at h2;exact hc.rg j k' D1 D2 hjk h1 h2
      ·have:k'=ds.length:=by omega
       subst this;rw [List.getElem?_append_right (Nat.le_refl _),Nat.sub_self] at h2;cases h2;rw [klo];exact (hc.lo D1 (List.mem_of_getElem? h1)).2
     ·rcases List.mem_append.1 hD' with hD' | hD'
      ·obtain ⟨h1,h2⟩:=hc.lo D' hD';refine ⟨h1,Nat.le_trans h2 ?_⟩;rw [<-k.hi,<-klo];exact k.le
      ·simp only [List.mem_singleton] at hD';subst hD';refine ⟨by rw [klo];exact hc.n,by rw [k.hi];exact Nat.le_refl _⟩
     ·rw [<-k.hi];exact Nat.le_trans hc.n (by rw [<-klo];exact k.le)
theorem zip:∀ (l m:List Nat) (x:Nat),x∈uni l m↔x∈l\/x∈m
 | [],m,x=>by simp [uni]
 | y::l,m,x=>by
  simp only [uni];cases hm:mem y m
  ·simp only [cond_false];rw [zip l (y::m) x];simp only [List.mem_cons];constructor
   ·rintro (h | h | h)
    ·exact .inl (.inr h)
    ·exact .inl (.inl h)
    ·exact .inr h
   ·rintro ((h | h) | h)
    ·exact .inr (.inl h)
    ·exact .inl h
    ·exact .inr (.inr h)
  ·simp only [cond_true];rw [zip l m x];simp only [List.mem_cons]
   have:=(zf4 y m).1 hm
   constructor
   ·rintro (h | h)
    ·exact .inl (.inr h)
    ·exact .inr h
   ·rintro ((h | h) | h)
    ·subst h;exact .inr this
    ·exact .inl h
    ·exact .inr h
theorem predsE_spec {acc:List (List Nat)}:∀ {l:List Edge} {r:List Nat},predsE acc l=some r ->
  (∀ e∈l,Region.binds .any e=true->∃ p,nth acc e.on=some p/\e.on∈r/\∀ x∈p,x∈r)/\∀ x∈r,∃ e∈l,Region.binds .any e=true/\∃ p,nth acc e.on=some p/\(x=e.on\/x∈p)
 | [],r,h=>by cases h;exact ⟨by simp,by simp⟩
 | e::l,r,h=>by
  simp only [predsE] at h;split at h
  ·cases h
  ·rename_i m hm;obtain ⟨i1,i2⟩:=predsE_spec hm;cases hb:Region.binds .any e <;> rw [hb] at h
   ·cases h;refine ⟨fun x hx hxb=>?_,fun x hx=>?_⟩
    ·rcases List.mem_cons.1 hx with rfl | hx
     ·rw [hb] at hxb;cases hxb
     ·exact i1 x hx hxb
    ·obtain ⟨y,h1,h2⟩:=i2 x hx;exact ⟨y,List.mem_cons_of_mem _ h1,h2⟩
   ·simp only [cond_true] at h;split at h
    ·rename_i p hp;cases h;refine ⟨fun x hx hxb=>?_,fun x hx=>?_⟩
     ·rcases List.mem_cons.1 hx with rfl | hx
      ·exact ⟨p,hp,(zip _ _ _).2 (.inl List.mem_cons_self),fun y hy=>(zip _ _ _).2 (.inl (List.mem_cons_of_mem _ hy))⟩
      ·obtain ⟨p',h1,h2,h3⟩:=i1 x hx hxb;exact ⟨p',h1,(zip _ _ _).2 (.inr h2),fun y hy=>(zip _ _ _).2 (.inr (h3 y hy))⟩
     ·rcases (zip _ _ _).1 hx with hx | hx
      ·exact ⟨e,List.mem_cons_self,hb,p,hp,List.mem_cons.1 hx⟩
      ·obtain ⟨y,h1,h2⟩:=i2 x hx;exact ⟨y,List.mem_cons_of_mem _ h1,h2⟩
    ·cases h
structure Pres (ops:List Oper) (pres:List (List Nat)):Prop where
 lt:∀ (i:Nat) (pr:List Nat),pres[i]?=some pr->∀ x∈pr,x < i
 tr:∀ (i:Nat) (pr:List Nat),pres[i]?=some pr->∀ x∈pr,∀ (pr':List Nat),pres[x]?=some pr'->∀ y∈pr',y∈pr
 rd:∀ (i:Nat) (pr:List Nat) (o:Oper),pres[i]?=some pr->ops[i]?=some o->∀ x∈pr,∃ e∈o.after.toList,Region.binds .any e=true/\∃ p,pres[e.on]?=some p/\(x=e.on\/x∈p)
 bd:∀ (i:Nat) (pr:List Nat) (o:Oper),pres[i]?=some pr->ops[i]?=some o->∀ e∈o.after.toList,Region.binds .any e=true->e.on < i
theorem presOf_spec:∀ {l:List Oper} {i:Nat} {acc pres:List (List Nat)},presOf l acc=some pres->acc.length=i->ops.drop i=l->Pres ops acc->Pres ops pres/\pres.length=i+l.length
 | [],i,acc,pres,h,hi,hl,hp=>by
  cases h;exact ⟨hp,hi⟩
 | o::l,i,acc,pres,h,hi,hl,hp=>by
  simp only [presOf] at h;split at h
  ·rename_i p hpp
   have hoi:ops[i]?=some o:=by
    have:=congrArg (fun l=>l[0]?) hl
    simp only [List.getElem?_drop,Nat.add_zero,List.getElem?_cons_zero] at this;exact this
   have hdr:ops.drop (i+1)=l:=by
    have:=congrArg (List.drop 1) hl
    simpa [List.drop_drop,Nat.add_comm] using this
   obtain ⟨s1,s2⟩:=predsE_spec hpp
   have get:∀ (j:Nat) (pr:List Nat),(acc++[p])[j]?=some pr->(j < acc.length/\acc[j]?=some pr)\/(j=acc.length/\pr=p):=by
    intro j pr hj;by_cases hji:j < acc.length
    ·rw [List.getElem?_append_left hji] at hj;exact .inl ⟨hji,hj⟩
    ·have hje:j=acc.length:=by
      have:=(List.getElem?_eq_some_iff.1 hj).1
      simp at this;omega
     subst hje;rw [List.getElem?_append_right (Nat.le_refl _),Nat.sub_self] at hj;cases hj;exact .inr ⟨rfl,rfl⟩
   have old:∀ (j:Nat) pr,nth acc j=some pr->j < acc.length/\acc[j]?=some pr:=by
    intro j pr hj;rw [zbv] at hj;exact ⟨(List.getElem?_eq_some_iff.1 hj).1,hj⟩
   have lt2:∀ x∈p,x < acc.length:=by
    intro x hx;obtain ⟨e,_,_,q,hq,hx⟩:=s2 x hx;obtain ⟨h1,h2⟩:=old _ _ hq;rcases hx with rfl | hx
    ·exact h1
    ·have:=hp.lt _ _ h2 x hx;omega
   have:=presOf_spec h (by simp [hi]) hdr ⟨fun j pr hj x hx=>?_,fun j pr hj x hx pr' hx' y hy=>?_,fun j pr o' hj ho x hx=>?_,fun j pr o' hj ho e he hb=>?_⟩
   ·refine ⟨this.1, ?_⟩;rw [this.2,List.length_cons];omega
   ·rcases get j pr hj with ⟨h1,h2⟩ | ⟨h1,rfl⟩
    ·exact hp.lt j pr h2 x hx
    ·rw [h1];exact lt2 x hx
   ·rcases get j pr hj with ⟨h1,h2⟩ | ⟨h1,rfl⟩
    ·have hxlt:=hp.lt j pr h2 x hx;rw [List.getElem?_append_left (by omega)] at hx'
     exact hp.tr j pr h2 x hx pr' hx' y hy
    ·have hxlt:=lt2 x hx;rw [List.getElem?_append_left hxlt] at hx';obtain ⟨e,he,hb,q,hq,hx⟩:=s2 x hx;obtain ⟨q',hq',r1,r2⟩:=s1 e he hb;rw [hq] at hq';cases hq';obtain ⟨g1,g2⟩:=old _ _ hq;rcases hx with rfl | hx
     ·rw [g2] at hx';cases hx';exact r2 y hy
     ·exact r2 y (hp.tr _ _ g2 x hx pr' hx' y hy)
   ·rcases get j pr hj with ⟨h1,h2⟩ | ⟨h1,rfl⟩
    ·obtain ⟨e,he,hb,q,hq,hx⟩:=hp.rd j pr o' h2 ho x hx;exact ⟨e,he,hb,q,by rw [List.getElem?_append_left (List.getElem?_eq_some_iff.1 hq).1];exact hq,hx⟩
    ·rw [h1,hi,hoi] at ho;cases ho;obtain ⟨e,he,hb,q,hq,hx⟩:=s2 x hx;obtain ⟨g1,g2⟩:=old _ _ hq;exact ⟨e,he,hb,q,by rw [List.getElem?_append_left g1];exact g2,hx⟩
   ·rcases get j pr hj with ⟨h1,h2⟩ | ⟨h1,rfl⟩
    ·exact hp.bd j pr o' h2 ho e he hb
    ·rw [h1,hi,hoi] at ho;cases ho;obtain ⟨q,hq,_⟩:=s1 e he hb;rw [h1];exact (old _ _ hq).1
  ·cases h
end
end Go.Proofs.YtckfjploafhenaaGreat.Ai
namespace Go.Proofs.YtckfjploafhenaaGreat.Ai
open Go.RowKit
def Has (s:AS) (ds:List Dl) (L:Nat->Prop) (b:Nat):Prop:=b < s.bx.length\/(b=s.bx.length/\∃ D∈ds,L D.ix/\D.wr=some b)
structure Iv (C:Cx) (w0:World) (R0:Nat->Prop) (s:AS) (σ0:Nat->Int) (bp0:Nat->Nat) (ds:List Dl) (L:Nat->Prop) (σ:Nat->Int) (bp:Nat->Nat) (R:Nat->Prop) (a:Act) (w:World):Prop where
 ag:Agr s.n σ σ0
 ab:Agb s.bx.length bp bp0
 len:s.tm.length=a.tmps.toList.length
 tb:∀ (d:Nat) (x:AV) (v:Value),s.tm[d]?=some x->a.tmps.toList[d]?=some v->(∀ D∈ds,L D.ix->D.dst≠some d)->∀ σ' bp',Agr s.n σ' σ0->Agb s.bx.length bp' bp0->AVOk C σ' bp' R w x v
 to:∀ D∈ds,L D.ix->∀ (d:Nat) (v:Value),D.dst=some d->a.tmps.toList[d]?=some v->AVOk C σ bp R w D.v v
 fa:∀ D∈ds,L D.ix->∀ f∈D.fa,0<=f.ev σ
 cf:∀ D∈ds,L D.ix->∀ c∈D.cf,(∀ p∈c.1,PrH σ p)->0<=c.2.ev σ
 bs:∀ (b:Nat) (c:Nat×List At),s.bx[b]?=some c->∃ arr,w.heap[bp b]?=some (.cells arr c.1 (0,0))/\c.2.length=arr.toList.length/\((∀ D∈ds,L D.ix->D.wr≠some b)->∀ σ' bp',Agr s.n σ' σ0->Agb s.bx.length bp' bp0->LsOk C σ' bp' R w c.2 arr.toList)
 bo:∀ D∈ds,L D.ix->∀ b t l,D.bx=some (b,t,l)->(∀ D'∈ds,L D'.ix->D'.wr=some b->D'=D\/D'.ix∈D.pr)->∃ arr,w.heap[bp b]?=some (.cells arr t (0,0))/\LsOk C σ bp R w l arr.toList
 hp:Hp C R w
 gw:Gw C R0 R w0 w
 df:a.defers=[]
 r0:∀ q,R0 q->q < w0.heap.size
 own:∀ b,Has s ds L b->w0.heap.size<=bp b/\¬ R (bp b)/\bp b≠C.pc/\bp b < w.heap.size
 inj:∀ b c,Has s ds L b->Has s ds L c->bp b=bp c->b=c
section
variable {E:Env} {ops:List Oper} {s:AS} {pres:List (List Nat)} {wr:List (Nat×Nat)} {ds:List Dl} {n:Nat}
theorem Chks.at (h:Chks E ops s pres wr ds n) {D:Dl} (hD:D∈ds):ds[D.ix]?=some D/\∃ o u,ops[D.ix]?=some o/\Chk E ops s pres wr D.ix o (ds.take D.ix) D u:=by
 obtain ⟨j,hj⟩:=List.getElem?_of_mem hD;obtain ⟨o,u,h1,h2⟩:=h.c j D hj
 have:=h2.ix
 subst this;exact ⟨hj,o,u,h1,h2⟩
theorem Chks.inj (h:Chks E ops s pres wr ds n) {D D':Dl} (hD:D∈ds) (hD':D'∈ds) (e:D.ix=D'.ix):D=D':=by
 have h1:=(h.at hD).1;rw [e,(h.at hD').1] at h1;exact (Option.some.inj h1).symm
theorem Chks.rng (h:Chks E ops s pres wr ds n) {D D':Dl} (hD:D∈ds) (hD':D'∈ds) (e:D.ix < D'.ix):D.hi<=D'.lo:=h.rg _ _ D D' e (h.at hD).1 (h.at hD').1
theorem Chks.memP (h:Chks E ops s pres wr ds n) (hP:Pres ops pres) {D:Dl} (hD:D∈ds) (X:Dl):X∈byIx D.pr (ds.take D.ix)↔X∈ds/\X.ix∈D.pr:=by
 unfold byIx;rw [List.mem_filter,zf4];constructor
 ·exact fun ⟨h1,h2⟩=>⟨List.mem_of_mem_take h1,h2⟩
 ·rintro ⟨h1,h2⟩;obtain ⟨_,o,u,_,k⟩:=h.at hD;have hpr:=k.pr;rw [zbv] at hpr;have hlt:=hP.lt _ _ hpr _ h2;refine ⟨?_,h2⟩
  have:=(h.at h1).1
  refine List.mem_of_getElem? (i:=X.ix) ?_;rw [List.getElem?_take_of_lt hlt];exact this
theorem Chks.prt (h:Chks E ops s pres wr ds n) (hP:Pres ops pres) {D X:Dl} (hD:D∈ds) (hX:X∈ds) (e:X.ix∈D.pr):X.ix < D.ix/\∀ y∈X.pr,y∈D.pr:=by
 obtain ⟨_,o,u,_,k⟩:=h.at hD;obtain ⟨_,o',u',_,k'⟩:=h.at hX;have h1:=k.pr;have h2:=k'.pr;rw [zbv] at h1 h2;exact ⟨hP.lt _ _ h1 _ e,hP.tr _ _ h1 _ e _ h2⟩
theorem Chks.sup (h:Chks E ops s pres wr ds n) (hP:Pres ops pres) {D:Dl} (hD:D∈ds) {σ σ':Nat->Int} (h1:∀ k,k < s.n->σ' k=σ k) (h2:∀ X∈ds,X=D\/X.ix∈D.pr->∀ k,X.lo<=k->k < X.hi->σ' k=σ k) :
  ∀ k,symOk s.n (byIx D.pr (ds.take D.ix)) D.lo D.hi k=true->σ' k=σ k:=by
 intro k hk;unfold symOk at hk;simp only [Bool.or_eq_true,Bool.and_eq_true,zgt,List.any_eq_true] at hk;rcases hk with (hk | ⟨k1,k2⟩) | ⟨X,hX,hr⟩
 ·exact h1 k hk
 ·exact h2 D hD (.inl rfl) k (Nat.le_of_ble_eq_true k1) k2
 ·obtain ⟨x1,x2⟩:=(h.memP hP hD X).1 hX;unfold Ai.rng at hr;simp only [Bool.and_eq_true,zgt] at hr;exact h2 X x1 (.inr x2) k (Nat.le_of_ble_eq_true hr.1) hr.2
theorem view_bx (s:AS) (P:List Dl) (ml mb:List Nat) (n:Nat):(view s P ml mb n).bx.length=s.bx.length+(bxv s.bx.length P none).toList.length:=by
 unfold view;simp [zh8]
theorem newbox (b:Nat) (P:List Dl):(bxv b P none).toList.length=0/\(∀ D∈P,D.wr≠some b)\/(bxv b P none).toList.length=1/\∃ D∈P,D.wr=some b:=by
 rcases bxv_spec b P none with ⟨h1,h2⟩ | ⟨A,D,r,t,l,h1,h2,h3,h4⟩
 ·exact .inl ⟨by rw [h1];rfl,h2⟩
 ·exact .inr ⟨by rw [h3];rfl,D,by rw [h1];simp,by unfold Dl.wr;rw [h2];rfl⟩
theorem Chks.nb (h:Chks E ops s pres wr ds n) (hP:Pres ops pres) {D:Dl} (hD:D∈ds) {b:Nat} (hb:lt D.nb b=true):b < s.bx.length\/(b=s.bx.length/\∃ X∈ds,(X=D\/X.ix∈D.pr)/\X.wr=some s.bx.length):=by
 obtain ⟨_,o,u,_,k⟩:=h.at hD;have hb:b < D.nb:=(zgt _ _).1 hb;rw [k.nb] at hb;by_cases hlt:b < s.bx.length
 ·exact .inl hlt
 refine .inr ?_;rcases k.nu with hn | ⟨_,hn,hw⟩
 ·rw [hn] at hb;unfold before at hb;rw [view_bx] at hb;rcases newbox s.bx.length (byIx D.pr (ds.take D.ix)) with ⟨e,_⟩ | ⟨e,X,hX,hw⟩
  ·omega
  ·obtain ⟨x1,x2⟩:=(h.memP hP hD X).1 hX;exact ⟨by omega,X,x1, .inr x2,hw⟩
 ·exact ⟨by omega,D,hD, .inl rfl,hw⟩
theorem loose_no {i:Nat} {pr:List Nat} {j:Nat} (h:¬ loose pres i pr j=true):i=j\/j∈pr\/∃ q,pres[j]?=some q/\i∈q:=by
 unfold loose at h;simp only [Bool.and_eq_true,Bool.not_eq_true',not_and,Bool.not_eq_false] at h;by_cases h1:i=j
 ·exact .inl h1
 by_cases h2:j∈pr
 ·exact .inr (.inl h2)
 have:=h ⟨by cases hb:Nat.beq i j;rfl;exact absurd (Nat.eq_of_beq_eq_true hb) h1,by cases hb:mem j pr;rfl;exact absurd ((zf4 _ _).1 hb) h2⟩
 rw [zbv] at this;cases hq:pres[j]? with
 | none=>rw [hq] at this;simp [mem] at this
 | some q =>
  rw [hq] at this;exact .inr (.inr ⟨q,rfl,(zf4 _ _).1 this⟩)
end
section
variable {C:Cx} {E:Env} {w0:World} {R0:Nat->Prop} {σ0 σ:Nat->Int} {bp0 bp:Nat->Nat} {R:Nat->Prop} {s:AS} {a:Act} {w:World} {ops:List Oper} {pres:List (List Nat)} {wr:List (Nat×Nat)} {ds:List Dl} {n:Nat} {L:Nat->Prop}
theorem Chks.bind (h:Chks E ops s pres wr ds n) {D X:Dl} (hX:X∈ds) (hL:L X.ix) (hi:¬ L D.ix) (cl:∀ D∈ds,L D.ix->∀ x∈D.pr,L x) (hn:¬ loose pres D.ix D.pr X.ix=true):X.ix∈D.pr:=by
 rcases loose_no hn with e | e | ⟨q,hq,e⟩
 ·exact absurd (by rw [e];exact hL) hi
 ·exact e
 ·obtain ⟨_,o,u,_,k⟩:=h.at hX;have hp:=k.pr;rw [zbv,hq] at hp;cases hp;exact absurd (cl X hX hL _ e) hi
theorem view_stt (h:Chks E ops s pres wr ds n) (hP:Pres ops pres) (fs:∀ σ',Agr s.n σ' σ0->Fs σ' s) (I:Iv C w0 R0 s σ0 bp0 ds L σ bp R a w) {P:List Dl} {ml mb:List Nat} {m:Nat} (mP:∀ X∈P,X∈ds/\L X.ix) (cP:∀ X∈P,∀ Y∈ds,Y.ix∈X.pr->Y∈P)
  (hP':∀ X∈P,X.hi<=m) (hlo:s.n<=m) (tP:∀ X∈ds,L X.ix->∀ d,X.dst=some d->d∉ml->X∈P) (bP:∀ X∈ds,L X.ix->∀ b,X.wr=some b->b∉mb->X∈P) (nm:s.bx.length∈mb->∀ X∈P,X.wr≠some s.bx.length) (pw:P.Pairwise fun A B=>A.ix < B.ix) :
  Stt C w0 R0 σ bp R (view s P ml mb m) a w:=by
 have tl:=view_bx s P ml mb m
 have has:∀ b,b < (view s P ml mb m).bx.length->Has s ds L b:=by
  intro b hb;rw [tl] at hb;by_cases hlt:b < s.bx.length
  ·exact .inl hlt
  ·rcases newbox s.bx.length P with ⟨e,_⟩ | ⟨e,X,hX,hw⟩
   ·omega
   ·obtain ⟨x1,x2⟩:=mP X hX;have hbe:b=s.bx.length:=by omega
    exact .inr ⟨hbe,X,x1,x2,by rw [hbe];exact hw⟩
 refine ⟨fun σ' bp' q1 q2=>?_,⟨I.hp,I.gw,fun b hb=>?_,fun b c hb hc=>I.inj b c (has b hb) (has c hc),I.df,I.r0⟩⟩
 rotate_left
 ·obtain ⟨h1,h2,h3,_⟩:=I.own b (has b hb);exact ⟨h1,h2,h3⟩
 have q1:Agr m σ' σ:=q1;have q1':Agr s.n σ' σ0:=(q1.less hlo).trans I.ag;have q2':Agb s.bx.length bp' bp0:=(Agb.less (show Agb _ bp' bp from q2) (by rw [tl];omega)).trans I.ab
 have supS:∀ X∈P,∀ k,symOk s.n (byIx X.pr (ds.take X.ix)) X.lo X.hi k=true->σ' k=σ k:=by
  intro X hX;refine h.sup hP (mP X hX).1 (fun k hk=>q1 k (by omega)) fun Y hY hYX k k1 k2=>q1 k ?_
  have:Y∈P:=by
   rcases hYX with rfl | hYX
   ·exact hX
   ·exact cP X hX Y hY hYX
  have:=hP' Y this
  omega
 have supB:∀ X∈P,∀ b,lt X.nb b=true->bp' b=bp b:=by
  intro X hX b hb;refine q2 b ?_;rw [tl];rcases h.nb hP (mP X hX).1 hb with hlt | ⟨rfl,Y,hY,hYX,hw⟩
  ·omega
  ·have hYD:Y∈P:=by
    rcases hYX with rfl | hYX
    ·exact hX
    ·exact cP X hX Y hY hYX
   rcases newbox s.bx.length P with ⟨e,hno⟩ | ⟨e,_⟩
   ·exact absurd hw (hno Y hYD)
   ·omega
 have last:∀ b,b∉mb->∀ A X r,P=A++X::r->X.wr=some b->(∀ D'∈r,D'.wr≠some b)->∀ D'∈ds,L D'.ix->D'.wr=some b->D'=X\/D'.ix∈X.pr:=by
  intro b hb A X r hA hw hr D' hD' hL hw';have hm:D'∈P:=bP D' hD' hL b hw' hb;have hXm:X∈ds:=(mP X (by rw [hA];simp)).1
  rw [hA] at hm pw;rcases List.mem_append.1 hm with hm | hm
  ·right;have hlt:D'.ix < X.ix:=(List.pairwise_append.1 pw).2.2 D' hm X List.mem_cons_self;obtain ⟨_,o',u',_,k'⟩:=h.at hXm;refine (k'.one D' ?_).2 b hw hw';refine List.mem_of_getElem? (i:=D'.ix) ?_;rw [List.getElem?_take_of_lt hlt];exact (h.at hD').1
  ·rcases List.mem_cons.1 hm with rfl | hm
   ·exact .inl rfl
   ·exact absurd hw' (hr D' hm)
 refine ⟨?_, ?_, ?_⟩
 ·-- slots
  refine tmOk_of (by rw [<-I.len];exact zh8 _ _ _) fun d x v hx hv=>?_
  change (mapI _ 0 s.tm)[d]?=some x at hx;rw [mapI_get,Nat.zero_add,Option.map_eq_some_iff] at hx;obtain ⟨x0,hx0,rfl⟩:=hx;cases hm:mem d ml
  ·simp only [cond_false];rcases tmv_spec d x0 (P) with ⟨e,hno⟩ | ⟨X,hX,hXd,e⟩
   ·rw [e];refine I.tb d x0 v hx0 hv (fun X hX hL hXd=>?_) σ' bp' q1' q2'
    exact hno X (tP X hX hL d hXd fun hh=>by rw [(zf4 _ _).2 hh] at hm;cases hm) hXd
   ·rw [e];obtain ⟨x1,x2⟩:=mP X hX;obtain ⟨_,o',u',ho',k'⟩:=h.at x1;exact AVOk.cg (supS X hX) (supB X hX) k'.iv (I.to X x1 x2 d v hXd hv)
  ·exact trivial
 ·-- boxes
  refine bxOk_of fun b c hc=>?_
  rw [Nat.zero_add];have hlt:b < (view s P ml mb m).bx.length:=(List.getElem?_eq_some_iff.1 hc).1;have hbb:bp' b=bp b:=q2 b hlt;rw [hbb];unfold view at hc;simp only at hc;by_cases hb:b < s.bx.length
  ·rw [List.getElem?_append_left (by rw [zh8];exact hb),mapI_get,Nat.zero_add,Option.map_eq_some_iff] at hc
   obtain ⟨c0,hc0,rfl⟩:=hc;obtain ⟨arr,h1,h2,h3⟩:=I.bs b c0 hc0;unfold boxv;cases hm:mem b mb
   ·have hm':b∉mb:=fun hh=>by rw [(zf4 _ _).2 hh] at hm;cases hm
    simp only [cond_false];rcases bxv_spec b (P) (some c0) with ⟨e,hno⟩ | ⟨A,X,r,t,l,hA,hX,e,hr⟩
    ·rw [e];refine ⟨arr,h1,h3 (fun X hX hL hw=>?_) σ' bp' q1' q2'⟩
     exact hno X (bP X hX hL b hw hm') hw
    ·rw [e];have hXP:X∈P:=(by rw [hA];simp)
     obtain ⟨x1,x2⟩:=mP X hXP;have hw:X.wr=some b:=by unfold Dl.wr;rw [hX];rfl
     obtain ⟨arr',h4,h5⟩:=I.bo X x1 x2 b t l hX (last b hm' A X r hA hw hr);obtain ⟨_,o',u',ho',k'⟩:=h.at x1;exact ⟨arr',h4,LsOk.cg (supS X hXP) (supB X hXP) (k'.ibx _ _ _ hX) h5⟩
   ·exact ⟨arr,h1,unks_ok h2⟩
  ·rw [List.getElem?_append_right (by rw [zh8];omega),zh8] at hc
   rcases bxv_spec s.bx.length (P) none with ⟨e,hno⟩ | ⟨A,X,r,t,l,hA,hX,e,hr⟩
   ·rw [e] at hc;simp at hc
   ·rw [e] at hc
    have hbe:b=s.bx.length:=by
     have:=(List.getElem?_eq_some_iff.1 hc).1
     simp at this;omega
    subst hbe;rw [Nat.sub_self] at hc;simp only [Option.toList_some,List.getElem?_cons_zero,Option.some.injEq] at hc;subst hc;have hXP:X∈P:=(by rw [hA];simp)
    obtain ⟨x1,x2⟩:=mP X hXP;have hw:X.wr=some s.bx.length:=by unfold Dl.wr;rw [hX];rfl
    obtain ⟨arr',h4,h5⟩:=I.bo X x1 x2 _ t l hX (last _ (fun hm=>nm hm X hXP hw) A X r hA hw hr)
    obtain ⟨_,o',u',ho',k'⟩:=h.at x1;exact ⟨arr',h4,LsOk.cg (supS X hXP) (supB X hXP) (k'.ibx _ _ _ hX) h5⟩
 ·-- facts
  have f0:=fs σ' q1';refine ⟨fun f hf=>?_,f0.lt,fun c hc hp=>?_⟩
  ·change f∈(P).reverse.flatMap (·.fa)++s.fa at hf
   rcases List.mem_append.1 hf with hf | hf
   ·obtain ⟨X,hX,hf⟩:=List.mem_flatMap.1 hf;have hXP:X∈P:=List.mem_reverse.1 hX;obtain ⟨x1,x2⟩:=mP X hXP;obtain ⟨_,o',u',ho',k'⟩:=h.at x1;rw [zh0 (supS X hXP) (k'.ifa f hf)];exact I.fa X x1 x2 f hf
   ·exact f0.fa f hf
  ·change c∈(P).reverse.flatMap (·.cf)++s.cf at hc
   rcases List.mem_append.1 hc with hc | hc
   ·obtain ⟨X,hX,hc⟩:=List.mem_flatMap.1 hc;have hXP:X∈P:=List.mem_reverse.1 hX;obtain ⟨x1,x2⟩:=mP X hXP;obtain ⟨_,o',u',ho',k'⟩:=h.at x1;exact inC_cg (supS X hXP) (k'.icf c hc) (I.cf X x1 x2 c hc) hp
   ·exact f0.cf c hc hp
theorem ds_pw (h:Chks E ops s pres wr ds n):ds.Pairwise (fun A B=>A.ix < B.ix):=by
 rw [List.pairwise_iff_getElem];intro i j hi hj hij;obtain ⟨_,_,_,e1⟩:=h.c i _ (List.getElem?_eq_getElem hi);obtain ⟨_,_,_,e2⟩:=h.c j _ (List.getElem?_eq_getElem hj);rw [e1.ix,e2.ix];exact hij
theorem wr_mem (h:Chks E ops s pres wr ds n):∀ X∈ds,∀ b,X.wr=some b->(X.ix,b)∈wr:=by
 intro X hX b hw;obtain ⟨_,o',u',_,k'⟩:=h.at hX;unfold Dl.wr at hw;simp only [Option.map_eq_some_iff] at hw;obtain ⟨⟨b',t,l⟩,hb,rfl⟩:=hw;exact (k'.bx _ _ _ hb).2
theorem before_stt (h:Chks E ops s pres wr ds n) (hP:Pres ops pres) (fs:∀ σ',Agr s.n σ' σ0->Fs σ' s) (cl:∀ D∈ds,L D.ix->∀ x∈D.pr,L x) (I:Iv C w0 R0 s σ0 bp0 ds L σ bp R a w) {D:Dl} (hD:D∈ds) (hi:¬ L D.ix) (hpr:∀ x∈D.pr,L x) :
  Stt C w0 R0 σ bp R (before s ops pres wr D.ix (ds.take D.ix) D) a w:=by
 obtain ⟨_,o,u,ho,k⟩:=h.at hD;have mP:=h.memP hP hD;refine view_stt h hP fs I (fun X hX=>?_) (fun X hX Y hY hYX=>?_) (fun X hX=>?_) (h.lo D hD).1 (fun X hX hL d hd hm=>?_) (fun X hX hL b hb hm=>?_) (fun hm X hX hw=>?_) (((ds_pw h).sublist (List.take_sublist _ _)).sublist List.filter_sublist)
 ·obtain ⟨x1,x2⟩:=(mP X).1 hX;exact ⟨x1,hpr _ x2⟩
 ·obtain ⟨x1,x2⟩:=(mP X).1 hX;exact (mP Y).2 ⟨hY,(h.prt hP hD x1 x2).2 _ hYX⟩
 ·obtain ⟨x1,x2⟩:=(mP X).1 hX;exact h.rng x1 hD (h.prt hP hD x1 x2).1
 ·refine (mP X).2 ⟨hX,h.bind hX hL hi cl fun hl=>hm ?_⟩
  obtain ⟨_,o',u',ho',k'⟩:=h.at hX;exact maskT_spec pres D.ix D.pr ops 0 X.ix d o' ho' (by rw [<-k'.dst];exact hd) (by rw [Nat.zero_add];exact hl)
 ·exact (mP X).2 ⟨hX,h.bind hX hL hi cl fun hl=>hm (maskB_spec _ _ _ _ _ _ (wr_mem h X hX b hb) hl)⟩
 ·have e:=k.nm hm;unfold before at e;rw [view_bx] at e;rcases newbox s.bx.length (byIx D.pr (ds.take D.ix)) with ⟨_,hno⟩ | ⟨e',_⟩
  ·exact hno X hX hw
  ·omega
theorem after_stt (h:Chks E ops s pres wr ds n) (hP:Pres ops pres) (fs:∀ σ',Agr s.n σ' σ0->Fs σ' s) (I:Iv C w0 R0 s σ0 bp0 ds L σ bp R a w) (hall:∀ X∈ds,L X.ix):Stt C w0 R0 σ bp R (view s ds [] [] n) a w :=
 view_stt h hP fs I (fun X hX=>⟨hX,hall X hX⟩) (fun X hX Y hY _=>hY) (fun X hX=>(h.lo X hX).2) h.n (fun X hX _ _ _ _=>hX) (fun X hX _ _ _ _=>hX) (fun hm=>by simp at hm) (ds_pw h)
end
end Go.Proofs.YtckfjploafhenaaGreat.Ai
