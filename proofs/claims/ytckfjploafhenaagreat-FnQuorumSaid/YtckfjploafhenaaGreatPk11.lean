/- The interpreter's drawn regions are sound. -/
import Derived.Test.YtckfjploafhenaaGreatPk10
set_option maxRecDepth 100000
set_option maxHeartbeats 16000000
set_option linter.unusedVariables false
set_option linter.unusedSimpArgs false
namespace Go.Proofs.YtckfjploafhenaaGreat.Ai
open Go.RowKit
section
variable {C:Cx} {E:Env} {w0:World} {R0:Nat->Prop} {σ0 σ σ1:Nat->Int} {bp0 bp bp1:Nat->Nat} {R R1:Nat->Prop} {s:AS} {a:Act} {w w':World} {ops:List Oper} {pres:List (List Nat)} {wr:List (Nat×Nat)} {ds:List Dl} {n:Nat} {L:Nat->Prop}
theorem put_other {d:Nat} {dst:Option Nat} {v:Value} (h:dst≠some d):(a.put dst v).tmps.toList[d]?=a.tmps.toList[d]?:=by
 cases dst with
 | none=>rfl
 | some e =>
  simp only [Act.put,Array.toList_setIfInBounds];rw [List.getElem?_set_ne (fun he=>h (by rw [he]))]
theorem put_len {dst:Option Nat} {v:Value}:(a.put dst v).tmps.toList.length=a.tmps.toList.length:=by
 cases dst with
 | none=>rfl
 | some e=>simp [Act.put]
theorem after_iv (h:Chks E ops s pres wr ds n) (hP:Pres ops pres) (fs:∀ σ',Agr s.n σ' σ0->Fs σ' s) (cl:∀ D∈ds,L D.ix->∀ x∈D.pr,L x) (I:Iv C w0 R0 s σ0 bp0 ds L σ bp R a w) {D:Dl} (hD:D∈ds) (hi:¬ L D.ix) (hpr:∀ x∈D.pr,L x)
  {o:Oper} {u:AS} (k:Chk E ops s pres wr D.ix o (ds.take D.ix) D u) {v0:Value} (sp:Sp C w0 R0 R w (tgs (before s ops pres wr D.ix (ds.take D.ix) D) o) σ bp (before s ops pres wr D.ix (ds.take D.ix) D) u (a.put o.dst v0) w' σ1 bp1 R1) :
  ∃ σ2 bp2,Iv C w0 R0 s σ0 bp0 ds (fun x=>x=D.ix\/L x) σ2 bp2 R1 (a.put o.dst v0) w':=by
 have st:=before_stt h hP fs cl I hD hi hpr;have mP:=h.memP hP hD;have tl:(before s ops pres wr D.ix (ds.take D.ix) D).bx.length=s.bx.length+(bxv s.bx.length (byIx D.pr (ds.take D.ix)) none).toList.length:=view_bx _ _ _ _ _;have hlo:=(h.lo D hD).1;have hag:Agr D.lo σ1 σ:=sp.ag;have hab:=sp.ab
 have key2:∃ σ2:Nat->Int,(∀ k,k < u.n->σ2 k=σ1 k)/\∀ k,k < D.lo\/D.hi<=k->σ2 k=σ k:=by
  refine ⟨fun k=>if k < u.n then σ1 k else σ k,fun k hk=>if_pos hk,fun j hj=>?_⟩
  by_cases hju:j < u.n
  ·simp only [if_pos hju];refine hag j ?_;rw [k.hi] at hj;omega
  ·simp only [if_neg hju]
 have keyb:∃ bp2:Nat->Nat,(∀ b,b < u.bx.length->bp2 b=bp1 b)/\(∀ b,b < (before s ops pres wr D.ix (ds.take D.ix) D).bx.length->bp2 b=bp b)/\∀ b,u.bx.length<=b->bp2 b=bp b:=by
  refine ⟨fun b=>if b < u.bx.length then bp1 b else bp b,fun b hb=>if_pos hb,fun b hb=>?_,fun b hb=>by simp only [if_neg (Nat.not_lt.2 hb)]⟩
  have:=sp.lb
  simp only [if_pos (show b < u.bx.length by omega)]
  exact hab b hb
 obtain ⟨σ2,g1,g2⟩:=key2;obtain ⟨bp2,b1,b2,b3⟩:=keyb;have su:St C w0 σ2 bp2 R1 u (a.put o.dst v0) w':=sp.st.st σ2 bp2 g1 b1;have gr:=sp.fr.gr;have ne:∀ X∈ds,L X.ix->X.ix≠D.ix:=fun X hX hL e=>hi (by rw [<-e];exact hL)
 have supS:∀ X∈ds,L X.ix->∀ j,symOk s.n (byIx X.pr (ds.take X.ix)) X.lo X.hi j=true->σ2 j=σ j:=by
  intro X hX hL;refine h.sup hP hX (fun j hj=>g2 j (.inl (by omega))) fun Y hY hYX j j1 j2=>g2 j ?_
  have hLY:L Y.ix:=by
   rcases hYX with rfl | hYX
   ·exact hL
   ·exact cl X hX hL _ hYX
  rcases Nat.lt_or_ge Y.ix D.ix with hlt | hge
  ·have:=h.rng hY hD hlt
   left;omega
  ·have hlt:D.ix < Y.ix:=Nat.lt_of_le_of_ne hge fun e=>hi (by rw [e];exact hLY)
   have:=h.rng hD hY hlt
   right;omega
 have bxD:∀ b,D.wr=some b->∃ t l,D.bx=some (b,t,l)/\nth u.bx b=some (t,l)/\b < u.bx.length:=by
  intro b hb;unfold Dl.wr at hb;simp only [Option.map_eq_some_iff] at hb;obtain ⟨⟨b',t,l⟩,e,rfl⟩:=hb
  have:=(k.bx _ _ _ e).1
  exact ⟨t,l,e,this,nth_lt this⟩
 -- two that write one box,one of them D
 have two:∀ Y∈ds,L Y.ix->∀ b,Y.wr=some b->D.wr=some b->Y.ix∈D.pr:=by
  intro Y hY hL b hw hw';rcases Nat.lt_or_ge Y.ix D.ix with hlt | hge
  ·refine (k.one Y ?_).2 b hw' hw;refine List.mem_of_getElem? (i:=Y.ix) ?_;rw [List.getElem?_take_of_lt hlt];exact (h.at hY).1
  ·have hlt:D.ix < Y.ix:=Nat.lt_of_le_of_ne hge fun e=>hi (by rw [e];exact hL)
   obtain ⟨_,o',u',_,k'⟩:=h.at hY
   have:=(k'.one D (by
    refine List.mem_of_getElem? (i:=D.ix) ?_;rw [List.getElem?_take_of_lt hlt]
    exact (h.at hD).1)).2 b hw hw'
   exact absurd (cl Y hY hL _ this) hi
 have twoT:∀ Y∈ds,L Y.ix->∀ d,Y.dst=some d->D.dst≠some d:=by
  intro Y hY hL d hd hd';rcases Nat.lt_or_ge Y.ix D.ix with hlt | hge
  ·refine (k.one Y ?_).1 d hd' hd;refine List.mem_of_getElem? (i:=Y.ix) ?_;rw [List.getElem?_take_of_lt hlt];exact (h.at hY).1
  ·have hlt:D.ix < Y.ix:=Nat.lt_of_le_of_ne hge fun e=>hi (by rw [e];exact hL)
   obtain ⟨_,o',u',_,k'⟩:=h.at hY
   exact (k'.one D (by
    refine List.mem_of_getElem? (i:=D.ix) ?_;rw [List.getElem?_take_of_lt hlt]
    exact (h.at hD).1)).1 d hd hd'
 -- the new box keeps its place where a listed operation wrote it
 have newb:∀ Y∈ds,L Y.ix->Y.wr=some s.bx.length->bp2 s.bx.length=bp s.bx.length:=by
  intro Y hY hL hw;rcases k.nu with hn | ⟨h1,h2,h3⟩
  ·by_cases hb:s.bx.length < u.bx.length
   ·exact b2 _ (by rw [<-hn];exact hb)
   ·exact b3 _ (by omega)
  ·exfalso
   have:=two Y hY hL _ hw h3
   rcases newbox s.bx.length (byIx D.pr (ds.take D.ix)) with ⟨_,hno⟩ | ⟨e,_⟩
   ·exact hno Y ((mP Y).2 ⟨hY,this⟩) hw
   ·rw [tl] at h1;omega
 have hasB:∀ b,Has s ds L b->bp2 b=bp b:=by
  rintro b (hb | ⟨rfl,Y,hY,hL,hw⟩)
  ·exact b2 b (by rw [tl];omega)
  ·exact newb Y hY hL hw
 have supB:∀ X∈ds,L X.ix->∀ b,lt X.nb b=true->bp2 b=bp b:=by
  intro X hX hL b hb;rcases h.nb hP hX hb with hlt | ⟨rfl,Y,hY,hYX,hw⟩
  ·exact b2 b (by rw [tl];omega)
  ·refine newb Y hY ?_ hw;rcases hYX with rfl | hYX
   ·exact hL
   ·exact cl X hX hL _ hYX
 have hasT:∀ b,b < (before s ops pres wr D.ix (ds.take D.ix) D).bx.length->Has s ds L b:=by
  intro b hb;rw [tl] at hb;by_cases hlt:b < s.bx.length
  ·exact .inl hlt
  ·rcases newbox s.bx.length (byIx D.pr (ds.take D.ix)) with ⟨e,_⟩ | ⟨e,X,hX,hw⟩
   ·omega
   ·obtain ⟨x1,x2⟩:=(mP X).1 hX;have hbe:b=s.bx.length:=by omega
    exact .inr ⟨hbe,X,x1,hpr _ x2,by rw [hbe];exact hw⟩
 -- a box that D does not write stands
 have stand:∀ b,Has s ds L b->D.wr≠some b->w'.heap[bp2 b]?=w.heap[bp b]?:=by
  intro b hb hn;rw [hasB b hb];obtain ⟨o1,o2,o3,o4⟩:=I.own b hb;refine sp.fr.keep _ o4 o2 o3 fun b' hb' e=>?_
  have hw:=k.tg b' hb'
  have hlt:b' < (before s ops pres wr D.ix (ds.take D.ix) D).bx.length:=by
   unfold tgs tgt at hb';split at hb'
   ·split at hb'
    ·rename_i b'' _ hv;cases hb';exact ptr_lt st (fun _ _ x hx=>by cases hx) hv
    ·cases hb'
   ·cases hb'
  have:=I.inj b b' hb (hasT b' hlt) e
  exact hn (by rw [this];exact hw)
 refine ⟨σ2,bp2,⟨fun j hj=>?_,fun b hb=>?_,by rw [put_len];exact I.len,fun d x v hx hv hno σ' bp' q1 q2=>?_,fun X hX hL d v hd hv=>?_,fun X hX hL f hf=>?_,fun X hX hL c hc=>?_,fun b c hc=>?_,fun X hX hL b t l hb hlast=>?_,sp.st.sw.hp,sp.st.sw.gw,sp.st.sw.df,I.r0,fun b hb=>?_,fun b c hb hc e=>?_⟩⟩
 ·rw [g2 j (.inl (by omega))]
  exact I.ag j hj
 ·rw [b2 b (by rw [tl];omega)]
  exact I.ab b hb
 ·have hDd:o.dst≠some d:=by rw [<-k.dst];exact hno D hD (.inl rfl)
  rw [put_other hDd] at hv;exact (I.tb d x v hx hv (fun X hX hL=>hno X hX (.inr hL)) σ' bp' q1 q2).gr gr fun _=>rfl
 ·rcases hL with hL | hL
  ·have:=h.inj hX hD hL
   subst this;obtain ⟨v',h1,h2⟩:=su.tm.nth (k.v d hd);rw [hv] at h1;cases h1;exact h2
  ·have hDd:o.dst≠some d:=by rw [<-k.dst];exact twoT X hX hL d hd
   rw [put_other hDd] at hv;obtain ⟨_,o',u',_,k'⟩:=h.at hX;exact (AVOk.cg (supS X hX hL) (supB X hX hL) k'.iv (I.to X hX hL d v hd hv)).gr gr fun _=>rfl
 ·rcases hL with hL | hL
  ·have:=h.inj hX hD hL
   subst this;exact su.fs.fa f (k.fa f hf)
  ·obtain ⟨_,o',u',_,k'⟩:=h.at hX;rw [zh0 (supS X hX hL) (k'.ifa f hf)];exact I.fa X hX hL f hf
 ·rcases hL with hL | hL
  ·have:=h.inj hX hD hL
   subst this;exact su.fs.cf c (k.cf c hc)
  ·obtain ⟨_,o',u',_,k'⟩:=h.at hX;exact inC_cg (supS X hX hL) (k'.icf c hc) (I.cf X hX hL c hc)
 ·have hblt:b < s.bx.length:=(List.getElem?_eq_some_iff.1 hc).1;obtain ⟨arr,h1,h2,h3⟩:=I.bs b c hc;by_cases hw:D.wr=some b
  ·obtain ⟨t,l,e1,e2,_⟩:=bxD b hw;obtain ⟨arr',h4,h5⟩:=su.bx.nth e2;rw [Nat.zero_add] at h4;obtain ⟨c1,c2⟩:=(k.bok _ _ _ e1).1 c (by rw [zbv];exact hc)
   refine ⟨arr',by rw [c1];exact h4,by rw [c2];exact zc8 h5,fun hno=>absurd hw (hno D hD (.inl rfl))⟩
  ·refine ⟨arr,by rw [stand b (.inl hblt) hw];exact h1,h2,fun hno σ' bp' q1 q2=>(h3 (fun X hX hL=>hno X hX (.inr hL)) σ' bp' q1 q2).gr gr fun _=>rfl⟩
 ·rcases hL with hL | hL
  ·have:=h.inj hX hD hL
   subst this;obtain ⟨arr',h4,h5⟩:=su.bx.nth (k.bx _ _ _ hb).1;rw [Nat.zero_add] at h4;exact ⟨arr',h4,h5⟩
  ·have hwX:X.wr=some b:=by unfold Dl.wr;rw [hb];rfl
   have hno:D.wr≠some b:=by
    intro hw;rcases hlast D hD (.inl rfl) hw with e | e
    ·exact ne X hX hL (by rw [e])
    ·exact hi (cl X hX hL _ e)
   obtain ⟨_,o',u',_,k'⟩:=h.at hX
   have hhas:Has s ds L b:=by
    by_cases hblt:b < s.bx.length
    ·exact .inl hblt
    ·have:=(k'.bok _ _ _ hb).2 (by rw [zbv];exact List.getElem?_eq_none (by omega))
     exact .inr ⟨this,X,hX,hL,hwX⟩
   obtain ⟨arr,h4,h5⟩:=I.bo X hX hL b t l hb fun D' hD' hL'=>hlast D' hD' (.inr hL')
   exact ⟨arr,by rw [stand b hhas hno];exact h4,(LsOk.cg (supS X hX hL) (supB X hX hL) (k'.ibx _ _ _ hb) h5).gr gr fun _=>rfl⟩
 ·by_cases hbu:b < u.bx.length
  ·rw [b1 b hbu];obtain ⟨h1,h2,h3⟩:=sp.st.sw.own b hbu;exact ⟨h1,h2,h3,box_lt sp.st hbu⟩
  ·have hL:Has s ds L b:=by
    rcases hb with hb | ⟨e,X,hX,hLX | hLX,hw⟩
    ·exact .inl hb
    ·exfalso
     have:=h.inj hX hD hLX
     subst this;obtain ⟨_,_,_,_,hlt⟩:=bxD _ hw;omega
    ·exact .inr ⟨e,X,hX,hLX,hw⟩
   rw [hasB b hL];obtain ⟨h1,h2,h3,h4⟩:=I.own b hL;exact ⟨h1,fun hr=>h2 ((sp.fr.rows _ h4).1 hr),h3,Nat.lt_of_lt_of_le h4 sp.fr.size⟩
 ·have lift:∀ b,Has s ds (fun x=>x=D.ix\/L x) b->¬ b < u.bx.length->Has s ds L b:=by
   intro b hb hbu;rcases hb with hb | ⟨e,X,hX,hLX | hLX,hw⟩
   ·exact .inl hb
   ·exfalso
    have:=h.inj hX hD hLX
    subst this;obtain ⟨_,_,_,_,hlt⟩:=bxD _ hw;omega
   ·exact .inr ⟨e,X,hX,hLX,hw⟩
  rcases k.nu with hn | ⟨h1,h2,h3⟩
  ·have all:∀ b,Has s ds (fun x=>x=D.ix\/L x) b->Has s ds L b:=by
    intro b hb;by_cases hbu:b < u.bx.length
    ·exact hasT b (by rw [<-hn];exact hbu)
    ·exact lift b hb hbu
   have hb':=all b hb;have hc':=all c hc;rw [hasB b hb',hasB c hc'] at e;exact I.inj b c hb' hc' e
  ·have lt':∀ b,Has s ds (fun x=>x=D.ix\/L x) b->b < u.bx.length:=by
    intro b hb;rcases hb with hb | ⟨e,_⟩ <;> omega
   rw [b1 b (lt' b hb),b1 c (lt' c hc)] at e;exact sp.st.sw.inj b c (lt' b hb) (lt' c hc) e
theorem Iv.sub {L L':Nat->Prop} (I:Iv C w0 R0 s σ0 bp0 ds L σ bp R a w) (hL:∀ x,L x↔L' x):Iv C w0 R0 s σ0 bp0 ds L' σ bp R a w:=by
 have:L=L':=funext fun x=>propext (hL x)
 rw [<-this];exact I
end
theorem filter_less {p p':Nat->Bool}:∀ {l:List Nat},(∀ x,p' x=true->p x=true)->(∃ i∈l,p i=true/\p' i=false)->(l.filter p').length < (l.filter p).length
 | [],_,h=>by obtain ⟨i,h,_⟩:=h;cases h
 | x::l,hs,h=>by
  have le:(l.filter p').length<=(l.filter p).length:=by
   clear h;induction l with
   | nil=>simp
   | cons y l ih =>
    simp only [List.filter_cons];cases h1:p' y
    ·cases h2:p y <;> simp <;> omega
    ·rw [hs y h1];simp;exact ih
  simp only [List.filter_cons];obtain ⟨i,hi,h1,h2⟩:=h;rcases List.mem_cons.1 hi with rfl | hi
  ·rw [h1,h2];simp;omega
  ·have ih:=filter_less (l:=l) hs ⟨i,hi,h1,h2⟩;cases h3:p' x
   ·cases h4:p x <;> simp <;> omega
   ·rw [hs x h3];simp;exact ih
section
variable {C:Cx} {E:Env} {w0:World} {R0:Nat->Prop} {σ0:Nat->Int} {bp0:Nat->Nat} {s:AS} {opsA:Array Oper} {pres:List (List Nat)} {wr:List (Nat×Nat)} {ds:List Dl} {n:Nat} {Q:Exit->Act->World->Prop}
theorem any_go (hG:Goods C E) (hB:C.B<=w0.heap.size) (h:Chks E opsA.toList s pres wr ds n) (hlen:ds.length=opsA.size) (hP:Pres opsA.toList pres) (fs:∀ σ',Agr s.n σ' σ0->Fs σ' s)
  (hq:∀ σ bp R a w,Iv C w0 R0 s σ0 bp0 ds (fun _=>True) σ bp R a w->Q .normal a w):∀ (fuel:Nat) (listed:Array Bool) (σ:Nat->Int) (bp:Nat->Nat) (R:Nat->Prop) (a:Act) (w:World),listed.size=opsA.size ->
  (∀ D∈ds,listed.getD D.ix false=true->∀ x∈D.pr,listed.getD x false=true)->Iv C w0 R0 s σ0 bp0 ds (fun x=>listed.getD x false=true) σ bp R a w->((List.range opsA.size).filter fun i=>!listed.getD i false).length<=fuel->wpAny C.P .any opsA Q fuel listed a w:=by
 have ixlt:∀ D∈ds,D.ix < opsA.size:=by
  intro D hD;rw [<-hlen];exact (List.getElem?_eq_some_iff.1 (h.at hD).1).1
 have getD2:∀ (listed:Array Bool) (i:Nat),i < opsA.size->listed.size=opsA.size->listed.getD i true=listed.getD i false:=by
  intro listed i hi hs;rw [Array.getD_eq_getD_getElem?,Array.getD_eq_getD_getElem?,Array.getElem?_eq_getElem (by omega)]
  rfl
 -- nothing is ready: all are listed
 have done:∀ (listed:Array Bool),listed.size=opsA.size->Region.ready .any opsA listed=[]->∀ j,j < opsA.size->listed.getD j false=true:=by
  intro listed hs hr j;induction j using Nat.strongRecOn with
  | _ j ih =>
   intro hj;by_cases hl:listed.getD j false=true
   ·exact hl
   exfalso
   have:j∈Region.ready .any opsA listed:=by
    rw [mem_ready];refine ⟨by rw [getD2 listed j hj hs];simpa using hl,opsA[j],Array.getElem?_eq_getElem hj,fun e he hb=>?_⟩
    obtain ⟨D,hD⟩:∃ D,ds[j]?=some D:=⟨_,List.getElem?_eq_getElem (by omega)⟩
    obtain ⟨o,u,ho,k⟩:=h.c j D hD;have hpr:=k.pr;rw [zbv] at hpr;rw [Array.getElem?_toList,Array.getElem?_eq_getElem hj] at ho;cases ho;have hlt:=hP.bd j _ _ hpr (by rw [Array.getElem?_toList,Array.getElem?_eq_getElem hj]) e (by simpa using he) hb
    exact ih e.on hlt (by omega)
   rw [hr] at this;cases this
 intro fuel;induction fuel with
 | zero =>
  intro listed σ bp R a w hs hc I hf
  have all:∀ j,j < opsA.size->listed.getD j false=true:=by
   intro j hj;by_cases hl:listed.getD j false=true
   ·exact hl
   exfalso
   have:j∈(List.range opsA.size).filter fun i=>!listed.getD i false:=List.mem_filter.2 ⟨List.mem_range.2 hj,by simpa using hl⟩
   have:=List.length_pos_of_mem this
   omega
  have hr:Region.ready .any opsA listed=[]:=by
   apply List.eq_nil_iff_forall_not_mem.2;intro i hi;rw [mem_ready] at hi;obtain ⟨h1,o,ho,_⟩:=hi;have hlt:i < opsA.size:=(Array.getElem?_eq_some_iff.1 ho).1;rw [getD2 listed i hlt hs,all i hlt] at h1;cases h1
  refine ⟨hr,hq σ bp R a w ?_⟩;have h':∀ D∈ds,(listed.getD D.ix false=true↔True):=fun D hD=>⟨fun _=>trivial,fun _=>all _ (ixlt D hD)⟩
  exact ⟨I.ag,I.ab,I.len,fun d x v hx hv hno=>I.tb d x v hx hv fun D hD hL=>hno D hD trivial,fun D hD _=>I.to D hD (all _ (ixlt D hD)),fun D hD _=>I.fa D hD (all _ (ixlt D hD)),fun D hD _=>I.cf D hD (all _ (ixlt D hD)),
   fun b c hcb=>by
    obtain ⟨arr,h1,h2,h3⟩:=I.bs b c hcb
    exact ⟨arr,h1,h2,fun hno=>h3 fun D hD _=>hno D hD trivial⟩,
   fun D hD _ b t l hb hl=>I.bo D hD (all _ (ixlt D hD)) b t l hb fun D' hD' _=>hl D' hD' trivial,I.hp,I.gw,I.df,I.r0,
   fun b hb=>I.own b (by
    rcases hb with hb | ⟨e,D,hD,_,hw⟩
    ·exact .inl hb
    ·exact .inr ⟨e,D,hD,all _ (ixlt D hD),hw⟩),
   fun b c hb hc=>I.inj b c (by
    rcases hb with hb | ⟨e,D,hD,_,hw⟩
    ·exact .inl hb
    ·exact .inr ⟨e,D,hD,all _ (ixlt D hD),hw⟩) (by
    rcases hc with hb | ⟨e,D,hD,_,hw⟩
    ·exact .inl hb
    ·exact .inr ⟨e,D,hD,all _ (ixlt D hD),hw⟩)⟩
 | succ fuel ih =>
  intro listed σ bp R a w hs hc I hf;refine ⟨fun hr=>?_,fun i hi=>?_⟩
  ·have all:=done listed hs hr;refine hq σ bp R a w ?_
   exact ⟨I.ag,I.ab,I.len,fun d x v hx hv hno=>I.tb d x v hx hv fun D hD hL=>hno D hD trivial,fun D hD _=>I.to D hD (all _ (ixlt D hD)),fun D hD _=>I.fa D hD (all _ (ixlt D hD)),fun D hD _=>I.cf D hD (all _ (ixlt D hD)),
    fun b c hcb=>by
     obtain ⟨arr,h1,h2,h3⟩:=I.bs b c hcb
     exact ⟨arr,h1,h2,fun hno=>h3 fun D hD _=>hno D hD trivial⟩,
    fun D hD _ b t l hb hl=>I.bo D hD (all _ (ixlt D hD)) b t l hb fun D' hD' _=>hl D' hD' trivial,I.hp,I.gw,I.df,I.r0,
    fun b hb=>I.own b (by
     rcases hb with hb | ⟨e,D,hD,_,hw⟩
     ·exact .inl hb
     ·exact .inr ⟨e,D,hD,all _ (ixlt D hD),hw⟩),
    fun b c hb hc=>I.inj b c (by
     rcases hb with hb | ⟨e,D,hD,_,hw⟩
     ·exact .inl hb
     ·exact .inr ⟨e,D,hD,all _ (ixlt D hD),hw⟩) (by
     rcases hc with hb | ⟨e,D,hD,_,hw⟩
     ·exact .inl hb
     ·exact .inr ⟨e,D,hD,all _ (ixlt D hD),hw⟩)⟩
  ·rw [mem_ready] at hi;obtain ⟨hun,o,ho,hafter⟩:=hi;have hlt:i < opsA.size:=(Array.getElem?_eq_some_iff.1 ho).1;rw [getD2 listed i hlt hs] at hun;obtain ⟨D,hD⟩:∃ D,ds[i]?=some D:=⟨_,List.getElem?_eq_getElem (by omega)⟩
   obtain ⟨o',u,ho',k⟩:=h.c i D hD;rw [Array.getElem?_toList,ho] at ho';cases ho';have hDm:=List.mem_of_getElem? hD;have hix:=k.ix;have hpr':=k.pr;rw [zbv] at hpr'
   have hpr:∀ x∈D.pr,listed.getD x false=true:=by
    intro x hx;obtain ⟨e,he,hb,p,hp,hxe⟩:=hP.rd i _ o hpr' (by rw [Array.getElem?_toList];exact ho) x hx
    have hl:=hafter e (by simpa using he) hb
    rcases hxe with rfl | hxe
    ·exact hl
    ·obtain ⟨X,hX⟩:∃ X,ds[e.on]?=some X:=by
      have hb':=hP.bd i _ o hpr' (by rw [Array.getElem?_toList];exact ho) e he hb
      exact ⟨_,List.getElem?_eq_getElem (by omega)⟩
     obtain ⟨o2,u2,ho2,k2⟩:=h.c _ X hX;have hp2:=k2.pr;rw [zbv,hp] at hp2;cases hp2;exact hc X (List.mem_of_getElem? hX) (by rw [k2.ix];exact hl) x hxe
   unfold wpOp;rw [ho];have hni:¬ listed.getD D.ix false=true:=by rw [hix,hun];simp
   subst hix;have st:=before_stt h hP fs hc I hDm hni hpr
   have key:=step1_sound (ops:=opsA) (Kn:=wpAny C.P .any opsA Q fuel (listed.setIfInBounds D.ix true)) (Q:=Q) hG hB st k.st fun v w' σ1 bp1 R1 sp=>by
    obtain ⟨σ2,bp2,I'⟩:=after_iv h hP fs hc I hDm hni hpr k sp
    have eqv:∀ x,(x=D.ix\/listed.getD x false=true)↔(listed.setIfInBounds D.ix true).getD x false=true:=by
     intro x;by_cases hx:x=D.ix
     ·subst hx;simp only [true_or,true_iff];rw [Array.getD_eq_getD_getElem?,Array.getElem?_setIfInBounds_self_of_lt (by omega)]
      rfl
     ·rw [getD_set_ne false (Ne.symm hx)];simp [hx]
    refine ih (listed.setIfInBounds D.ix true) σ2 bp2 R1 _ w' (by simpa using hs) (fun X hX hL x hx=>?_) (I'.sub eqv) ?_
    ·rcases (eqv _).2 hL with e | hL
     ·have:=h.inj hX hDm e
      subst this;exact (eqv x).1 (.inr (hpr x hx))
     ·exact (eqv x).1 (.inr (hc X hX hL x hx))
    ·have:=filter_less (p:=fun i=>!listed.getD i false) (p':=fun i=>!(listed.setIfInBounds D.ix true).getD i false) (l:=List.range opsA.size) (fun x hx=>by
      simp only [Bool.not_eq_true',Bool.eq_false_iff] at hx ⊢
      exact fun hl=>hx ((eqv x).1 (.inr hl))) ⟨D.ix,List.mem_range.2 hlt,by simpa using hun,by
       have:=(eqv D.ix).1 (.inl rfl)
       simpa using this⟩
     omega
   dsimp only;split
   ·rename_i hw;rw [if_pos hw] at key;exact .inl key
   ·rename_i hw;rw [if_neg hw] at key;exact key
theorem any_sound (hG:Goods C E) (hB:C.B<=w0.heap.size) (hm:C.P.follows .mixedOrders=true) {σ:Nat->Int} {bp:Nat->Nat} {R:Nat->Prop} {a:Act} {w:World} {s':AS} {id:Nat} (h:Stt C w0 R0 σ bp R s a w) (hx:stepsAny E opsA.toList s=some s')
  (hq:∀ a' w',Nx C w0 R0 σ bp s s' a' w'->Q .normal a' w'):(Code.region id opsA true).wp C.P Q a w:=by
 unfold stepsAny at hx;split at hx
 ·rename_i pres t hpres ht;split at hx
  ·rename_i ds n hgo;cases hx;obtain ⟨hP,_⟩:=presOf_spec (ops:=opsA.toList) (i:=0) hpres rfl (by simp) ⟨by simp,by simp,by simp,by simp⟩
   obtain ⟨hC,hlen⟩:=anyGo_spec hgo rfl (by simp) ⟨by simp,by simp,by simp,Nat.le_refl _⟩
   refine wp_region_any hm ?_
   have hgw:Gw C R0 R w0 { w with drawn:=w.drawn+1 }:=by
    have g:=h.sw.gw;exact ⟨g.os,g.tape,g.output,g.size,g.rows,g.keep,g.row⟩
   have gr:Gr R R w { w with drawn:=w.drawn+1 }:=⟨fun _ h=>h,fun _ _ cs _ fz e=>⟨cs,fz,e,rfl⟩⟩
   have hp0:=h.sw.hp
   have hhp:Hp C R { w with drawn:=w.drawn+1 }:=by
    refine ⟨fun g hg=>?_,hG.cur w _ hp0.cur rfl fun _ _=>rfl,hp0.pc,hp0.B⟩
    obtain ⟨h1,h2,cs,T,fz,h3,h4,h5,h6,h7⟩:=hp0.rows g hg;refine ⟨h1,h2,cs,T,fz,h3,h4,h5,h6,fun j v hj=>?_⟩
    obtain ⟨c,e1,e2⟩:=h7 j v hj;exact ⟨c,e1,e2.gr gr⟩
   have no:∀ x,¬ (Array.replicate opsA.size false).getD x false=true:=by
    intro x;rw [Array.getD_eq_getD_getElem?,Array.getElem?_replicate];split <;> simp
   have hasN:∀ b,Has s ds (fun x=>(Array.replicate opsA.size false).getD x false=true) b->b < s.bx.length:=by
    rintro b (hb | ⟨_,D,_,hL,_⟩)
    ·exact hb
    ·exact absurd hL (no _)
   refine any_go hG hB hC (by simpa using hlen) hP (fun σ' q=>(h.st σ' bp q (fun _ _=>rfl)).fs) (fun σ2 bp2 R2 a2 w2 I=>hq a2 w2 ?_) opsA.size _ σ bp R a _ (by simp) (fun D hD hL=>absurd hL (no _)) ⟨zaa _ _,zai _ _,tmOk_len h.here.tm,fun d x v hx hv _ σ' bp' q1 q2=>?_,fun D hD hL=>absurd hL (no _),fun D hD hL=>absurd hL (no _),fun D hD hL=>absurd hL (no _),fun b c hc=>?_,fun D hD hL=>absurd hL (no _),hhp,hgw,h.sw.df,h.sw.r0,fun b hb=>?_,fun b c hb hc e=>?_⟩ ?_
   ·refine ⟨σ2,bp2,R2,I.ag,hC.n,I.ab,by rw [view_bx];omega,after_stt hC hP (fun σ' q=>(h.st σ' bp q (fun _ _=>rfl)).fs) I fun _ _=>trivial⟩
   ·obtain ⟨v',h1,h2⟩:=(h.st σ' bp' q1 q2).tm.nth (i:=d) (x:=x) (by rw [zbv];exact hx)
    rw [hv] at h1;cases h1;exact h2.gr gr fun _=>rfl
   ·have hlt:b < s.bx.length:=(List.getElem?_eq_some_iff.1 hc).1;obtain ⟨arr,h1,h2⟩:=h.here.bx.nth (i:=b) (c:=c) (by rw [zbv];exact hc)
    rw [Nat.zero_add] at h1;refine ⟨arr,h1,zc8 h2,fun _ σ' bp' q1 q2=>?_⟩
    obtain ⟨arr',h3,h4⟩:=(h.st σ' bp' q1 q2).bx.nth (i:=b) (c:=c) (by rw [zbv];exact hc)
    rw [Nat.zero_add,q2 b hlt,h1] at h3;simp only [Option.some.injEq,Obj.cells.injEq] at h3;obtain ⟨rfl,_⟩:=h3;exact h4.gr gr fun _=>rfl
   ·obtain ⟨h1,h2,h3⟩:=h.sw.own b (hasN b hb);exact ⟨h1,h2,h3,box_lt h (hasN b hb)⟩
   ·exact h.sw.inj b c (hasN b hb) (hasN c hc) e
   ·refine Nat.le_trans (List.length_filter_le _ _) ?_
    simp
  ·cases hx
 ·cases hx
end
end Go.Proofs.YtckfjploafhenaaGreat.Ai
namespace Go.Proofs.YtckfjploafhenaaGreat.Ai
open Go.RowKit
section
variable {C:Cx} {E:Env} {w0:World} {R0:Nat->Prop} {σ σ1 σ':Nat->Int} {bp bp1 bp':Nat->Nat} {R R1:Nat->Prop} {s t h:AS} {a:Act} {w:World} {n nb:Nat}
theorem atB_ok {x y:At} (h:atB x y=true) {v:Value} (k:AtOk C σ bp R w x v):AtOk C σ bp R w y v:=by
 cases x <;> cases y <;> simp only [atB] at h <;> (try cases h)
 case un.un=>exact k
 case unk.unk=>trivial
 case num.num i e j f =>
  simp only [Bool.and_eq_true] at h
  have:=(zex h.1).1
  subst this;show v = .int i (f.ev σ)/\_;rw [<-leq_ev σ h.2];exact k
 case be.be b c =>
  show v = .bool (c.ev σ);rw [<-beB_ev σ h];exact k
 case str.str e f =>
  obtain ⟨u,h1,h2,h3⟩:=k;exact ⟨u,h1,by rw [<-leq_ev σ h];exact h2,h3⟩
 case sl.sl T e U f =>
  simp only [Bool.and_eq_true] at h
  have:=Nat.eq_of_beq_eq_true h.1
  subst this;show SlOk C R w T v (f.ev σ);rw [<-leq_ev σ h.2];exact k
 case nil.nil=>exact k
 case ptr.ptr b o c p =>
  simp only [Bool.and_eq_true] at h;have e1:=Nat.eq_of_beq_eq_true h.1;have e2:=Nat.eq_of_beq_eq_true h.2;subst e1;subst e2;exact k
 case row.row T o U p =>
  simp only [Bool.and_eq_true] at h;have e1:=Nat.eq_of_beq_eq_true h.1;have e2:=Nat.eq_of_beq_eq_true h.2;subst e1;subst e2;exact k
 case cur.cur=>exact k
def Bi.ev (σ:Nat->Int):Bi->Int
 | .lin e=>e.ev σ
 | .be b=>if b.ev σ=true then 1 else 0
structure Stands (n nb:Nat) (l:List (Nat×Bi)) (σ1 σ':Nat->Int) (bp1 bp':Nat->Nat):Prop where
 old:∀ k,lt n k=true->σ' k=σ1 k
 box:∀ b,lt nb b=true->bp' b=bp1 b
 new:∀ v x,(v,x)∈l->σ' v=x.ev σ1
theorem Stands.sub {l m:List (Nat×Bi)} (k:Stands n nb l σ1 σ' bp1 bp') (h:∀ x∈m,x∈l):Stands n nb m σ1 σ' bp1 bp':=⟨k.old,k.box,fun v x hm=>k.new v x (h _ hm)⟩
theorem ev_one (v:Nat):(⟨0,[(v, .ofNat 1)]⟩:Lin).ev σ=σ v:=by
 simp only [Lin.ev,tev]
 simp
theorem mtA_ok {x h:At} {m:List (Nat×Bi)} (e:mtA n nb x h=some m) {v:Value} (k:AtOk C σ1 bp1 R w x v) (hs:Stands n nb m σ1 σ' bp1 bp'):AtOk C σ' bp' R w h v:=by
 unfold mtA at e;split at e
 ·trivial
 ·rename_i h' hne;cases hc:(atB x h && inA (lt n) (lt nb) h) <;> rw [hc] at e
  ·simp only [cond_false] at e;split at e
   ·rename_i i f j u;cases hc:(keq i j && Nat.ble n u) <;> rw [hc] at e
    ·cases e
    ·cases e;simp only [Bool.and_eq_true] at hc
     have:=(zex hc.1).1
     subst this
     have:=hs.new u _ List.mem_cons_self
     show v = .int i _/\_;rw [ev_one,this];exact k
   ·rename_i b u;cases hc:Nat.ble n u <;> rw [hc] at e
    ·cases e
    ·cases e
     have:=hs.new u _ List.mem_cons_self
     show v = .bool _;rw [show v=_ from k]
     simp only [BE.ev,Lin.ev,tev,this,Bi.ev];cases b.ev σ1 <;> simp
   ·rename_i f u;cases hc:Nat.ble n u <;> rw [hc] at e
    ·cases e
    ·cases e
     have:=hs.new u _ List.mem_cons_self
     obtain ⟨q,h1,h2,h3⟩:=k;exact ⟨q,h1,by rw [ev_one,this];exact h2,h3⟩
   ·rename_i T f U u;cases hc:(Nat.beq T U && Nat.ble n u) <;> rw [hc] at e
    ·cases e
    ·cases e;simp only [Bool.and_eq_true] at hc
     have:=Nat.eq_of_beq_eq_true hc.1
     subst this
     have:=hs.new u _ List.mem_cons_self
     show SlOk C R w T v _;rw [ev_one,this];exact k
   ·cases e
  ·simp only [Bool.and_eq_true] at hc;exact AtOk.cg hs.old hs.box hc.2 (atB_ok hc.1 k)
theorem mtL_ok:∀ {x h:List At} {m:List (Nat×Bi)} {vs:List Value},mtL n nb x h=some m->LsOk C σ1 bp1 R w x vs->Stands n nb m σ1 σ' bp1 bp'->LsOk C σ' bp' R w h vs
 | [],[],m,[],_,_,_=>trivial
 | [],[],m,_::_,_,k,_=>k.elim
 | [],_::_,m,vs,e,_,_=>by simp [mtL] at e
 | _::_,[],m,vs,e,_,_=>by simp [mtL] at e
 | _::_,_::_,m,[],_,k,_=>k.elim
 | x::l,h::r,m,v::vs,e,k,hs=>by
  simp only [mtL] at e;split at e
  ·rename_i p q hp hq;cases e;exact ⟨mtA_ok hp k.1 (hs.sub fun x hx=>List.mem_append_left _ hx),mtL_ok hq k.2 (hs.sub fun x hx=>List.mem_append_right _ hx)⟩
  ·cases e
theorem mtV_ok {x h:AV} {m:List (Nat×Bi)} (e:mtV n nb x h=some m) {v:Value} (k:AVOk C σ1 bp1 R w x v) (hs:Stands n nb m σ1 σ' bp1 bp'):AVOk C σ' bp' R w h v:=by
 unfold mtV at e;split at e
 ·trivial
 ·exact mtA_ok e k hs
 ·obtain ⟨arr,h1,h2⟩:=k;exact ⟨arr,h1,mtL_ok e h2 hs⟩
 ·cases e
theorem mtT_ok:∀ {x h:List AV} {m:List (Nat×Bi)} {vs:List Value},mtT n nb x h=some m->TmOk C σ1 bp1 R w x vs->Stands n nb m σ1 σ' bp1 bp'->TmOk C σ' bp' R w h vs
 | [],[],m,[],_,_,_=>trivial
 | [],[],m,_::_,_,k,_=>k.elim
 | [],_::_,m,vs,e,_,_=>by simp [mtT] at e
 | _::_,[],m,vs,e,_,_=>by simp [mtT] at e
 | _::_,_::_,m,[],_,k,_=>k.elim
 | x::l,h::r,m,v::vs,e,k,hs=>by
  simp only [mtT] at e;split at e
  ·rename_i p q hp hq;cases e;exact ⟨mtV_ok hp k.1 (hs.sub fun x hx=>List.mem_append_left _ hx),mtT_ok hq k.2 (hs.sub fun x hx=>List.mem_append_right _ hx)⟩
  ·cases e
theorem mtX_ok:∀ {x h:List (Nat×List At)} {m:List (Nat×Bi)} {j:Nat},mtX n nb x h=some m->BxOk C σ1 bp1 R w j x->(∀ i,i < h.length->bp' (j+i)=bp1 (j+i))->Stands n nb m σ1 σ' bp1 bp'->BxOk C σ' bp' R w j h/\h.length<=x.length
 | x,[],m,j,_,_,_,_=>⟨trivial,Nat.zero_le _⟩
 | [],_::_,m,j,e,_,_,_=>by simp [mtX] at e
 | x::l,h::r,m,j,e,k,hb,hs=>by
  simp only [mtX] at e;cases hc:Nat.beq x.1 h.1 <;> rw [hc] at e
  ·cases e
  ·simp only [cond_true] at e;split at e
   ·rename_i p q hp hq;cases e;obtain ⟨⟨arr,k1,k2⟩,k3⟩:=k;obtain ⟨i1,i2⟩:=mtX_ok hq k3 (fun i hi=>by have:=hb (i+1) (by simp;omega);rwa [show j+(i+1)=j+1+i by omega] at this) (hs.sub fun x hx=>List.mem_append_right _ hx)
    refine ⟨⟨⟨arr, ?_,mtL_ok hp k2 (hs.sub fun x hx=>List.mem_append_left _ hx)⟩,i1⟩,by simp;exact i2⟩
    have:=hb 0 (by simp)
    rw [Nat.add_zero] at this;rw [this,<-Nat.eq_of_beq_eq_true hc];exact k1
   ·cases e
theorem inOrder_ok:∀ {l:List (Nat×Bi)} {n:Nat},inOrder n l=true->(∀ v x,(v,x)∈l->n<=v/\v < n+l.length)/\(∀ v x y,(v,x)∈l->(v,y)∈l->x=y)/\∀ k,n<=k->k < n+l.length->∃ x,(k,x)∈l
 | [],n,_=>⟨by simp,by simp,fun k h1 h2=>by simp at h2;omega⟩
 | p::r,n,h=>by
  simp only [inOrder,Bool.and_eq_true] at h;have hp:=Nat.eq_of_beq_eq_true h.1;obtain ⟨i1,i2,i3⟩:=inOrder_ok h.2;obtain ⟨pv,px⟩:=p;simp only at hp;subst hp;refine ⟨fun v x hm=>?_,fun v x y h1 h2=>?_,fun k h1 h2=>?_⟩
  ·rcases List.mem_cons.1 hm with e | hm
   ·cases e;simp
   ·have:=i1 v x hm;simp only [List.length_cons];omega
  ·rcases List.mem_cons.1 h1 with e1 | h1
   ·cases e1;rcases List.mem_cons.1 h2 with e2 | h2
    ·cases e2;rfl
    ·have:=i1 _ _ h2;omega
   ·rcases List.mem_cons.1 h2 with e2 | h2
    ·cases e2
     have:=i1 _ _ h1;omega
    ·exact i2 v x y h1 h2
  ·by_cases hk:k=pv
   ·subst hk;exact ⟨px,List.mem_cons_self⟩
   ·obtain ⟨x,hx⟩:=i3 k (by omega) (by simp only [List.length_cons] at h2;omega)
    exact ⟨x,List.mem_cons_of_mem _ hx⟩
theorem look_some {α:Type} {k:Nat}:∀ {l:List (Nat×α)} {x:α},(k,x)∈l->∃ y,look k l=some y
 | [],x,h=>by simp at h
 | (u,y)::l,x,h=>by
  simp only [look];cases hb:Nat.beq k u
  ·rcases List.mem_cons.1 h with e | h
   ·cases e;rw [Nat.beq_refl] at hb;cases hb
   ·exact look_some h
  ·exact ⟨y,rfl⟩
theorem stands_of {l:List (Nat×Bi)} (ho:inOrder n l=true) (σ1:Nat->Int):∃ σ2:Nat->Int,(∀ k,k < n->σ2 k=σ1 k)/\∀ σ' bp1 bp',Agr (n+l.length) σ' σ2->(∀ b,b < nb->bp' b=bp1 b)->Stands n nb l σ1 σ' bp1 bp':=by
 obtain ⟨o1,o2,o3⟩:=inOrder_ok ho;refine ⟨fun k=>if k < n then σ1 k else match look k l with | some x=>x.ev σ1 | none=>0,fun k hk=>if_pos hk,fun σ' bp1 bp' ha hb=>⟨fun k hk=>?_,fun b hk=>hb b ((zgt _ _).1 hk),fun v x hm=>?_⟩⟩
 ·have hk:=(zgt _ _).1 hk;rw [ha k (by omega)]
  exact if_pos hk
 ·obtain ⟨h1,h2⟩:=o1 v x hm;rw [ha v h2];simp only [if_neg (Nat.not_lt.2 h1)];obtain ⟨y,hy⟩:=look_some hm;rw [hy,o2 v y x (zga _ hy) hm]
theorem sub1_ev {l:List (Nat×Bi)} (hs:Stands n nb l σ1 σ' bp1 bp'):∀ {t:List (Nat×Int)} {e:Lin},sub1 n l t=some e->e.ev σ1=tev σ' t
 | [],e,h=>by cases h;exact zc4 σ1 0
 | (s,k)::r,e,h=>by
  simp only [sub1] at h;cases hb:Nat.blt s n <;> rw [hb] at h
  ·simp only [cond_false] at h;split at h
   ·rename_i x y hx hy;cases h;rw [ev_add,ze1,sub1_ev hs hy,tev,hs.new s _ (zga _ hx)];rfl
   ·cases h
  ·simp only [cond_true] at h;split at h
   ·rename_i x y hx hy;cases hx;cases h;rw [ev_add,ze1,sub1_ev hs hy,tev,hs.old s hb,zes]
   ·cases h
theorem subL_ev {l:List (Nat×Bi)} (hs:Stands n nb l σ1 σ' bp1 bp') {f e:Lin} (h:subL n l f=some e):e.ev σ1=f.ev σ':=by
 unfold subL at h;simp only [Option.map_eq_some_iff] at h;obtain ⟨x,h1,rfl⟩:=h;rw [zbf,sub1_ev hs h1];unfold Lin.ev;omega
theorem bitF_ok {l:List (Nat×Bi)} (hs:Stands n nb l σ1 σ' bp1 bp') {f:Lin} (h:bitF l f=true):0<=f.ev σ':=by
 unfold bitF at h;split at h
 ·rename_i v;split at h
  ·rename_i b hb;rw [ev_one,hs.new v _ (zga _ hb)];simp only [Bi.ev];split <;> omega
  ·cases h
 ·rename_i v;split at h
  ·rename_i b hb
   have:=hs.new v _ (zga _ hb)
   simp only [Lin.ev,tev,this,Bi.ev];split <;> simp
  ·cases h
 ·cases h
theorem factOk_ok {d:Nat} {l:List (Nat×Bi)} (hs:Stands n nb l σ1 σ' bp1 bp') (ht:Fs σ1 t) {f:Lin} (h:factOk d n l t f=true):0<=f.ev σ':=by
 unfold factOk at h;simp only [Bool.or_eq_true,Bool.and_eq_true] at h;rcases h with (⟨h1,h2⟩ | h) | h
 ·rw [zh0 hs.old h1];obtain ⟨g,hg,e⟩:=List.any_eq_true.1 h2;rw [leq_ev σ1 e];exact ht.fa g hg
 ·exact bitF_ok hs h
 ·split at h
  ·rename_i g hg;rw [<-subL_ev hs hg];exact zb0 σ1 ht.fa _ _ h
  ·cases h
theorem prsB_ok:∀ {l m:List Pr},prsB l m=true->(∀ p∈l,PrH σ p)->∀ p∈m,PrH σ p
 | [],[],_,_=>by simp
 | [],_::_,h,_=>by simp [prsB] at h
 | _::_,[],h,_=>by simp [prsB] at h
 | a::l,b::m,h,hp=>by
  simp only [prsB,Bool.and_eq_true] at h;intro p hm;rcases List.mem_cons.1 hm with rfl | hm
  ·have:=hp a List.mem_cons_self
   have hb:=h.1;cases a <;> cases p <;> simp only [prB] at hb <;> (try cases hb)
   ·rename_i e f;show 0<=f.ev σ;rw [<-leq_ev σ hb];exact this
   ·rename_i e p1 f p2;simp only [Bool.and_eq_true,beq_iff_eq] at hb;show f.ev σ=p2;rw [<-beB_ev σ hb.2,<-hb.1];exact this
  ·exact prsB_ok h.2 (fun p hp'=>hp p (List.mem_cons_of_mem _ hp')) p hm
theorem condOk_ok {d:Nat} (ht:Fs σ t) {pr:List Lin} {co:Lin} (h:condOk d t pr co=true) (hp:∀ p∈pr,0<=p.ev σ):0<=co.ev σ:=by
 unfold condOk at h;rw [negs_no hp] at h;simp only [cond_false] at h;have f:Fs σ (((t.facts pr).sign t.at_).wake 4):=((ht.facts hp).sign fun x hx=>ht.lt x hx).wake
 simp only [Bool.or_eq_true] at h;rcases h with h | h
 ·exact zb0 σ f.fa _ _ h
 ·rw [f.alive 4] at h;cases h
theorem cfOk_ok {d:Nat} {l:List (Nat×Bi)} (hs:Stands n nb l σ1 σ' bp1 bp') (ht:Fs σ1 t) {c:List Pr×Lin} (h:cfOk d n l t c=true):(∀ p∈c.1,PrH σ' p)->0<=c.2.ev σ':=by
 unfold cfOk at h;simp only [Bool.or_eq_true,Bool.and_eq_true] at h;rcases h with ⟨h1,h2⟩ | h
 ·obtain ⟨e,he,hc⟩:=List.any_eq_true.1 h2;simp only [Bool.and_eq_true] at hc;refine inC_cg hs.old h1 fun hp=>?_
  rw [leq_ev σ1 hc.2];exact ht.cf e he (prsB_ok hc.1 hp)
 ·intro hp;split at h
  ·rename_i pr co h1 h2;rw [<-subL_ev hs h2];refine condOk_ok ht h fun p hm=>?_
   obtain ⟨q,hq,e⟩:=(zff h1).2 p hm;split at e
   ·rename_i e';rw [subL_ev hs e];exact hp _ hq
   ·cases e
  ·cases h
theorem below_ok {d:Nat} {l:List (Nat×Bi)} (hb:below d s t h=some l) (k:Stt C w0 R0 σ1 bp1 R1 t a w):∃ σ2,Agr s.n σ2 σ1/\s.n<=h.n/\s.bx.length<=h.bx.length/\Stt C w0 R0 σ2 bp1 R1 h a w/\∀ f e,subL s.n l f=some e->e.ev σ1=f.ev σ2:=by
 unfold below at hb;simp only at hb;split at hb
 ·rename_i m1 m2 hm1 hm2;cases hc:(inOrder s.n (m1++m2) && Nat.beq h.n (s.n+(m1++m2).length) && Nat.ble s.n t.n && Nat.ble s.bx.length h.bx.length && h.fa.all (factOk d s.n (m1++m2) t) && h.at_.all (fun x=>oldB s.n x.1 && t.has x.1 x.2) && h.cf.all (cfOk d s.n (m1++m2) t)) <;> rw [hc] at hb
  ·cases hb
  cases hb;simp only [Bool.and_eq_true] at hc;obtain ⟨⟨⟨⟨⟨⟨c1,c2⟩,c3⟩,c4⟩,c5⟩,c6⟩,c7⟩:=hc;have hn:=Nat.eq_of_beq_eq_true c2;obtain ⟨σ2,s1,s2⟩:=stands_of (nb:=h.bx.length) c1 σ1;have hx:=fun σ' bp' (q1:Agr h.n σ' σ2) (q2:Agb h.bx.length bp' bp1)=>s2 σ' bp1 bp' (by rw [<-hn];exact q1) q2
  have len:h.bx.length<=t.bx.length:=(mtX_ok hm2 k.here.bx (bp':=bp1) (fun _ _=>rfl) ((hx σ2 bp1 (zaa _ _) (zai _ _)).sub fun x hx=>List.mem_append_right _ hx)).2
  refine ⟨σ2,s1,by omega,Nat.le_of_ble_eq_true c4,⟨fun σ' bp' q1 q2=>?_,⟨k.sw.hp,k.sw.gw,fun i hi=>k.sw.own i (by omega),fun i j hi hj=>k.sw.inj i j (by omega) (by omega),k.sw.df,k.sw.r0⟩⟩,fun f e he=>subL_ev (hx σ2 bp1 (zaa _ _) (zai _ _)) he⟩
  have hs:=hx σ' bp' q1 q2;have k0:=k.here;refine ⟨mtT_ok hm1 k0.tm (hs.sub fun x hx=>List.mem_append_left _ hx),(mtX_ok hm2 k0.bx (fun i hi=>by rw [Nat.zero_add];exact q2 i hi) (hs.sub fun x hx=>List.mem_append_right _ hx)).1,⟨fun f hf=>factOk_ok hs k0.fs (List.all_eq_true.1 c5 f hf),fun x hx=>?_,fun c hc=>cfOk_ok hs k0.fs (List.all_eq_true.1 c7 c hc)⟩⟩
  have:=List.all_eq_true.1 c6 x hx
  simp only [Bool.and_eq_true] at this;rw [zi9 hs.old this.1];exact k0.fs.has this.2
 ·cases hb
end
end Go.Proofs.YtckfjploafhenaaGreat.Ai
