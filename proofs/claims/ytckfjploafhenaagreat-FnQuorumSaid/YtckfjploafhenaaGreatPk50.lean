/- What is sent, another row behind it that a call hands back, and a stored result, in a region that draws its order. -/
import Derived.Test.YtckfjploafhenaaGreatPk15
import Derived.Test.YtckfjploafhenaaGreatPk49
import Derived.Test.YtckfjploafhenaaGreatPk47
import Derived.Test.YtckfjploafhenaaGreatPk32
import Derived.Test.YtckfjploafhenaaGreatPk46
set_option maxRecDepth 100000
set_option maxHeartbeats 16000000
set_option linter.unusedVariables false
set_option linter.unusedSimpArgs false
namespace Go.Proofs.YtckfjploafhenaaGreat
open Go.ChangeShapes Go.WideShapes Go.ChangeAt Go.RowKit Go.Sort
def relW (p:Nat) (obj:Obj) (S:List Nat) (G:Bool->World->Prop) (hG:∀ i a b,G i a->Ext a b->G i b) (B:Nat) (hp:p < B) (hS:∀ g∈S,g < B):Rm.RelK .stores where
 rel a b:=Chg a b (p::S)/\(p < a.heap.size->b.heap[p]?=a.heap[p]?\/b.heap[p]?=some obj)/\∀ i,G i a->G i b
 base:=B
 refl w:=⟨Chg.refl w _,fun _ => .inl rfl,fun _ h=>h⟩
 trans a b c h k:=⟨h.1.trans k.1,fun hlt=>by
  rcases k.2.1 (Nat.lt_of_lt_of_le hlt h.1.size) with e | e
  ·rw [e];exact h.2.1 hlt
  ·exact .inr e,fun i hi=>k.2.2 i (h.2.2 i hi)⟩
 ext a b h:=⟨zez _ h,fun hlt => .inl (h.block p hlt),fun i hi=>hG i a b hi h⟩
 size a b h:=h.1.size
 keep a b h q hq hlt:=h.1.block q hlt (fun hm=>by
  rcases List.mem_cons.1 hm with e | hm
  ·omega
  ·have:=hS q hm;omega)
theorem LgF.oth1 {w w':World} {B g:Nat} {a:LAd} {l:Lg} {cs:Array Value} (h:LgF w B a l) (hb:w.heap[g]?=some (.cells cs 47 (0,0))) (hg:Chg w w' [g]):LgF w' B a l:=h.boxed hb (by decide) (by decide) (by decide) hg
theorem OsF.oth1 {w w':World} {B g:Nat} {os:List OtE} {cs:Array Value} (h:OsF w B os) (hb:w.heap[g]?=some (.cells cs 47 (0,0))) (hg:Chg w w' [g]):OsF w' B os:=fun q hq=>(h q hq).oth1 hb hg
theorem flat_len_of {om om':List OtE} {t2:List Ot} (h:om.map Prod.snd=t2) (h':om'.map Prod.snd=t2):(om.flatMap OtE.enc).length=(om'.flatMap OtE.enc).length:=by
 rw [zae OtE.len,zae OtE.len]
 have:om.length=om'.length:=by have:=congrArg List.length (h.trans h'.symm);simpa using this
 rw [this]
theorem upd_over {cur:Array Value} {n:Nat} {L L':List Value} (h:n+L.length<=cur.size) (hl:L'.length=L.length):upd (upd cur n L) n L'=upd cur n L':=by
 have hn:(cur.toList.take n).length=n:=by rw [List.length_take,Array.length_toList];omega
 unfold upd;congr 1;simp only [hl]
 have e1:(cur.toList.take n++L++cur.toList.drop (n+L.length)).take n=cur.toList.take n:=by
  rw [List.append_assoc];exact List.take_left' hn
 have e2:(cur.toList.take n++L++cur.toList.drop (n+L.length)).drop (n+L.length)=cur.toList.drop (n+L.length) :=
  List.drop_left' (by rw [List.length_append,hn])
 rw [e1,e2]
theorem outs_plan2 {w:World} {B:Nat} {A0:Option Addr} {c0:Nat} {os:List OtE} {p:Nat} {cs cs':Array Value} {T:TypeId} (hk:OsK w B A0 c0 os) (hp:w.heap[p]?=some (.cells cs T (0,0))) (hsz:cs.size=cs'.size)
  (h1:T≠162) (h2:T≠111) (h3:T≠104) (h4:T≠47) (h5:T≠45) (t2:List Ot) (hb:os.length+t2.length<=1000) (hB:B<=w.heap.size) :
  ∃ (R:Rm.RelK .stores) (φ:Value->World->Prop),R.base=w.heap.size/\(∀ a b,R.rel a b->Chg a b (p::blk A0))/\(∀ a b,R.rel a b->p < a.heap.size->b.heap[p]?=a.heap[p]?\/b.heap[p]?=some (.cells cs' T (0,0)))/\Rm.Mono R φ /\
   (∀ W,R.rel w W->∀ A c om,om.map Prod.snd=t2->OsK W w.heap.size A c om->∃ v W',(Builtin.append_ #[40,40] 40 #[.slice A0 os.length c0, .slice A om.length c]).run Tryz.prog W = .ok v W'/\φ v W'/\R.rel W W') /\
   (∀ W,R.rel w W->R.rel W (W.setRow p cs')) /\
   (∀ W v,R.rel w W->φ v W->∃ A' c' om,v = .slice A' (os++om).length c'/\om.map Prod.snd=t2/\OsK W B A' c' (os++om)):=by
 obtain ⟨i0,hi,hz0,hz1,hz2⟩:=info_parts Tryz.infoOt;have hlt:=bx_lt hp;have hpA:p∉blk A0:=zam hp hk.row h4;have hset:∀ W:World,(∃ o:Array Value,W.heap[p]?=some (.cells o T (0,0)))->(W.setRow p cs').heap[p]?=some (.cells cs' T (0,0)):=fun W ⟨o,ho⟩=>setRow_heap W p o cs' T (0,0) ho
 by_cases hroom:∃ g,A0=some ⟨g,0,none⟩/\os.length+t2.length<=c0
 ·obtain ⟨g,rfl,hroom⟩:=hroom;rcases hk.row.2 with ⟨he,_⟩ | ⟨g',cap,cur,he,hbg,hgg,hnc,hcm,hcs,htake⟩
  ·simp at he
  ·simp only [Value.slice.injEq,Option.some.injEq,Addr.mk.injEq,and_true,true_and] at he;obtain ⟨rfl,rfl⟩:=he;have hpg:p≠g:=fun e=>hpA (by simp [blk,e])
   have hltg:=bx_lt hgg;have hblk:blk (some (⟨g,0,none⟩:Addr))=[g]:=rfl;have hfl:∀ om:List OtE,om.map Prod.snd=t2->(om.flatMap OtE.enc).length=t2.length * 18:=fun om h=>by rw [zae OtE.len,<-h,List.length_map]
   have hfit:os.length * 18+t2.length * 18<=cur.size:=by rw [hcs,<-Nat.add_mul];exact Nat.mul_le_mul_right _ hroom
   have hfit':∀ om:List OtE,om.map Prod.snd=t2->os.length * 18+(om.flatMap OtE.enc).length<=cur.size:=fun om h=>by rw [hfl om h];exact hfit
   let Full:World->Prop:=fun W=>∃ om:List OtE,om.map Prod.snd=t2/\OsF W w.heap.size om/\W.heap[g]?=some (.cells (upd cur (os.length * 18) (om.flatMap OtE.enc)) 47 (0,0))
   let G:Bool->World->Prop:=fun i W=>match i with
    | true=>W.heap[g]?=some (.cells cur 47 (0,0))\/Full W
    | false=>Full W
   have hFull:∀ a b,Full a->Ext a b->Full b:=fun a b ⟨om,e1,e2,e3⟩ hx=>⟨om,e1,fun q hq=>(e2 q hq).keep hx,hx.box e3⟩
   have hG:∀ i a b,G i a->Ext a b->G i b:=fun i a b h hx=>by
    cases i with
    | true=>exact h.elim (fun h => .inl (hx.box h)) (fun h => .inr (hFull a b h hx))
    | false=>exact hFull a b h hx
   -- the block g holds a row of what is sent,the first of them as they were
   have hcurW:∀ W,G true W->∃ curW:Array Value,W.heap[g]?=some (.cells curW 47 (0,0))/\curW.size=cur.size/\∀ om:List OtE,om.map Prod.snd=t2->upd curW (os.length * 18) (om.flatMap OtE.enc)=upd cur (os.length * 18) (om.flatMap OtE.enc):=fun W h=>by
    rcases h with h | ⟨om,e1,e2,e3⟩
    ·exact ⟨cur,h,rfl,fun _ _=>rfl⟩
    ·refine ⟨_,e3,upd_size (hfit' om e1),fun om' h'=>?_⟩
     exact upd_over (hfit' om e1) (flat_len_of h' e1)
   refine ⟨relW p (.cells cs' T (0,0)) [g] G hG w.heap.size hlt (fun k hk=>by rw [Mi] at hk;omega),fun v W=>v = .slice (some ⟨g,0,none⟩) (os.length+t2.length) c0/\Full W,rfl,fun a b h=>h.1,fun a b h=>h.2.1,fun v a b h hx=>⟨h.1,hx.2.2 false h.2⟩, ?_, ?_, ?_⟩
   ·intro W hW A c om hom hkm;obtain ⟨curW,hgW,hsW,huW⟩:=hcurW W (hW.2.2 true (.inl hgg));have homl:om.length=t2.length:=by rw [<-hom,List.length_map]
    cases A with
    | none =>
     obtain rfl:om=[]:=List.eq_nil_of_length_eq_zero ((hkm.row.rd OtE.len).2.none_len);have hu0:upd curW (os.length * 18) (([]:List OtE).flatMap OtE.enc)=curW:=by unfold upd;simp
     have hF:Full W:=⟨[],hom,fun q hq=>(List.not_mem_nil hq).elim,by rw [<-huW [] hom,hu0];exact hgW⟩
     have hcc:curW=cur:=by rw [<-hu0,huW [] hom];unfold upd;simp
     refine ⟨_,W,zh4 (w:=W) (base:=B) (c:=c) (size:=18) Tryz.underlying40 hi (.slice (some ⟨g,0,none⟩) os.length c0) os.length (os.flatMap OtE.enc) ?_,⟨by rw [<-homl];rfl,hF⟩,Chg.refl W _,fun _ => .inl rfl,fun i h=>h⟩
     exact ⟨hk.row.1, .inr ⟨g,c0,cur,rfl,hbg,by rw [<-hcc];exact hgW,hnc,hcm,hcs,htake⟩⟩
    | some ad =>
     have hrun:=run_append_room (P:=Tryz.prog) (w:=W) 40 40 47 i0 Tryz.underlying40 hi g os.length c0 curW hgW ad om.length c (om.flatMap OtE.enc) (by rw [hz1];exact zae OtE.len om) (by
      have:=(hkm.row.rd OtE.len).2.flat (by decide) OtE.len
      exact this) (zdr OtE.one om) (by omega) (by rw [hz1,hsW];exact hfit' om hom)
     rw [hz1] at hrun
     have hnew:(W.setRow g (upd curW (os.length * 18) (om.flatMap OtE.enc))).heap[g]?=some (.cells (upd cur (os.length * 18) (om.flatMap OtE.enc)) 47 (0,0)):=by
      rw [huW om hom];exact setRow_heap W g curW _ 47 (0,0) hgW
     have hch:Chg W (W.setRow g (upd curW (os.length * 18) (om.flatMap OtE.enc))) [g]:=zcy W g _;have hF:Full (W.setRow g (upd curW (os.length * 18) (om.flatMap OtE.enc))):=⟨om,hom,OsF.oth1 hkm.logs hgW hch,hnew⟩;refine ⟨_,_,hrun,⟨by rw [homl],hF⟩,hch.more (fun k hk=>by rw [Mi] at hk;simp [hk]),fun hltp => .inl (hch.block p hltp (by simpa using hpg)),fun i _=>?_⟩
     cases i with
     | true=>exact .inr hF
     | false=>exact hF
   ·intro W hW
    have hpW:∃ o:Array Value,W.heap[p]?=some (.cells o T (0,0)):=by
     rcases hW.2.1 hlt with e | e
     ·exact ⟨cs,e.trans hp⟩
     ·exact ⟨cs',e⟩
    have hch:Chg W (W.setRow p cs') [p]:=zcy W p cs';have hgb:(W.setRow p cs').heap[g]?=W.heap[g]?:=hch.block g (Nat.lt_of_lt_of_le hltg hW.1.size) (by simpa using fun e=>hpg e.symm)
    obtain ⟨o,ho⟩:=hpW;have hFl:Full W->Full (W.setRow p cs'):=fun ⟨om,e1,e2,e3⟩=>⟨om,e1,fun q hq=>(e2 q hq).boxed ho h1 h2 h3 hch,hgb.trans e3⟩
    refine ⟨hch.more (fun k hk=>by rw [Mi] at hk;simp [hk]),fun _ => .inr (hset W ⟨o,ho⟩),fun i h=>?_⟩
    cases i with
    | true=>exact h.elim (fun h => .inl (hgb.trans h)) (fun h => .inr (hFl h))
    | false=>exact hFl h
   ·rintro W v hW ⟨rfl,om,e1,e2,e3⟩;have homl:om.length=t2.length:=by rw [<-e1,List.length_map]
    refine ⟨some ⟨g,0,none⟩,c0,om,by rw [List.length_append,homl],e1,⟨?_, .inr ⟨g,c0,_,rfl,hbg,e3,by rw [List.length_append];omega,hcm,by rw [upd_size (hfit' om e1),hcs], ?_⟩⟩,fun q hq=>?_⟩
    ·rw [zae OtE.len]
    ·have hf0:(os.flatMap OtE.enc).length=os.length * 18:=zae OtE.len os;rw [List.length_append,Nat.add_mul,<-zae OtE.len om,upd_take2 (hfit' om e1),htake,List.flatMap_append]
    ·rcases List.mem_append.1 hq with hq | hq
     ·refine (hk.logs q hq).other hW.1 (fun k hk2=>?_)
      rcases List.mem_cons.1 hk2 with e | hk2
      ·subst e;exact ⟨cs,T,hp,h1,h2,h3,h5⟩
      ·rw [Mi] at hk2;subst hk2;exact ⟨cur,_,hgg,by decide,by decide,by decide,by decide⟩
     ·exact (e2 q hq).less hB
 ·refine ⟨relW p (.cells cs' T (0,0)) [] (fun _ _=>True) (fun _ _ _ _ _=>trivial) w.heap.size hlt (fun k hk=>(List.not_mem_nil hk).elim),fun v W=>∃ A' c' om,v = .slice A' (os++om).length c'/\om.map Prod.snd=t2/\Ow OtE.enc 47 18 W w.heap.size (.slice A' (os++om).length c') (os++om)/\OsF W w.heap.size om,rfl,fun a b h=>h.1.more (fun k hk=>by rw [Mi] at hk;simp [hk]),fun a b h=>h.2.1, ?_, ?_, ?_, ?_⟩
  ·rintro v a b ⟨A',c',om,e1,e2,e3,e4⟩ hx;refine ⟨A',c',om,e1,e2,e3.chg hx.1 (fun k hk hm=>?_),fun q hq=>(e4 q hq).chg hx.1 (fun k hk=>by rw [Mi] at hk;omega)⟩
   have:=(e3.inB k hk).1
   rw [Mi] at hm;omega
  ·intro W hW A c om hom hkm;have homl:om.length=t2.length:=by rw [<-hom,List.length_map]
   have hoW:Ow OtE.enc 47 18 W B (.slice A0 os.length c0) os:=hk.row.chg hW.1 (fun k hk2 hm=>by
    rw [Mi] at hm;rw [hm] at hk2
    exact hpA hk2)
   obtain ⟨A',c',W',e1,e2,e3,e4⟩:=own_grow (P:=Tryz.prog) (W:=W) 40 40 47 i0 Ot.zero 18 192 Tryz.underlying40 hi hz0 hz1 hz2 rfl (by decide) OtE.len B _ os hoW (hkm.row.rd OtE.len).2 (fun g cap he=>by
    simp only [Value.slice.injEq,true_and] at he;obtain ⟨e1,rfl⟩:=he;rcases Nat.lt_or_ge c0 (os.length+om.length) with h | h
    ·exact h
    ·exact absurd ⟨g,e1,by omega⟩ hroom) (by unfold maxLen;omega) (by omega) (Nat.le_trans hB hW.1.size)
   refine ⟨_,W',e1,⟨A',c',om,rfl,hom,⟨e3.1, ?_⟩,fun q hq=>(hkm.logs q hq).keep e2⟩,zez _ e2,fun hltp => .inl (e2.block p hltp),fun _ _=>trivial⟩
   rcases e3.2 with h | ⟨g,cap,cur,hv,hbg,r⟩
   ·exact .inl h
   ·refine .inr ⟨g,cap,cur,hv, ?_,r⟩;simp only [Value.slice.injEq] at hv
    have:=e4 g (by rw [hv.1];simp [blk])
    have:=hW.1.size
    omega
  ·intro W hW
   have hpW:∃ o:Array Value,W.heap[p]?=some (.cells o T (0,0)):=by
    rcases hW.2.1 hlt with e | e
    ·exact ⟨cs,e.trans hp⟩
    ·exact ⟨cs',e⟩
   have hch:Chg W (W.setRow p cs') [p]:=zcy W p cs';exact ⟨hch,fun _ => .inr (hset W hpW),fun _ _=>trivial⟩
  ·rintro W v hW ⟨A',c',om,e1,e2,e3,e4⟩;refine ⟨A',c',om,e1,e2,e3.less hB,fun q hq=>?_⟩
   rcases List.mem_append.1 hq with hq | hq
   ·refine (hk.logs q hq).boxed hp h1 h2 h3 hW.1
   ·exact (e4 q hq).less hB
section
variable {P:Program} {ops:Array Oper} {w:World} {L:(World->Prop)->Act->Prop} {o:Oper} {rest:List Oper} {C:World->Prop} {ps:List Nat} {a:Act} {R:Rm.RelK .stores} {Bd:Rm.Bnd}
theorem re_app (s x:Operand) (t:TypeId) (ho:o.op = .call { callee := .builtin .append,args:=#[s,x],argTypes:=#[t,t] }) (hgd:o.guard=none) {v0 vx:Value} (hs:a.eval s=v0) (hx:a.eval x=vx) (φ:Value->World->Prop) (hφ:Rm.Mono R φ)
  (hrun:∀ W,C W->∃ v W',(Builtin.append_ #[t,t] o.type #[v0,vx]).run P W = .ok v W'/\φ v W'/\R.rel W W')
  (h:∀ v,Rm.Mx R P ops (R.rel w) Bd L rest (fun W=>C W/\φ v W) ps (a.put o.dst v)):Rm.Mx R P ops (R.rel w) Bd L (o::rest) C ps a:=by
 refine Rm.wpMix_appC φ ho (by show (match o.op with | .store ..=>true | _=>false)=false;rw [ho]) (by simp [Region.wanted,hgd]) hφ (fun W hW=>?_) (fun v _=>h v)
 obtain ⟨v,W',h1,h2,h3⟩:=hrun W hW;refine ⟨v,W', ?_,h2,h3⟩;unfold execOp;simp only [ho,resolve,invoke,builtin,Sem.run_bind,Sem.run_pure,Result.andThen_ok,List.map_toArray,List.map_cons,List.map_nil,hs,hx,h1]
theorem re_st {p:Nat} {cs old:Array Value} {T:TypeId} {N:Nat} {ty:TypeId} {x y:Operand} (hg:w.heap[p]?=some (.cells old T (0,0))) (hRp:∀ a b,R.rel a b->p < a.heap.size->b.heap[p]?=a.heap[p]?\/b.heap[p]?=some (.cells cs T (0,0))) (hset:∀ W,R.rel w W->R.rel W (W.setRow p cs))
  (hop:o.op = .store ty x y) (hd:o.dst=none) (hw:Region.wanted o (yielded ops a.tmps)=true)
  (hx:a.eval x = .pointer (some ⟨p,0,none⟩)) (hy:a.eval y = .agg cs) (hi:(P.info? ty).map (·.size)=some cs.size) (hold:old.size=cs.size) (h1:cs.all (·.oneCell')=true)
  (h:Rm.Mx R P ops (R.rel w) (N,stored p (.cells cs T (0,0))) L rest (fun W=>C W/\W.heap[p]?=some (.cells cs T (0,0))) ps (a.put none undef)) :
  Rm.Mx R P ops (R.rel w) (N,stored p (.cells cs T (0,0))) L (o::rest) C ps a:=by
 refine Rm.wpMix_store (by unfold zat;rw [hop]) (by show (match o.op with | .store ..=>true | _=>false)=true;rw [hop]) hw ?_ (fun W hW=>?_) (fun v hv=>?_)
 ·intro v w1 w2 h hx hd;have h2:=h hd;rcases hRp _ _ hx (bx_lt h2) with e | e
  ·rw [e];exact h2
  ·exact e
 ·have hgW:∃ old':Array Value,W.heap[p]?=some (.cells old' T (0,0))/\old'.size=cs.size:=by
   rcases hRp _ _ hW (bx_lt hg) with e | e
   ·exact ⟨old,by rw [e];exact hg,hold⟩
   ·exact ⟨cs,e,rfl⟩
  obtain ⟨old',hg',hs'⟩:=hgW;refine ⟨W.setRow p cs, ?_,fun _=>setRow_heap W p old' cs T (0,0) hg',hset W hW⟩
  unfold execOp;simp only [hop,hx,hy,Instr.storeAt,Instr.sureAddr,Sem.run_bind,Sem.run_pure,Result.andThen_ok,run_storeVar_row W p T ty old' cs hg' hi hs' h1]
 ·rw [hd]
  have e:(fun W=>C W/\stored p (.cells cs T (0,0)) o.dst v W)=(fun W=>C W/\W.heap[p]?=some (.cells cs T (0,0))):=by
   funext W
   simp [stored,hd]
  show Rm.Mx _ P ops _ _ L rest (fun W=>C W/\stored p (.cells cs T (0,0)) none v W) ps (a.put none v)
  rw [hd] at e;rw [e];exact h
end
theorem OsK.chgB {w w':World} {B:Nat} {A:Option Addr} {c:Nat} {os:List OtE} {S:List Nat} (h:OsK w B A c os) (hg:Chg w w' S) (hS:∀ k∈S,k < B):OsK w' B A c os :=
 ⟨h.row.chg hg (fun k hk hm=>by have:=(h.row.inB k hk).1;have:=hS k hm;omega),fun q hq=>(h.logs q hq).chg hg hS⟩
theorem Ow.blkT {α:Type} {enc:α->List Value} {e:TypeId} {sz:Nat} {w:World} {B:Nat} {A:Option Addr} {n c:Nat} {l:List α} (h:Ow enc e sz w B (.slice A n c) l):∀ k∈blk A,∃ cs,w.heap[k]?=some (.cells cs e (0,0)):=fun k hk=>by
 rcases h.2 with ⟨he,_⟩ | ⟨g,cap,cur,he,_,hg,_⟩
 ·simp only [Value.slice.injEq] at he;rw [he.1] at hk;simp [blk] at hk
 ·simp only [Value.slice.injEq] at he;rw [he.1] at hk;simp only [blk,Mi] at hk;subst hk;exact ⟨cur,hg⟩
theorem rpF_opset {w:World} {B g:Nat} {a:LAd} {c:Nat} {qs:List VtE} {R:Rp} (h:RpF w B a (some ⟨g,0,none⟩) c qs R) {k:Nat} (hk:k < qs.length) (x:Int) :
  RpF (w.setCell ⟨g,k * 10+4,none⟩ (.int .i64 x)) B a (some ⟨g,0,none⟩) c (qs.set k (opE qs[k] x)) (R.votesTo (setOp R.votes k x)):=by
 have hb:blk (some (⟨g,0,none⟩:Addr))=[g]:=rfl;have hg:=zaq (Chg.refl w [g]) (p:=⟨g,k * 10+4,none⟩) (by simp) (.int .i64 x)
 have hrw:=h.v.2 (by have:=h.v.1.1;omega)
 have hlen:(qs.set k (opE qs[k] x)).length=qs.length:=List.length_set
 have hrow:Ow VtE.enc 45 10 (w.setCell ⟨g,k * 10+4,none⟩ (.int .i64 x)) B (.slice (some ⟨g,0,none⟩) (qs.set k (opE qs[k] x)).length c) (qs.set k (opE qs[k] x)):=by
  have h1:=(World.ownsRow.stored hrw (k * 10+4) (.int .i64 x)).1;rw [op_row hk x] at h1;unfold Ow;rw [hlen];exact h1
 refine ⟨h.l.beside hrw (by rw [hb];exact hg),Ow.rdF VtE.len hrow,fun q hq=>?_, ?_⟩
 ·obtain ⟨q0,h0,h1,h2⟩:=opE_mem hk hq;rw [h1,h2];exact (h.vl q0 h0).beside hrw (by rw [hb];exact hg)
 ·show (qs.set k (opE qs[k] x)).map Prod.snd=setOp R.votes k x;rw [setOp_map hk,h.e]
theorem OsK.opset {w w':World} {B B' g:Nat} {A:Option Addr} {c:Nat} {os:List OtE} {qs:List VtE} {n cq:Nat} (h:OsK w B A c os) (k:Ow VtE.enc 45 10 w B' (.slice (some ⟨g,0,none⟩) n cq) qs) (hg:Chg w w' [g]):OsK w' B A c os :=
 ⟨h.row.chg hg (fun x hx hm=>by rw [Mi] at hm;subst hm;exact h.row.apart k (by decide) x hx (by simp [blk])),fun q hq=>(h.logs q hq).beside k hg⟩
end Go.Proofs.YtckfjploafhenaaGreat
