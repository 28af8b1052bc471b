/- The interpreter's check of a function: it keeps its contract. -/
import Derived.Test.YtckfjploafhenaaGreatPk12
set_option maxRecDepth 100000
set_option maxHeartbeats 16000000
set_option linter.unusedVariables false
set_option linter.unusedSimpArgs false
namespace Go.Proofs.YtckfjploafhenaaGreat.Ai
open Go.RowKit
section
variable {C:Cx} {E:Env} {w0:World} {R0:Nat->Prop} {σ σ1:Nat->Int} {bp bp1:Nat->Nat} {R:Nat->Prop} {s t:AS} {a:Act} {w:World}
theorem symR_num (hf:∀ f∈s.fa,0<=f.ev σ) {x:At} {v:Value} {c:Ck} {d:Nat} (h:AtOk C σ bp R w x v) (e:fitC d s x c=true):(symR s x).ev σ=num v:=by
 unfold symR;split
 ·rename_i f;cases hc:(ent s.fa 3 (f.plus 1) && ent s.fa 3 (f.mul (-1)))
  ·exact symC_num h e
  ·simp only [Bool.and_eq_true] at hc;have h1:=zb0 σ hf _ _ hc.1;have h2:=zb0 σ hf _ _ hc.2;rw [zbf] at h1;rw [ze1] at h2;simp only [cond_true,Sy.ev,zbf];rw [show v = .bool _ from h]
   simp only [BE.ev];by_cases h0:0<=f.ev σ
   ·rw [decide_eq_true h0];simp only [num];omega
   ·rw [decide_eq_false h0];simp only [num];omega
 ·exact symC_num h e
theorem cksR_ok {bp':Nat->Nat} (hf:∀ f∈s.fa,0<=f.ev σ) {d:Nat}:∀ {l:List At} {cs:List Ck} {vs:List Value},LsOk C σ bp' R w l vs->fitL d s l cs=true->CksOk C R w cs vs/\(l.map (symR s)).map (Sy.ev σ)=vs.map num
 | [],[],[],_,_=>⟨trivial,rfl⟩
 | [],[],_::_,h,_=>h.elim
 | [],_::_,vs,h,e=>by simp [fitL] at e
 | _::_,[],vs,h,e=>by simp [fitL] at e
 | _::_,_::_,[],h,_=>h.elim
 | x::l,c::cs,v::vs,h,e=>by
  simp only [fitL,Bool.and_eq_true] at e;obtain ⟨b1,b2⟩:=cksR_ok hf h.2 e.2;refine ⟨⟨(zid hf h.1 e.1).1,b1⟩, ?_⟩;simp only [List.map_cons];rw [symR_num hf h.1 e.1,b2]
theorem valsR_ok (hf:∀ f∈s.fa,0<=f.ev σ) {d:Nat}:∀ {l:List (Bool×List At)} {cs:List (Bool×List Ck)} {us:List Value},TpOk C σ bp R w l us->fitsA d s l cs=true ->
  zey C R w cs us/\(l.flatMap fun x=>x.2.map (symR s)).map (Sy.ev σ)=nums us
 | [],[],[],_,_=>⟨trivial,rfl⟩
 | [],[],_::_,h,_=>h.elim
 | [],_::_,us,h,e=>by simp [fitsA] at e
 | _::_,[],us,h,e=>by simp [fitsA] at e
 | (true,_)::_,_::_,[],h,_=>h.elim
 | (false,_)::_,_::_,[],h,_=>h.elim
 | (g,l)::r,c::cs,v::vs,h,e=>by
  simp only [fitsA,Bool.and_eq_true,beq_iff_eq] at e;obtain ⟨⟨e1,e2⟩,e3⟩:=e;have hr:TpOk C σ bp R w r vs:=by cases g <;> exact h.2
  obtain ⟨b1,b2⟩:=valsR_ok hf hr e3
  have key:ValOk C R w c v/\(l.map (symR s)).map (Sy.ev σ)=v.cells.toList.map num:=by
   cases g with
   | true =>
    obtain ⟨arr,rfl,hl⟩:=h.1;obtain ⟨c1,c2⟩:=cksR_ok hf hl e2;refine ⟨?_,c2⟩;unfold ValOk;rw [<-e1];exact ⟨arr,rfl,c1⟩
   | false =>
    have hl:LsOk C σ bp R w l [v]:=h.1;obtain ⟨c1,c2⟩:=cksR_ok hf hl e2;refine ⟨?_, ?_⟩
    ·unfold ValOk;rw [<-e1];exact c1
    ·have:v.cells=#[v]:=by
      match l,c.2,hl,e2 with
      | [x],k::q,hl,e2 =>
       simp only [fitL,Bool.and_eq_true] at e2;exact (hl.1.cells (zid hf hl.1 e2.1).2).1
      | [_],[],_,e2=>simp [fitL] at e2
     rw [this];exact c2
  refine ⟨⟨key.1,b1⟩, ?_⟩;simp only [List.flatMap_cons,List.map_append,nums];rw [key.2,b2];rfl
def resF (tmps:Array Value):ResultVar->Sem Value
 | .tmp t=>pure (tmps.getD t undef)
 | .cell a t=>do loadVar t (<- asAddr (tmps.getD a undef))
theorem zhe (hG:Good C E) (h:Stt C w0 R0 σ bp R s a w):∀ {rs:List ResultVar} {cs:List (Bool×List Ck)} {l:List (Bool×List At)},results E s rs cs=some l->∃ us,(rs.mapM (resF a.tmps)).run C.P w = .ok us w/\TpOk C σ bp R w l us
 | [],cs,l,e=>by
  cases cs with
  | nil=>cases e;exact ⟨[],rfl,trivial⟩
  | cons _ _=>simp [results] at e
 | .tmp t::r,cs,l,e=>by
  cases cs with
  | nil=>simp [results] at e
  | cons c cs =>
   simp only [results] at e;split at e
   ·rename_i x m hx hm;cases e;obtain ⟨us,h1,h2⟩:=zhe hG h hm;refine ⟨a.tmps.getD t undef::us, ?_, ?_⟩
    ·simp only [List.mapM_cons,Sem.run_bind,resF,Sem.run_pure,Result.andThen_ok,h1]
    ·unfold evF at hx;split at hx
     ·rename_i y hy;cases hx
      have:AtOk C σ bp R w y (a.eval (.tmp t)):=zbr h.here (W:=[]) (fun x hx=>by cases hx) hy
      exact ⟨⟨this,trivial⟩,h2⟩
     ·rename_i y hy;cases hx
      have:∃ arr,a.eval (.tmp t) = .agg arr/\LsOk C σ bp R w y arr.toList:=zbr h.here (W:=[]) (fun x hx=>by cases hx) hy
      exact ⟨this,h2⟩
     ·cases hx
   ·cases e
 | .cell t ty::r,cs,l,e=>by
  cases cs with
  | nil=>simp [results] at e
  | cons c cs =>
   simp only [results] at e;split at e
   ·rename_i b T m hx hT hm;simp only [Option.bind_eq_some_iff] at e;obtain ⟨x,hx',e⟩:=e;cases hlen:Nat.beq x.2.length T.cells.length <;> rw [hlen] at e
    ·cases e
    cases e;have hlen:=Nat.eq_of_beq_eq_true hlen;obtain ⟨us,h1,h2⟩:=zhe hG h hm;have hp:a.eval (.tmp t) = .pointer (some ⟨bp b,0,none⟩):=zau h.here (W:=[]) (fun x hx=>by cases hx) hx
    obtain ⟨arr,h3,h4⟩:=h.here.bx.nth hx';rw [Nat.zero_add] at h3;have hl:=zc8 h4
    obtain ⟨v,hv,hvs⟩:=run_loadAt (w:=w) (hG.of hT) (g:=bp b) (o:=0) (vs:=arr.toList) (by omega) (fun j v hj=>by
     rw [Array.getElem?_toList] at hj
     simp [World.cell?,h3,hj])
    have hv2:(loadVar ty ⟨bp b,0,none⟩).run C.P w = .ok v w:=by
     simpa [Instr.loadAt,Instr.sureAddr,Sem.run_bind,Sem.run_pure,Result.andThen_ok] using hv
    refine ⟨v::us, ?_, ?_⟩
    ·have:a.tmps.getD t undef = .pointer (some ⟨bp b,0,none⟩):=hp
     simp only [List.mapM_cons,Sem.run_bind,resF,this,asAddr,Sem.run_pure,Result.andThen_ok,hv2,h1]
    ·rcases hvs with ⟨ha,rfl⟩ | ⟨ha,hvv⟩
     ·rw [ha];exact ⟨⟨_,rfl,h4⟩,h2⟩
     ·rw [ha];refine ⟨?_,h2⟩;rw [hvv] at h4;exact h4
   ·cases e
def outV (l:List Value):Value:=match l with
 | [u]=>u
 | l => .tuple l.toArray
theorem run_results {f:Func} {tmps:Array Value} {P:Program} {us:List Value} (h:(f.results.toList.mapM (resF tmps)).run P w = .ok us w):(Go.results f tmps).run P w = .ok (outV us) w:=by
 have e:Go.results f tmps=(do
   let vs <- f.results.mapM (resF tmps)
   pure (if h:vs.size=1 then vs[0] else .tuple vs)):=by
  unfold Go.results;congr 1
 rw [e,Array.mapM_eq_mapM_toList];simp only [Sem.run_bind,map_eq_pure_bind,h,Result.andThen_ok,Sem.run_pure]
 match us with
 | []=>rfl
 | [u]=>rfl
 | u::v::r=>rfl
theorem keeps_of_check (hG:Goods C E) (hm:C.P.follows .mixedOrders=true) {fid:FuncId} {f:Func} (hf:C.P.funcs[fid]?=some f) {c:Ctr} {rg:List Nat} {h:List Hn} (hc:check E f c rg h=true):Keeps C fid c:=by
 intro w R args hhp hargs hpre;unfold check at hc;simp only [Bool.and_eq_true] at hc;obtain ⟨⟨wi,wo⟩,hc⟩:=hc;split at hc
 ·rename_i b ys s hbody hah;split at hc
  ·rename_i r hex;simp only [Bool.and_eq_true] at hc;obtain ⟨hrx,hend⟩:=hc;have wfi:∀ x∈c.ins,∀ k∈x.2,Ckwf k:=fun x hx k hk=>zgp (List.all_eq_true.1 (List.all_eq_true.1 wi x hx) k hk)
   unfold ahead at hah;split at hah
   ·rename_i vs ys' s1 hpar;split at hah
    ·rename_i pre rgs hp hr;simp only [Option.some.injEq,Prod.mk.injEq] at hah;obtain ⟨rfl,hs⟩:=hah;have hsub:Gw C R R w w:=Gw.refl R w
     have h0:Stt C w R (fun _=>0) (fun _=>0) R ⟨[],[],0,[],[],[]⟩ ⟨#[],[]⟩ w:=by
      refine ⟨fun σ' bp' _ _=>⟨trivial,trivial,⟨by simp,by simp,by simp⟩⟩,⟨hhp,hsub,fun i hi=>by simp at hi,fun i j hi=>by simp at hi,rfl,fun q hq=>hhp.lt hq⟩⟩
     obtain ⟨σ1,a1,n1,b1,st1,k1⟩:=params_ok hpar h0 hargs wfi;have flat:=(valsFlat hargs).at.2
     have enums:nums args.toList=(args.toList.flatMap fun v=>v.cells.toList).map num:=by
      unfold nums;rw [List.map_flatMap]
     have st:Stt C w R σ1 (fun _=>0) R s ⟨args++Array.replicate (f.ntmps - args.size) undef,[]⟩ w:=by
      rw [<-hs];have sm:Sm s1 ((s1.facts pre).facts (rgs.flatMap rgF)):=(zgc _ _).trans (zgc _ _);refine ⟨fun σ' bp' q1 q2=>?_,⟨hhp,hsub,fun i hi=>?_,fun i j hi=>?_,rfl,fun q hq=>hhp.lt hq⟩⟩
      ·have q1':Agr s1.n σ' σ1:=by
        have:=sm.n
        intro i hi;exact q1 i (by rw [this];exact hi)
       obtain ⟨ktm,knum⟩:=k1 σ' bp' q1';have f1:=(st1.st σ' bp' q1' (fun i hi=>by rw [b1] at hi;simp at hi)).fs
       have hrg:∀ y∈rgs,∀ e,y = .lin e->i64lo<=e.ev σ'/\e.ev σ'<=i64hi:=by
        intro y hy e he;obtain ⟨i,hi,e1⟩:=(zff hr).2 y hy;cases hI:isI64 (nth (c.ins.flatMap (·.2)) i) <;> rw [hI] at e1
        ·cases e1
        simp only [cond_true] at e1;unfold isI64 at hI;split at hI
        ·rename_i lo hi' hck
         have hv:(nums args.toList)[i]?=some (e.ev σ'):=by
          rw [<-knum,List.getElem?_map,<-zbv,e1,he];rfl
         rw [enums,List.getElem?_map,Option.map_eq_some_iff] at hv;obtain ⟨v,hv1,hv2⟩:=hv;rw [zbv] at hck;obtain ⟨z,hz,z1,z2⟩:=flat i _ v hck hv1;subst hz;obtain ⟨x,hx,hk⟩:=List.mem_flatMap.1 (List.mem_of_getElem? hck)
         have:=wfi x hx _ hk
         simp only [Ckwf,nat8] at this;simp only [num] at hv2;omega
        ·cases hI
       have fs2:Fs σ' ((s1.facts pre).facts (rgs.flatMap rgF)):=by
        refine (f1.facts fun p hp'=>?_).facts fun q hq=>?_
        ·obtain ⟨p0,hp0,e⟩:=(zff hp).2 p hp';rw [zhi knum e];exact hpre p0 hp0
        ·obtain ⟨y,hy,hq⟩:=List.mem_flatMap.1 hq;cases y with
         | lin e =>
          obtain ⟨r1,r2⟩:=hrg _ hy e rfl;simp only [rgF,List.mem_cons,List.not_mem_nil,or_false] at hq;rcases hq with rfl | rfl
          ·rw [ev_le];omega
          ·rw [ev_ge];omega
         | be _=>simp [rgF] at hq
       refine ⟨?_, ?_,⟨fs2.fa,fs2.lt,fs2.cf⟩⟩
       ·have app:∀ {l:List AV} {us:List Value},TmOk C σ' bp' R w l us->∀ n,TmOk C σ' bp' R w (l++List.replicate n (one .un)) (us++List.replicate n undef):=by
         intro l us h n
         have rep:∀ n,TmOk C σ' bp' R w (List.replicate n (one .un)) (List.replicate n undef):=by
          intro n;induction n with
          | zero=>exact trivial
          | succ n ih=>exact ⟨rfl,ih⟩
         induction l generalizing us with
         | nil=>cases us with | nil=>exact rep n | cons _ _=>exact h.elim
         | cons x l ih=>cases us with | nil=>exact h.elim | cons u us=>exact ⟨h.1,ih h.2⟩
        have hl:vs.length=args.size:=(tmOk_len ktm).trans Array.length_toList;show TmOk C σ' bp' R w (vs++List.replicate (f.ntmps - vs.length) (one .un)) (args++Array.replicate (f.ntmps - args.size) undef).toList;rw [Array.toList_append,Array.toList_replicate,hl];exact app ktm _
       ·have:(({ (s1.facts pre).facts (rgs.flatMap rgF) with tm:=vs++List.replicate (f.ntmps - vs.length) (one .un) }:AS)).bx=[]:=by
         show ((s1.facts pre).facts _).bx=[];rw [sm.bx,b1]
        rw [this];trivial
      ·exfalso
       have:i < ((s1.facts pre).facts (rgs.flatMap rgF)).bx.length:=hi
       rw [sm.bx,b1] at this;simp at this
      ·exfalso
       have:i < ((s1.facts pre).facts (rgs.flatMap rgF)).bx.length:=hi
       rw [sm.bx,b1] at this;simp at this
     have sn:s1.n<=s.n:=by
      rw [<-hs];show s1.n<=((s1.facts pre).facts _).n;rw [((zgc _ _).trans (zgc _ _):Sm s1 _).n];exact Nat.le_refl _
     refine calls_of_wp hf hbody (wp_mono (zhh hG hhp.B hm b s h _ r hex σ1 (fun _=>0) R _ w st) fun e a' w' he=>?_)
     have fin:∀ t∈r.n++r.r,Nx C w R σ1 (fun _=>0) s t a' w'->a'.defers=[]/\∃ v,(Go.results f a'.tmps).run C.P w' = .ok v w'/\∃ (v':Value) (outs:List Value) (R':Nat->Prop),Ending.returned v = .returned v'/\v'=(match outs with | [u]=>u | l => .tuple l.toArray)/\Gw C R R' w w'/\Hp C R' w'/\zey C R' w' c.outs outs /\
       ∀ p∈c.post,(∀ q∈p.1,0<=q.ev (ζ (nums args.toList++nums outs)))->0<=p.2.ev (ζ (nums args.toList++nums outs)):=by
      rintro t ht ⟨σ2,bp2,R2,g1,g2,g3,g4,g5⟩;have hok:=List.all_eq_true.1 hend t ht;unfold endOk at hok;split at hok
      ·cases hok
      ·rename_i outs hres;simp only [Bool.and_eq_true] at hok;obtain ⟨us,u1,u2⟩:=zhe hG.toGood g5 hres;obtain ⟨v1,v2⟩:=valsR_ok g5.here.fs.fa u2 hok.1;refine ⟨g5.sw.df,_,run_results u1,outV us,us,R2,rfl,rfl,g5.sw.gw,g5.sw.hp,v1,fun p hp hq=>?_⟩
       have hz:(ys' ++ outs.flatMap fun l=>l.2.map (symR t)).map (Sy.ev σ2)=nums args.toList++nums us:=by
        rw [List.map_append,v2,(k1 σ2 (fun _=>0) (g1.less sn)).2]
       exact postOk_ok hz (List.all_eq_true.1 hok.2 p hp) g5.here.fs hq
     cases e <;> simp only [Post,bodyPost] at he ⊢
     ·obtain ⟨t,ht,nx⟩:=he;exact fin t (List.mem_append_left _ ht) nx
     ·obtain ⟨p,hp,_⟩:=he;rw [List.isEmpty_iff.1 hrx] at hp;cases hp
     ·obtain ⟨t,ht,nx⟩:=he;exact fin t (List.mem_append_right _ ht) nx
    ·cases hah
   ·cases hah
  ·cases hc
 ·cases hc
end
end Go.Proofs.YtckfjploafhenaaGreat.Ai
namespace Go.Proofs.YtckfjploafhenaaGreat.Ai
open Go.RowKit
structure Kept (C:Cx) (f:FuncId) (c:Ctr):Prop where
 keeps:Keeps C f c
 fn:∀ (args:Array Value) (w:World),(callFunc f args).run C.P w = .ok (.enter f args) w
 wf:∀ o∈c.outs,∀ k∈o.2,Ckwf k
def Kepts (C:Cx):List (Nat×Ctr)->Prop
 | []=>True
 | x::r=>Kept C x.1 x.2/\Kepts C r
structure Base (C:Cx) (tb:List (Nat×Ty)) (eqs:List Nat):Prop where
 tb:∀ t T,look t tb=some T->look t C.tb=some T
 cur:∀ w w':World,C.Cur w->w'.heap[C.pc]?=w.heap[C.pc]?->(∀ g,g < C.B->w'.heap[g]?=w.heap[g]?)->C.Cur w'
 ty:∀ t T,look t C.tb=some T->TyOk C.P t T
 eq:∀ t,mem t eqs=true->∀ T,look t C.tb=some T->∀ (w:World) (l r:List Int),l.length=T.cells.length->r.length=T.cells.length->∀ (x y:Operand),∃ b:Bool,
  (eqGuard .eql t x y (.agg (l.map (Value.int .i64)).toArray) (.agg (r.map (Value.int .i64)).toArray)).run C.P w = .ok () w/\(eqGuard .neq t x y (.agg (l.map (Value.int .i64)).toArray) (.agg (r.map (Value.int .i64)).toArray)).run C.P w = .ok () w /\
  (Op.equal t (.agg (l.map (Value.int .i64)).toArray) (.agg (r.map (Value.int .i64)).toArray)).run C.P w = .ok b w
 hm:C.P.follows .mixedOrders=true
theorem Kepts.at {C:Cx}:∀ {l:List (Nat×Ctr)},Kepts C l->∀ {f:Nat} {c:Ctr},look f l=some c->Kept C f c
 | [],_,f,c,h=>by cases h
 | (g,d)::r,k,f,c,h=>by
  simp only [look] at h;cases hb:Nat.beq f g <;> rw [hb] at h
  ·exact Kepts.at k.2 h
  ·cases h;rw [Nat.eq_of_beq_eq_true hb];exact k.1
theorem ze9 {C:Cx} {tb:List (Nat×Ty)} {eqs:List Nat} (B:Base C tb eqs) {ct:List (Nat×Ctr)} (k:Kepts C ct) (d mx:Nat):Goods C ⟨tb,ct,d,mx,eqs⟩ :=
 { tb:=B.tb,cur:=B.cur,ty:=B.ty,eq:=B.eq,ct:=fun f c h=>(k.at h).keeps,fn:=fun f c h=>(k.at h).fn,wf:=fun f c h=>(k.at h).wf }
theorem za0 {C:Cx} {tb:List (Nat×Ty)} {eqs:List Nat} (B:Base C tb eqs) {ct:List (Nat×Ctr)} {d mx:Nat} {fid:FuncId} {F:Func} (hf:C.P.funcs[fid]?=some F) (hn:(F.name == "runtime.NumGoroutine")=false) {c:Ctr} {rg:List Nat} {h:List Hn}
  (hk:check ⟨tb,ct,d,mx,eqs⟩ F c rg h=true) (k:Kepts C ct):Kept C fid c:=by
 refine ⟨keeps_of_check (ze9 B k d mx) B.hm hf hk,fun args w=>?_, ?_⟩
 ·have hb:∃ b,F.body=some b:=by
   unfold check at hk;simp only [Bool.and_eq_true] at hk;cases hb:F.body with
   | none=>rw [hb] at hk;simp at hk
   | some b=>exact ⟨b,rfl⟩
  obtain ⟨b,hb⟩:=hb;have h1:F.name ≠ "runtime.NumGoroutine":=by simpa using hn
  simp [callFunc,hf,h1,hb]
 ·unfold check at hk;simp only [Bool.and_eq_true] at hk;exact fun x hx k hkk=>zgp (List.all_eq_true.1 (List.all_eq_true.1 hk.1.2 x hx) k hkk)
-- types
def stB (P:Program) (n:Nat):List Field->List (Nat×Nat)->Bool
 | [],[]=>true
 | f::fs,o::os=>Nat.beq f.offset o.1 && (match P.info? f.type with | some i=>Nat.beq i.size o.2 | none=>false) && Nat.blt 0 o.2 && Nat.ble (o.1+o.2) n && stB P n fs os
 | _,_=>false
def plB:List Ck->TypeDesc->Nat->Bool
 | [.int .i64 _ _], .int .i64,_=>true
 | [.int .u8 _ _], .int .u8,_=>true
 | [.bool], .bool,_=>true
 | [.str], .string,_=>true
 | [.sl e], .slice e',el=>Nat.beq e e' && Nat.beq el e
 | _,_,_=>false
def zrB:Ck->Bool
 | .int k _ _=>nn (0 - (nat8 k).1) && nn (nat8 k).2
 | _=>true
def tyB (P:Program) (t:Nat) (T:Ty):Bool :=
 (match P.info? t with | some i=>Nat.beq i.size T.cells.length && Nat.ble i.bytes 65536 | none=>false) && Nat.beq T.rk.length T.cells.length && Nat.blt 0 T.cells.length && T.rk.all wfB && T.cells.all zrB &&
 (match P.underlying t with
  | some (.struct fs)=>T.agg && stB P T.cells.length fs.toList T.flds
  | some d=>!T.agg && T.flds.isEmpty && !d.isRow && plB T.cells d T.el
  | none=>false)
def zeroT (T:Ty):Value:=match T.agg,T.cells with
 | true,l => .agg (l.map zeroV).toArray
 | false,c::_=>zeroV c
 | false,[]=>undef
theorem stB_at {P:Program} {n:Nat}:∀ {fs:List Field} {os:List (Nat×Nat)},stB P n fs os=true->(∀ (j:Nat) (o:Nat×Nat),nth os j=some o->∃ fd,fs[j]?=some fd/\fd.offset=o.1/\(P.info? fd.type).map (·.size)=some o.2/\o.2≠0/\o.1+o.2<=n) /\
  ∀ w,(fs.mapM fun (f:Field)=>(do pure (f.offset,<-sizeOf f.type):Sem (Nat×Nat))).run P w = .ok os w
 | [],[],_=>⟨fun j o h=>(by cases h),fun w=>rfl⟩
 | [],_::_,h=>by simp [stB] at h
 | _::_,[],h=>by simp [stB] at h
 | f::fs,o::os,h=>by
  simp only [stB,Bool.and_eq_true] at h;obtain ⟨⟨⟨⟨h1,h2⟩,h3⟩,h4⟩,h5⟩:=h;obtain ⟨i1,i2⟩:=stB_at h5
  have hs:(P.info? f.type).map (·.size)=some o.2:=by
   split at h2
   ·rename_i i hi;rw [hi];simp [Nat.eq_of_beq_eq_true h2]
   ·cases h2
  have ho:=Nat.eq_of_beq_eq_true h1;refine ⟨fun j q hq=>?_,fun w=>?_⟩
  ·cases j with
   | zero =>
    simp only [nth,Option.some.injEq] at hq;subst hq;exact ⟨f,rfl,ho,hs,by have:=(zgt _ _).1 h3;omega,Nat.le_of_ble_eq_true h4⟩
   | succ j =>
    obtain ⟨fd,e,r⟩:=i1 j q hq;exact ⟨fd,by simpa using e,r⟩
  ·simp only [List.mapM_cons,Sem.run_bind,zdb hs,Result.andThen_ok,Sem.run_pure,i2 w,ho]
theorem tyOk_of {P:Program} {t:Nat} {T:Ty} (h:tyB P t T=true) (hz:(P.info? t).bind (·.zero)=some (zeroT T)):TyOk P t T:=by
 unfold tyB at h;simp only [Bool.and_eq_true] at h;obtain ⟨⟨⟨⟨⟨h1,h2⟩,h3⟩,h4⟩,h5⟩,h6⟩:=h;have hwf:∀ c∈T.rk,Ckwf c:=fun c hc=>zgp (List.all_eq_true.1 h4 c hc)
 have hzr:∀ c∈T.cells,∀ k lo hi,c = .int k lo hi->(nat8 k).1<=0/\0<=(nat8 k).2:=by
  rintro c hc k lo hi rfl
  have:=List.all_eq_true.1 h5 _ hc
  simp only [zrB,Bool.and_eq_true,zdv] at this;exact ⟨by omega,this.2⟩
 have hlen:=Nat.eq_of_beq_eq_true h2;have hpos:=(zgt _ _).1 h3
 have hinfo:∃ i,P.info? t=some i/\i.size=T.cells.length/\i.bytes<=65536:=by
  split at h1
  ·rename_i i hi;simp only [Bool.and_eq_true] at h1;exact ⟨i,hi,Nat.eq_of_beq_eq_true h1.1,Nat.le_of_ble_eq_true h1.2⟩
  ·cases h1
 obtain ⟨i,hi,hi1,hi2⟩:=hinfo
 have hb:∀ j,P.info? t=some j->j.bytes<=65536:=by
  intro j hj;rw [hi] at hj;cases hj;exact hi2
 have hsz:(P.info? t).map (·.size)=some T.cells.length:=by rw [hi];simp [hi1]
 split at h6
 ·rename_i fs hu;simp only [Bool.and_eq_true] at h6;obtain ⟨ha,hst⟩:=h6;obtain ⟨s1,s2⟩:=stB_at hst;refine ⟨hsz,⟨_,hz, ?_⟩,fun _=>⟨fs,hu,fun f o ho=>?_⟩,fun hf=>(by rw [ha] at hf;cases hf),fun _=>⟨fs,hu,fun w=>?_⟩,hb,fun hf=>(by rw [ha] at hf;cases hf),⟨hlen,hpos⟩,hwf,hzr⟩
  ·unfold zeroT;rw [ha];rfl
  ·obtain ⟨fd,e,r⟩:=s1 f o ho;exact ⟨fd,by rw [<-Array.getElem?_toList];exact e,r⟩
  ·rw [Array.mapM_eq_mapM_toList];simp only [map_eq_pure_bind,Sem.run_bind,s2 w,Result.andThen_ok,Sem.run_pure]
 ·rename_i d hns hu;simp only [Bool.and_eq_true,Bool.not_eq_true'] at h6;obtain ⟨⟨⟨ha,hfl⟩,hrow⟩,hpl⟩:=h6
  have hc:∃ c,T.cells=[c]:=by
   unfold plB at hpl
   split at hpl <;> first
    | exact ⟨_,by assumption⟩
    | cases hpl
  obtain ⟨c,hc⟩:=hc;refine ⟨hsz,⟨_,hz, ?_⟩,fun hf=>(by rw [ha] at hf;cases hf),fun _=>⟨c,d,hc,hu,hrow, ?_⟩,fun hf=>(by rw [ha] at hf;cases hf),hb,fun _=>List.isEmpty_iff.1 hfl,⟨hlen,hpos⟩,hwf,hzr⟩
  ·unfold zeroT;rw [ha,hc];cases c <;> rfl
  ·rw [hc] at hpl;unfold plB at hpl;split at hpl <;> (try cases hpl) <;> simp_all
 ·cases h6
end Go.Proofs.YtckfjploafhenaaGreat.Ai
