/- The interpreter's operations are sound: operators, parts of tuples, structs that are built. -/
import Derived.Test.YtckfjploafhenaaGreatPk3
set_option maxRecDepth 100000
set_option maxHeartbeats 16000000
set_option linter.unusedVariables false
set_option linter.unusedSimpArgs false
namespace Go.Proofs.YtckfjploafhenaaGreat.Ai
open Go.RowKit
section
variable {C:Cx} {E:Env} {w0:World} {R0:Nat->Prop} {σ:Nat->Int} {bp:Nat->Nat} {R:Nat->Prop} {s s':AS} {a:Act} {w:World} {W:List (BE×Bool)} {o:Oper} {ov:Option AV} {tg:Option Nat}
theorem bin_some {d:Nat} {bo:BinOp} {x y:AV} {r:AV×AS} (h:bin d s bo x y=some r):∃ k e j f,x = .v (.one (.num k e))/\y = .v (.one (.num j f)):=by
 unfold bin at h;split at h
 ·exact ⟨_,_,_,_,rfl,rfl⟩
 ·cases h
theorem bin_kinds {d:Nat} {bo:BinOp} {k j:IntKind} {e f:Lin} {r:AV×AS} (hns:bo ≠ .shl/\bo ≠ .shr) (h:bin d s bo (.v (.one (.num k e))) (.v (.one (.num j f)))=some r):k=j:=by
 unfold bin at h;cases hk:keq k j
 ·exfalso
  cases bo <;> dsimp only at h <;> first
   | exact hns.1 rfl
   | exact hns.2 rfl
   | simp only [hk,cond_false,Bool.false_and,reduceCtorEq] at h
 ·exact (zex hk).1
theorem ints_vals {σ':Nat->Int} {bp':Nat->Nat}:∀ {l:List At} {vs:List Value},ints l=true->LsOk C σ' bp' R w l vs->∃ zs:List Int,zs.length=l.length/\vs=zs.map (Value.int .i64)
 | [],[],_,_=>⟨[],rfl,rfl⟩
 | [],_::_,_,h=>h.elim
 | _::_,[],_,h=>h.elim
 | x::l,v::vs,hi,h=>by
  cases x with
  | num k e =>
   cases k <;> simp only [ints,Bool.false_eq_true] at hi
   obtain ⟨zs,e1,e2⟩:=ints_vals hi h.2;exact ⟨e.ev σ' :: zs,by simp [e1],by rw [h.1.1,e2];rfl⟩
  | _=>simp [ints] at hi
theorem bool_out (h:Stt C w0 R0 σ bp R s a w) (b:Bool):Outs C w0 R0 R w tg σ bp s (s.freshC .bool).2 a (some (one (s.freshC .bool).1)) (.bool b) w:=by
 obtain ⟨σ1,a1,n1,t1,b1,st1,k1⟩:=zcw h (c := .bool) (v := .bool b) ⟨b,rfl⟩ trivial;exact ⟨σ1,bp,R,a1,n1,zai _ _,by rw [b1];exact Nat.le_refl _,st1,fun y hy σ' bp' q1 q2=>by cases hy;exact k1 σ' bp' q1,Fr.refl⟩
theorem nbool_out (h:Stt C w0 R0 σ bp R s a w) (b:Bool):Outs C w0 R0 R w tg σ bp s (s.fresh [ge 0,le 1]).2 a (some (one (.be (.not (.le ((s.fresh [ge 0,le 1]).1.plus (-1))))))) (.bool b) w:=by
 obtain ⟨σ1,bp1,R1,o⟩:=bool_out h (!b);refine ⟨σ1,bp1,R1,o.ag,o.le,o.ab,o.lb,o.st,fun y hy σ' bp' q1 q2=>?_,o.fr⟩
 cases hy
 have:=o.av _ rfl σ' bp' q1 q2
 have e:Value.bool (!b) = .bool (BE.ev σ' (.le ((s.fresh [ge 0,le 1]).1.plus (-1)))):=this;simp only [Value.bool.injEq] at e;show Value.bool b = .bool _;simp only [BE.ev] at e ⊢;rw [<-e,Bool.not_not]
theorem op_bin (hG:Good C E) (h:Stt C w0 R0 σ bp R s a w) (hW:Lits s.n σ W) {bo:BinOp} {t t2:Nat} {x y:Operand} (hop:o.op = .binOp bo t x y t2) (hx:opx E W s o.op=some (ov,s')):Does C.P ((execOp a.eval o).run C.P w) (Outs C w0 R0 R w (tgt W s o.op) σ bp s s' a ov):=by
 rw [hop] at hx;simp only [opx] at hx;split at hx
 ·rename_i u v hu hv;have ux:=fun σ' bp' (q1:Agr s.n σ' σ) (q2:Agb s.bx.length bp' bp)=>zbr (h.st σ' bp' q1 q2) (hW σ' q1) hu
  have vx:=fun σ' bp' (q1:Agr s.n σ' σ) (q2:Agb s.bx.length bp' bp)=>zbr (h.st σ' bp' q1 q2) (hW σ' q1) hv
  split at hx
  ·rename_i r hb;cases hx;obtain ⟨k,e,j,f,rfl,rfl⟩:=bin_some hb;obtain ⟨u1,u2,u3⟩:=ux σ bp (zaa _ _) (zai _ _);obtain ⟨v1,v2,v3⟩:=vx σ bp (zaa _ _) (zai _ _)
   have he:∀ σ',Agr s.n σ' σ->e.ev σ'=e.ev σ:=fun σ' q=>by
    have:=(ux σ' bp q (zai _ _)).1
    rw [u1] at this;simp only [Value.int.injEq,true_and] at this;exact this.symm
   have hf:∀ σ',Agr s.n σ' σ->f.ev σ'=f.ev σ:=fun σ' q=>by
    have:=(vx σ' bp q (zai _ _)).1
    rw [v1] at this;simp only [Value.int.injEq,true_and] at this;exact this.symm
   by_cases hsh:bo = .shl\/bo = .shr
   ·obtain ⟨v,hr,ho⟩:=shift_out h hsh hb t hf ⟨u2,u3⟩;rw [run_bin hop u1 v1 hr];exact ho
   ·have hns:bo ≠ .shl/\bo ≠ .shr:=⟨fun e=>hsh (.inl e),fun e=>hsh (.inr e)⟩
    obtain rfl:=bin_kinds hns hb;obtain ⟨v,hr,ho⟩:=bin_out h hb t he hf ⟨u2,u3⟩ ⟨v2,v3⟩ rfl hns;rw [run_bin hop u1 v1 hr];exact ho
  ·rename_i hb;cases hq:eqable E t u v <;> rw [hq] at hx
   ·cases hx
   ·have key:∃ b:Bool,(execOp a.eval o).run C.P w = .ok (.value (.bool (match bo with | .neq=>!b | _=>b))) w\/(bo ≠ .eql/\bo ≠ .neq):=by
     by_cases hbo:bo = .eql\/bo = .neq
     ·have u0:=ux σ bp (zaa _ _) (zai _ _);have v0:=vx σ bp (zaa _ _) (zai _ _);unfold eqable at hq;split at hq
      ·obtain ⟨p,e1,_⟩:=u0;obtain ⟨q,e2,_⟩:=v0;refine ⟨p.toList == q.toList, .inl ?_⟩;rcases hbo with rfl | rfl
       ·simp only [execOp,hop,e1,e2,eqGuard,binOp,Op.stringOp,Sem.run_bind,Sem.run_pure,Result.andThen_ok];rfl
       ·simp only [execOp,hop,e1,e2,eqGuard,binOp,Op.stringOp,Sem.run_bind,Sem.run_pure,Result.andThen_ok];rfl
      ·rename_i l r;simp only [Bool.and_eq_true] at hq;obtain ⟨⟨⟨⟨h1,h2⟩,h3⟩,h4⟩,h5⟩:=hq;cases hT:look t E.tb with
       | none=>rw [hT] at h5;cases h5
       | some T =>
        rw [hT] at h5;obtain ⟨ua,e1,l1⟩:=u0;obtain ⟨va,e2,l2⟩:=v0;obtain ⟨z1,n1,q1⟩:=ints_vals h2 l1;obtain ⟨z2,n2,q2⟩:=ints_vals h3 l2;have h4:=Nat.eq_of_beq_eq_true h4;have h5:=Nat.eq_of_beq_eq_true h5;obtain ⟨b,g1,g2,g3⟩:=hG.eq t h1 T (hG.tb t T hT) w z1 z2 (by omega) (by omega) x y
        have ea:a.eval x = .agg (z1.map (Value.int .i64)).toArray:=by rw [e1,<-q1]
        have eb:a.eval y = .agg (z2.map (Value.int .i64)).toArray:=by rw [e2,<-q2]
        refine ⟨b, .inl ?_⟩;rcases hbo with rfl | rfl
        ·simp only [execOp,hop,ea,eb,binOp,Sem.run_bind,g1,g3,Sem.run_pure,Result.andThen_ok]
        ·simp only [execOp,hop,ea,eb,binOp,Sem.run_bind,g2,g3,Sem.run_pure,Result.andThen_ok]
      ·cases hq
     ·exact ⟨true, .inr (by simpa [not_or] using hbo)⟩
    obtain ⟨b,key⟩:=key;split at hx
    ·cases hx;rcases key with key | key
     ·rw [key];exact bool_out h b
     ·exact absurd rfl key.1
    ·cases hx;rcases key with key | key
     ·rw [key];exact nbool_out h (!b)
     ·exact absurd rfl key.2
    ·cases hx
 ·cases hx
end
end Go.Proofs.YtckfjploafhenaaGreat.Ai
namespace Go.Proofs.YtckfjploafhenaaGreat.Ai
open Go.RowKit
section
variable {C:Cx} {E:Env} {w0:World} {R0:Nat->Prop} {σ:Nat->Int} {bp:Nat->Nat} {R:Nat->Prop} {s s':AS} {a:Act} {w w':World} {W:List (BE×Bool)} {o:Oper} {ov:Option AV} {tg:Option Nat}
theorem TpOk.nth {σ':Nat->Int} {bp':Nat->Nat}:∀ {l:List (Bool×List At)} {vs:List Value},TpOk C σ' bp' R w l vs->∀ {i:Nat} {p:Bool×List At},Ai.nth l i=some p->∃ v,vs[i]?=some v/\((p.1=true/\∃ a,v = .agg a/\LsOk C σ' bp' R w p.2 a.toList)\/(p.1=false/\LsOk C σ' bp' R w p.2 [v]))
 | [],_,_,i,p,h=>by cases h
 | (true,l)::r,[],h,_,_,_=>h.elim
 | (false,l)::r,[],h,_,_,_=>h.elim
 | (true,l)::r,v::vs,h,0,p,e=>by cases e;exact ⟨v,rfl, .inl ⟨rfl,h.1⟩⟩
 | (false,l)::r,v::vs,h,0,p,e=>by cases e;exact ⟨v,rfl, .inr ⟨rfl,h.1⟩⟩
 | (true,l)::r,v::vs,h,i+1,p,e=>by
  obtain ⟨u,e1,e2⟩:=TpOk.nth h.2 (i:=i) e;exact ⟨u,by simpa using e1,e2⟩
 | (false,l)::r,v::vs,h,i+1,p,e=>by
  obtain ⟨u,e1,e2⟩:=TpOk.nth h.2 (i:=i) e;exact ⟨u,by simpa using e1,e2⟩
theorem op_extract (h:Stt C w0 R0 σ bp R s a w) (hW:Lits s.n σ W) {x:Operand} {i:Nat} (hop:o.op = .extract x i) (hx:opx E W s o.op=some (ov,s')):Does C.P ((execOp a.eval o).run C.P w) (Outs C w0 R0 R w (tgt W s o.op) σ bp s s' a ov):=by
 rw [hop] at hx;simp only [opx] at hx;split at hx
 ·rename_i l hv;simp only [Option.bind_eq_some_iff,Option.map_eq_some_iff] at hx;obtain ⟨p,hp,v,hpk,e⟩:=hx;cases e;have tv:=fun σ' bp' (q1:Agr s.n σ' σ) (q2:Agb s.bx.length bp' bp)=>zbr (h.st σ' bp' q1 q2) (hW σ' q1) hv
  obtain ⟨arr,e1,e2⟩:=tv σ bp (zaa _ _) (zai _ _);obtain ⟨u,e3,_⟩:=e2.nth hp;rw [Array.getElem?_toList] at e3
  have run:(execOp a.eval o).run C.P w = .ok (.value u) w:=by
   simp only [execOp,hop,e1,Instr.extract,e3,Sem.run_bind,Sem.run_pure,Result.andThen_ok]
  rw [run];refine zbd h fun σ' bp' q1 q2=>?_
  obtain ⟨arr',f1,f2⟩:=tv σ' bp' q1 q2;rw [e1] at f1;simp only [Value.tuple.injEq] at f1;subst f1;obtain ⟨u',f3,f4⟩:=f2.nth hp;rw [Array.getElem?_toList,e3] at f3;cases f3;rcases f4 with ⟨g1,ar,rfl,g2⟩ | ⟨g1,g2⟩
  ·rw [g1] at hpk;simp only [pack] at hpk;cases hpk;exact ⟨ar,rfl,g2⟩
  ·obtain ⟨p1,p2⟩:=p;simp only at g1;subst g1
   match p2,hpk,g2 with
   | [y],hpk,g2=>cases hpk;exact g2.1
 ·cases hx
structure Own (C:Cx) (R:Nat->Prop) (w0 w w':World):Prop where
 os:w'.os=w.os
 tape:w'.tape=w.tape
 output:w'.output=w.output
 size:w.heap.size<=w'.heap.size
 keep:∀ g,g < w.heap.size->(R g\/g < w0.heap.size\/g=C.pc)->w'.heap[g]?=w.heap[g]?
theorem Own.gr (k:Own C R w0 w w') (hR:∀ g,R g->g < w.heap.size):Gr R R w w':=⟨fun _ h=>h,fun g hg cs T fz e=>⟨cs,fz,by rw [k.keep g (hR g hg) (.inl hg)];exact e,rfl⟩⟩
theorem Own.hp (hG:Good C E) (hB:C.B<=w0.heap.size) (k:Own C R w0 w w') (h:Hp C R w):Hp C R w':=by
 refine ⟨fun g hg=>?_,hG.cur w w' h.cur (k.keep _ h.pc (.inr (.inr rfl))) (fun g hg=>k.keep g (Nat.lt_of_lt_of_le hg h.B) (.inr (.inl (Nat.lt_of_lt_of_le hg hB)))),Nat.lt_of_lt_of_le h.pc k.size,Nat.le_trans h.B k.size⟩
 obtain ⟨h1,h2,cs,T,fz,h3,h4,h5,h6,h7⟩:=h.rows g hg;refine ⟨h1,h2,cs,T,fz,by rw [k.keep g (h.lt hg) (.inl hg)];exact h3,h4,h5,h6,fun j v hj=>?_⟩
 obtain ⟨c,e1,e2⟩:=h7 j v hj;exact ⟨c,e1,e2.gr (k.gr fun g hg=>h.lt hg)⟩
theorem Own.gw (k:Own C R w0 w w') (h:Hp C R w) (g0:Gw C R0 R w0 w):Gw C R0 R w0 w':=by
 refine ⟨k.os.trans g0.os,k.tape.trans g0.tape,k.output.trans g0.output,Nat.le_trans g0.size k.size,g0.rows,fun g hg hn hp=>?_,fun g hg cs T fz e=>?_⟩
 ·rw [k.keep g (Nat.lt_of_lt_of_le hg g0.size) (.inr (.inl hg)),g0.keep g hg hn hp]
 ·obtain ⟨cs',fz',e1,e2⟩:=g0.row g hg cs T fz e;have hlt:=zcj e1;refine ⟨cs',fz', ?_,e2⟩;rw [k.keep g hlt (.inr (.inl (zcj e)))];exact e1
theorem BxOk.app {σ':Nat->Int} {bp':Nat->Nat}:∀ {l r:List (Nat×List At)} {j:Nat},BxOk C σ' bp' R w j l->BxOk C σ' bp' R w (j+l.length) r->BxOk C σ' bp' R w j (l++r)
 | [],r,j,_,k=>by simpa using k
 | c::l,r,j,h,k=>⟨h.1,BxOk.app h.2 (by rw [List.length_cons] at k;rwa [show j+1+l.length=j+(l.length+1) by omega])⟩
def updb (bp:Nat->Nat) (n g:Nat):Nat->Nat:=fun i=>if i=n then g else bp i
theorem updb_agb (bp:Nat->Nat) (n g:Nat):Agb n (updb bp n g) bp:=fun i hi=>by unfold updb;rw [if_neg (by omega)]
theorem updb_at (bp:Nat->Nat) (n g:Nat):updb bp n g n=g:=by unfold updb;rw [if_pos rfl]
theorem own_alloc (h:Hp C R w) (g0:Gw C R0 R w0 w) (ob:Obj):Own C R w0 w (w.alloc ob):=⟨rfl,rfl,rfl,by simp,fun g hg _=>Below.heap_alloc w ob g hg⟩
theorem fr_alloc (h:Hp C R w) (ob:Obj):Fr C R R bp tg w (w.alloc ob) :=
 ⟨by simp,⟨fun _ h=>h,fun g hg cs T fz e=>⟨cs,fz,by rw [Below.heap_alloc w ob g (h.lt hg)];exact e,rfl⟩⟩,fun _ _=>Iff.rfl,fun g hg _ _ _=>Below.heap_alloc w ob g hg⟩
theorem alloc_stt (hG:Good C E) (hB:C.B<=w0.heap.size) (h:Stt C w0 R0 σ bp R s a w) {t:Nat} {l:List At} {arr:Array Value} (hl:∀ σ' bp',Agr s.n σ' σ->Agb s.bx.length bp' bp->LsOk C σ' bp' R w l arr.toList) :
  Stt C w0 R0 σ (updb bp s.bx.length w.heap.size) R { s with bx:=s.bx++[(t,l)] } a (w.alloc (.cells arr t)):=by
 have k:=own_alloc h.sw.hp h.sw.gw (.cells arr t);have kg:=k.gr fun g hg=>h.sw.hp.lt hg
 refine ⟨fun σ' bp' q1 q2=>?_, ?_⟩
 ·have q3:Agb s.bx.length bp' bp:=(Agb.less (show Agb _ bp' _ from q2) (by simp)).trans (updb_agb _ _ _)
  have q4:bp' s.bx.length=w.heap.size:=by rw [q2 s.bx.length (by simp),updb_at]
  have st:=h.st σ' bp' q1 q3;refine ⟨st.tm.gr kg fun _=>rfl,BxOk.app (st.bx.gr kg (fun _=>rfl) fun i _ hi=>?_) ⟨⟨arr, ?_,(hl σ' bp' q1 q3).gr kg fun _=>rfl⟩,trivial⟩,⟨st.fs.fa,st.fs.lt,st.fs.cf⟩⟩
  ·rw [Nat.zero_add] at hi;have hb:=st.bx.nth (i:=i) (c:=s.bx[i]) (by rw [zbv];simp [hi])
   obtain ⟨_,e,_⟩:=hb;rw [Nat.zero_add] at e;exact Below.heap_alloc w _ _ (zcj e)
  ·rw [Nat.zero_add,q4];exact (show (w.heap.push _)[w.heap.size]?=_ by simp)
 ·have sw:=h.sw
  have hlen:∀ i,i < s.bx.length->bp i < w.heap.size:=fun i hi=>by
   have hb:=h.here.bx.nth (i:=i) (c:=s.bx[i]) (by rw [zbv];simp [hi])
   obtain ⟨_,e,_⟩:=hb;rw [Nat.zero_add] at e;exact zcj e
  have hval:∀ i,i < s.bx.length+1->(i < s.bx.length/\updb bp s.bx.length w.heap.size i=bp i)\/(i=s.bx.length/\updb bp s.bx.length w.heap.size i=w.heap.size):=fun i hi=>by
   by_cases e:i=s.bx.length
   ·exact .inr ⟨e,by rw [e,updb_at]⟩
   ·exact .inl ⟨by omega,updb_agb _ _ _ i (by omega)⟩
  refine ⟨k.hp hG hB sw.hp,k.gw sw.hp sw.gw,fun i hi=>?_,fun i j hi hj e=>?_,sw.df,sw.r0⟩
  ·simp only [List.length_append,List.length_cons,List.length_nil] at hi;rcases hval i hi with ⟨h1,h2⟩ | ⟨h1,h2⟩
   ·rw [h2];exact sw.own i h1
   ·rw [h2];exact ⟨sw.gw.size,fun hr=>by have:=sw.hp.lt hr;omega,fun e=>by have:=sw.hp.pc;omega⟩
  ·simp only [List.length_append,List.length_cons,List.length_nil] at hi hj;rcases hval i hi with ⟨h1,h2⟩ | ⟨h1,h2⟩ <;> rcases hval j hj with ⟨h3,h4⟩ | ⟨h3,h4⟩ <;> rw [h2,h4] at e
   ·exact sw.inj i j h1 h3 e
   ·have:=hlen i h1;omega
   ·have:=hlen j h3;omega
   ·omega
end
end Go.Proofs.YtckfjploafhenaaGreat.Ai
namespace Go.Proofs.YtckfjploafhenaaGreat.Ai
open Go.RowKit
section
variable {C:Cx} {E:Env} {w0:World} {R0:Nat->Prop} {σ:Nat->Int} {bp:Nat->Nat} {R:Nat->Prop} {s s':AS} {a:Act} {w w':World} {W:List (BE×Bool)} {o:Oper} {ov:Option AV} {tg:Option Nat}
theorem zero_ok {σ':Nat->Int} {bp':Nat->Nat}:∀ {cs:List Ck},(∀ c∈cs,∀ k lo hi,c = .int k lo hi->(nat8 k).1<=0/\0<=(nat8 k).2)->LsOk C σ' bp' R w (cs.map zeroC) (cs.map zeroV)
 | [],_=>trivial
 | c::cs,h=>by
  refine ⟨?_,zero_ok fun c' hc=>h c' (List.mem_cons_of_mem _ hc)⟩
  cases c with
  | int k lo hi =>
   have:=h _ List.mem_cons_self k lo hi rfl
   exact ⟨by rw [zc4];rfl,by rw [zc4];exact this.1,by rw [zc4];exact this.2⟩
  | bool=>rfl
  | str=>exact ⟨.empty,rfl,by rw [zc4];rfl,by decide⟩
  | sl T=>exact ⟨none,0,0,rfl,by rw [zc4];rfl,by decide,Nat.le_refl _, .inl ⟨rfl,rfl⟩⟩
  | cur=>trivial
theorem run_zero {P:Program} {t:Nat} {z:Value} (h:(P.info? t).bind (·.zero)=some z):(zeroValue t).run P w = .ok z w:=by
 cases hi:P.info? t with
 | none=>rw [hi] at h;cases h
 | some i =>
  rw [hi] at h;simp only [Option.bind_some] at h;simp only [zeroValue,Sem.run_bind,run_info hi,Result.andThen_ok,h,Sem.run_pure]
theorem run_newVar {P:Program} (t:Nat) (v:Value):(newVar t v).run P w = .ok ⟨w.heap.size,0,none⟩ (w.alloc (.cells v.cells t)):=rfl
theorem op_alloc (hG:Good C E) (hB:C.B<=w0.heap.size) (h:Stt C w0 R0 σ bp R s a w) (hW:Lits s.n σ W) {t:Nat} (hop:o.op = .alloc t) (hx:opx E W s o.op=some (ov,s')):Does C.P ((execOp a.eval o).run C.P w) (Outs C w0 R0 R w (tgt W s o.op) σ bp s s' a ov):=by
 rw [hop] at hx;simp only [opx,Option.bind_eq_some_iff] at hx;obtain ⟨T,hT,hx⟩:=hx;cases hx;have ok:=hG.of hT;obtain ⟨z,hz,hzc⟩:=ok.zero
 have run:(execOp a.eval o).run C.P w = .ok (.value (.pointer (some ⟨w.heap.size,0,none⟩))) (w.alloc (.cells (T.cells.map zeroV).toArray t)):=by
  simp only [execOp,hop,Instr.alloc,Sem.run_bind,run_zero hz,Result.andThen_ok,run_newVar,hzc,Sem.run_pure]
 rw [run];refine ⟨σ,updb bp s.bx.length w.heap.size,R,zaa _ _,Nat.le_refl _,updb_agb _ _ _,by simp,alloc_stt hG hB h (fun σ' bp' _ _=>zero_ok ok.zr),fun y hy σ' bp' q1 q2=>?_,fr_alloc h.sw.hp _⟩
 cases hy;show _=Value.pointer (some ⟨bp' s.bx.length,0,none⟩);rw [q2 _ (by simp),updb_at]
def solid:At->Bool
 | .un=>false
 | .unk=>false
 | _=>true
theorem AtOk.cells {σ':Nat->Int} {bp':Nat->Nat} {y:At} {v:Value} (h:AtOk C σ' bp' R w y v) (hy:solid y=true):v.cells=#[v]/\v.oneCell'=true:=by
 cases y with
 | un=>cases hy
 | unk=>cases hy
 | num k e=>rw [h.1];exact ⟨rfl,rfl⟩
 | be b=>rw [show v=_ from h];exact ⟨rfl,rfl⟩
 | str e=>obtain ⟨t,rfl,_⟩:=h;exact ⟨rfl,rfl⟩
 | sl T e=>obtain ⟨_,_,_,rfl,_⟩:=h;exact ⟨rfl,rfl⟩
 | nil=>rw [show v=_ from h];exact ⟨rfl,rfl⟩
 | ptr b o=>rw [show v=_ from h];exact ⟨rfl,rfl⟩
 | row T o=>obtain ⟨_,_,rfl,_⟩:=h;exact ⟨rfl,rfl⟩
 | cur=>rw [show v=_ from h];exact ⟨rfl,rfl⟩
theorem intoC_ok {σ':Nat->Int} {bp':Nat->Nat} {x y:At} {c:Ck} {v:Value} (h:AtOk C σ' bp' R w x v) (e:intoC x c=some y):AtOk C σ' bp' R w y v/\solid x=true/\solid y=true:=by
 cases x with
 | nil =>
  cases c with
  | sl T =>
   cases e;rw [show v=_ from h]
   exact ⟨⟨none,0,0,rfl,by rw [zc4];rfl,by decide,Nat.le_refl _, .inl ⟨rfl,rfl⟩⟩,rfl,rfl⟩
  | _=>simp [intoC] at e
 | un=>simp [intoC] at e
 | unk=>simp [intoC] at e
 | _ =>
  simp only [intoC,Option.some.injEq] at e;subst e;exact ⟨h,rfl,rfl⟩
theorem intoL_ok {σ':Nat->Int} {bp':Nat->Nat}:∀ {l:List At} {cs:List Ck} {m:List At} {vs:List Value},LsOk C σ' bp' R w l vs->intoL l cs=some m->LsOk C σ' bp' R w m vs/\(∀ v∈vs,v.oneCell'=true)/\l.length=cs.length/\m.length=l.length
 | [],[],m,[],_,e=>by cases e;exact ⟨trivial,by simp,rfl,rfl⟩
 | [],[],m,_::_,h,e=>h.elim
 | [],_::_,m,vs,h,e=>by simp [intoL] at e
 | _::_,[],m,vs,h,e=>by simp [intoL] at e
 | _::_,_::_,m,[],h,e=>h.elim
 | x::l,c::cs,m,v::vs,h,e=>by
  simp only [intoL] at e;split at e
  ·rename_i y m' e1 e2;cases e;obtain ⟨a1,a2,a3⟩:=intoC_ok h.1 e1;obtain ⟨b1,b2,b3,b4⟩:=intoL_ok h.2 e2;refine ⟨⟨a1,b1⟩,fun u hu=>?_,by simp [b3],by simp [b4]⟩
   rcases List.mem_cons.1 hu with rfl | hu
   ·exact (h.1.cells a2).2
   ·exact b2 u hu
  ·cases e
theorem into_ok {σ':Nat->Int} {bp':Nat->Nat} (h:St C w0 σ' bp' R s a w) (hW:∀ x∈W,x.1.ev σ'=x.2) {x:Operand} {l m:List At} {cs:List Ck} (he:evC W s x=some l) (e:intoL l cs=some m) :
  LsOk C σ' bp' R w m (a.eval x).cells.toList/\(∀ v∈(a.eval x).cells.toList,v.oneCell'=true)/\l.length=cs.length/\m.length=l.length:=by
 rcases evC_sound h hW he with h1 | ⟨y,rfl,h1⟩
 ·exact intoL_ok h1 e
 ·have hy:solid y=true:=by
   cases cs with
   | nil=>simp [intoL] at e
   | cons c r =>
    simp only [intoL] at e;split at e
    ·rename_i y' m' e1 e2;exact (intoC_ok h1 e1).2.1
    ·cases e
  rw [(h1.cells hy).1];exact intoL_ok (show LsOk C σ' bp' R w [y] [a.eval x] from ⟨h1,trivial⟩) e
theorem op_box (hG:Good C E) (hB:C.B<=w0.heap.size) (h:Stt C w0 R0 σ bp R s a w) (hW:Lits s.n σ W) {t:Nat} {x:Operand} (hop:o.op = .box t x) (hx:opx E W s o.op=some (ov,s')):Does C.P ((execOp a.eval o).run C.P w) (Outs C w0 R0 R w (tgt W s o.op) σ bp s s' a ov):=by
 rw [hop] at hx;simp only [opx,Option.bind_eq_some_iff,Option.map_eq_some_iff] at hx;obtain ⟨T,hT,l,hl,m,hm,hx⟩:=hx;cases hx
 have run:(execOp a.eval o).run C.P w = .ok (.value (.pointer (some ⟨w.heap.size,0,none⟩))) (w.alloc (.cells (a.eval x).cells t)):=by
  simp only [execOp,hop,Instr.box,Sem.run_bind,run_newVar,Result.andThen_ok,Sem.run_pure]
 rw [run];refine ⟨σ,updb bp s.bx.length w.heap.size,R,zaa _ _,Nat.le_refl _,updb_agb _ _ _,by simp,alloc_stt hG hB h (fun σ' bp' q1 q2=>(into_ok (h.st σ' bp' q1 q2) (hW σ' q1) hl hm).1),fun y hy σ' bp' q1 q2=>?_,fr_alloc h.sw.hp _⟩
 cases hy;show _=Value.pointer (some ⟨bp' s.bx.length,0,none⟩);rw [q2 _ (by simp),updb_at]
theorem zij {α:Type}:∀ (l:List α) (i:Nat) (x:α),setN l i x=l.set i x
 | [],i,x=>by simp [setN]
 | y::l,0,x=>by simp [setN]
 | y::l,i+1,x=>by simp [setN,zij l i x]
theorem lay_eq {α:Type}:∀ (r l:List α) (o:Nat),o+r.length<=l.length->lay l o r=l.take o++r++l.drop (o+r.length)
 | [],l,o,_=>by simp [lay]
 | y::r,l,o,h=>by
  simp only [List.length_cons] at h;unfold lay;rw [lay_eq r _ (o+1) (by rw [zij,List.length_set];omega),zij]
  have h1:(l.set o y).take (o+1)=l.take o++[y]:=by
   rw [List.take_add_one,List.take_set_of_le (Nat.le_refl _),List.getElem?_set_self (by omega)]
   simp
  have h2:(l.set o y).drop (o+1+r.length)=l.drop (o+(r.length+1)):=by
   rw [List.drop_set_of_lt (by omega)]
   congr 1;omega
  rw [h1,h2]
  simp
theorem LsOk.append {σ':Nat->Int} {bp':Nat->Nat}:∀ {l r:List At} {us vs:List Value},LsOk C σ' bp' R w l us->LsOk C σ' bp' R w r vs->LsOk C σ' bp' R w (l++r) (us++vs)
 | [],r,[],vs,_,k=>by simpa using k
 | [],r,_::_,vs,h,_=>h.elim
 | _::_,r,[],vs,h,_=>h.elim
 | x::l,r,u::us,vs,h,k=>⟨h.1,LsOk.append h.2 k⟩
end
end Go.Proofs.YtckfjploafhenaaGreat.Ai
namespace Go.Proofs.YtckfjploafhenaaGreat.Ai
open Go.RowKit
section
variable {C:Cx} {E:Env} {w0:World} {R0:Nat->Prop} {σ:Nat->Int} {bp:Nat->Nat} {R:Nat->Prop} {s s':AS} {a:Act} {w w':World} {W:List (BE×Bool)} {o:Oper} {ov:Option AV} {tg:Option Nat}
theorem BxOk.of {σ':Nat->Int} {bp':Nat->Nat}:∀ {l:List (Nat×List At)} {j:Nat},(∀ i c,Ai.nth l i=some c->∃ arr,w.heap[bp' (j+i)]?=some (.cells arr c.1 (0,0))/\LsOk C σ' bp' R w c.2 arr.toList)->BxOk C σ' bp' R w j l
 | [],j,_=>trivial
 | c::l,j,h=>⟨h 0 c rfl,BxOk.of fun i d hd=>by
  have:=h (i+1) d hd
  rwa [show j+(i+1)=j+1+i by omega] at this⟩
theorem nth_set {α:Type} (l:List α) (i j:Nat) (x:α):Ai.nth (setN l i x) j=if i=j then (if i < l.length then some x else none) else Ai.nth l j:=by
 rw [zbv,zij,List.getElem?_set,zbv]
theorem store_stt (hG:Good C E) (hB:C.B<=w0.heap.size) (h:Stt C w0 R0 σ bp R s a w) {b:Nat} {c:Nat×List At} (hb:nth s.bx b=some c) {arr:Array Value} (he:w.heap[bp b]?=some (.cells arr c.1 (0,0))) {p:Nat} {m:List At} {vs:List Value}
  (hm:∀ σ' bp',Agr s.n σ' σ->Agb s.bx.length bp' bp->LsOk C σ' bp' R w m vs) (hl:p+m.length<=c.2.length) :
  Stt C w0 R0 σ bp R { s with bx:=setN s.bx b (c.1,lay c.2 p m) } a (w.setRow (bp b) (arr.toList.take p++vs++arr.toList.drop (p+vs.length)).toArray):=by
 have hbl:=nth_lt hb;have own:=h.sw.own b hbl
 have k:Own C R w0 w (w.setRow (bp b) (arr.toList.take p++vs++arr.toList.drop (p+vs.length)).toArray):=by
  refine ⟨rfl,rfl,rfl,by simp,fun g hg hc=>setRow_other w _ _ _ fun e=>?_⟩
  rcases hc with hc | hc | hc
  ·exact own.2.1 (by rw [<-e];exact hc)
  ·omega
  ·exact own.2.2 (by rw [<-e];exact hc)
 have kg:=k.gr fun g hg=>h.sw.hp.lt hg
 have hlen:(setN s.bx b (c.1,lay c.2 p m)).length=s.bx.length:=by rw [zij,List.length_set]
 refine ⟨fun σ' bp' q1 q2=>?_, ?_⟩
 ·have q3:Agb s.bx.length bp' bp:=fun i hi=>q2 i (by rw [hlen];exact hi)
  have st:=h.st σ' bp' q1 q3;refine ⟨st.tm.gr kg fun _=>rfl,BxOk.of fun i d hd=>?_,⟨st.fs.fa,st.fs.lt,st.fs.cf⟩⟩
  rw [Nat.zero_add];rw [nth_set] at hd;by_cases hi:b=i
  ·subst hi;rw [if_pos rfl,if_pos hbl] at hd;cases hd;rw [q3 b hbl];refine ⟨_,setRow_heap w _ _ _ _ _ he, ?_⟩;have ml:=zc8 (hm σ' bp' q1 q3);obtain ⟨arr',e1,e2⟩:=st.bx.nth hb;rw [Nat.zero_add,q3 b hbl,he] at e1;simp only [Option.some.injEq,Obj.cells.injEq,and_true,true_and] at e1;subst e1;rw [lay_eq m c.2 p hl];rw [ml];show LsOk _ _ _ _ _ _ _;exact (((e2.take p).append (hm σ' bp' q1 q3)).append (e2.drop _)).gr kg fun _=>rfl
  ·rw [if_neg hi] at hd;obtain ⟨arr',e1,e2⟩:=st.bx.nth hd;rw [Nat.zero_add] at e1;have hil:=nth_lt hd;refine ⟨arr', ?_,e2.gr kg fun _=>rfl⟩
   rw [setRow_other w _ _ _ (fun e=>hi ?_)]
   ·exact e1
   ·rw [q3 i hil] at e;exact (h.sw.inj i b hil hbl e).symm
 ·have sw:=h.sw;exact ⟨k.hp hG hB sw.hp,k.gw sw.hp sw.gw,fun i hi=>sw.own i (by rw [<-hlen];exact hi),fun i j hi hj=>sw.inj i j (by rw [<-hlen];exact hi) (by rw [<-hlen];exact hj),sw.df,sw.r0⟩
theorem zd8 {P:Program} (g o:Nat) (t:TypeId) (fz:Nat×Nat):∀ (vs:List Value) (i:Nat) (cur:Array Value) (w:World),w.heap[g]?=some (.cells cur t fz)->(fz=(0,0)\/cur.size<=fz.1)->o+i+vs.length<=cur.size->(∀ v∈vs,v.oneCell'=true) ->
  (storeCells ⟨g,o,none⟩ vs i).run P w = .ok () (w.setRow g (cur.toList.take (o+i)++vs++cur.toList.drop (o+i+vs.length)).toArray)
 | [],i,cur,w,hg,_,_,_=>by
  simp only [storeCells,List.append_nil,List.length_nil,Nat.add_zero,List.take_append_drop,Array.toArray_toList];rw [setRow_self w g cur t fz hg];rfl
 | v::rest,i,cur,w,hg,hf,hl,h1=>by
  have hi:o+i < cur.size:=by simp at hl;omega
  have hadd:(⟨g,o,none⟩:Addr).add i=⟨g,o+i,none⟩:=by unfold Addr.add;split <;> simp_all
  have hcell:w.cell? ⟨g,o+i,none⟩=some cur[o+i]:=by simp [World.cell?,hg,hi]
  have hfro:w.frozen? ⟨g,o+i,none⟩=false:=by
   obtain ⟨lo,hi'⟩:=fz;simp only [World.frozen?,hg];rcases hf with hf | hf
   ·simp only [Prod.mk.injEq] at hf;rw [hf.1,hf.2];simp
   ·simp only at hf;rw [Bool.and_eq_false_iff];left
    simp;omega
  have hst:(store ((⟨g,o,none⟩:Addr).add i) v).run P w = .ok () (w.setRow g (cur.setIfInBounds (o+i) v)):=by
   rw [hadd,run_store P w _ v _ (h1 v (by simp)),hcell]
   simp [hfro,setCell_eq_setRow w g (o+i) cur t fz v hg]
  have ih:=zd8 (P:=P) g o t fz rest (i+1) (cur.setIfInBounds (o+i) v) (w.setRow g (cur.setIfInBounds (o+i) v)) (setRow_heap w g cur _ t _ hg) (by simpa using hf) (by simp at hl ⊢;omega) (fun x hx=>h1 x (by simp [hx]))
  simp only [storeCells,Sem.run_bind,hst,Result.andThen_ok,ih,setRow_setRow];congr 3;have e1:(cur.setIfInBounds (o+i) v).toList=cur.toList.set (o+i) v:=by simp
  rw [e1]
  have h3:(cur.toList.set (o+i) v).take (o+(i+1))=cur.toList.take (o+i)++[v]:=by
   rw [show o+(i+1)=(o+i)+1 by omega,List.take_add_one,List.take_set_of_le (Nat.le_refl _),List.getElem?_set_self (by rw [Array.length_toList];exact hi)]
   simp
  have h4:(cur.toList.set (o+i) v).drop (o+(i+1)+rest.length)=cur.toList.drop (o+i+(v::rest).length):=by
   rw [List.drop_set_of_lt (by omega)]
   congr 1;simp only [List.length_cons];omega
  rw [h3,h4]
  simp
theorem run_storeAt {P:Program} {t n g p:Nat} {v:Value} {cur:Array Value} {T:Nat} {fz:Nat×Nat} (hs:(P.info? t).map (·.size)=some n) (hv:v.cells.size=n) (hg:w.heap[g]?=some (.cells cur T fz)) (hf:fz=(0,0)\/cur.size<=fz.1) (hl:p+n<=cur.size) (h1:∀ u∈v.cells.toList,u.oneCell'=true) :
  (Instr.storeAt t (.pointer (some ⟨g,p,none⟩)) v).run P w = .ok () (w.setRow g (cur.toList.take p++v.cells.toList++cur.toList.drop (p+v.cells.toList.length)).toArray):=by
 have key:=zd8 (P:=P) g p T fz v.cells.toList 0 cur w hg hf (by rw [Array.length_toList];omega) h1
 rw [Nat.add_zero] at key;simp only [Instr.storeAt,Instr.sureAddr,storeVar,Sem.run_bind,Sem.run_pure,Result.andThen_ok,zdb hs,hv,ne_eq,not_true_eq_false,if_false,key]
theorem op_store_box (hG:Good C E) (hB:C.B<=w0.heap.size) (h:Stt C w0 R0 σ bp R s a w) (hW:Lits s.n σ W) {t:Nat} {x y:Operand} (hop:o.op = .store t x y) {b p:Nat} (hv:ev1 W s x=some (.ptr b p)) (hx:opx E W s o.op=some (ov,s')):Does C.P ((execOp a.eval o).run C.P w) (Outs C w0 R0 R w (tgt W s o.op) σ bp s s' a ov):=by
 rw [hop] at hx;simp only [opx,Option.bind_eq_some_iff] at hx;obtain ⟨T,hT,l,hl,hx⟩:=hx;have ok:=hG.of hT;rw [hv] at hx;cases hlen:Nat.beq l.length T.cells.length <;> rw [hlen] at hx
 ·cases hx
 ·simp only [cond_true,Option.bind_eq_some_iff] at hx;obtain ⟨c,hc,U,hU,m,hm,hx⟩:=hx;cases hble:Nat.ble (p+T.cells.length) c.2.length <;> rw [hble] at hx
  ·cases hx
  cases hx;have hble:=Nat.le_of_ble_eq_true hble;have hlen:=Nat.eq_of_beq_eq_true hlen;obtain ⟨arr,he,hls⟩:=box_cells h hc;have io:=fun σ' bp' (q1:Agr s.n σ' σ) (q2:Agb s.bx.length bp' bp)=>into_ok (h.st σ' bp' q1 q2) (hW σ' q1) hl hm
  obtain ⟨i1,i2,i3,i4⟩:=io σ bp (zaa _ _) (zai _ _);have hcl:=zc8 (hls σ bp (zaa _ _) (zai _ _));have hml:=zc8 i1;have hin:p+m.length<=c.2.length:=by omega
  have hp:=zau h.here (hW σ (zaa _ _)) hv;have hst:=run_storeAt (w:=w) (g:=bp b) (p:=p) (n:=T.cells.length) ok.size (v:=a.eval y) (by rw [<-Array.length_toList];omega) he (.inl rfl) (by rw [Array.length_toList] at hcl;omega) i2
  have run:(execOp a.eval o).run C.P w = .ok .skip (w.setRow (bp b) (arr.toList.take p++(a.eval y).cells.toList++arr.toList.drop (p+(a.eval y).cells.toList.length)).toArray):=by
   simp only [execOp,hop,show a.eval x=_ from hp,Sem.run_bind,hst,Result.andThen_ok,Sem.run_pure]
  rw [run];refine ⟨σ,bp,R,zaa _ _,Nat.le_refl _,zai _ _,by simp [zij],store_stt hG hB h hc he (fun σ' bp' q1 q2=>(io σ' bp' q1 q2).1) hin,fun y hy=>(by cases hy), ?_⟩
  have ht:tgt W s o.op=some b:=by rw [hop];simp only [tgt,hv]
  refine ⟨by rw [size_setRow];exact Nat.le_refl _,⟨fun _ h=>h,fun g hg cs T fz e=>⟨cs,fz, ?_,rfl⟩⟩,fun _ _=>Iff.rfl,fun g _ _ _ hg=>setRow_other w _ _ _ (hg b ht)⟩
  rw [setRow_other w _ _ _ fun e2=>(h.sw.own b (nth_lt hc)).2.1 (by rw [<-e2];exact hg)]
  exact e
end
end Go.Proofs.YtckfjploafhenaaGreat.Ai
