/- The interpreter's operations are sound: append, whole. -/
import Derived.Test.YtikelfmmldafpaaGreatPk25
namespace Go.Proofs.YtikelfmmldafpaaGreat.Ai
open Go.RowKit
set_option linter.unusedVariables false
set_option linter.unusedSimpArgs false
section
variable {C:Cx} {E:Env} {w0:World} {R0:Nat→Prop} {σ:Nat→Int} {bp:Nat→Nat} {R:Nat→Prop} {s s':AS} {a:Act} {w w':World} {W:List (BE×Bool)} {o:Oper} {ov:Option AV} {tg:Option Nat}
theorem zero_tydL (hG:Good C E) (hf:∀ f∈s.fa,0≤f.ev σ) {T:Nat} {V:Ty} (hV:look T E.tb=some V) {d:Nat} (hz:fitL d s (V.cells.map zeroC) V.rk=true) (n:Nat):TydL C R w T (Builtin.zeroCells (V.cells.map zeroV).toArray n).toList:=by
 have h:=zeros_tyd (C:=C) (E:=E) (R:=R) (w:=w) hG hf hV hz (n * (V.cells.map zeroV).toArray.size)
 intro j v hj
 rw [Array.getElem?_toList] at hj
 exact h j v hj
theorem append_out (hG:Good C E) (hB:C.B≤w0.heap.size) (h:Stt C w0 R0 σ bp R s a w) {t u T:Nat} {ty:TypeId} {V:Ty} {b:Option Addr} {m c k:Nat} {x:Value} {l:List Value} {e:Lin} (h1:slT E t T=true) (hV:look T E.tb=some V) (hz:fitL (dz E) s (V.cells.map zeroC) V.rk=true)
  (hb:(b=none∧c=0)∨∃ g q,b=some ⟨g,q * sz C T,none⟩∧RowAt R w T g ((q+c) * sz C T)) (hm:m≤c) (hl:TydL C R w T l) (hs:Src C.P (sz C T) u x k l w) (hk:((m+k:Nat):Int)≤LIM) (he:∀ σ',Agr s.n σ' σ→e.ev σ'=((m+k:Nat):Int)) :
  ∃ v w',(Builtin.append_ #[t,u] ty #[.slice b m c,x]).run C.P w = .ok v w'∧Outs C w0 R0 R w tg σ bp s s a (some (one (.sl T e))) v w':=by
 obtain ⟨u1,u2,u3,_⟩:=slT_ok hG h1
 obtain ⟨er,es⟩:=rks_of hG hV
 have ok:=hG.of hV
 obtain ⟨i,hi⟩:∃ i,C.P.info? T=some i:=by
  cases hq:C.P.info? T with
  | none=>rw [hq] at u2;cases u2
  | some i=>exact ⟨i,rfl⟩
 have hisz:i.size=sz C T:=by rw [hi] at u2;simpa using u2
 obtain ⟨z,z1,z2⟩:=ok.zero
 rw [hi] at z1
 simp only [Option.bind_some] at z1
 rw [←hisz] at hs
 have hL:LIM=1048576:=rfl
 by_cases hr:m+k≤c
 ·rcases hb with ⟨rfl,rfl⟩ | ⟨g,q,rfl,hR,cs,fz,r1,r2⟩
  ·obtain ⟨rfl,rfl⟩:m=0∧k=0:=by omega
   refine ⟨.slice none 0 0,w, ?_,out_pure h fun σ' bp' q1 q2=>⟨none,0,0,rfl,by rw [he σ' q1],by decide,Nat.le_refl _, .inl ⟨rfl,rfl⟩⟩⟩
   rcases hs.kind with ⟨e',hk⟩ | hk <;> simp [Builtin.append_,run_underlying u1,run_underlying hk,sizeOf,typeInfo,hi,hs.len,hs.cells]
  ·obtain ⟨_,_,cs',T',fz',r3,h0,hfz,_,hcc⟩:=h.sw.hp.rows g hR
   rw [r1] at r3
   simp only [Option.some.injEq,Obj.cells.injEq] at r3
   obtain ⟨rfl,rfl,rfl⟩:=r3
   have hnl:=hs.newsLen
   rw [hisz] at hnl
   have e1:(q+c) * sz C T=q * sz C T+c * sz C T:=Nat.add_mul _ _ _
   have e2:(m+k) * sz C T≤c * sz C T:=Nat.mul_le_mul_right _ hr
   have e3:(m+k) * sz C T=m * sz C T+k * sz C T:=Nat.add_mul _ _ _
   have hle:q * sz C T+m * i.size+l.length≤cs.size:=by rw [hisz];omega
   refine ⟨_,_,run_app_room (q:=q * sz C T) u1 hi hs hr r1 hfz hle, ?_⟩
   have e4:q * sz C T+m * i.size=(q+m) * sz C T:=by rw [hisz,Nat.add_mul]
   have hty:∀ (j:Nat) (v:Value),(cs.toList.take (q * sz C T+m * i.size)++l++cs.toList.drop (q * sz C T+m * i.size+l.length)).toArray[j]?=some v→∃ ck,nth (rks C T) (j % sz C T)=some ck∧CkOk C R w ck v:=by
    intro j v hj
    rw [List.getElem?_toArray] at hj
    have hold:TydL C R w T cs.toList:=fun j v hj=>hcc j v (by rw [Array.getElem?_toList] at hj;exact hj)
    have t1:TydL C R w T (cs.toList.take (q * sz C T+m * i.size)):=fun j v hj=>by
     rw [List.getElem?_take] at hj
     split at hj
     ·exact hold j v hj
     ·cases hj
    have l1:(cs.toList.take (q * sz C T+m * i.size)).length=(q+m) * sz C T:=by rw [List.length_take,Array.length_toList,e4];omega
    have t2:=t1.append hl l1
    by_cases hj2:j < (cs.toList.take (q * sz C T+m * i.size)++l).length
    ·rw [List.getElem?_append_left hj2] at hj
     exact t2 j v hj
    ·rw [List.getElem?_append_right (by omega),List.getElem?_drop,List.length_append,l1] at hj
     rw [List.length_append,l1] at hj2
     refine hold j v ?_
     rw [e4] at hj
     rw [show (q+m) * sz C T+l.length+(j - ((q+m) * sz C T+l.length))=j by omega] at hj
     exact hj
   obtain ⟨st,kg⟩:=row_turn hG hB h hR r1 (cs':=(cs.toList.take (q * sz C T+m * i.size)++l++cs.toList.drop (q * sz C T+m * i.size+l.length)).toArray) (by rw [List.size_toArray,List.length_append,List.length_append,List.length_take,List.length_drop,Array.length_toList];omega) hty
   refine ⟨σ,bp,R,agr_refl _ _,Nat.le_refl _,agb_refl _ _,Nat.le_refl _,st,fun y hy σ' bp' q1 q2=>?_,fr_row hR kg⟩
   cases hy
   exact ⟨_,m+k,c,rfl,he σ' q1,hk,hr, .inr ⟨g,q,rfl,RowAt.gr ⟨hR,cs,fz,r1,r2⟩ kg⟩⟩
 ·obtain ⟨ol,o1,o2,o3,o4⟩:=sl_cells h.sw.hp hb hm
  have hbytes:=ok.bytes i hi
  have hnx:=next_le (m+k) c (by omega) (by omega)
  have hfit:Builtin.nextslicecap (m+k) c * i.bytes≤281474976710656:=by
   have:Builtin.nextslicecap (m+k) c * i.bytes≤33554432 * 65536:=Nat.mul_le_mul hnx hbytes
   omega
  have run:=run_append_grow_src (P:=C.P) (w:=w) t u ty T i z u1 hi z1 b m c ol (by rw [hisz];exact o4 C.P w.drew fun _ _=>rfl) x k l hs (by omega) (by omega) hfit
  refine ⟨_,_,run, ?_⟩
  have hcap:m+k≤grownCap w (m+k) c T:=by unfold grownCap;simp only [Question.cut];omega
  have hsz:((ol++l).toArray++Builtin.zeroCells z.cells (grownCap w (m+k) c T - (m+k))).size=grownCap w (m+k) c T * sz C T:=by
   have hnl:=hs.newsLen
   rw [hisz] at hnl
   have hzs:z.cells.size=sz C T:=by rw [z2,List.size_toArray,List.length_map,es,ok.rk.1]
   rw [Array.size_append,List.size_toArray,List.length_append,o1,hnl]
   unfold Builtin.zeroCells
   rw [Array.size_map,Array.size_range,hzs,←Nat.add_mul,←Nat.add_mul]
   congr 1
   omega
  have hcapN:grownCap w (m+k) c T≤9223372036854775807:=by
   unfold grownCap
   simp only [Question.cut]
   have:=Nat.mod_lt (w.tape w.drawn (.appendCap (m+k) c T)) (show 0 < 2 ^ 63 - (m+k) by omega)
   omega
  refine newsl_out hG hB h (w':=w.drew.alloc _) ⟨rfl,rfl,rfl,rfl⟩ u3 (.inl rfl) hsz hcapN ?_ hcap he hk
  intro j v hj
  have hzt:=zero_tydL (C:=C) (E:=E) (R:=R) (w:=w) hG h.here.fs.fa hV hz (grownCap w (m+k) c T - (m+k))
  have t1:=(o2.append hl o1).append (k:=m+k) hzt (by
   have hnl:=hs.newsLen
   rw [hisz] at hnl
   rw [List.length_append,o1,hnl,Nat.add_mul])
  refine t1 j v ?_
  rw [←Array.getElem?_toList,Array.toList_append,z2] at hj
  exact hj
theorem op_append (hG:Good C E) (hB:C.B≤w0.heap.size) (h:Stt C w0 R0 σ bp R s a w) (hW:Lits s.n σ W) {as:Array Operand} {ts:Array TypeId} (hop:o.op = .call { callee := .builtin .append,args:=as,argTypes:=ts }) (hx:opx E W s o.op=some (ov,s')):Does C.P ((execOp a.eval o).run C.P w) (Outs C w0 R0 R w (tgt W s o.op) σ bp s s' a ov):=by
 rw [hop] at hx
 simp only [opx] at hx
 split at hx
 ·rename_i x y t u ha ht
  obtain rfl:as=#[x,y]:=by cases as;simp_all
  obtain rfl:ts=#[t,u]:=by cases ts;simp_all
  simp only [Option.bind_eq_some_iff] at hx
  obtain ⟨T,hT,V,hV,hx⟩:=hx
  split at hx
  ·rename_i X Y hX hY
   split at hx
   ·rename_i n k hn hk
    cases hc:(slT E t T.el && ent s.fa (dz E) ((cst LIM).sub (n.add k)) && fitL (dz E) s (V.cells.map zeroC) V.rk) <;> rw [hc] at hx
    ·cases hx
    ·cases hx
     simp only [Bool.and_eq_true] at hc
     obtain ⟨⟨c1,c2⟩,c3⟩:=hc
     have vX:=fun σ' bp' (q1:Agr s.n σ' σ) (q2:Agb s.bx.length bp' bp)=>ev1_sound (h.st σ' bp' q1 q2) (hW σ' q1) hX
     have vY:=fun σ' bp' (q1:Agr s.n σ' σ) (q2:Agb s.bx.length bp' bp)=>ev1_sound (h.st σ' bp' q1 q2) (hW σ' q1) hY
     have hlim:=ents h c2 σ (agr_refl _ _)
     rw [ev_sub,ev_cst,ev_add] at hlim
     have base:∃ b m c,a.eval x = .slice b m c∧m≤c∧((b=none∧c=0)∨∃ g q,b=some ⟨g,q * sz C T.el,none⟩∧RowAt R w T.el g ((q+c) * sz C T.el))∧∀ σ',Agr s.n σ' σ→n.ev σ'=(m:Int):=by
      cases X with
      | sl T1 e1 =>
       dsimp only at hn
       cases hq:Nat.beq T1 T.el <;> rw [hq] at hn
       ·cases hn
       ·cases hn
        have:=Nat.eq_of_beq_eq_true hq
        subst this
        obtain ⟨b,m,c,x1,x2,x3,x4,x5⟩:=vX σ bp (agr_refl _ _) (agb_refl _ _)
        refine ⟨b,m,c,x1,x4,x5,fun σ' q=>?_⟩
        obtain ⟨b',m',c',y1,y2,_⟩:=vX σ' bp q (agb_refl _ _)
        rw [x1] at y1
        simp only [Value.slice.injEq] at y1
        rw [y2,y1.2.1]
      | nil =>
       cases hn
       have x1:a.eval x = .slice none 0 0:=vX σ bp (agr_refl _ _) (agb_refl _ _)
       exact ⟨none,0,0,x1,Nat.le_refl _, .inl ⟨rfl,rfl⟩,fun σ' _=>ev_cst σ' 0⟩
      | _=>cases hn
     have src:∃ l kk,TydL C R w T.el l∧Src C.P (sz C T.el) u (a.eval y) kk l w∧∀ σ',Agr s.n σ' σ→k.ev σ'=(kk:Int):=by
      cases Y with
      | sl T1 e1 =>
       dsimp only at hk
       cases hq:(Nat.beq T1 T.el && slT E u T.el) <;> rw [hq] at hk
       ·cases hk
       ·cases hk
        rw [Bool.and_eq_true] at hq
        have:=Nat.eq_of_beq_eq_true hq.1
        subst this
        obtain ⟨b,m,c,x1,x2,x3,x4,x5⟩:=vY σ bp (agr_refl _ _) (agb_refl _ _)
        obtain ⟨l,l1,l2⟩:=src_sl hG h.sw.hp hq.2 x5 x4
        refine ⟨l,m,l1,by rw [x1];exact l2,fun σ' q=>?_⟩
        obtain ⟨b',m',c',y1,y2,_⟩:=vY σ' bp q (agb_refl _ _)
        rw [x1] at y1
        simp only [Value.slice.injEq] at y1
        rw [y2,y1.2.1]
      | str e1 =>
       dsimp only at hk
       cases hq:(isStr E u && isU8 E T.el) <;> rw [hq] at hk
       ·cases hk
       ·cases hk
        rw [Bool.and_eq_true] at hq
        obtain ⟨t',x1,x2,x3⟩:=vY σ bp (agr_refl _ _) (agb_refl _ _)
        obtain ⟨l,l1,l2⟩:=src_str (R:=R) (w:=w) hG hq.1 hq.2 t'
        refine ⟨l,t'.size,l1,by rw [x1];exact l2,fun σ' q=>?_⟩
        obtain ⟨t2,y1,y2,_⟩:=vY σ' bp q (agb_refl _ _)
        rw [x1] at y1
        simp only [Value.string.injEq] at y1
        rw [←y2,y1]
      | nil =>
       dsimp only at hk
       cases hq:slT E u T.el <;> rw [hq] at hk
       ·cases hk
       ·cases hk
        have x1:a.eval y = .slice none 0 0:=vY σ bp (agr_refl _ _) (agb_refl _ _)
        obtain ⟨l,l1,l2⟩:=src_sl hG h.sw.hp hq (b:=none) (m:=0) (c:=0) (.inl ⟨rfl,rfl⟩) (Nat.le_refl _)
        exact ⟨l,0,l1,by rw [x1];exact l2,fun σ' _=>ev_cst σ' 0⟩
      | _=>cases hk
     obtain ⟨b,m,c,b1,b2,b3,b4⟩:=base
     obtain ⟨l,kk,s1,s2,s3⟩:=src
     have e1:=b4 σ (agr_refl _ _)
     have e2:=s3 σ (agr_refl _ _)
     obtain ⟨v,w',r1,r2⟩:=append_out hG hB h (ty:=o.type) c1 hV c3 b3 b2 s1 s2 (e:=n.add k) (by omega) (fun σ' q=>by rw [ev_add,b4 σ' q,s3 σ' q];omega)
     have run:(execOp a.eval o).run C.P w = .ok (.value v) w':=by
      simp only [execOp,hop,resolve,invoke,builtin,List.map_toArray,List.map_cons,List.map_nil,b1,Sem.run_bind,Sem.run_pure,Result.andThen_ok]
      rw [r1]
      rfl
     rw [run]
     exact r2
   ·cases hx
  ·cases hx
 ·cases hx
end
end Go.Proofs.YtikelfmmldafpaaGreat.Ai
namespace Go.Proofs.YtikelfmmldafpaaGreat.Ai
open Go.RowKit
set_option linter.unusedVariables false
set_option linter.unusedSimpArgs false
def num:Value→Int
 | .int _ n=>n
 | .slice _ n _=>n
 | .string s=>s.size
 | .bool true=>1
 | _=>0
def CksOk (C:Cx) (R:Nat→Prop) (w:World):List Ck→List Value→Prop
 | [],[]=>True
 | c::l,v::r=>CkOk C R w c v∧CksOk C R w l r
 | _,_=>False
def ValOk (C:Cx) (R:Nat→Prop) (w:World) (c:Bool×List Ck) (v:Value):Prop:=match c.1 with
 | true=>∃ a,v = .agg a∧CksOk C R w c.2 a.toList
 | false=>CksOk C R w c.2 [v]
def ValsOk (C:Cx) (R:Nat→Prop) (w:World):List (Bool×List Ck)→List Value→Prop
 | [],[]=>True
 | c::l,v::r=>ValOk C R w c v∧ValsOk C R w l r
 | _,_=>False
def nums (vs:List Value):List Int:=vs.flatMap fun v=>v.cells.toList.map num
def ζ (l:List Int):Nat→Int:=fun i=>(l[i]?).getD 0
def Keeps (C:Cx) (f:Nat) (c:Ctr):Prop:=∀ (w:World) (R:Nat→Prop) (args:Array Value),Hp C R w→ValsOk C R w c.ins args.toList→(∀ p∈c.pre,0≤p.ev (ζ (nums args.toList))) →
 Calls C.P f args w fun e w'=>∃ (v:Value) (outs:List Value) (R':Nat→Prop),e = .returned v∧v=(match outs with | [u]=>u | l => .tuple l.toArray)∧Gw C R R' w w'∧Hp C R' w'∧ValsOk C R' w' c.outs outs ∧
  ∀ p∈c.post,(∀ q∈p.1,0≤q.ev (ζ (nums args.toList++nums outs)))→0≤p.2.ev (ζ (nums args.toList++nums outs))
section
variable {C:Cx} {E:Env} {w0:World} {R0:Nat→Prop} {σ:Nat→Int} {bp:Nat→Nat} {R R':Nat→Prop} {s s':AS} {a:Act} {w w':World} {W:List (BE×Bool)} {o:Oper} {ov:Option AV} {tg:Option Nat}
theorem turn_stt (h:Stt C w0 R0 σ bp R s a w) (g:Gw C R R' w w') (hp:Hp C R' w'):Stt C w0 R0 σ bp R' s a w'∧Gr R R' w w':=by
 have hlt:∀ q,R q→q < w.heap.size:=fun q hq=>h.sw.hp.lt hq
 have kg:=g.gr hlt
 refine ⟨⟨fun σ' bp' q1 q2=>?_,⟨hp,h.sw.gw.trans h.sw.r0 g,fun i hi=>?_,h.sw.inj,h.sw.df,h.sw.r0⟩⟩,kg⟩
 ·have st:=h.st σ' bp' q1 q2
  refine ⟨st.tm.gr kg fun _=>rfl,st.bx.gr kg (fun _=>rfl) fun i _ hi=>?_,st.fs⟩
  rw [Nat.zero_add] at hi
  rw [q2 i hi]
  obtain ⟨_,o2,o3⟩:=h.sw.own i hi
  exact g.keep _ (box_lt h hi) o2 o3
 ·obtain ⟨o1,o2,o3⟩:=h.sw.own i hi
  exact ⟨o1,fun hr=>o2 ((g.rows _ (box_lt h hi)).1 hr),o3⟩
end
end Go.Proofs.YtikelfmmldafpaaGreat.Ai
namespace Go.Proofs.YtikelfmmldafpaaGreat.Ai
open Go.RowKit
set_option linter.unusedVariables false
set_option linter.unusedSimpArgs false
def Sy.ev (σ:Nat→Int):Sy→Int
 | .lin e=>e.ev σ
 | .be b=>if b.ev σ=true then 1 else 0
theorem inst_ev {σ:Nat→Int} {l:List Sy} {z:List Int} (hl:l.map (Sy.ev σ)=z):∀ {t:List (Nat×Int)} {e:Lin},inst l t=some e→e.ev σ=tev (ζ z) t
 | [],e,h=>by cases h;exact ev_cst σ 0
 | (s,k)::r,e,h=>by
  have hs:∀ y,nth l s=some y→ζ z s=y.ev σ:=by
   intro y hy
   unfold ζ
   rw [←hl,List.getElem?_map,←nth_eq,hy]
   rfl
  simp only [inst] at h
  split at h
  ·rename_i e1 x h1 h2
   cases h
   rw [ev_add,ev_mul,inst_ev hl h2,tev,hs _ h1]
   rfl
  ·rename_i x h1 h2
   cases h
   rw [ev_plus,inst_ev hl h2,tev,hs _ h1]
   simp only [Sy.ev,BE.ev,if_true]
   omega
  ·rename_i x h1 h2
   cases h
   rw [inst_ev hl h2,tev,hs _ h1]
   simp [Sy.ev,BE.ev]
  ·cases h
theorem instL_ev {σ:Nat→Int} {l:List Sy} {z:List Int} (hl:l.map (Sy.ev σ)=z) {f e:Lin} (h:instL l f=some e):e.ev σ=f.ev (ζ z):=by
 unfold instL at h
 simp only [Option.map_eq_some_iff] at h
 obtain ⟨x,h1,rfl⟩:=h
 rw [ev_plus,inst_ev hl h1]
 unfold Lin.ev
 omega
section
variable {C:Cx} {E:Env} {w0:World} {R0:Nat→Prop} {σ:Nat→Int} {bp:Nat→Nat} {R:Nat→Prop} {s s':AS} {a:Act} {w w':World} {tg:Option Nat}
theorem symC_num {x:At} {v:Value} {c:Ck} {d:Nat} (h:AtOk C σ bp R w x v) (hf:fitC d s x c=true):(symC x).ev σ=num v:=by
 cases x with
 | num k e=>rw [h.1];rfl
 | be b =>
  rw [show v=_ from h]
  simp only [symC,Sy.ev]
  cases b.ev σ <;> rfl
 | str e=>obtain ⟨t,rfl,h2,_⟩:=h;exact h2.symm
 | sl T e=>obtain ⟨_,m,_,rfl,h2,_⟩:=h;exact h2
 | nil=>rw [show v=_ from h];exact ev_cst σ 0
 | cur=>rw [show v=_ from h];exact ev_cst σ 0
 | un=>cases c <;> simp [fitC] at hf
 | unk=>cases c <;> simp [fitC] at hf
 | ptr b o=>cases c <;> simp [fitC] at hf
 | row T o=>cases c <;> simp [fitC] at hf
end
end Go.Proofs.YtikelfmmldafpaaGreat.Ai
