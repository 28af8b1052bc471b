/- The interpreter's operations are sound: conversions. -/
import Derived.Test.YtckfjploafhenaaGreatPk5
import Derived.Laws.BytesString
set_option maxRecDepth 100000
set_option maxHeartbeats 16000000
set_option linter.unusedVariables false
set_option linter.unusedSimpArgs false
namespace Go.Proofs.YtckfjploafhenaaGreat.Ai
open Go.RowKit
section
variable {C:Cx} {E:Env} {w0:World} {R0:Nat->Prop} {σ:Nat->Int} {bp:Nat->Nat} {R:Nat->Prop} {s s':AS} {a:Act} {w w':World} {W:List (BE×Bool)} {o:Oper} {ov:Option AV} {tg:Option Nat}
theorem isU8_ok (hG:Good C E) {U:Nat} (h:isU8 E U=true):C.P.underlying U=some (.int .u8)/\rks C U=[.int .u8 0 255]/\sz C U=1:=by
 unfold isU8 at h;cases hV:look U E.tb with
 | none=>rw [hV] at h;cases h
 | some V =>
  rw [hV] at h;simp only [Bool.and_eq_true,Bool.not_eq_true'] at h;obtain ⟨⟨h1,h2⟩,h3⟩:=h;obtain ⟨c,d,e1,e2,e3,e4⟩:=(hG.of hV).pl h1;obtain ⟨er,es⟩:=rks_of hG hV;rw [e1] at h2
  have hd:d = .int .u8:=by
   cases c with
   | int k lo hi=>cases k <;> simp only [Bool.false_eq_true] at h2;exact e4
   | _=>simp at h2
  have hrk:V.rk=[.int .u8 0 255]:=by
   match hq:V.rk,h3 with
   | [.int .u8 x y],h3 =>
    simp only [Bool.and_eq_true] at h3;have z1:=(ze0 _).1 h3.1;have z2:=(ze0 _).1 h3.2;rw [show x=0 by omega,show y=255 by omega]
  exact ⟨by rw [e2,hd],by rw [er,hrk],by rw [es,hrk];rfl⟩
theorem push_modify {α:Type} (l:Array α) (x:α) (f:α->α):(l.push x).modify l.size f=l.push (f x):=by
 apply Array.ext_getElem?;intro i;rw [Array.getElem?_modify,Array.getElem?_push,Array.getElem?_push];by_cases h:i=l.size
 ·subst h
  simp
 ·rw [if_neg (fun e=>h e.symm),if_neg h,if_neg h]
theorem run_strBytes {P:Program} (w:World) (U:Nat) (t:ByteArray) (ht:t.size<=1048576):∃ cap w',(Conv.stringToBytes U t).run P w = .ok (.slice (some ⟨w.heap.size,0,none⟩) t.size cap) w'/\t.size<=cap/\cap<=9223372036854775807 /\
  New w w' (.cells (t.data.map (fun b=>Value.int .u8 b.toNat)++Array.replicate (cap - t.size) (.int .u8 0)) U (cap,cap+1)):=by
 have hcut:∀ x:Nat,t.size<=Question.cut (.appendCap t.size 0 U) x:=fun x=>by simp only [Question.cut];omega
 generalize hcap:Question.cut (.appendCap t.size 0 U) (w.tape w.drawn (.appendCap t.size 0 U))=cap at *;have hc:t.size<=cap:=by rw [<-hcap];exact hcut _
 have hc2:cap<=9223372036854775807:=by
  rw [<-hcap];simp only [Question.cut]
  have:=Nat.mod_lt (w.tape w.drawn (.appendCap t.size 0 U)) (show 0 < 2 ^ 63 - t.size by omega)
  omega
 have hsz:(t.data.map (fun b=>Value.int .u8 b.toNat)++Array.replicate (cap - t.size) (Value.int .u8 0)).size=cap:=by
  rw [Array.size_append,Array.size_map,Array.size_replicate]
  have:t.data.size=t.size:=rfl
  omega
 generalize harr:(t.data.map (fun b=>Value.int .u8 b.toNat)++Array.replicate (cap - t.size) (Value.int .u8 0))=arr at *
 refine ⟨cap,(({ w with drawn:=w.drawn+1 }:World).alloc (.cells arr U)).freeze ⟨w.heap.size,cap,none⟩ 1, ?_,hc,hc2, ?_⟩
 ·have hsh:(({ w with drawn:=w.drawn+1 }:World).alloc (.cells arr U)).shape? w.heap.size=some (U,cap):=by
   simp [World.shape?,World.alloc,hsz]
  simp only [Conv.stringToBytes,choose,bind,Sem.bind,Sem.run,Question.forced,Bool.false_eq_true,if_false,hcap,newRow,newObj,markStringish,shape,freeze,pure];rw [harr];have hsh':({ heap:=w.heap.push (Obj.cells arr U),tape:=w.tape,drawn:=w.drawn+1,os:=w.os,output:=w.output }:World).shape? w.heap.size=some (U,cap):=hsh;rw [hsh'];rfl
 ·refine ⟨rfl,rfl,rfl, ?_⟩;simp only [World.freeze,World.alloc];rw [if_neg (by omega)]
  rw [push_modify,harr];rfl
theorem byte_val (b:UInt8):∀ (R:Nat->Prop) (w:World),CkOk C R w (.int .u8 0 255) (.int .u8 b.toNat):=fun R w=>⟨_,rfl,by omega,by have:=b.toNat_lt;omega⟩
theorem ints_of:∀ {l:List Value},(∀ v∈l,∃ n,v = .int .u8 n)->∃ ns:List Int,l=ns.map (Value.int .u8)
 | [],_=>⟨[],rfl⟩
 | v::l,h=>by
  obtain ⟨n,rfl⟩:=h v List.mem_cons_self;obtain ⟨ns,rfl⟩:=ints_of fun u hu=>h u (List.mem_cons_of_mem _ hu)
  exact ⟨n::ns,rfl⟩
theorem push_size:∀ (ns:List Int) (s:ByteArray),(ns.foldl (fun (r:ByteArray) n=>r.push (UInt8.ofNat n.toNat)) s).size=s.size+ns.length
 | [],s=>rfl
 | n::ns,s=>by
  rw [List.foldl_cons,push_size ns,ByteArray.size_push,List.length_cons];omega
theorem op_convert (hG:Good C E) (hB:C.B<=w0.heap.size) (h:Stt C w0 R0 σ bp R s a w) (hW:Lits s.n σ W) {ta tb':Nat} {x:Operand} (hop:o.op = .convert ta tb' x) (hx:opx E W s o.op=some (ov,s')):Does C.P ((execOp a.eval o).run C.P w) (Outs C w0 R0 R w (tgt W s o.op) σ bp s s' a ov):=by
 rw [hop] at hx;simp only [opx] at hx;split at hx
 ·rename_i A T v hA hT hv;have okA:=hG.of hA;have okT:=hG.of hT;have vx:=fun σ' bp' (q1:Agr s.n σ' σ) (q2:Agb s.bx.length bp' bp)=>zau (h.st σ' bp' q1 q2) (hW σ' q1) hv
  have v0:=vx σ bp (zaa _ _) (zai _ _)
  have hag:(A.agg || T.agg)=false:=by
   cases hq:(A.agg || T.agg)
   ·rfl
   ·rw [hq] at hx;cases hx
  rw [hag] at hx;simp only [Bool.or_eq_false_iff] at hag;obtain ⟨n1,n2⟩:=hag;simp only [cond_false] at hx;obtain ⟨c,d,e1,e2,e3,e4⟩:=okA.pl n1;obtain ⟨c',d',f1,f2,f3,f4⟩:=okT.pl n2;split at hx
  ·rename_i U V e c1 c2;cases hc:(Nat.beq U V && isU8 E U) <;> rw [hc] at hx
   ·cases hx
   ·cases hx;rw [Bool.and_eq_true] at hc;have hUV:=Nat.eq_of_beq_eq_true hc.1;subst hUV;obtain ⟨b1,b2,b3⟩:=isU8_ok hG hc.2;rw [c1] at e1;rw [c2] at f1;cases e1;cases f1;simp only at e4 f4;subst f4;rw [e4.1] at e2;obtain ⟨b,m,c,x1,x2,x3,x4,x5⟩:=v0
    have hm:∀ σ',Agr s.n σ' σ->e.ev σ'=m:=fun σ' q=>by
     obtain ⟨b',m',c',y1,y2,_⟩:=vx σ' bp q (zai _ _);rw [x1] at y1;simp only [Value.slice.injEq] at y1;rw [y2,y1.2.1]
    have key:∃ t:ByteArray,(Conv.bytesToString (.slice b m c)).run C.P w = .ok (.string t) w/\t.size=m:=by
     rcases x5 with ⟨rfl,rfl⟩ | ⟨g,k,rfl,hr⟩
     ·exact ⟨.empty, rfl, by have : m = 0 := by omega
                             subst this;rfl⟩
     ·obtain ⟨hR,cs,fz,r1,r2⟩:=hr;obtain ⟨_,_,cs',T',fz',r3,h0,hfz,_,hcc⟩:=h.sw.hp.rows g hR;rw [r1] at r3;simp only [Option.some.injEq,Obj.cells.injEq] at r3;obtain ⟨rfl,rfl,rfl⟩:=r3;rw [b3,Nat.mul_one] at r2 ⊢;have hget:∀ j,j < m->((cs.toList.drop k).take m)[j]?=cs[k+j]?:=fun j hj=>by rw [List.getElem?_take,if_pos hj,List.getElem?_drop,Array.getElem?_toList]
      have hlen:((cs.toList.drop k).take m).length=m:=by rw [List.length_take,List.length_drop,Array.length_toList];omega
      obtain ⟨ns,hns⟩:=ints_of (l:=(cs.toList.drop k).take m) (fun v hv=>by
       obtain ⟨j,hj,hjv⟩:=List.getElem_of_mem hv;have hj2:j < m:=by omega
       have:cs[k+j]?=some v:=by rw [<-hget j hj2,List.getElem?_eq_getElem hj,hjv]
       obtain ⟨ck,q1,q2⟩:=hcc _ v this;rw [b2,b3,Nat.mod_one] at q1;cases q1;obtain ⟨n,q3,_⟩:=q2
       exact ⟨n,q3⟩)
      have hload:(loadCells ⟨g,k,none⟩ m).run C.P w = .ok (ns.map (Value.int .u8)).toArray w:=by
       have:=run_loadCells_list (P:=C.P) w ⟨g,k,none⟩ ((cs.toList.drop k).take m) (fun j v hj=>by
        have hj2:j < m:=by
         have:=(List.getElem?_eq_some_iff.1 hj).1
         omega
        rw [hget j hj2] at hj;rw [Addr.add_mid];simp only [World.cell?,r1,Option.isSome_none,Bool.false_eq_true,if_false]
        exact hj)
       rw [hlen,hns] at this;exact this
      refine ⟨_,run_bytesToString w ⟨g,k,none⟩ m c ns hload, ?_⟩;rw [push_size]
      have:ns.length=m:=by rw [<-hlen,hns,List.length_map]
      rw [this];exact Nat.zero_add _
    obtain ⟨t,k1,k2⟩:=key
    have run:(execOp a.eval o).run C.P w = .ok (.value (.string t)) w:=by
     cases b with
     | none=>simp only [execOp,hop,convert,Sem.run_bind,run_underlying e2,run_underlying f2,run_underlying b1,Result.andThen_ok,x1,k1,Sem.run_pure]
     | some p=>simp only [execOp,hop,convert,Sem.run_bind,run_underlying e2,run_underlying f2,run_underlying b1,Result.andThen_ok,x1,k1,Sem.run_pure]
    rw [run];exact zbd h fun σ' bp' q1 q2=>⟨t,rfl,by rw [hm σ' q1,k2],by rw [k2];exact x3⟩
  ·rename_i U e c1 c2;cases hc:isU8 E U <;> rw [hc] at hx
   ·cases hx
   ·cases hx;obtain ⟨b1,b2,b3⟩:=isU8_ok hG hc;rw [c1] at e1;rw [c2] at f1;cases e1;cases f1;simp only at e4 f4;subst e4;rw [f4.1] at f2;obtain ⟨t,x1,x2,x3⟩:=v0;have hL:LIM=1048576:=rfl;obtain ⟨cap,w',r1,r2,rN,r3⟩:=run_strBytes (P:=C.P) w U t (by omega)
    have run:(execOp a.eval o).run C.P w = .ok (.value (.slice (some ⟨w.heap.size,0,none⟩) t.size cap)) w':=by
     simp only [execOp,hop,convert,Sem.run_bind,run_underlying e2,run_underlying f2,run_underlying b1,Result.andThen_ok,x1,r1,Sem.run_pure]
    rw [run]
    have hsz:(t.data.map (fun b=>Value.int .u8 b.toNat)++Array.replicate (cap - t.size) (Value.int .u8 0)).size=cap:=by
     rw [Array.size_append,Array.size_map,Array.size_replicate]
     have:t.data.size=t.size:=rfl
     omega
    refine newsl_out hG hB h r3 (by rw [b3];omega) (.inr (by rw [hsz];exact Nat.le_refl _)) (by rw [hsz,b3,Nat.mul_one]) rN (fun j v hj=>?_) r2 (fun σ' q=>?_) x3
    ·rw [b2,b3,Nat.mod_one];refine ⟨_,rfl, ?_⟩;rw [Array.getElem?_append] at hj;split at hj
     ·rw [Array.getElem?_map] at hj;simp only [Option.map_eq_some_iff] at hj;obtain ⟨b,_,rfl⟩:=hj;exact byte_val b R w
     ·rw [Array.getElem?_replicate] at hj;split at hj
      ·cases hj;exact ⟨0,rfl,by omega,by omega⟩
      ·cases hj
    ·obtain ⟨t',y1,y2,_⟩:=vx σ' bp q (zai _ _);rw [x1] at y1;simp only [Value.string.injEq] at y1;rw [<-y2,<-y1]
  ·rename_i k1 l1 h1 j l2 h2 k e c1 c2;rw [c1] at e1;rw [c2] at f1;cases e1;cases f1;simp only at e4 f4;subst e4;subst f4;obtain ⟨v1,v2,v3⟩:=v0
   have run:(execOp a.eval o).run C.P w = .ok (.value (.int j (j.wrap (e.ev σ)))) w:=by
    simp only [execOp,hop,convert,Sem.run_bind,run_underlying e2,run_underlying f2,Result.andThen_ok,v1,Conv.intToInt,Sem.run_pure]
   rw [run]
   have he:∀ σ',Agr s.n σ' σ->e.ev σ'=e.ev σ:=fun σ' q=>by
    have:=(vx σ' bp q (zai _ _)).1
    rw [v1] at this;simp only [Value.int.injEq,true_and] at this;exact this.symm
   cases hk:keq k j <;> rw [hk] at hx
   ·simp only [cond_false] at hx;cases hj:keq j j <;> rw [hj] at hx
    ·cases hx
    ·cases hx;exact zgw h (zex hj).2 he
   ·cases hx;obtain ⟨rfl,hk2⟩:=zex hk;refine zbd h fun σ' bp' q1 q2=>?_
    refine ⟨by rw [wrap_id hk2 v2 v3,he σ' q1], ?_, ?_⟩ <;> rw [he σ' q1]
    ·exact v2
    ·exact v3
  ·cases hx
 ·cases hx
end
end Go.Proofs.YtckfjploafhenaaGreat.Ai
namespace Go.Proofs.YtckfjploafhenaaGreat.Ai
open Go.RowKit
section
variable {C:Cx} {E:Env} {w0:World} {R0:Nat->Prop} {σ:Nat->Int} {bp:Nat->Nat} {R:Nat->Prop} {s s':AS} {a:Act} {w w':World} {W:List (BE×Bool)} {o:Oper} {ov:Option AV} {tg:Option Nat}
def Tyd (C:Cx) (R:Nat->Prop) (w:World) (T:Nat) (cs:Array Value):Prop:=∀ (j:Nat) (v:Value),cs[j]?=some v->∃ c,nth (rks C T) (j % sz C T)=some c/\CkOk C R w c v
theorem zeros_tyd (hG:Good C E) (hf:∀ f∈s.fa,0<=f.ev σ) {T:Nat} {V:Ty} (hV:look T E.tb=some V) {d:Nat} (hz:fitL d s (V.cells.map zeroC) V.rk=true) (n:Nat):Tyd C R w T ((Array.range n).map fun i=>(V.cells.map zeroV).toArray[i % (V.cells.map zeroV).toArray.size]!):=by
 intro j v hj;have ok:=hG.of hV;obtain ⟨er,es⟩:=rks_of hG hV;have hs:(V.cells.map zeroV).toArray.size=sz C T:=by rw [List.size_toArray,List.length_map,es,ok.rk.1]
 have hpos:0 < sz C T:=by rw [es,ok.rk.1];exact ok.rk.2
 rw [Array.getElem?_map] at hj;simp only [Option.map_eq_some_iff] at hj;obtain ⟨i,hi,rfl⟩:=hj
 have hij:i=j:=by
  have h1:=Array.getElem?_eq_some_iff.1 hi;obtain ⟨h1,h2⟩:=h1;rw [Array.getElem_range] at h2;exact h2.symm
 subst hij;rw [hs];have hm:i % sz C T < sz C T:=Nat.mod_lt _ hpos;have hl:i % sz C T < V.rk.length:=by rw [<-es];exact hm
 refine ⟨V.rk[i % sz C T],by rw [er,zbv];simp [hl], ?_⟩
 refine zeros_ok (C:=C) (R:=R) (w:=w) hf ok.zr hz (i % sz C T) _ _ (by simp [hl]) ?_
 rw [List.getElem?_eq_getElem (by rw [List.length_map,<-ok.rk.1];exact hl)]
 congr 1;rw [getElem!_pos _ _ (by rw [hs];exact hm)]
 simp
theorem fill_row (hG:Good C E) (h:St C w0 σ bp R s a w) (hW:∀ x∈W,x.1.ev σ=x.2) {T:Nat} {V:Ty} (hV:look T E.tb=some V) {d n:Nat}:∀ {ps:List (Nat×Operand)} {cells:Array Value},rowParts W d s V.rk ps=true->partsIn n ps=true->Tyd C R w T cells->cells.size=n * sz C T ->
  ∃ r:Array Value,Instr.fill (fun i=>some (i * sz C T,sz C T)) cells (ps.map fun p=>(p.1,a.eval p.2))=some r/\Tyd C R w T r/\r.size=n * sz C T
 | [],cells,_,_,ht,hs=>⟨cells,rfl,ht,hs⟩
 | (i,x)::ps,cells,hp,hi,ht,hs=>by
  obtain ⟨er,es⟩:=rks_of hG hV;have ok:=hG.of hV;have hpos:0 < sz C T:=by rw [es,ok.rk.1];exact ok.rk.2
  simp only [rowParts,Bool.and_eq_true] at hp;simp only [partsIn,Bool.and_eq_true] at hi;have hin:i < n:=by have:=hi.1;rwa [Nat.blt_eq] at this
  cases hl:evC W s x with
  | none=>rw [hl] at hp;cases hp.1
  | some l =>
   rw [hl] at hp;obtain ⟨f1,f2,f3,f4⟩:=fits_ok h hW hl hp.1;have hsz:(a.eval x).cells.size=sz C T:=by rw [<-Array.length_toList,f2,es]
   have hmul:(i+1) * sz C T<=n * sz C T:=Nat.mul_le_mul_right _ hin;have hmul2:(i+1) * sz C T=i * sz C T+sz C T:=by rw [Nat.add_mul,Nat.one_mul]
   have hle:i * sz C T+(a.eval x).cells.toList.length<=cells.size:=by rw [Array.length_toList];omega
   have hfold:=fold_lay (a.eval x).cells.toList 0 (i * sz C T) cells (by omega)
   rw [Nat.add_zero,lay_eq _ _ _ (by rw [Array.length_toList];exact hle)] at hfold
   have hty:=lay_row (C:=C) (R:=R) (w:=w) (T:=T) (cs:=cells) (vs:=(a.eval x).cells.toList) (q:=i) (o:=0) hpos ht (by
    rw [er,Array.length_toList,hsz,es];unfold cut;rw [List.drop_zero,List.take_length]
    exact f1) (by rw [Array.length_toList];omega) (by rw [er,es]) (by omega)
   rw [Nat.add_zero] at hty
   obtain ⟨r,r1,r2,r3⟩:=fill_row hG h hW hV (cells:=((a.eval x).cells.toList.zipIdx 0).foldl (fun (cs:Array Value) (p:Value×Nat)=>cs.setIfInBounds (i * sz C T+p.2) p.1) cells) hp.2 hi.2 (by
    intro j v hj;refine hty j v ?_;rw [List.getElem?_toArray,<-hfold,Array.getElem?_toList]
    exact hj) (by
    rw [<-Array.length_toList,hfold,List.length_append,List.length_append,List.length_take,List.length_drop,Array.length_toList]
    omega)
   refine ⟨r, ?_,r2,r3⟩;simp only [List.map_cons,Instr.fill,hsz,ne_eq,not_true_eq_false,false_or,show ¬ (i * sz C T+sz C T > cells.size) by omega,if_false]
   rw [<-r1,<-Array.foldl_toList,Array.toList_zipIdx]
   simp
theorem op_buildSlice (hG:Good C E) (hB:C.B<=w0.heap.size) (h:Stt C w0 R0 σ bp R s a w) (hW:Lits s.n σ W) {t n:Nat} {ps:Array (Nat×Operand)} (hop:o.op = .buildSlice t n ps) (hx:opx E W s o.op=some (ov,s')):Does C.P ((execOp a.eval o).run C.P w) (Outs C w0 R0 R w (tgt W s o.op) σ bp s s' a ov):=by
 rw [hop] at hx;simp only [opx,Option.bind_eq_some_iff] at hx;obtain ⟨T,hT,V,hV,hx⟩:=hx;cases hc:(slT E t T.el && nn (LIM - n) && Nat.ble (n * V.cells.length) 16777216 && partsIn n ps.toList && rowParts W (dz E) s V.rk ps.toList && fitL (dz E) s (V.cells.map zeroC) V.rk) <;> rw [hc] at hx
 ·cases hx
 ·cases hx;simp only [Bool.and_eq_true] at hc;obtain ⟨⟨⟨⟨⟨c1,c2⟩,c3⟩,c4⟩,c5⟩,c6⟩:=hc;obtain ⟨u1,u2,u3,_⟩:=slT_ok hG c1;obtain ⟨er,es⟩:=rks_of hG hV;have ok:=hG.of hV;obtain ⟨z,z1,z2⟩:=ok.zero;have c2:=(zdv _).1 c2;have c3:=Nat.le_of_ble_eq_true c3;have h0:=h.here;have hW0:=hW σ (zaa _ _);have hzt:=zeros_tyd (C:=C) (E:=E) (R:=R) (w:=w) hG h0.fs.fa hV c6 (n * sz C T.el);obtain ⟨r,r1,r2,r3⟩:=fill_row hG h0 hW0 hV c5 c4 hzt (by rw [Array.size_map,Array.size_range])
  have hle:¬ (n * sz C T.el > 2 ^ 24):=by rw [es,ok.rk.1];omega
  have run:(execOp a.eval o).run C.P w = .ok (.value (.slice (some ⟨w.heap.size,0,none⟩) n n)) (w.alloc (.cells r T.el)):=by
   have hmap:(ps.map fun x=>(x.1,a.eval x.2)).toList=ps.toList.map fun p=>(p.1,a.eval p.2):=by simp
   simp only [execOp,hop,Instr.buildSlice,Sem.run_bind,run_underlying u1,zdb u2,Result.andThen_ok,if_neg hle];by_cases hz:n * sz C T.el=0
   ·rw [hz] at r1 ⊢;have e:∀ f:Nat->Value,Array.map f (Array.range 0)=#[]:=fun f=>by simp
    rw [e] at r1;simp only [if_true,Sem.run_bind,Sem.run_pure,Result.andThen_ok,e];rw [hmap,r1];rfl
   ·simp only [if_neg hz,Sem.run_bind,run_zero z1,Result.andThen_ok,Sem.run_pure,z2];rw [hmap,r1];rfl
  rw [run];exact newsl_out hG hB h (w':=w.alloc (.cells r T.el)) ⟨rfl,rfl,rfl,rfl⟩ u3 (.inl rfl) r3 (by have hL:LIM=1048576:=rfl;omega) r2 (Nat.le_refl _) (fun σ' q=>zc4 σ' _) (by omega)
end
end Go.Proofs.YtckfjploafhenaaGreat.Ai
namespace Go.Proofs.YtckfjploafhenaaGreat.Ai
open Go.RowKit
section
variable {C:Cx} {E:Env} {w0:World} {R0:Nat->Prop} {σ:Nat->Int} {bp:Nat->Nat} {R:Nat->Prop} {s s':AS} {a:Act} {w w':World} {W:List (BE×Bool)} {o:Oper} {ov:Option AV} {tg:Option Nat}
def TydL (C:Cx) (R:Nat->Prop) (w:World) (T:Nat) (l:List Value):Prop:=∀ (j:Nat) (v:Value),l[j]?=some v->∃ c,nth (rks C T) (j % sz C T)=some c/\CkOk C R w c v
theorem TydL.append {T k:Nat} {l r:List Value} (h:TydL C R w T l) (g:TydL C R w T r) (hl:l.length=k * sz C T):TydL C R w T (l++r):=by
 intro j v hj;by_cases hlt:j < l.length
 ·rw [List.getElem?_append_left hlt] at hj;exact h j v hj
 ·rw [List.getElem?_append_right (by omega)] at hj
  obtain ⟨c,e1,e2⟩:=g _ v hj;refine ⟨c, ?_,e2⟩;have e:j=sz C T * k+(j - l.length):=by rw [Nat.mul_comm,<-hl];omega
  rw [e,Nat.mul_add_mod];exact e1
theorem sl_cells (h:Hp C R w) {T m c:Nat} {b:Option Addr} (hs:(b=none/\c=0)\/∃ g k,b=some ⟨g,k * sz C T,none⟩/\RowAt R w T g ((k+c) * sz C T)) (hm:m<=c) :
  ∃ l:List Value,l.length=m * sz C T/\TydL C R w T l/\(∀ v∈l,v.oneCell'=true)/\∀ (P:Program) (w':World),(∀ g,R g->w'.heap[g]?=w.heap[g]?)->(Builtin.firstCells (sz C T) m (.slice b m c)).run P w' = .ok l.toArray w':=by
 rcases hs with ⟨rfl,rfl⟩ | ⟨g,k,rfl,hR,cs,fz,r1,r2⟩
 ·have:m=0:=by omega
  subst this;exact ⟨[],by simp,fun j v hj=>by simp at hj,by simp,fun P w' _=>rfl⟩
 ·obtain ⟨_,_,cs',T',fz',r3,h0,hfz,_,hcc⟩:=h.rows g hR;rw [r1] at r3;simp only [Option.some.injEq,Obj.cells.injEq] at r3;obtain ⟨rfl,rfl,rfl⟩:=r3;have hmul:(k+c) * sz C T=k * sz C T+c * sz C T:=Nat.add_mul _ _ _;have hmc:m * sz C T<=c * sz C T:=Nat.mul_le_mul_right _ hm;have hget:∀ j,j < m * sz C T->((cs.toList.drop (k * sz C T)).take (m * sz C T))[j]?=cs[k * sz C T+j]?:=fun j hj=>by rw [List.getElem?_take,if_pos hj,List.getElem?_drop,Array.getElem?_toList]
  have hlen:((cs.toList.drop (k * sz C T)).take (m * sz C T)).length=m * sz C T:=by rw [List.length_take,List.length_drop,Array.length_toList];omega
  have hty:TydL C R w T ((cs.toList.drop (k * sz C T)).take (m * sz C T)):=by
   intro j v hj
   have hj2:j < m * sz C T:=by
    have:=(List.getElem?_eq_some_iff.1 hj).1
    omega
   rw [hget j hj2] at hj;obtain ⟨ck,q1,q2⟩:=hcc _ v hj;rw [Nat.mul_comm,Nat.mul_add_mod] at q1;exact ⟨ck,q1,q2⟩
  refine ⟨_,hlen,hty,fun v hv=>?_,fun P w' hw=>?_⟩
  ·obtain ⟨j,hj,hjv⟩:=List.getElem_of_mem hv;obtain ⟨ck,q1,q2⟩:=hty j v (by rw [List.getElem?_eq_getElem hj,hjv])
   cases ck with
   | int k lo hi=>obtain ⟨_,rfl,_⟩:=q2;rfl
   | bool=>obtain ⟨_,rfl⟩:=q2;rfl
   | str=>obtain ⟨_,rfl,_⟩:=q2;rfl
   | sl T=>obtain ⟨_,_,_,_,rfl,_⟩:=q2;rfl
   | cur=>rw [show v=_ from q2];rfl
  ·have:=run_loadCells_list (P:=P) w' ⟨g,k * sz C T,none⟩ ((cs.toList.drop (k * sz C T)).take (m * sz C T)) (fun j v hj=>by
    have hj2:j < m * sz C T:=by
     have:=(List.getElem?_eq_some_iff.1 hj).1
     omega
    rw [hget j hj2] at hj;rw [Addr.add_mid];simp only [World.cell?,hw g hR,r1,Option.isSome_none,Bool.false_eq_true,if_false]
    exact hj)
   rw [hlen] at this;exact this
theorem src_sl (hG:Good C E) (h:Hp C R w) {tx T m c:Nat} {b:Option Addr} (ht:slT E tx T=true) (hs:(b=none/\c=0)\/∃ g k,b=some ⟨g,k * sz C T,none⟩/\RowAt R w T g ((k+c) * sz C T)) (hm:m<=c) :
  ∃ l:List Value,TydL C R w T l/\Src C.P (sz C T) tx (.slice b m c) m l w:=by
 obtain ⟨u1,u2,u3,_⟩:=slT_ok hG ht;obtain ⟨l,l1,l2,l3,l4⟩:=sl_cells h hs hm;exact ⟨l,l2,⟨.inl ⟨_,u1⟩,fun w'=>rfl,l4 _ _ fun _ _=>rfl,l4 _ _ fun _ _=>rfl,l1,l3⟩⟩
end
end Go.Proofs.YtckfjploafhenaaGreat.Ai
namespace Go.Proofs.YtckfjploafhenaaGreat.Ai
open Go.RowKit
section
variable {C:Cx} {E:Env} {w0:World} {R0:Nat->Prop} {σ:Nat->Int} {bp:Nat->Nat} {R:Nat->Prop} {s s':AS} {a:Act} {w w':World} {W:List (BE×Bool)} {o:Oper} {ov:Option AV} {tg:Option Nat}
theorem src_str (hG:Good C E) {tx T:Nat} (ht:isStr E tx=true) (hu:isU8 E T=true) (t:ByteArray):∃ l:List Value,TydL C R w T l/\Src C.P (sz C T) tx (.string t) t.size l w:=by
 have u1:=isStr_ok hG ht;obtain ⟨b1,b2,b3⟩:=isU8_ok hG hu;refine ⟨((t.extract 0 t.size).data.map fun b=>Value.int .u8 b.toNat).toList,fun j v hj=>?_,⟨.inr u1,fun w'=>rfl,rfl,rfl, ?_,fun u hu=>?_⟩⟩
 ·rw [b2,b3,Nat.mod_one];rw [Array.getElem?_toList,Array.getElem?_map] at hj;simp only [Option.map_eq_some_iff] at hj;obtain ⟨b,_,rfl⟩:=hj;exact ⟨_,rfl,byte_val b R w⟩
 ·rw [b3,Nat.mul_one,Array.length_toList,Array.size_map]
  have:(t.extract 0 t.size).size=t.size:=by simp
  exact this
 ·rw [Array.mem_toList_iff,Array.mem_map] at hu;obtain ⟨b,_,rfl⟩:=hu;rfl
theorem next_le (n c:Nat) (hn:n<=1048576) (hc:c < n):Builtin.nextslicecap n c<=33554432:=by
 unfold Builtin.nextslicecap;split
 ·omega
 ·split
  ·omega
  ·have key:∀ r c,c<=1048576 * 2 ^ (4 - r)->256<=c->r<=4->Builtin.growBy n r c<=1048576 * 16:=by
    intro r;induction r with
    | zero=>intro c h _ _;simpa [Builtin.growBy] using h
    | succ r ih =>
     intro c h h2 h3;unfold Builtin.growBy;split
     ·refine Nat.le_trans h ?_;exact Nat.mul_le_mul_left _ (Nat.pow_le_pow_right (by omega) (by omega:4 - (r+1)<=4))
     ·refine ih _ ?_ (by omega) (by omega)
      have e:4 - r=(4 - (r+1))+1:=by omega
      rw [e,Nat.pow_succ];omega
   have:=key 4 c (by omega) (by omega) (by omega)
   omega
theorem run_app_room {P:Program} {t tx ty e g q m c n:Nat} {i:TypeInfo} {x:Value} {news:List Value} {cur:Array Value} {fz:Nat×Nat} (ht:P.underlying t=some (.slice e)) (hi:P.info? e=some i) (hs:Src P i.size tx x n news w) (hroom:m+n<=c) (hg:w.heap[g]?=some (.cells cur e fz)) (hf:fz=(0,0)\/cur.size<=fz.1) (hl:q+m * i.size+news.length<=cur.size) :
  (Builtin.append_ #[t,tx] ty #[.slice (some ⟨g,q,none⟩) m c,x]).run P w = .ok (.slice (some ⟨g,q,none⟩) (m+n) c) (w.setRow g (cur.toList.take (q+m * i.size)++news++cur.toList.drop (q+m * i.size+news.length)).toArray):=by
 have hst:=zd8 (P:=P) g (q+m * i.size) e fz news 0 cur w hg hf (by omega) hs.one
 rw [Nat.add_zero] at hst;rcases hs.kind with ⟨e',hk⟩ | hk <;> simp [Builtin.append_,run_underlying ht,run_underlying hk,sizeOf,typeInfo,hi,hs.len,hroom,hs.cells,Addr.add_mid,hst]
end
end Go.Proofs.YtckfjploafhenaaGreat.Ai
namespace Go.Proofs.YtckfjploafhenaaGreat.Ai
open Go.RowKit
section
variable {C:Cx} {E:Env} {w0:World} {R0:Nat->Prop} {σ:Nat->Int} {bp:Nat->Nat} {R:Nat->Prop} {s s':AS} {a:Act} {w w':World} {W:List (BE×Bool)} {o:Oper} {ov:Option AV} {tg:Option Nat}
theorem zero_tydL (hG:Good C E) (hf:∀ f∈s.fa,0<=f.ev σ) {T:Nat} {V:Ty} (hV:look T E.tb=some V) {d:Nat} (hz:fitL d s (V.cells.map zeroC) V.rk=true) (n:Nat):TydL C R w T (Builtin.zeroCells (V.cells.map zeroV).toArray n).toList:=by
 have h:=zeros_tyd (C:=C) (E:=E) (R:=R) (w:=w) hG hf hV hz (n * (V.cells.map zeroV).toArray.size);intro j v hj;rw [Array.getElem?_toList] at hj;exact h j v hj
theorem append_out (hG:Good C E) (hB:C.B<=w0.heap.size) (h:Stt C w0 R0 σ bp R s a w) {t u T:Nat} {ty:TypeId} {V:Ty} {b:Option Addr} {m c k:Nat} {x:Value} {l:List Value} {e:Lin} (h1:slT E t T=true) (hV:look T E.tb=some V) (hz:fitL (dz E) s (V.cells.map zeroC) V.rk=true)
  (hb:(b=none/\c=0)\/∃ g q,b=some ⟨g,q * sz C T,none⟩/\RowAt R w T g ((q+c) * sz C T)) (hm:m<=c) (hl:TydL C R w T l) (hs:Src C.P (sz C T) u x k l w) (hk:((m+k:Nat):Int)<=LIM) (he:∀ σ',Agr s.n σ' σ->e.ev σ'=((m+k:Nat):Int)) :
  ∃ v w',(Builtin.append_ #[t,u] ty #[.slice b m c,x]).run C.P w = .ok v w'/\Outs C w0 R0 R w tg σ bp s s a (some (one (.sl T e))) v w':=by
 obtain ⟨u1,u2,u3,_⟩:=slT_ok hG h1;obtain ⟨er,es⟩:=rks_of hG hV;have ok:=hG.of hV
 obtain ⟨i,hi⟩:∃ i,C.P.info? T=some i:=by
  cases hq:C.P.info? T with
  | none=>rw [hq] at u2;cases u2
  | some i=>exact ⟨i,rfl⟩
 have hisz:i.size=sz C T:=by rw [hi] at u2;simpa using u2
 obtain ⟨z,z1,z2⟩:=ok.zero;rw [hi] at z1;simp only [Option.bind_some] at z1;rw [<-hisz] at hs;have hL:LIM=1048576:=rfl;by_cases hr:m+k<=c
 ·rcases hb with ⟨rfl,rfl⟩ | ⟨g,q,rfl,hR,cs,fz,r1,r2⟩
  ·obtain ⟨rfl,rfl⟩:m=0/\k=0:=by omega
   refine ⟨.slice none 0 0,w, ?_,zbd h fun σ' bp' q1 q2=>⟨none,0,0,rfl,by rw [he σ' q1],by decide,Nat.le_refl _, .inl ⟨rfl,rfl⟩⟩⟩
   rcases hs.kind with ⟨e',hk⟩ | hk <;> simp [Builtin.append_,run_underlying u1,run_underlying hk,sizeOf,typeInfo,hi,hs.len,hs.cells]
  ·obtain ⟨_,_,cs',T',fz',r3,h0,hfz,_,hcc⟩:=h.sw.hp.rows g hR;rw [r1] at r3;simp only [Option.some.injEq,Obj.cells.injEq] at r3;obtain ⟨rfl,rfl,rfl⟩:=r3;have hnl:=hs.newsLen;rw [hisz] at hnl;have e1:(q+c) * sz C T=q * sz C T+c * sz C T:=Nat.add_mul _ _ _;have e2:(m+k) * sz C T<=c * sz C T:=Nat.mul_le_mul_right _ hr;have e3:(m+k) * sz C T=m * sz C T+k * sz C T:=Nat.add_mul _ _ _;have hle:q * sz C T+m * i.size+l.length<=cs.size:=by rw [hisz];omega
   refine ⟨_,_,run_app_room (q:=q * sz C T) u1 hi hs hr r1 hfz hle, ?_⟩;have e4:q * sz C T+m * i.size=(q+m) * sz C T:=by rw [hisz,Nat.add_mul]
   have hty:∀ (j:Nat) (v:Value),(cs.toList.take (q * sz C T+m * i.size)++l++cs.toList.drop (q * sz C T+m * i.size+l.length)).toArray[j]?=some v->∃ ck,nth (rks C T) (j % sz C T)=some ck/\CkOk C R w ck v:=by
    intro j v hj;rw [List.getElem?_toArray] at hj;have hold:TydL C R w T cs.toList:=fun j v hj=>hcc j v (by rw [Array.getElem?_toList] at hj;exact hj)
    have t1:TydL C R w T (cs.toList.take (q * sz C T+m * i.size)):=fun j v hj=>by
     rw [List.getElem?_take] at hj;split at hj
     ·exact hold j v hj
     ·cases hj
    have l1:(cs.toList.take (q * sz C T+m * i.size)).length=(q+m) * sz C T:=by rw [List.length_take,Array.length_toList,e4];omega
    have t2:=t1.append hl l1;by_cases hj2:j < (cs.toList.take (q * sz C T+m * i.size)++l).length
    ·rw [List.getElem?_append_left hj2] at hj;exact t2 j v hj
    ·rw [List.getElem?_append_right (by omega),List.getElem?_drop,List.length_append,l1] at hj
     rw [List.length_append,l1] at hj2;refine hold j v ?_;rw [e4] at hj;rw [show (q+m) * sz C T+l.length+(j - ((q+m) * sz C T+l.length))=j by omega] at hj
     exact hj
   obtain ⟨st,kg⟩:=row_turn hG hB h hR r1 (cs':=(cs.toList.take (q * sz C T+m * i.size)++l++cs.toList.drop (q * sz C T+m * i.size+l.length)).toArray) (by rw [List.size_toArray,List.length_append,List.length_append,List.length_take,List.length_drop,Array.length_toList];omega) hty
   refine ⟨σ,bp,R,zaa _ _,Nat.le_refl _,zai _ _,Nat.le_refl _,st,fun y hy σ' bp' q1 q2=>?_,fr_row hR kg⟩
   cases hy;exact ⟨_,m+k,c,rfl,he σ' q1,hk,hr, .inr ⟨g,q,rfl,RowAt.gr ⟨hR,cs,fz,r1,r2⟩ kg⟩⟩
 ·obtain ⟨ol,o1,o2,o3,o4⟩:=sl_cells h.sw.hp hb hm;have hbytes:=ok.bytes i hi;have hnx:=next_le (m+k) c (by omega) (by omega)
  have hfit:Builtin.nextslicecap (m+k) c * i.bytes<=281474976710656:=by
   have:Builtin.nextslicecap (m+k) c * i.bytes<=33554432 * 65536:=Nat.mul_le_mul hnx hbytes
   omega
  have run:=run_append_grow_src (P:=C.P) (w:=w) t u ty T i z u1 hi z1 b m c ol (by rw [hisz];exact o4 C.P w.drew fun _ _=>rfl) x k l hs (by omega) (by omega) hfit
  refine ⟨_,_,run, ?_⟩;have hcap:m+k<=grownCap w (m+k) c T:=by unfold grownCap;simp only [Question.cut];omega
  have hsz:((ol++l).toArray++Builtin.zeroCells z.cells (grownCap w (m+k) c T - (m+k))).size=grownCap w (m+k) c T * sz C T:=by
   have hnl:=hs.newsLen;rw [hisz] at hnl;have hzs:z.cells.size=sz C T:=by rw [z2,List.size_toArray,List.length_map,es,ok.rk.1]
   rw [Array.size_append,List.size_toArray,List.length_append,o1,hnl];unfold Builtin.zeroCells;rw [Array.size_map,Array.size_range,hzs,<-Nat.add_mul,<-Nat.add_mul];congr 1;omega
  have hcapN:grownCap w (m+k) c T<=9223372036854775807:=by
   unfold grownCap;simp only [Question.cut]
   have:=Nat.mod_lt (w.tape w.drawn (.appendCap (m+k) c T)) (show 0 < 2 ^ 63 - (m+k) by omega)
   omega
  refine newsl_out hG hB h (w':=w.drew.alloc _) ⟨rfl,rfl,rfl,rfl⟩ u3 (.inl rfl) hsz hcapN ?_ hcap he hk;intro j v hj;have hzt:=zero_tydL (C:=C) (E:=E) (R:=R) (w:=w) hG h.here.fs.fa hV hz (grownCap w (m+k) c T - (m+k))
  have t1:=(o2.append hl o1).append (k:=m+k) hzt (by
   have hnl:=hs.newsLen;rw [hisz] at hnl
   rw [List.length_append,o1,hnl,Nat.add_mul])
  refine t1 j v ?_;rw [<-Array.getElem?_toList,Array.toList_append,z2] at hj;exact hj
theorem op_append (hG:Good C E) (hB:C.B<=w0.heap.size) (h:Stt C w0 R0 σ bp R s a w) (hW:Lits s.n σ W) {as:Array Operand} {ts:Array TypeId} (hop:o.op = .call { callee := .builtin .append,args:=as,argTypes:=ts }) (hx:opx E W s o.op=some (ov,s')):Does C.P ((execOp a.eval o).run C.P w) (Outs C w0 R0 R w (tgt W s o.op) σ bp s s' a ov):=by
 rw [hop] at hx;simp only [opx] at hx;split at hx
 ·rename_i x y t u ha ht;obtain rfl:as=#[x,y]:=by cases as;simp_all
  obtain rfl:ts=#[t,u]:=by cases ts;simp_all
  simp only [Option.bind_eq_some_iff] at hx;obtain ⟨T,hT,V,hV,hx⟩:=hx;split at hx
  ·rename_i X Y hX hY;split at hx
   ·rename_i n k hn hk;cases hc:(slT E t T.el && ent s.fa (dz E) ((cst LIM).sub (n.add k)) && fitL (dz E) s (V.cells.map zeroC) V.rk) <;> rw [hc] at hx
    ·cases hx
    ·cases hx;simp only [Bool.and_eq_true] at hc;obtain ⟨⟨c1,c2⟩,c3⟩:=hc;have vX:=fun σ' bp' (q1:Agr s.n σ' σ) (q2:Agb s.bx.length bp' bp)=>zau (h.st σ' bp' q1 q2) (hW σ' q1) hX
     have vY:=fun σ' bp' (q1:Agr s.n σ' σ) (q2:Agb s.bx.length bp' bp)=>zau (h.st σ' bp' q1 q2) (hW σ' q1) hY
     have hlim:=ents h c2 σ (zaa _ _);rw [zd0,zc4,ev_add] at hlim
     have base:∃ b m c,a.eval x = .slice b m c/\m<=c/\((b=none/\c=0)\/∃ g q,b=some ⟨g,q * sz C T.el,none⟩/\RowAt R w T.el g ((q+c) * sz C T.el))/\∀ σ',Agr s.n σ' σ->n.ev σ'=(m:Int):=by
      cases X with
      | sl T1 e1 =>
       dsimp only at hn;cases hq:Nat.beq T1 T.el <;> rw [hq] at hn
       ·cases hn
       ·cases hn
        have:=Nat.eq_of_beq_eq_true hq
        subst this;obtain ⟨b,m,c,x1,x2,x3,x4,x5⟩:=vX σ bp (zaa _ _) (zai _ _);refine ⟨b,m,c,x1,x4,x5,fun σ' q=>?_⟩
        obtain ⟨b',m',c',y1,y2,_⟩:=vX σ' bp q (zai _ _);rw [x1] at y1;simp only [Value.slice.injEq] at y1;rw [y2,y1.2.1]
      | nil =>
       cases hn;have x1:a.eval x = .slice none 0 0:=vX σ bp (zaa _ _) (zai _ _);exact ⟨none,0,0,x1,Nat.le_refl _, .inl ⟨rfl,rfl⟩,fun σ' _=>zc4 σ' 0⟩
      | _=>cases hn
     have src:∃ l kk,TydL C R w T.el l/\Src C.P (sz C T.el) u (a.eval y) kk l w/\∀ σ',Agr s.n σ' σ->k.ev σ'=(kk:Int):=by
      cases Y with
      | sl T1 e1 =>
       dsimp only at hk;cases hq:(Nat.beq T1 T.el && slT E u T.el) <;> rw [hq] at hk
       ·cases hk
       ·cases hk;rw [Bool.and_eq_true] at hq
        have:=Nat.eq_of_beq_eq_true hq.1
        subst this;obtain ⟨b,m,c,x1,x2,x3,x4,x5⟩:=vY σ bp (zaa _ _) (zai _ _);obtain ⟨l,l1,l2⟩:=src_sl hG h.sw.hp hq.2 x5 x4;refine ⟨l,m,l1,by rw [x1];exact l2,fun σ' q=>?_⟩
        obtain ⟨b',m',c',y1,y2,_⟩:=vY σ' bp q (zai _ _);rw [x1] at y1;simp only [Value.slice.injEq] at y1;rw [y2,y1.2.1]
      | str e1 =>
       dsimp only at hk;cases hq:(isStr E u && isU8 E T.el) <;> rw [hq] at hk
       ·cases hk
       ·cases hk;rw [Bool.and_eq_true] at hq;obtain ⟨t',x1,x2,x3⟩:=vY σ bp (zaa _ _) (zai _ _);obtain ⟨l,l1,l2⟩:=src_str (R:=R) (w:=w) hG hq.1 hq.2 t';refine ⟨l,t'.size,l1,by rw [x1];exact l2,fun σ' q=>?_⟩
        obtain ⟨t2,y1,y2,_⟩:=vY σ' bp q (zai _ _);rw [x1] at y1;simp only [Value.string.injEq] at y1;rw [<-y2,y1]
      | nil =>
       dsimp only at hk;cases hq:slT E u T.el <;> rw [hq] at hk
       ·cases hk
       ·cases hk;have x1:a.eval y = .slice none 0 0:=vY σ bp (zaa _ _) (zai _ _);obtain ⟨l,l1,l2⟩:=src_sl hG h.sw.hp hq (b:=none) (m:=0) (c:=0) (.inl ⟨rfl,rfl⟩) (Nat.le_refl _);exact ⟨l,0,l1,by rw [x1];exact l2,fun σ' _=>zc4 σ' 0⟩
      | _=>cases hk
     obtain ⟨b,m,c,b1,b2,b3,b4⟩:=base;obtain ⟨l,kk,s1,s2,s3⟩:=src;have e1:=b4 σ (zaa _ _);have e2:=s3 σ (zaa _ _);obtain ⟨v,w',r1,r2⟩:=append_out hG hB h (ty:=o.type) c1 hV c3 b3 b2 s1 s2 (e:=n.add k) (by omega) (fun σ' q=>by rw [ev_add,b4 σ' q,s3 σ' q];omega)
     have run:(execOp a.eval o).run C.P w = .ok (.value v) w':=by
      simp only [execOp,hop,resolve,invoke,builtin,List.map_toArray,List.map_cons,List.map_nil,b1,Sem.run_bind,Sem.run_pure,Result.andThen_ok];rw [r1];rfl
     rw [run];exact r2
   ·cases hx
  ·cases hx
 ·cases hx
end
end Go.Proofs.YtckfjploafhenaaGreat.Ai
namespace Go.Proofs.YtckfjploafhenaaGreat.Ai
open Go.RowKit
def num:Value->Int
 | .int _ n=>n
 | .slice _ n _=>n
 | .string s=>s.size
 | .bool true=>1
 | _=>0
def CksOk (C:Cx) (R:Nat->Prop) (w:World):List Ck->List Value->Prop
 | [],[]=>True
 | c::l,v::r=>CkOk C R w c v/\CksOk C R w l r
 | _,_=>False
def ValOk (C:Cx) (R:Nat->Prop) (w:World) (c:Bool×List Ck) (v:Value):Prop:=match c.1 with
 | true=>∃ a,v = .agg a/\CksOk C R w c.2 a.toList
 | false=>CksOk C R w c.2 [v]
def zey (C:Cx) (R:Nat->Prop) (w:World):List (Bool×List Ck)->List Value->Prop
 | [],[]=>True
 | c::l,v::r=>ValOk C R w c v/\zey C R w l r
 | _,_=>False
def nums (vs:List Value):List Int:=vs.flatMap fun v=>v.cells.toList.map num
def ζ (l:List Int):Nat->Int:=fun i=>(l[i]?).getD 0
def Keeps (C:Cx) (f:Nat) (c:Ctr):Prop:=∀ (w:World) (R:Nat->Prop) (args:Array Value),Hp C R w->zey C R w c.ins args.toList->(∀ p∈c.pre,0<=p.ev (ζ (nums args.toList))) ->
 Calls C.P f args w fun e w'=>∃ (v:Value) (outs:List Value) (R':Nat->Prop),e = .returned v/\v=(match outs with | [u]=>u | l => .tuple l.toArray)/\Gw C R R' w w'/\Hp C R' w'/\zey C R' w' c.outs outs /\
  ∀ p∈c.post,(∀ q∈p.1,0<=q.ev (ζ (nums args.toList++nums outs)))->0<=p.2.ev (ζ (nums args.toList++nums outs))
section
variable {C:Cx} {E:Env} {w0:World} {R0:Nat->Prop} {σ:Nat->Int} {bp:Nat->Nat} {R R':Nat->Prop} {s s':AS} {a:Act} {w w':World} {W:List (BE×Bool)} {o:Oper} {ov:Option AV} {tg:Option Nat}
theorem turn_stt (h:Stt C w0 R0 σ bp R s a w) (g:Gw C R R' w w') (hp:Hp C R' w'):Stt C w0 R0 σ bp R' s a w'/\Gr R R' w w':=by
 have hlt:∀ q,R q->q < w.heap.size:=fun q hq=>h.sw.hp.lt hq
 have kg:=g.gr hlt;refine ⟨⟨fun σ' bp' q1 q2=>?_,⟨hp,h.sw.gw.trans h.sw.r0 g,fun i hi=>?_,h.sw.inj,h.sw.df,h.sw.r0⟩⟩,kg⟩
 ·have st:=h.st σ' bp' q1 q2;refine ⟨st.tm.gr kg fun _=>rfl,st.bx.gr kg (fun _=>rfl) fun i _ hi=>?_,st.fs⟩
  rw [Nat.zero_add] at hi;rw [q2 i hi];obtain ⟨_,o2,o3⟩:=h.sw.own i hi;exact g.keep _ (box_lt h hi) o2 o3
 ·obtain ⟨o1,o2,o3⟩:=h.sw.own i hi;exact ⟨o1,fun hr=>o2 ((g.rows _ (box_lt h hi)).1 hr),o3⟩
end
end Go.Proofs.YtckfjploafhenaaGreat.Ai
namespace Go.Proofs.YtckfjploafhenaaGreat.Ai
open Go.RowKit
def Sy.ev (σ:Nat->Int):Sy->Int
 | .lin e=>e.ev σ
 | .be b=>if b.ev σ=true then 1 else 0
theorem inst_ev {σ:Nat->Int} {l:List Sy} {z:List Int} (hl:l.map (Sy.ev σ)=z):∀ {t:List (Nat×Int)} {e:Lin},inst l t=some e->e.ev σ=tev (ζ z) t
 | [],e,h=>by cases h;exact zc4 σ 0
 | (s,k)::r,e,h=>by
  have hs:∀ y,nth l s=some y->ζ z s=y.ev σ:=by
   intro y hy;unfold ζ;rw [<-hl,List.getElem?_map,<-zbv,hy];rfl
  simp only [inst] at h;split at h
  ·rename_i e1 x h1 h2;cases h;rw [ev_add,ze1,inst_ev hl h2,tev,hs _ h1];rfl
  ·rename_i x h1 h2;cases h;rw [zbf,inst_ev hl h2,tev,hs _ h1];simp only [Sy.ev,BE.ev,if_true];omega
  ·rename_i x h1 h2;cases h;rw [inst_ev hl h2,tev,hs _ h1];simp [Sy.ev,BE.ev]
  ·cases h
theorem zhi {σ:Nat->Int} {l:List Sy} {z:List Int} (hl:l.map (Sy.ev σ)=z) {f e:Lin} (h:instL l f=some e):e.ev σ=f.ev (ζ z):=by
 unfold instL at h;simp only [Option.map_eq_some_iff] at h;obtain ⟨x,h1,rfl⟩:=h;rw [zbf,inst_ev hl h1];unfold Lin.ev;omega
section
variable {C:Cx} {E:Env} {w0:World} {R0:Nat->Prop} {σ:Nat->Int} {bp:Nat->Nat} {R:Nat->Prop} {s s':AS} {a:Act} {w w':World} {tg:Option Nat}
theorem symC_num {x:At} {v:Value} {c:Ck} {d:Nat} (h:AtOk C σ bp R w x v) (hf:fitC d s x c=true):(symC x).ev σ=num v:=by
 cases x with
 | num k e=>rw [h.1];rfl
 | be b =>
  rw [show v=_ from h]
  simp only [symC,Sy.ev];cases b.ev σ <;> rfl
 | str e=>obtain ⟨t,rfl,h2,_⟩:=h;exact h2.symm
 | sl T e=>obtain ⟨_,m,_,rfl,h2,_⟩:=h;exact h2
 | nil=>rw [show v=_ from h];exact zc4 σ 0
 | cur=>rw [show v=_ from h];exact zc4 σ 0
 | un=>cases c <;> simp [fitC] at hf
 | unk=>cases c <;> simp [fitC] at hf
 | ptr b o=>cases c <;> simp [fitC] at hf
 | row T o=>cases c <;> simp [fitC] at hf
end
end Go.Proofs.YtckfjploafhenaaGreat.Ai
