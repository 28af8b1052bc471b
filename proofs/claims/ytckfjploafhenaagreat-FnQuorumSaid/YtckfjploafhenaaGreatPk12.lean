/- The interpreter is sound over whole code. -/
import Derived.Test.YtckfjploafhenaaGreatPk11
import Derived.LoopN
import Derived.Scope
set_option maxRecDepth 100000
set_option maxHeartbeats 16000000
set_option linter.unusedVariables false
set_option linter.unusedSimpArgs false
namespace Go.Proofs.YtckfjploafhenaaGreat.Ai
open Go.RowKit
theorem zhp {p:Nat->Prop} (h:∃ n,p n):∃ n,p n/\∀ m,m < n->¬ p m:=by
 obtain ⟨n,hn⟩:=h;induction n using Nat.strongRecOn with
 | _ n ih =>
  by_cases hm:∃ m,m < n/\p m
  ·obtain ⟨m,h1,h2⟩:=hm;exact ih m h1 h2
  ·exact ⟨n,hn,fun m h1 h2=>hm ⟨m,h1,h2⟩⟩
theorem wp_loop_rel {P:Program} {Q:Exit->Act->World->Prop} {c:Code} (I:Nat->Act->World->Prop) {a:Act} {w:World} (h0:∃ n,I n a w)
  (round:∀ n a w,I n a w->c.wp P (Exit.then (fun a' w'=>∃ m,m < n/\I m a' w') Q) a w):(Code.loop c).wp P Q a w:=by
 classical
 refine wp_loop (fun a w=>∃ n,I n a w) (fun a w=>if h:∃ n,I n a w then Classical.choose (zhp h) else 0) h0 fun a w h=>?_
 obtain ⟨h1,h2⟩:=Classical.choose_spec (zhp h);refine wp_mono (round _ a w h1) fun e a' w' he=>?_
 cases e <;> simp only [Exit.then] at he ⊢ <;> try exact he
 obtain ⟨m,hm,hI⟩:=he;refine ⟨⟨m,hI⟩, ?_⟩;rw [dif_pos h,dif_pos ⟨m,hI⟩]
 have:=(Classical.choose_spec (zhp (p:=fun n=>I n a' w') ⟨m,hI⟩)).2
 rcases Nat.lt_or_ge m (Classical.choose (zhp (p:=fun n=>I n a' w') ⟨m,hI⟩)) with hlt | hge
 ·exact absurd hI (this m hlt)
 ·omega
def Post (C:Cx) (w0:World) (R0:Nat->Prop) (σ:Nat->Int) (bp:Nat->Nat) (s:AS) (r:Res):Exit->Act->World->Prop
 | .normal,a',w'=>∃ t∈r.n,Nx C w0 R0 σ bp s t a' w'
 | .exit i,a',w'=>∃ p∈r.x,p.1=i/\Nx C w0 R0 σ bp s p.2 a' w'
 | .ret,a',w'=>∃ t∈r.r,Nx C w0 R0 σ bp s t a' w'
 | _,_,_=>False
structure Rsub (p r:Res):Prop where
 n:∀ t∈p.n,t∈r.n
 x:∀ t∈p.x,t∈r.x
 r:∀ t∈p.r,t∈r.r
theorem runs_spec {f:AS->List Hn->Option (Res×List Hn)}:∀ {l:List AS} {h h':List Hn} {q:Res},runs f l h=some (q,h')->∀ t∈l,∃ h1 h2 p,f t h1=some (p,h2)/\Rsub p q
 | [],h,h',q,_,t,ht=>by cases ht
 | s::l,h,h',q,e,t,ht=>by
  simp only [runs] at e;split at e
  ·rename_i a h1 ha;split at e
   ·rename_i b h2 hb;cases e;rcases List.mem_cons.1 ht with rfl | ht
    ·exact ⟨h,h1,a,ha,⟨fun x hx=>List.mem_append_left _ hx,fun x hx=>List.mem_append_left _ hx,fun x hx=>List.mem_append_left _ hx⟩⟩
    ·obtain ⟨h3,h4,p,hp,hs⟩:=runs_spec hb t ht;exact ⟨h3,h4,p,hp,⟨fun x hx=>List.mem_append_right _ (hs.n x hx),fun x hx=>List.mem_append_right _ (hs.x x hx),fun x hx=>List.mem_append_right _ (hs.r x hx)⟩⟩
   ·cases e
  ·cases e
section
variable {C:Cx} {E:Env} {w0:World} {R0:Nat->Prop} {σ σ1:Nat->Int} {bp bp1:Nat->Nat} {R:Nat->Prop} {s t:AS} {a:Act} {w:World} {r p q:Res}
theorem Post.from (h1:Agr s.n σ1 σ) (h2:s.n<=t.n) (h3:Agb s.bx.length bp1 bp) (h4:s.bx.length<=t.bx.length) (hs:Rsub p r):∀ e a w,Post C w0 R0 σ1 bp1 t p e a w->Post C w0 R0 σ bp s r e a w:=by
 intro e a w h;cases e <;> simp only [Post] at h ⊢
 ·obtain ⟨u,hu,nx⟩:=h;exact ⟨u,hs.n u hu,nx.from h1 h2 h3 h4⟩
 ·obtain ⟨u,hu,e,nx⟩:=h;exact ⟨u,hs.x u hu,e,nx.from h1 h2 h3 h4⟩
 ·obtain ⟨u,hu,nx⟩:=h;exact ⟨u,hs.r u hu,nx.from h1 h2 h3 h4⟩
def Snd (C:Cx) (w0:World) (R0:Nat->Prop) (c:Code) (f:AS->List Hn->Option (Res×List Hn)):Prop :=
 ∀ (s:AS) (h h':List Hn) (r:Res),f s h=some (r,h')->∀ (σ:Nat->Int) (bp:Nat->Nat) (R:Nat->Prop) (a:Act) (w:World),Stt C w0 R0 σ bp R s a w->c.wp C.P (Post C w0 R0 σ bp s r) a w
theorem next_ok {c:Code} {f:AS->List Hn->Option (Res×List Hn)} (hf:Snd C w0 R0 c f) {h1 h2:List Hn} (hp:f t h1=some (p,h2)) (hs:Rsub p r) (nx:Nx C w0 R0 σ bp s t a w):c.wp C.P (Post C w0 R0 σ bp s r) a w:=by
 obtain ⟨σ1,bp1,R1,k1,k2,k3,k4,k5⟩:=nx;exact wp_mono (hf t h1 h2 p hp σ1 bp1 R1 a w k5) (Post.from k1 k2 k3 k4 hs)
theorem unrl_ok {c:Code} {f:AS->List Hn->Option (Res×List Hn)} (hf:Snd C w0 R0 c f) {d:Nat} {Q:Exit->Act->World->Prop}:∀ {k:Nat} {l:List AS} {h h':List Hn} {b:Res},unrl d f k l h=some (b,h')->(∀ e a w,Post C w0 R0 σ bp s ⟨[],b.x,b.r⟩ e a w->Q e a w) ->
  ∀ t∈l,∀ a w,Nx C w0 R0 σ bp s t a w->Code.rounds C.P c Q (k+1) a w
 | 0,l,h,h',b,e,hq,t,ht,a,w,nx=>by
  simp only [unrl] at e;exfalso;obtain ⟨σ1,bp1,R1,k1,k2,k3,k4,k5⟩:=nx;have hal:=k5.here.fs.alive d;split at e
  ·rename_i hnil
   have:t∈l.filter fun s=>!s.dead d:=List.mem_filter.2 ⟨ht,by rw [hal];rfl⟩
   rw [hnil] at this;cases this
  ·cases e
 | k+1,l,h,h',b,e,hq,t,ht,a,w,nx=>by
  simp only [unrl] at e
  have hal:t∈l.filter fun s=>!s.dead d:=by
   obtain ⟨σ1,bp1,R1,k1,k2,k3,k4,k5⟩:=nx;exact List.mem_filter.2 ⟨ht,by rw [k5.here.fs.alive d];rfl⟩
  split at e
  ·rename_i x h1 hx;split at e
   ·rename_i y h2 hy;cases e;obtain ⟨h3,h4,p,hp,hs⟩:=runs_spec hx t hal;rw [rounds_succ];refine wp_mono (next_ok hf hp hs nx) fun e a' w' he=>?_
    cases e <;> simp only [Exit.then,Post] at he ⊢
    ·obtain ⟨u,hu,nu⟩:=he;refine unrl_ok hf hy (fun e a w hp=>hq e a w ?_) u hu a' w' nu
     cases e <;> simp only [Post] at hp ⊢
     ·exact hp
     ·obtain ⟨v,hv,e1,nv⟩:=hp;exact ⟨v,List.mem_append_right _ hv,e1,nv⟩
     ·obtain ⟨v,hv,nv⟩:=hp;exact ⟨v,List.mem_append_right _ hv,nv⟩
    ·obtain ⟨u,hu,e1,nu⟩:=he;exact hq _ _ _ ⟨u,List.mem_append_left _ hu,e1,nu⟩
    ·obtain ⟨u,hu,nu⟩:=he;exact hq _ _ _ ⟨u,List.mem_append_left _ hu,nu⟩
   ·cases e
  ·cases e
theorem Nx.below {d:Nat} {u:AS} {l:List (Nat×Bi)} (hb:Ai.below d s u t=some l) (nx:Nx C w0 R0 σ bp s u a w):Nx C w0 R0 σ bp s t a w:=by
 obtain ⟨σ1,bp1,R1,k1,k2,k3,k4,k5⟩:=nx;obtain ⟨σ2,g1,g2,g3,g4,_⟩:=below_ok hb k5;exact ⟨σ2,bp1,R1,g1.trans k1,g2,k3,g3,g4⟩
theorem zhh (hG:Goods C E) (hB:C.B<=w0.heap.size) (hm:C.P.follows .mixedOrders=true):∀ c:Code,Snd C w0 R0 c (fun s h=>exec E c s h):=by
 intro c;induction c with
 | skip =>
  intro s h h' r e σ bp R a w k;cases e;exact wp_skip ⟨s,List.mem_cons_self,Nx.refl k⟩
 | region id ops draw =>
  intro s h h' r e σ bp R a w k;simp only [exec,Option.map_eq_some_iff] at e;obtain ⟨t,ht,e⟩:=e;cases e;cases draw
  ·exact wp_region_list (zg8 hG hB k ht fun a' w' nx=>⟨t,List.mem_cons_self,nx⟩)
  ·exact any_sound hG hB hm k ht fun a' w' nx=>⟨t,List.mem_cons_self,nx⟩
 | seq x y ihx ihy =>
  intro s h h' r e σ bp R a w k;simp only [exec] at e;split at e
  ·cases e
  ·rename_i p h1 hp
   have go:∀ (l:List AS) (h1:List Hn),(match runs (fun s h=>exec E y s h) l h1 with | some (q,h)=>some ((⟨q.n,p.x++q.x,p.r++q.r⟩:Res),h) | none=>none)=some (r,h') ->
     (∀ a w,(∃ t∈p.n,Nx C w0 R0 σ bp s t a w)->∃ t∈l,Nx C w0 R0 σ bp s t a w)->(Code.seq x y).wp C.P (Post C w0 R0 σ bp s r) a w:=by
    intro l h1 hr hl;split at hr
    ·rename_i q h2 hq;cases hr;refine wp_seq (wp_mono (ihx s h _ p hp σ bp R a w k) fun e a' w' he=>?_)
     cases e <;> simp only [Exit.then,Post] at he ⊢
     ·obtain ⟨t,ht,nx⟩:=hl a' w' he;obtain ⟨h3,h4,z,hz,hs⟩:=runs_spec hq t ht;exact next_ok ihy hz ⟨hs.n,fun u hu=>List.mem_append_right _ (hs.x u hu),fun u hu=>List.mem_append_right _ (hs.r u hu)⟩ nx
     ·obtain ⟨u,hu,e1,nu⟩:=he;exact ⟨u,List.mem_append_left _ hu,e1,nu⟩
     ·obtain ⟨u,hu,nu⟩:=he;exact ⟨u,List.mem_append_left _ hu,nu⟩
    ·cases hr
   cases hmx:Nat.ble p.n.length E.mx <;> rw [hmx] at e
   ·simp only [cond_false] at e;split at e
    ·rename_i fa h2;cases hall:p.n.all (fun u=>(below (dz E) s u (joined s fa p.n)).isSome) <;> rw [hall] at e
     ·cases e
     ·refine go [joined s fa p.n] _ e fun a w he=>?_
      obtain ⟨t,ht,nx⟩:=he
      have:=List.all_eq_true.1 hall t ht
      obtain ⟨l,hl⟩:=Option.isSome_iff_exists.1 this;exact ⟨_,List.mem_cons_self,nx.below hl⟩
    ·cases e
   ·exact go p.n h1 e fun a w he=>he
 | cond o x y ihx ihy =>
  intro s h h' r e σ bp R a w k;simp only [exec] at e;split at e
  ·cases e
  ·rename_i c hc;have ev:=fun σ' bp' (q1:Agr s.n σ' σ) (q2:Agb s.bx.length bp' bp)=>evB_sound (k.st σ' bp' q1 q2) (W:=[]) (fun x hx=>by cases hx) hc
   have ev0:=ev σ bp (zaa _ _) (zai _ _)
   have same:∀ σ',Agr s.n σ' σ->c.ev σ'=c.ev σ:=by
    intro σ' q
    have:=ev σ' bp q (zai _ _)
    rw [ev0] at this;simpa using this.symm
   split at e
   ·cases e
   ·rename_i p h1 hp;split at e
    ·rename_i q h2 hq;cases e;refine wp_cond_split ev0 (fun ht=>?_) fun hf=>?_
     ·split at hp
      ·rename_i t ha
       have st:Stt C w0 R0 σ bp R t a w:=k.sm (zd6 ha) fun σ' bp' q1 q2 k'=>by
        obtain ⟨t',h1,h2⟩:=k'.fs.assume ((same σ' q1).trans ht);rw [ha] at h1;cases h1;exact h2
       refine wp_mono (ihx t _ _ p hp σ bp R a w st) (Post.from (by rw [(zd6 ha).n.symm];exact zaa _ _) (by rw [(zd6 ha).n];exact Nat.le_refl _) (zai _ _) (by rw [(zd6 ha).bx];exact Nat.le_refl _) ⟨fun u hu=>List.mem_append_left _ hu,fun u hu=>List.mem_append_left _ hu,fun u hu=>List.mem_append_left _ hu⟩)
      ·rename_i ha;obtain ⟨t',h1,h2⟩:=k.here.fs.assume ht;rw [ha] at h1;cases h1
     ·split at hq
      ·rename_i t ha
       have st:Stt C w0 R0 σ bp R t a w:=k.sm (zd6 ha) fun σ' bp' q1 q2 k'=>by
        obtain ⟨t',h1,h2⟩:=k'.fs.assume ((same σ' q1).trans hf);rw [ha] at h1;cases h1;exact h2
       refine wp_mono (ihy t _ _ q hq σ bp R a w st) (Post.from (by rw [(zd6 ha).n.symm];exact zaa _ _) (by rw [(zd6 ha).n];exact Nat.le_refl _) (zai _ _) (by rw [(zd6 ha).bx];exact Nat.le_refl _) ⟨fun u hu=>List.mem_append_right _ hu,fun u hu=>List.mem_append_right _ hu,fun u hu=>List.mem_append_right _ hu⟩)
      ·rename_i ha;obtain ⟨t',h1,h2⟩:=k.here.fs.assume hf;rw [ha] at h1;cases h1
    ·cases e
 | block i x ih =>
  intro s h h' r e σ bp R a w k;simp only [exec,Option.map_eq_some_iff] at e;obtain ⟨p,hp,e⟩:=e;cases e;refine wp_block (wp_mono (ih s h _ p.1 hp σ bp R a w k) fun e a' w' he=>?_)
  cases e <;> simp only [Exit.inBlock,Post] at he ⊢
  ·obtain ⟨u,hu,nu⟩:=he;exact ⟨u,List.mem_append_left _ hu,nu⟩
  ·obtain ⟨u,hu,e1,nu⟩:=he;split
   ·rename_i hi;refine ⟨u.2,List.mem_append_right _ (List.mem_map.2 ⟨u,List.mem_filter.2 ⟨hu, ?_⟩,rfl⟩),nu⟩;rw [e1,hi];exact Nat.beq_refl _
   ·rename_i hi;refine ⟨u,List.mem_filter.2 ⟨hu, ?_⟩,e1,nu⟩;rw [e1];cases hb:Nat.beq _ i
    ·rfl
    ·exact absurd (Nat.eq_of_beq_eq_true hb) hi
  ·exact he
 | loop x ih =>
  intro s h h' r e σ bp R a w k;simp only [exec] at e;split at e
  ·rename_i n h1;refine wp_loop_rounds (n+1) (unrl_ok ih e (fun e a w hp=>?_) s List.mem_cons_self a w (Nx.refl k))
   cases e <;> simp only [Post] at hp ⊢
   ·obtain ⟨u,hu,_⟩:=hp;cases hu
   ·exact hp
   ·exact hp
  ·rename_i bx fa cf mu h1;generalize ht:({ (s.havoc (dsts x) bx).facts fa with cf:=(cf.map fun c=>(c.1.map Pr.lin,c.2))++((s.havoc (dsts x) bx).facts fa).cf }:AS).wake 4=t at e
   cases hmu:oldL t.n mu <;> rw [hmu] at e
   ·cases e
   simp only [Bool.not_true,cond_false] at e;split at e
   ·rename_i l0 p h2 hl0 hp;cases hall:p.n.all (roundOk (dz E) s t mu) <;> rw [hall] at e
    ·cases e
    ·cases e;refine wp_loop_rel (fun n a w=>∃ σ1 bp1 R1,Agr s.n σ1 σ/\Agb s.bx.length bp1 bp/\s.n<=t.n/\s.bx.length<=t.bx.length/\Stt C w0 R0 σ1 bp1 R1 t a w/\n=(mu.ev σ1).toNat) ?_ ?_
     ·obtain ⟨σ2,g1,g2,g3,g4,_⟩:=below_ok hl0 k;exact ⟨_,σ2,bp,R,g1,zai _ _,g2,g3,g4,rfl⟩
     ·rintro n a w ⟨σ1,bp1,R1,k1,k2,k3,k4,k5,rfl⟩;refine wp_mono (ih t _ _ p hp σ1 bp1 R1 a w k5) fun e a' w' he=>?_
      cases e <;> simp only [Exit.then,Post] at he ⊢
      ·obtain ⟨u,hu,σ2,bp2,R2,g1,g2,g3,g4,g5⟩:=he
       have:=List.all_eq_true.1 hall u hu
       unfold roundOk at this;split at this
       ·rename_i l hl;split at this
        ·rename_i m hm;simp only [Bool.and_eq_true] at this;obtain ⟨σ3,f1,f2,f3,f4,f5⟩:=below_ok hl g5;have fu:=g5.here.fs.fa;have e1:=zb0 σ2 fu _ _ this.1;have e2:=zb0 σ2 fu _ _ this.2;rw [zbf] at e1 e2;rw [zd0,f5 mu m hm] at e2;have e3:mu.ev σ2=mu.ev σ1:=zh0 (p:=Ai.lt t.n) (fun k hk=>g1 k ((zgt _ _).1 hk)) hmu
         refine ⟨_, ?_,σ3,bp2,R2,f1.trans ((g1.less k3).trans k1),(g3.less k4).trans k2,f2,f3,f4,rfl⟩;omega
        ·cases this
       ·cases this
      ·obtain ⟨u,hu,e1,nu⟩:=he;exact ⟨u,hu,e1,nu.from k1 k3 k2 k4⟩
      ·obtain ⟨u,hu,nu⟩:=he;exact ⟨u,hu,nu.from k1 k3 k2 k4⟩
   ·cases e
  ·cases e
 | scope x ih =>
  intro s h h' r e σ bp R a w k;simp only [exec] at e;refine wp_scope_straight (wp_mono (ih s h _ r e σ bp R a w k) fun e a' w' he=>?_)
  cases e <;> simp only [Exit.noGoto,Post] at he ⊢ <;> exact he
 | exit i =>
  intro s h h' r e σ bp R a w k;cases e;exact wp_exit ⟨(i,s),List.mem_cons_self,rfl,Nx.refl k⟩
 | ret =>
  intro s h h' r e σ bp R a w k;cases e;exact wp_ret ⟨s,List.mem_cons_self,Nx.refl k⟩
 | rangeFunc _ _ _ _=>intro s h h' r e;cases e
 | label _=>intro s h h' r e;cases e
 | goto _=>intro s h h' r e;cases e
 | refuse _=>intro s h h' r e;cases e
end
end Go.Proofs.YtckfjploafhenaaGreat.Ai
namespace Go.Proofs.YtckfjploafhenaaGreat.Ai
open Go.RowKit
section
variable {C:Cx} {E:Env} {w0:World} {R0:Nat->Prop} {σ σ1:Nat->Int} {bp bp1:Nat->Nat} {R:Nat->Prop} {s t:AS} {a:Act} {w:World}
theorem zgp {k:Ck} (h:wfB k=true):Ckwf k:=by
 cases k with
 | int k lo hi =>
  simp only [wfB,Bool.and_eq_true,zdv] at h;exact ⟨by omega,by omega⟩
 | _=>trivial
theorem split_ok:∀ (b:BE) (p:Bool) {s:AS},Fs σ s->b.ev σ=p->∃ u∈split b p s,Fs σ u:=by
 have base:∀ (b:BE) (p:Bool) {s:AS},Fs σ s->b.ev σ=p->∃ u∈(match s.assume b p with | some u=>[u] | none=>[]),Fs σ u:=by
  intro b p s h hb;obtain ⟨t,ht,hf⟩:=h.assume hb;rw [ht];exact ⟨t,List.mem_cons_self,hf⟩
 have two:∀ (a:BE) (q:Bool) (f:AS->List AS) {s:AS},Fs σ s->a.ev σ=q->(∀ u,Fs σ u->∃ v∈f u,Fs σ v)->∃ v∈(match s.assume a q with | some u=>f u | none=>[]),Fs σ v:=by
  intro a q f s h ha hf;obtain ⟨t,ht,h2⟩:=h.assume ha;rw [ht];exact hf t h2
 intro b;induction b with
 | tt=>intro p s h hb;cases p <;> exact base _ _ h hb
 | ff=>intro p s h hb;cases p <;> exact base _ _ h hb
 | le e=>intro p s h hb;cases p <;> exact base _ _ h hb
 | eq e=>intro p s h hb;cases p <;> exact base _ _ h hb
 | not b ih =>
  intro p s h hb;unfold split;exact ih (!p) h (by simp only [BE.ev] at hb;rw [<-hb];simp)
 | and x y ihx ihy =>
  intro p s h hb;simp only [BE.ev] at hb;cases p
  ·unfold split;cases hx:x.ev σ
   ·obtain ⟨u,hu,hf⟩:=ihx false h hx;exact ⟨u,List.mem_append_left _ hu,hf⟩
   ·rw [hx,Bool.true_and] at hb;obtain ⟨u,hu,hf⟩:=two x true (fun u=>split y false u) h hx (fun u hu=>ihy false hu hb)
    exact ⟨u,List.mem_append_right _ hu,hf⟩
  ·unfold split;simp only [Bool.and_eq_true] at hb;obtain ⟨u,hu,hf⟩:=ihx true h hb.1;obtain ⟨v,hv,hg⟩:=ihy true hf hb.2;exact ⟨v,List.mem_flatMap.2 ⟨u,hu,hv⟩,hg⟩
 | or x y ihx ihy =>
  intro p s h hb;simp only [BE.ev] at hb;cases p
  ·unfold split;simp only [Bool.or_eq_false_iff] at hb;obtain ⟨u,hu,hf⟩:=ihx false h hb.1;obtain ⟨v,hv,hg⟩:=ihy false hf hb.2;exact ⟨v,List.mem_flatMap.2 ⟨u,hu,hv⟩,hg⟩
  ·unfold split;cases hx:x.ev σ
   ·rw [hx,Bool.false_or] at hb;obtain ⟨u,hu,hf⟩:=two x false (fun u=>split y true u) h hx (fun u hu=>ihy true hu hb)
    exact ⟨u,List.mem_append_right _ hu,hf⟩
   ·obtain ⟨u,hu,hf⟩:=ihx true h hx;exact ⟨u,List.mem_append_left _ hu,hf⟩
theorem atB1_ok {f:Lin} {i:Nat} {b:Bool} (h:atB1 f=some (i,b)) {l:List Sy} {c:BE} (hc:nth l i=some (.be c)) {z:List Int} (hz:l.map (Sy.ev σ)=z):0<=f.ev (ζ z)↔c.ev σ=b:=by
 have e:ζ z i=if c.ev σ=true then 1 else 0:=by
  unfold ζ;rw [<-hz,List.getElem?_map,<-zbv,hc];rfl
 unfold atB1 at h;split at h
 ·rename_i j;simp only [Option.some.injEq,Prod.mk.injEq] at h;obtain ⟨rfl,rfl⟩:=h;simp only [Lin.ev,tev,e];cases c.ev σ <;> simp
 ·rename_i j;simp only [Option.some.injEq,Prod.mk.injEq] at h;obtain ⟨rfl,rfl⟩:=h;simp only [Lin.ev,tev,e];cases c.ev σ <;> simp
 ·cases h
theorem prems_ok {l:List Sy} {z:List Int} (hz:l.map (Sy.ev σ)=z):∀ {ps:List Lin} {ts us:List AS},prems l ps ts=some us->(∃ t∈ts,Fs σ t)->(∀ p∈ps,0<=p.ev (ζ z))->∃ t∈us,Fs σ t
 | [],ts,us,h,ht,_=>by cases h;exact ht
 | p::r,ts,us,h,ht,hp=>by
  have hp0:=hp p List.mem_cons_self;have hr:∀ q∈r,0<=q.ev (ζ z):=fun q hq=>hp q (List.mem_cons_of_mem _ hq)
  simp only [prems] at h;split at h
  ·rename_i e he;have ee:=zhi hz he;split at h
   ·rename_i hn
    have:nn e.c=true:=(zdv _).2 (by rw [<-zgh σ hn,ee];exact hp0)
    rw [this] at h;exact prems_ok hz h ht hr
   ·refine prems_ok hz h ?_ hr;obtain ⟨t,htm,hf⟩:=ht;exact ⟨t.fact e,List.mem_map.2 ⟨t,htm,rfl⟩,hf.fact (by rw [ee];exact hp0)⟩
  ·split at h
   ·rename_i i b hib;split at h
    ·rename_i c hc;refine prems_ok hz h ?_ hr;obtain ⟨t,htm,hf⟩:=ht;obtain ⟨u,hu,hg⟩:=split_ok c b hf ((atB1_ok hib hc hz).1 hp0);exact ⟨u,List.mem_flatMap.2 ⟨t,htm,hu⟩,hg⟩
    ·cases h
   ·cases h
theorem concl_ok {d:Nat} {l:List Sy} {z:List Int} (hz:l.map (Sy.ev σ)=z) {co:Lin} (h:concl d l co t=true) (ht:Fs σ t):0<=co.ev (ζ z):=by
 have f:Fs σ (t.wake 4):=ht.wake;unfold concl at h;simp only [negs_no f.fa,Bool.false_or] at h;split at h
 ·rename_i e he;rw [<-zhi hz he];simp only [Bool.or_eq_true] at h;rcases h with h | h
  ·exact zb0 σ f.fa _ _ h
  ·rw [f.alive d] at h;cases h
 ·split at h
  ·rename_i i b hib;split at h
   ·rename_i c hc;refine (atB1_ok hib hc hz).2 ?_;by_cases hcb:c.ev σ=b
    ·exact hcb
    exfalso
    have:c.ev σ=!b:=by revert hcb;cases c.ev σ <;> cases b <;> simp
    obtain ⟨u,hu,hg⟩:=split_ok c (!b) f this
    have:=List.all_eq_true.1 h u hu
    rw [hg.alive d] at this;cases this
   ·cases h
  ·cases h
theorem postOk_ok {d:Nat} {l:List Sy} {z:List Int} (hz:l.map (Sy.ev σ)=z) {p:List Lin×Lin} (h:postOk d l t p=true) (ht:Fs σ t) (hp:∀ q∈p.1,0<=q.ev (ζ z)):0<=p.2.ev (ζ z):=by
 unfold postOk at h;split at h
 ·rename_i ts hts;obtain ⟨u,hu,hf⟩:=prems_ok hz hts ⟨t,List.mem_cons_self,ht⟩ hp;exact concl_ok hz (List.all_eq_true.1 h u hu) hf
 ·cases h
-- parameters
theorem valsFlat:∀ {cs:List (Bool×List Ck)} {vs:List Value},zey C R w cs vs->CksOk C R w (cs.flatMap (·.2)) (vs.flatMap fun v=>v.cells.toList)
 | [],[],_=>trivial
 | [],_::_,h=>h.elim
 | _::_,[],h=>h.elim
 | (g,ks)::cs,v::vs,h=>by
  have app:∀ {a:List Ck} {b:List Value},CksOk C R w a b->∀ {c:List Ck} {d:List Value},CksOk C R w c d->CksOk C R w (a++c) (b++d):=by
   intro a;induction a with
   | nil=>intro b h c d k;cases b with | nil=>exact k | cons _ _=>exact h.elim
   | cons x a ih=>intro b h c d k;cases b with | nil=>exact h.elim | cons y b=>exact ⟨h.1,ih h.2 k⟩
  simp only [List.flatMap_cons];refine app ?_ (valsFlat h.2);have h1:=h.1;cases g with
  | true =>
   obtain ⟨arr,rfl,hc⟩:=h1;exact hc
  | false =>
   have hc:CksOk C R w ks [v]:=h1
   have:v.cells=#[v]:=by
    cases ks with
    | nil=>exact hc.elim
    | cons c r =>
     have hc:=hc.1;cases c with
     | int k lo hi=>obtain ⟨n,rfl,_⟩:=hc;rfl
     | bool=>obtain ⟨n,rfl⟩:=hc;rfl
     | str=>obtain ⟨n,rfl,_⟩:=hc;rfl
     | sl T=>obtain ⟨n,_,_,_,rfl,_⟩:=hc;rfl
     | cur=>rw [show v=_ from hc];rfl
   rw [this];exact hc
theorem params_ok:∀ {cs:List (Bool×List Ck)} {vs:List Value} {s s':AS} {xs:List AV} {ys:List Sy} {σ:Nat->Int},params s cs=some (xs,ys,s')->Stt C w0 R0 σ bp R s a w->zey C R w cs vs->(∀ c∈cs,∀ k∈c.2,Ckwf k) ->
  ∃ σ1,Agr s.n σ1 σ/\s.n<=s'.n/\s'.bx=s.bx/\Stt C w0 R0 σ1 bp R s' a w/\∀ σ' bp',Agr s'.n σ' σ1->TmOk C σ' bp' R w xs vs/\ys.map (Sy.ev σ')=nums vs
 | [],[],s,s',xs,ys,σ,e,h,_,_=>by
  cases e;exact ⟨σ,zaa _ _,Nat.le_refl _,rfl,h,fun _ _ _=>⟨trivial,rfl⟩⟩
 | [],_::_,s,s',xs,ys,σ,e,h,hl,_=>hl.elim
 | _::_,[],s,s',xs,ys,σ,e,h,hl,_=>hl.elim
 | (g,ks)::cs,v::vs,s,s',xs,ys,σ,e,h,hl,hw=>by
  simp only [params] at e;split at e
  ·rename_i x xs' ys' s2 hx hxs;cases e
   have hv:∃ us,CksOk C R w ks us/\v.cells.toList.map num=us.map num/\((g=true/\v = .agg us.toArray)\/(g=false/\us=[v])):=by
    have:=hl.1
    cases g with
    | true =>
     obtain ⟨arr,rfl,hc⟩:=this;exact ⟨arr.toList,hc,rfl, .inl ⟨rfl,rfl⟩⟩
    | false =>
     have hc:CksOk C R w ks [v]:=this;refine ⟨[v],hc, ?_, .inr ⟨rfl,rfl⟩⟩
     have:v.cells=#[v]:=by
      cases ks with
      | nil=>exact hc.elim
      | cons c r =>
       have hc:=hc.1;cases c with
       | int k lo hi=>obtain ⟨n,rfl,_⟩:=hc;rfl
       | bool=>obtain ⟨n,rfl⟩:=hc;rfl
       | str=>obtain ⟨n,rfl,_⟩:=hc;rfl
       | sl T=>obtain ⟨n,_,_,_,rfl,_⟩:=hc;rfl
       | cur=>rw [show v=_ from hc];rfl
     rw [this]
   obtain ⟨us,u1,u2,u3⟩:=hv;obtain ⟨σ1,a1,n1,t1,b1,st1,k1⟩:=freshL_num ks us h u1 (hw _ List.mem_cons_self);obtain ⟨σ2,a2,n2,b2,st2,k2⟩:=params_ok hxs st1 hl.2 (fun c' hc=>hw c' (List.mem_cons_of_mem _ hc))
   refine ⟨σ2,(a2.less n1).trans a1,Nat.le_trans n1 n2,b2.trans b1,st2,fun σ' bp' ha=>?_⟩
   obtain ⟨x1,x2⟩:=k1 σ' bp' (((show Agr _ σ' σ2 from ha).less n2).trans a2)
   obtain ⟨y1,y2⟩:=k2 σ' bp' ha;refine ⟨⟨?_,y1⟩, ?_⟩
   ·exact pack_ok (T:=⟨g,[],[],0,[]⟩) hx u3 x1
   ·simp only [List.map_append,nums,List.flatMap_cons];rw [x2,u2];congr 1
  ·cases e
end
end Go.Proofs.YtckfjploafhenaaGreat.Ai
