/- What the interpreter's expressions, truths and facts mean, and that its reasoning on them is sound. -/
import Derived.Test.YtckfjploafhenaaGreatPk0
set_option maxRecDepth 100000
set_option maxHeartbeats 16000000
set_option linter.unusedVariables false
set_option linter.unusedSimpArgs false
namespace Go.Proofs.YtckfjploafhenaaGreat.Ai
theorem zdv (x:Int):nn x=true↔0<=x:=by
 cases x with
 | ofNat n=>simp [nn]
 | negSucc n=>simp [nn]
theorem ze0 (x:Int):isZ x=true↔x=0:=by
 cases x with
 | ofNat n=>simp [isZ,Nat.beq_eq]
 | negSucc n=>simp [isZ]
def tev (σ:Nat->Int):List (Nat×Int)->Int
 | []=>0
 | (s,k)::r=>k * σ s+tev σ r
def Lin.ev (σ:Nat->Int) (l:Lin):Int:=l.c+tev σ l.t
section
variable (σ:Nat->Int)
theorem tev_ins (s:Nat) (k:Int):∀ l,tev σ (ins s k l)=k * σ s+tev σ l
 | []=>rfl
 | (u,j)::r=>by
  unfold ins;cases h1:Nat.blt s u
  ·cases h2:Nat.beq s u
   ·simp only [cond_false,tev,tev_ins s k r];omega
   ·have hs:s=u:=Nat.eq_of_beq_eq_true h2;subst hs;cases h3:isZ (k+j)
    ·simp only [cond_false,cond_true,tev,Int.add_mul];omega
    ·have h4:=(ze0 _).1 h3;have h5:k * σ s+j * σ s=0:=by rw [<-Int.add_mul,h4,Int.zero_mul]
     simp only [cond_false,cond_true,tev];omega
  ·simp only [cond_true,tev]
theorem tev_addT:∀ a b,tev σ (addT a b)=tev σ a+tev σ b
 | [],b=>by simp [addT,tev]
 | (s,k)::a,b=>by simp only [addT,tev_ins,tev_addT a b,tev];omega
theorem tev_map (m:Int):∀ l:List (Nat×Int),tev σ (l.map fun p=>(p.1,m * p.2))=m * tev σ l
 | []=>by simp [tev]
 | (s,k)::r=>by simp only [List.map_cons,tev,tev_map m r,Int.mul_add,Int.mul_assoc]
theorem ev_add (a b:Lin):(a.add b).ev σ=a.ev σ+b.ev σ:=by simp only [Lin.ev,Lin.add,tev_addT];omega
theorem ze1 (m:Int) (a:Lin):(a.mul m).ev σ=m * a.ev σ:=by
 unfold Lin.mul;cases h:isZ m
 ·simp only [cond_false,Lin.ev,tev_map,Int.mul_add]
 ·rw [(ze0 _).1 h];simp [Lin.ev,tev]
theorem zd0 (a b:Lin):(a.sub b).ev σ=a.ev σ - b.ev σ:=by simp only [Lin.sub,ev_add,ze1];omega
theorem zbf (a:Lin) (c:Int):(a.plus c).ev σ=a.ev σ+c:=by simp only [Lin.ev,Lin.plus];omega
theorem zc4 (c:Int):(cst c).ev σ=c:=by simp [Lin.ev,cst,tev]
theorem zes (s:Nat):(var s).ev σ=σ s:=by simp [Lin.ev,var,tev]
theorem ev_ge (c:Int) (e:Lin):(ge c e).ev σ=e.ev σ - c:=by unfold ge;rw [zbf];omega
theorem ev_le (c:Int) (e:Lin):(le c e).ev σ=c - e.ev σ:=by unfold le;rw [zd0,zc4]
theorem teq_ev:∀ a b,teq a b=true->tev σ a=tev σ b
 | [],[],_=>rfl
 | [],_::_,h=>by simp [teq] at h
 | _::_,[],h=>by simp [teq] at h
 | (s,k)::a,(u,j)::b,h=>by
  simp only [teq,Bool.and_eq_true] at h;have h1:s=u:=Nat.eq_of_beq_eq_true h.1.1;have h2:=(ze0 _).1 h.1.2;have h3:k=j:=by omega
  subst h1;subst h3;simp only [tev,teq_ev a b h.2]
theorem leq_ev {a b:Lin} (h:leq a b=true):a.ev σ=b.ev σ:=by
 simp only [leq,Bool.and_eq_true] at h;have h1:=(ze0 _).1 h.1;simp only [Lin.ev,teq_ev σ _ _ h.2];omega
theorem zgh {e:Lin} (h:e.t=[]):e.ev σ=e.c:=by simp [Lin.ev,h,tev]
theorem same_spec {k j:Int} (h:same k j=true):k≠0/\j≠0:=by
 unfold same at h;cases h1:isZ k <;> cases h2:isZ j <;> simp [h1,h2] at h
 exact ⟨fun e=>(by rw [(ze0 k).2 e] at h1;exact absurd h1 (by simp)),fun e=>(by rw [(ze0 j).2 e] at h2;exact absurd h2 (by simp))⟩
theorem comb_sound {g f:Lin} {k j:Int} (hs:same k j=true) (hf:0<=f.ev σ) (h:0<=(comb g f k j).ev σ):0<=g.ev σ:=by
 obtain ⟨_,hj⟩:=same_spec hs;unfold comb at h;simp only [zbf,zd0,ze1] at h;generalize hq:k.natAbs / k.natAbs.gcd j.natAbs=q at h;generalize hm:j.natAbs / k.natAbs.gcd j.natAbs=m at h
 have hm1:1<=m:=by
  rw [<-hm];have hjp:0 < j.natAbs:=by omega
  exact Nat.div_pos (Nat.le_of_dvd hjp (Nat.gcd_dvd_right _ _)) (Nat.gcd_pos_of_pos_right _ hjp)
 have h1:(0:Int)<=Int.ofNat q * f.ev σ:=Int.mul_nonneg (by simp) hf
 generalize Int.ofNat q * f.ev σ=x at h h1;simp only [Int.ofNat_eq_natCast] at h;by_cases hg:0<=g.ev σ
 ·exact hg
 ·have h2:(m:Int) * g.ev σ<=(m:Int) * (-1):=Int.mul_le_mul_of_nonneg_left (by omega) (by omega)
  omega
theorem entD_sound {fs:List Lin} (hf:∀ f∈fs,0<=f.ev σ):∀ (d:Nat) (g:Lin),entD fs d g=true->0<=g.ev σ
 | 0,g,h=>by
  unfold entD at h;cases ht:g.t with
  | nil=>rw [zgh σ ht];simp only [ht] at h;exact (zdv _).1 h
  | cons p r=>simp [ht] at h
 | d+1,g,h=>by
  unfold entD at h;cases ht:g.t with
  | nil=>rw [zgh σ ht];simp only [ht] at h;exact (zdv _).1 h
  | cons p r =>
   obtain ⟨s,k⟩:=p;simp only [ht,List.any_eq_true] at h;obtain ⟨f,hm,h⟩:=h;cases hs:same k (coef s f.t)
   ·simp [hs] at h
   ·simp only [hs,cond_true] at h;exact comb_sound σ hs (hf f hm) (entD_sound hf d _ h)
theorem entU_sound {fs:List Lin} (hf:∀ f∈fs,0<=f.ev σ) {g:Lin}:∀ (n k:Nat),entU fs g n k=true->0<=g.ev σ
 | 0,k,h=>entD_sound σ hf k g h
 | n+1,k,h=>by
  simp only [entU] at h;cases he:entD fs k g <;> rw [he] at h
  ·exact entU_sound hf n (k+1) h
  ·exact entD_sound σ hf k g he
theorem zb0 {fs:List Lin} (hf:∀ f∈fs,0<=f.ev σ) (d:Nat) (g:Lin) (h:ent fs d g=true):0<=g.ev σ:=by
 unfold ent at h;split at h
 ·rename_i ht;rw [zgh σ ht];exact (zdv _).1 h
 ·exact entU_sound σ hf _ _ h
def BE.ev:BE->Bool
 | .tt=>true
 | .ff=>false
 | .le e=>decide (0<=e.ev σ)
 | .eq e=>decide (e.ev σ=0)
 | .not b=>!b.ev
 | .and a b=>a.ev && b.ev
 | .or a b=>a.ev || b.ev
theorem beB_ev:∀ {a b:BE},beB a b=true->a.ev σ=b.ev σ
 | .tt,b,h=>by cases b <;> simp [beB] at h;rfl
 | .ff,b,h=>by cases b <;> simp [beB] at h;rfl
 | .le e,b,h=>by cases b <;> simp [beB] at h;simp only [BE.ev,leq_ev σ h]
 | .eq e,b,h=>by cases b <;> simp [beB] at h;simp only [BE.ev,leq_ev σ h]
 | .not a,b,h=>by cases b <;> simp [beB] at h;simp only [BE.ev,beB_ev h]
 | .and a c,b,h=>by cases b <;> simp [beB] at h;simp only [BE.ev,beB_ev h.1,beB_ev h.2]
 | .or a c,b,h=>by cases b <;> simp [beB] at h;simp only [BE.ev,beB_ev h.1,beB_ev h.2]
theorem ble_ev (e:Lin):(ble e).ev σ=decide (0<=e.ev σ):=by
 unfold ble;cases ht:e.t with
 | nil =>
  simp only [zgh σ ht];cases h:nn e.c
  ·have:¬ 0<=e.c:=fun h2=>by rw [(zdv _).2 h2] at h;cases h
   simp [BE.ev,this]
  ·have:=(zdv _).1 h
   simp [BE.ev,this]
 | cons p r=>rfl
theorem beq_ev (e:Lin):(beq e).ev σ=decide (e.ev σ=0):=by
 unfold beq;cases ht:e.t with
 | nil =>
  simp only [zgh σ ht];cases h:isZ e.c
  ·have:¬ e.c=0:=fun h2=>by rw [(ze0 _).2 h2] at h;cases h
   simp [BE.ev,this]
  ·have:=(ze0 _).1 h
   simp [BE.ev,this]
 | cons p r=>rfl
theorem bnot_ev (b:BE):(bnot b).ev σ=!b.ev σ:=by cases b <;> simp [bnot,BE.ev]
theorem band_ev (a b:BE):(band a b).ev σ=(a.ev σ && b.ev σ):=by cases a <;> cases b <;> simp [band,BE.ev]
theorem bor_ev (a b:BE):(bor a b).ev σ=(a.ev σ || b.ev σ):=by cases a <;> cases b <;> simp [bor,BE.ev]
theorem zed:∀ (b:BE) (p:Bool),b.ev σ=p->∀ f∈litF b p,0<=f.ev σ
 | .tt,p,_,f,hf=>by simp [litF] at hf
 | .ff,p,_,f,hf=>by simp [litF] at hf
 | .le e,true,h,f,hf=>by simp [litF] at hf;subst hf;simpa [BE.ev] using h
 | .le e,false,h,f,hf=>by simp [litF] at hf;subst hf;simp [BE.ev] at h;rw [zd0,zc4];omega
 | .eq e,true,h,f,hf=>by
  simp [BE.ev] at h;simp [litF] at hf;rcases hf with rfl | rfl
  ·omega
  ·rw [ze1];omega
 | .eq e,false,_,f,hf=>by simp [litF] at hf
 | .not b,p,h,f,hf=>by
  simp only [litF] at hf;exact zed b (!p) (by rw [<-h];simp [BE.ev]) f hf
 | .and a b,true,h,f,hf=>by
  simp [BE.ev] at h;simp only [litF,List.mem_append] at hf;rcases hf with hf | hf
  ·exact zed a true h.1 f hf
  ·exact zed b true h.2 f hf
 | .and a b,false,_,f,hf=>by simp [litF] at hf
 | .or a b,false,h,f,hf=>by
  simp [BE.ev] at h;simp only [litF,List.mem_append] at hf;rcases hf with hf | hf
  ·exact zed a false h.1 f hf
  ·exact zed b false h.2 f hf
 | .or a b,true,_,f,hf=>by simp [litF] at hf
theorem zcz:∀ (b:BE) (p:Bool),b.ev σ=p->∀ x∈litA b p,x.1.ev σ=x.2
 | .tt,p,h,x,hx=>by simp [litA] at hx;subst hx;exact h
 | .ff,p,h,x,hx=>by simp [litA] at hx;subst hx;exact h
 | .le e,p,h,x,hx=>by simp [litA] at hx;subst hx;exact h
 | .eq e,p,h,x,hx=>by simp [litA] at hx;subst hx;exact h
 | .not b,p,h,x,hx=>by
  simp only [litA] at hx;exact zcz b (!p) (by rw [<-h];simp [BE.ev]) x hx
 | .and a b,true,h,x,hx=>by
  have h':=h;simp [BE.ev] at h;simp only [litA,List.mem_append,List.mem_singleton] at hx;rcases hx with (hx | hx) | hx
  ·exact zcz a true h.1 x hx
  ·exact zcz b true h.2 x hx
  ·subst hx;exact h'
 | .and a b,false,h,x,hx=>by simp [litA] at hx;subst hx;exact h
 | .or a b,false,h,x,hx=>by
  have h':=h;simp [BE.ev] at h;simp only [litA,List.mem_append,List.mem_singleton] at hx;rcases hx with (hx | hx) | hx
  ·exact zcz a false h.1 x hx
  ·exact zcz b false h.2 x hx
  ·subst hx;exact h'
 | .or a b,true,h,x,hx=>by simp [litA] at hx;subst hx;exact h
theorem impl_sound {l:List (BE×Bool)} (hl:∀ x∈l,x.1.ev σ=x.2):∀ (g:BE) (p:Bool),impl l g p=true->g.ev σ=p:=by
 have key:∀ (g:BE) (p:Bool),l.any (fun x=>(x.2 == p) && beB x.1 g)=true->g.ev σ=p:=by
  intro g p h;rw [List.any_eq_true] at h;obtain ⟨x,hx,h⟩:=h;simp only [Bool.and_eq_true,beq_iff_eq] at h;rw [<-beB_ev σ h.2,hl x hx,h.1]
 have keyt:∀ (g:BE),l.any (fun x=>x.2 && beB x.1 g)=true->g.ev σ=true:=fun g h=>key g true (by simpa using h)
 have keyf:∀ (g:BE),l.any (fun x=>!x.2 && beB x.1 g)=true->g.ev σ=false:=fun g h=>key g false (by simpa using h)
 intro g;induction g with
 | tt=>intro p h;simp [impl] at h;simp [BE.ev,h]
 | ff=>intro p h;simp [impl] at h;simp [BE.ev,h]
 | le e=>intro p h;exact key _ _ (by simpa [impl] using h)
 | eq e=>intro p h;exact key _ _ (by simpa [impl] using h)
 | not g ih =>
  intro p h;simp only [impl,Bool.or_eq_true] at h;rcases h with h | h
  ·exact key _ _ h
  ·simp only [BE.ev,ih _ h];simp
 | and a b iha ihb =>
  intro p h;cases p
  ·exact key _ _ (by simpa [impl] using h)
  ·simp only [impl,Bool.or_eq_true,Bool.and_eq_true] at h;rcases h with h | h
   ·exact keyt _ h
   ·simp [BE.ev,iha _ h.1,ihb _ h.2]
 | or a b iha ihb =>
  intro p h;cases p
  ·simp only [impl,Bool.or_eq_true,Bool.and_eq_true] at h;rcases h with h | h
   ·exact keyf _ h
   ·simp [BE.ev,iha _ h.1,ihb _ h.2]
  ·exact key _ _ (by simpa [impl] using h)
-- what a state knows
def PrH:Pr->Prop
 | .lin e=>0<=e.ev σ
 | .be b p=>b.ev σ=p
structure Fs (s:AS):Prop where
 fa:∀ f∈s.fa,0<=f.ev σ
 lt:∀ x∈s.at_,x.1.ev σ=x.2
 cf:∀ c∈s.cf,(∀ p∈c.1,PrH σ p)->0<=c.2.ev σ
structure Sm (s t:AS):Prop where
 tm:t.tm=s.tm
 bx:t.bx=s.bx
 n:t.n=s.n
theorem Sm.refl (s:AS):Sm s s:=⟨rfl,rfl,rfl⟩
theorem Sm.trans {a b c:AS} (h:Sm a b) (k:Sm b c):Sm a c:=⟨k.tm.trans h.tm,k.bx.trans h.bx,k.n.trans h.n⟩
theorem ziq (s:AS) (f:Lin):Sm s (s.fact f):=by
 unfold AS.fact;split
 ·exact .refl s
 ·cases h:s.fa.any (leq f)
  ·exact ⟨rfl,rfl,rfl⟩
  ·exact .refl s
theorem zgc:∀ (l:List Lin) (s:AS),Sm s (s.facts l)
 | [],s => .refl s
 | f::r,s=>(ziq s f).trans (zgc r (s.fact f))
theorem lit_sm (s:AS) (b:BE) (p:Bool):Sm s (s.lit b p):=by
 unfold AS.lit;cases s.has b p
 ·exact ⟨rfl,rfl,rfl⟩
 ·exact .refl s
theorem lits_sm:∀ (l:List (BE×Bool)) (s:AS),Sm s (l.foldl (fun s x=>s.lit x.1 x.2) s)
 | [],s => .refl s
 | x::r,s=>(lit_sm s x.1 x.2).trans (lits_sm r _)
theorem wake1_sm:∀ (l:List (List Pr×Lin)) (s:AS),Sm s (wake1 s l)
 | [],s => .refl s
 | (pr,f)::r,s=>by
  unfold wake1;cases pr.all s.prem
  ·exact wake1_sm r s
  ·exact (ziq s f).trans (wake1_sm r _)
theorem wake_sm:∀ (k:Nat) (s:AS),Sm s (s.wake k)
 | 0,s => .refl s
 | k+1,s=>by
  unfold AS.wake;dsimp only;cases Nat.beq (wake1 s s.cf).fa.length s.fa.length
  ·exact (wake1_sm _ _).trans (wake_sm k _)
  ·exact .refl s
theorem sign_sm:∀ (l:List (BE×Bool)) (s:AS),Sm s (s.sign l)
 | [],s => .refl s
 | (b,p)::r,s=>by
  cases b with
  | eq e =>
   cases p
   ·simp only [AS.sign];cases ent s.fa 3 e
    ·cases ent s.fa 3 (e.mul (-1))
     ·exact sign_sm r s
     ·exact (ziq _ _).trans (sign_sm r _)
    ·exact (ziq _ _).trans (sign_sm r _)
   ·simp only [AS.sign];exact sign_sm r s
  | _=>simp only [AS.sign];exact sign_sm r s
variable {σ}
theorem Fs.fact {s:AS} (h:Fs σ s) {f:Lin} (hf:0<=f.ev σ):Fs σ (s.fact f):=by
 unfold AS.fact;split
 ·exact h
 ·cases s.fa.any (leq f)
  ·refine ⟨fun g hg=>?_,h.lt,h.cf⟩
   rcases List.mem_cons.1 hg with rfl | hg
   ·exact hf
   ·exact h.fa g hg
  ·exact h
theorem Fs.facts:∀ {l:List Lin} {s:AS},Fs σ s->(∀ f∈l,0<=f.ev σ)->Fs σ (s.facts l)
 | [],s,h,_=>h
 | f::r,s,h,hl=>Fs.facts (l:=r) (h.fact (hl f List.mem_cons_self)) (fun g hg=>hl g (List.mem_cons_of_mem f hg))
theorem Fs.has {s:AS} (h:Fs σ s) {b:BE} {p:Bool} (hh:s.has b p=true):b.ev σ=p:=by
 unfold AS.has at hh;rw [List.any_eq_true] at hh;obtain ⟨x,hx,hh⟩:=hh;simp only [Bool.and_eq_true,beq_iff_eq] at hh;rw [beB_ev σ hh.2,h.lt x hx,hh.1]
theorem Fs.lit {s:AS} (h:Fs σ s) {b:BE} {p:Bool} (hb:b.ev σ=p):Fs σ (s.lit b p):=by
 unfold AS.lit;cases s.has b p
 ·refine ⟨h.fa,fun x hx=>?_,h.cf⟩
  rcases List.mem_cons.1 hx with rfl | hx
  ·exact hb
  ·exact h.lt x hx
 ·exact h
theorem Fs.lits:∀ {l:List (BE×Bool)} {s:AS},Fs σ s->(∀ x∈l,x.1.ev σ=x.2)->Fs σ (l.foldl (fun s x=>s.lit x.1 x.2) s)
 | [],s,h,_=>h
 | x::r,s,h,hl=>Fs.lits (l:=r) (h.lit (hl x List.mem_cons_self)) (fun g hg=>hl g (List.mem_cons_of_mem x hg))
theorem unnot_ev:∀ (b:BE) (p:Bool),(unnot b p).1.ev σ=(unnot b p).2->b.ev σ=p
 | .not b,p,h=>by
  have:=unnot_ev b (!p) h
  simp [BE.ev,this]
 | .tt,p,h=>h
 | .ff,p,h=>h
 | .le _,p,h=>h
 | .eq _,p,h=>h
 | .and _ _,p,h=>h
 | .or _ _,p,h=>h
theorem Fs.prem {s:AS} (h:Fs σ s) {p:Pr} (hp:s.prem p=true):PrH σ p:=by
 cases p with
 | lin e=>exact zb0 σ h.fa _ _ hp
 | be b p=>exact unnot_ev b p (h.has hp)
theorem Fs.wake1:∀ {l:List (List Pr×Lin)} {s:AS},Fs σ s->(∀ c∈l,(∀ p∈c.1,PrH σ p)->0<=c.2.ev σ)->Fs σ (wake1 s l)
 | [],s,h,_=>h
 | (pr,f)::r,s,h,hl=>by
  unfold Ai.wake1;have hr:∀ c∈r,(∀ p∈c.1,PrH σ p)->0<=c.2.ev σ:=fun c hc=>hl c (List.mem_cons_of_mem _ hc)
  cases hp:pr.all s.prem
  ·exact Fs.wake1 h hr
  ·refine Fs.wake1 (h.fact (hl (pr,f) List.mem_cons_self fun p hp'=>h.prem ?_)) hr
   rw [List.all_eq_true] at hp;exact hp p hp'
theorem Fs.wake:∀ {k:Nat} {s:AS},Fs σ s->Fs σ (s.wake k)
 | 0,s,h=>h
 | k+1,s,h=>by
  unfold AS.wake;dsimp only;cases Nat.beq (Ai.wake1 s s.cf).fa.length s.fa.length
  ·exact Fs.wake (h.wake1 h.cf)
  ·exact h
theorem Fs.sign:∀ {l:List (BE×Bool)} {s:AS},Fs σ s->(∀ x∈l,x.1.ev σ=x.2)->Fs σ (s.sign l)
 | [],s,h,_=>h
 | (b,p)::r,s,h,hl=>by
  have hr:∀ x∈r,x.1.ev σ=x.2:=fun x hx=>hl x (List.mem_cons_of_mem _ hx)
  have hb:=hl (b,p) List.mem_cons_self;cases b with
  | eq e =>
   cases p
   ·simp only [AS.sign];simp [BE.ev] at hb;cases h1:ent s.fa 3 e
    ·cases h2:ent s.fa 3 (e.mul (-1))
     ·exact Fs.sign h hr
     ·have:=zb0 σ h.fa _ _ h2
      rw [ze1] at this;exact Fs.sign (h.fact (by rw [zbf,ze1];omega)) hr
    ·have:=zb0 σ h.fa _ _ h1
     exact Fs.sign (h.fact (by rw [zbf];omega)) hr
   ·simp only [AS.sign];exact Fs.sign h hr
  | _=>simp only [AS.sign];exact Fs.sign h hr
theorem neg_no {f:Lin} (h:0<=f.ev σ):neg f=false:=by
 unfold neg;cases ht:f.t with
 | nil =>
  rw [zgh σ ht] at h;simp [(zdv _).2 h]
 | cons q r=>rfl
theorem negs_no {l:List Lin} (h:∀ f∈l,0<=f.ev σ):l.any neg=false:=by
 rw [<-Bool.not_eq_true,List.any_eq_true];rintro ⟨f,hf,hh⟩;rw [neg_no (h f hf)] at hh;cases hh
theorem Fs.assume {s:AS} (h:Fs σ s) {b:BE} {p:Bool} (hb:b.ev σ=p):∃ t,s.assume b p=some t/\Fs σ t:=by
 have hF:=zed σ b p hb;have hA:=zcz σ b p hb;have h1:=negs_no hF
 have h2:(litA b p).any (fun x=>s.has x.1 (!x.2))=false:=by
  rw [<-Bool.not_eq_true,List.any_eq_true];rintro ⟨x,hx,hh⟩;have a1:=hA x hx;have a2:=h.has hh;rw [a1] at a2;cases hx2:x.2 <;> simp [hx2] at a2
 have h3:=(Fs.sign (Fs.lits (h.facts hF) hA) hA).wake (k:=4)
 cases b <;> cases p <;> first
  | (simp [BE.ev] at hb;done)
  | exact ⟨s,rfl,h⟩
  | exact ⟨_,by unfold AS.assume;simp only [h1,h2,Bool.or_false,cond_false],h3⟩
theorem zd6 {s t:AS} {b:BE} {p:Bool} (h:s.assume b p=some t):Sm s t:=by
 have key:Sm s ((((litA b p).foldl (fun s x=>s.lit x.1 x.2) (s.facts (litF b p))).sign (litA b p)).wake 4):=(zgc _ _).trans ((lits_sm _ _).trans ((sign_sm _ _).trans (wake_sm _ _)))
 unfold AS.assume at h;split at h
 ·cases h;exact .refl s
 ·cases h;exact .refl s
 ·cases h
 ·cases h
 ·dsimp only at h
  revert h
  generalize ((litF b p).any neg || (litA b p).any (fun x=>s.has x.1 (!x.2)))=q
  cases q
  ·intro h;cases h;exact key
  ·intro h;cases h
theorem Fs.alive {s:AS} (h:Fs σ s) (d:Nat):s.dead d=false:=by
 unfold AS.dead;rw [<-Bool.not_eq_true,List.any_eq_true];rintro ⟨f,hf,hh⟩;have a1:=h.fa f (List.mem_of_mem_take hf);have a2:=zb0 σ h.fa _ _ hh;rw [zbf,ze1] at a2;omega
theorem Fs.sb {s:AS} (h:Fs σ s):∀ b:BE,(s.sb b).ev σ=b.ev σ
 | .not b=>by simp only [AS.sb,bnot_ev,Fs.sb h b,BE.ev]
 | .le e=>by
  simp only [AS.sb];cases h1:(s.has (.le e) true || ent s.fa 3 e)
  ·cases h2:(s.has (.le e) false || ent s.fa 3 ((cst (-1)).sub e))
   ·rfl
   ·simp only [cond_false,cond_true];rw [Bool.or_eq_true] at h2;rcases h2 with h2 | h2
    ·exact (h.has h2).symm
    ·have:=zb0 σ h.fa _ _ h2
     rw [zd0,zc4] at this;simp [BE.ev];omega
  ·simp only [cond_true];rw [Bool.or_eq_true] at h1;rcases h1 with h1 | h1
   ·exact (h.has h1).symm
   ·have:=zb0 σ h.fa _ _ h1
    simp [BE.ev,this]
 | .eq e=>by
  simp only [AS.sb];cases h1:s.has (.eq e) true
  ·cases h2:(s.has (.eq e) false || ent s.fa 3 (e.plus (-1)) || ent s.fa 3 ((e.mul (-1)).plus (-1)))
   ·rfl
   ·simp only [cond_false,cond_true];simp only [Bool.or_eq_true] at h2;rcases h2 with (h2 | h2) | h2
    ·exact (h.has h2).symm
    ·have:=zb0 σ h.fa _ _ h2
     rw [zbf] at this;simp [BE.ev];omega
    ·have:=zb0 σ h.fa _ _ h2
     rw [zbf,ze1] at this;simp [BE.ev];omega
  ·exact (h.has h1).symm
 | .tt=>rfl
 | .ff=>rfl
 | .and _ _=>rfl
 | .or _ _=>rfl
end
end Go.Proofs.YtckfjploafhenaaGreat.Ai
