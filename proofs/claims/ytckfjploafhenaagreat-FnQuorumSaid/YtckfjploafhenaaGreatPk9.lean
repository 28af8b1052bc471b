/- The interpreter's steps are sound: one operation, with or without a guard. -/
import Derived.Test.YtckfjploafhenaaGreatPk7
import Derived.Test.YtckfjploafhenaaGreatPk8
import Derived.Tactics
set_option maxRecDepth 100000
set_option maxHeartbeats 16000000
set_option linter.unusedVariables false
set_option linter.unusedSimpArgs false
namespace Go.Proofs.YtckfjploafhenaaGreat.Ai
open Go.RowKit
structure Sp (C:Cx) (w0:World) (R0 R:Nat->Prop) (w:World) (tg:Option Nat) (σ:Nat->Int) (bp:Nat->Nat) (s s':AS) (a':Act) (w':World) (σ1:Nat->Int) (bp1:Nat->Nat) (R1:Nat->Prop):Prop where
 ag:Agr s.n σ1 σ
 le:s.n<=s'.n
 ab:Agb s.bx.length bp1 bp
 lb:s.bx.length<=s'.bx.length
 st:Stt C w0 R0 σ1 bp1 R1 s' a' w'
 fr:Fr C R R1 bp tg w w'
def tgs (s:AS) (o:Oper):Option Nat:=tgt [] s o.op
section
variable {C:Cx} {tg:Option Nat} {E:Env} {w0:World} {R0:Nat->Prop} {σ:Nat->Int} {bp:Nat->Nat} {R R':Nat->Prop} {s s':AS} {a:Act} {w w':World} {W:List (BE×Bool)} {o:Oper} {ov:Option AV}
theorem put_stt (h:Stt C w0 R0 σ bp R s a w) {d:Nat} {x:AV} {v:Value} (hv:∀ σ' bp',Agr s.n σ' σ->Agb s.bx.length bp' bp->AVOk C σ' bp' R w x v):Stt C w0 R0 σ bp R { s with tm:=setN s.tm d x } (a.put (some d) v) w:=by
 refine ⟨fun σ' bp' q1 q2=>?_,⟨h.sw.hp,h.sw.gw,h.sw.own,h.sw.inj,h.sw.df,h.sw.r0⟩⟩
 have st:=h.st σ' bp' q1 q2;refine ⟨?_,st.bx,⟨st.fs.fa,st.fs.lt,st.fs.cf⟩⟩;show TmOk C σ' bp' R w (setN s.tm d x) (a.tmps.setIfInBounds d v).toList;rw [Array.toList_setIfInBounds];exact st.tm.set d (hv σ' bp' q1 q2)
theorem unx_stt (h:Stt C w0 R0 σ bp R s a w) (o:Oper):Stt C w0 R0 σ bp R (unx o s) (a.put o.dst undef) w:=by
 unfold unx;cases hd:o.dst with
 | none=>exact h
 | some d=>exact put_stt h fun _ _ _ _=>(rfl:undef=undef)
theorem unx_n (o:Oper) (s:AS):(unx o s).n=s.n/\(unx o s).bx=s.bx:=by
 unfold unx;cases o.dst <;> exact ⟨rfl,rfl⟩
theorem wantB_sound {x:AV} {p:Bool} {W:BE} (h:wantB x p=some W) {v:Value} (hv:AVOk C σ bp R w x v):(W.ev σ=true↔v = .bool p):=by
 have hb:∀ (b:BE),(bif p then b else bnot b).ev σ=true↔Value.bool (b.ev σ) = .bool p:=by
  intro b;cases p
  ·simp only [cond_false,bnot_ev,Value.bool.injEq];cases b.ev σ <;> simp
  ·simp only [cond_true,Value.bool.injEq]
 unfold wantB at h;split at h
 ·rename_i b;cases h;rw [show v = .bool (b.ev σ) from hv]
  exact hb b
 ·rename_i g b;cases h;rw [band_ev];cases hg:g.ev σ
  ·rw [hv.2 hg];simp [undef]
  ·rw [show v = .bool (b.ev σ) from hv.1 hg,Bool.true_and]
   exact hb b
 ·cases h;rw [show v=undef from hv]
  simp [undef,BE.ev]
 ·cases h
theorem yielded_eq {ops:Array Oper} {j d:Nat} (hj:(nth ops.toList j).bind (·.dst)=some d) {v:Value} (hv:a.tmps.toList[d]?=some v) (p:Bool):(yielded ops a.tmps j == some p)=true↔v = .bool p:=by
 rw [zbv,Array.getElem?_toList] at hj;rw [Array.getElem?_toList] at hv;unfold yielded;rw [hj];simp only [Option.bind_some,hv];cases v <;> simp
theorem step1_sound {ops:Array Oper} (hG:Goods C E) (hB:C.B<=w0.heap.size) (h:Stt C w0 R0 σ bp R s a w) (hx:step1 E ops.toList s o=some s') {Kn:Act->World->Prop} {Q:Exit->Act->World->Prop}
  (hk:∀ v w' σ1 bp1 R1,Sp C w0 R0 R w (tgs s o) σ bp s s' (a.put o.dst v) w' σ1 bp1 R1->Kn (a.put o.dst v) w') :
  (if Region.wanted o (yielded ops a.tmps) then o.wp C.P a w Kn Q else Kn (a.put o.dst undef) w):=by
 have plain:∀ {s'':AS} {r:Option AV×AS},opx E [] s o.op=some r->puts o r.1 r.2=some s''->s''=s'->tgs s o=tgt [] s o.op->o.wp C.P a w Kn Q:=by
  rintro s'' ⟨ov,u⟩ h1 h2 rfl h3;refine (opx_sound hG hB h (W:=[]) (fun _ _ x hx=>by cases hx) h1).wp Kn Q fun v w' ho=>?_
  obtain ⟨σ1,bp1,R1,ot⟩:=ho;refine hk v w' σ1 bp1 R1 ?_;unfold puts at h2;split at h2
  ·rename_i d x hd hx';cases h2;exact ⟨ot.ag,ot.le,ot.ab,ot.lb,by rw [hd];exact put_stt ot.st (ot.av x hx'),by rw [h3];exact ot.fr⟩
  ·cases h2
  ·rename_i hd;cases h2;exact ⟨ot.ag,ot.le,ot.ab,ot.lb,by rw [hd];exact ot.st,by rw [h3];exact ot.fr⟩
 have skip:∀ s'',some (unx o s)=some s''->s''=s'->Kn (a.put o.dst undef) w:=by
  rintro s'' h1 rfl;cases h1;obtain ⟨e1,e2⟩:=unx_n o s;exact hk undef w σ bp R ⟨zaa _ _,by rw [e1];exact Nat.le_refl _,zai _ _,by rw [e2];exact Nat.le_refl _,unx_stt h o,Fr.refl⟩
 have htg:tgs s o=tgt [] s o.op:=rfl;unfold step1 at hx;split at hx
 ·rename_i hg;simp only [Option.bind_eq_some_iff] at hx;obtain ⟨r,h1,h2⟩:=hx;rw [if_pos (by unfold Region.wanted;rw [hg])]
  exact plain h1 h2 rfl htg
 ·rename_i j p hg;split at hx
  ·cases hx
  ·rename_i d hd
   have hwant:∀ v,a.tmps.toList[d]?=some v->(Region.wanted o (yielded ops a.tmps)=true↔v = .bool p):=by
    intro v hv;unfold Region.wanted;rw [hg];exact yielded_eq hd hv p
   have hval:∀ {W:BE},((nth s.tm d).bind fun v=>wantB v p)=some W->∃ v,a.tmps.toList[d]?=some v/\∀ σ' bp',Agr s.n σ' σ->Agb s.bx.length bp' bp->(W.ev σ'=true↔v = .bool p):=by
    intro W hW;simp only [Option.bind_eq_some_iff] at hW;obtain ⟨x,hx1,hx2⟩:=hW;obtain ⟨v,hv,_⟩:=h.here.tm.nth hx1;refine ⟨v,hv,fun σ' bp' q1 q2=>?_⟩
    obtain ⟨v',hv',ho⟩:=(h.st σ' bp' q1 q2).tm.nth hx1;rw [hv] at hv';cases hv';exact wantB_sound hx2 ho
   split at hx
   ·cases hx
   ·rename_i hW;obtain ⟨v,hv,hs⟩:=hval hW
    have:¬ Region.wanted o (yielded ops a.tmps)=true:=fun hw=>by
     have:=(hs σ bp (zaa _ _) (zai _ _)).2 ((hwant v hv).1 hw)
     cases this
    rw [if_neg this];exact skip _ hx rfl
   ·rename_i hW;obtain ⟨v,hv,hs⟩:=hval hW;rw [if_pos ((hwant v hv).2 ((hs σ bp (zaa _ _) (zai _ _)).1 rfl))];simp only [Option.bind_eq_some_iff] at hx;obtain ⟨r,h1,h2⟩:=hx;exact plain h1 h2 rfl htg
   ·rename_i W _ _ hW;obtain ⟨v,hv,hs⟩:=hval hW;have h0:=hs σ bp (zaa _ _) (zai _ _);split at hx
    ·rename_i hno
     have:¬ Region.wanted o (yielded ops a.tmps)=true:=fun hw=>by
      have:=h0.2 ((hwant v hv).1 hw)
      obtain ⟨t,ht,_⟩:=h.here.fs.assume this;rw [ht] at hno;cases hno
     rw [if_neg this];exact skip _ hx rfl
    ·rename_i t ht;split at hx
     ·rename_i v' u d' hop hdst;cases hc:(Nat.beq u.bx.length s.bx.length && Nat.ble s.n u.n) <;> rw [hc] at hx
      ·cases hx
      simp only [cond_true,Option.some.injEq] at hx;simp only [Bool.and_eq_true] at hc;have hlen:=Nat.eq_of_beq_eq_true hc.1;have hle:=Nat.le_of_ble_eq_true hc.2;have sm:=zd6 ht;by_cases hw:W.ev σ=true
      ·rw [if_pos ((hwant v hv).2 (h0.1 hw))];have hall:∀ σ' bp',Agr s.n σ' σ->Agb s.bx.length bp' bp->W.ev σ'=true:=fun σ' bp' q1 q2=>(hs σ' bp' q1 q2).2 (h0.1 hw)
       have st:Stt C w0 R0 σ bp R t a w:=h.sm sm fun σ' bp' q1 q2 k=>by
        obtain ⟨t',ht',hf⟩:=k.fs.assume (hall σ' bp' q1 q2);rw [ht] at ht';cases ht';exact hf
       refine (opx_sound hG hB st (W:=litA W true) (fun σ' q1 x hx=>zcz σ' W true (hall σ' bp (by rw [<-sm.n];exact q1) (zai _ _)) x hx) hop).wp Kn Q fun vv w' ho=>?_
       obtain ⟨σ1,bp1,R1,ot⟩:=ho;refine hk vv w' σ1 bp1 R1 ?_;obtain ⟨k1,k2⟩:=opx_kp hop;have k2:=k2 rfl (by rw [hlen,sm.bx])
       subst hx;have ag:Agr s.n σ1 σ:=by rw [<-sm.n];exact ot.ag
       have ab:Agb s.bx.length bp1 bp:=by rw [<-sm.bx];exact ot.ab
       refine ⟨ag,hle,ab,Nat.le_refl _, ?_, ?_⟩
       ·rw [hdst]
        have base:Stt C w0 R0 σ1 bp1 R1 { s with n:=u.n,cf:=under W u.fa t.fa++((u.cf.take (u.cf.length - t.cf.length)).map fun c=>(.be W true::c.1,c.2))++s.cf } a w':=by
         have sw:=ot.st.sw;refine ⟨fun σ' bp' q1 q2=>?_,⟨sw.hp,sw.gw,fun i hi=>sw.own i (by rw [hlen];exact hi),fun i j hi hj=>sw.inj i j (by rw [hlen];exact hi) (by rw [hlen];exact hj),sw.df,sw.r0⟩⟩
         have su:=ot.st.st σ' bp' q1 (by rw [hlen];exact q2)
         have s0:=h.st σ' bp' ((Agr.less (show Agr _ σ' σ1 from q1) hle).trans ag) ((show Agb _ bp' bp1 from q2).trans ab)
         refine ⟨by rw [<-sm.tm,<-k1];exact su.tm,by rw [<-sm.bx,<-k2];exact su.bx,⟨s0.fs.fa,s0.fs.lt,fun c hcm hp=>?_⟩⟩
         rcases List.mem_append.1 hcm with hcm | hcm
         ·rcases List.mem_append.1 hcm with hcm | hcm
          ·unfold under at hcm;obtain ⟨f,hf,rfl⟩:=List.mem_map.1 hcm;exact su.fs.fa f (List.mem_filter.1 hf).1
          ·obtain ⟨f,hf,rfl⟩:=List.mem_map.1 hcm;exact su.fs.cf f (List.mem_of_mem_take hf) fun p hpm=>hp p (List.mem_cons_of_mem _ hpm)
         ·exact s0.fs.cf c hcm hp
        refine put_stt base fun σ' bp' q1 q2=>?_
        have q3:Agr s.n σ' σ:=(Agr.less (show Agr _ σ' σ1 from q1) hle).trans ag
        have q4:Agb s.bx.length bp' bp:=(show Agb _ bp' bp1 from q2).trans ab
        refine ⟨fun _=>ot.av (.v v') rfl σ' bp' q1 (by rw [hlen];exact q2),fun hf=>?_⟩
        rw [hall σ' bp' q3 q4] at hf;cases hf
       ·have:tgt (litA W true) t o.op=none:=by
         cases ho:o.op with
         | store t' x y =>
          exfalso;rw [ho] at hop;simp only [opx,Option.bind_eq_some_iff] at hop;obtain ⟨T,hT,l,hl,hx⟩:=hop;cases hc2:Nat.beq l.length T.cells.length <;> rw [hc2] at hx
          ·cases hx
          simp only [cond_true] at hx;split at hx
          ·simp only [Option.bind_eq_some_iff] at hx;obtain ⟨c,hc',U,hU,m,hm,hx⟩:=hx;cases hc3:Nat.ble (_+T.cells.length) c.2.length <;> rw [hc3] at hx <;> cases hx
          ·simp only [Option.bind_eq_some_iff] at hx;obtain ⟨V,hV,hx⟩:=hx;cases hc3:fitL (dz E) t l (cut V.rk _ T.cells.length) <;> rw [hc3] at hx <;> cases hx
          ·cases hx
         | _=>rfl
        have fr:=ot.fr;rw [this] at fr;exact ⟨fr.size,fr.gr,fr.rows,fun g h1 h2 h3 _=>fr.keep g h1 h2 h3 fun b hb=>by cases hb⟩
      ·rw [if_neg fun hwn=>hw (h0.2 ((hwant v hv).1 hwn))]
       refine hk undef w σ bp R ?_;subst hx;refine ⟨zaa _ _,hle,zai _ _,Nat.le_refl _, ?_,Fr.refl⟩;rw [hdst];have hno:∀ σ' bp',Agr s.n σ' σ->Agb s.bx.length bp' bp->¬ W.ev σ'=true:=fun σ' bp' q1 q2 hc=>hw (h0.2 ((hs σ' bp' q1 q2).1 hc))
       have base:Stt C w0 R0 σ bp R { s with n:=u.n,cf:=under W u.fa t.fa++((u.cf.take (u.cf.length - t.cf.length)).map fun c=>(.be W true::c.1,c.2))++s.cf } a w:=by
        refine ⟨fun σ' bp' q1 q2=>?_,⟨h.sw.hp,h.sw.gw,h.sw.own,h.sw.inj,h.sw.df,h.sw.r0⟩⟩
        have q3:Agr s.n σ' σ:=Agr.less (show Agr _ σ' σ from q1) hle
        have s0:=h.st σ' bp' q3 q2;refine ⟨s0.tm,s0.bx,⟨s0.fs.fa,s0.fs.lt,fun c hcm hp=>?_⟩⟩
        rcases List.mem_append.1 hcm with hcm | hcm
        ·rcases List.mem_append.1 hcm with hcm | hcm
         ·unfold under at hcm;obtain ⟨f,hf,rfl⟩:=List.mem_map.1 hcm;exact absurd (hp (.be W true) List.mem_cons_self) (hno σ' bp' q3 q2)
         ·obtain ⟨f,hf,rfl⟩:=List.mem_map.1 hcm;exact absurd (hp (.be W true) List.mem_cons_self) (hno σ' bp' q3 q2)
        ·exact s0.fs.cf c hcm hp
       refine put_stt base fun σ' bp' q1 q2=>?_
       exact ⟨fun hc=>absurd hc (hno σ' bp' (Agr.less (show Agr _ σ' σ from q1) hle) q2),fun _=>rfl⟩
     ·cases hx
end
end Go.Proofs.YtckfjploafhenaaGreat.Ai
namespace Go.Proofs.YtckfjploafhenaaGreat.Ai
open Go.RowKit
def Nx (C:Cx) (w0:World) (R0:Nat->Prop) (σ:Nat->Int) (bp:Nat->Nat) (s s':AS) (a':Act) (w':World):Prop :=
 ∃ σ1 bp1 R1,Agr s.n σ1 σ/\s.n<=s'.n/\Agb s.bx.length bp1 bp/\s.bx.length<=s'.bx.length/\Stt C w0 R0 σ1 bp1 R1 s' a' w'
section
variable {C:Cx} {E:Env} {w0:World} {R0:Nat->Prop} {σ:Nat->Int} {bp:Nat->Nat} {R:Nat->Prop} {s s' t:AS} {a:Act} {w:World}
theorem Nx.refl (h:Stt C w0 R0 σ bp R s a w):Nx C w0 R0 σ bp s s a w:=⟨σ,bp,R,zaa _ _,Nat.le_refl _,zai _ _,Nat.le_refl _,h⟩
theorem Nx.from {σ1:Nat->Int} {bp1:Nat->Nat} (h1:Agr s.n σ1 σ) (h2:s.n<=s'.n) (h3:Agb s.bx.length bp1 bp) (h4:s.bx.length<=s'.bx.length) (h:Nx C w0 R0 σ1 bp1 s' t a w):Nx C w0 R0 σ bp s t a w:=by
 obtain ⟨σ2,bp2,R2,k1,k2,k3,k4,k5⟩:=h;exact ⟨σ2,bp2,R2,(k1.less h2).trans h1,Nat.le_trans h2 k2,(k3.less h4).trans h3,Nat.le_trans h4 k4,k5⟩
theorem zg8 {ops:Array Oper} (hG:Goods C E) (hB:C.B<=w0.heap.size) {Q:Exit->Act->World->Prop}:∀ {l:List Oper} {s:AS} {σ:Nat->Int} {bp:Nat->Nat} {R:Nat->Prop} {a:Act} {w:World},Stt C w0 R0 σ bp R s a w->steps E ops.toList l s=some s' ->
  (∀ a' w',Nx C w0 R0 σ bp s s' a' w'->Q .normal a' w')->wpList C.P ops Q l a w
 | [],s,σ,bp,R,a,w,h,hx,hq=>by
  cases hx;exact hq a w (Nx.refl h)
 | o::l,s,σ,bp,R,a,w,h,hx,hq=>by
  simp only [steps] at hx;split at hx
  ·rename_i u hu;have key:=step1_sound (Kn:=wpList C.P ops Q l) (Q:=Q) hG hB h hu fun v w' σ1 bp1 R1 sp=>zg8 hG hB sp.st hx fun a' w'' nx=>hq a' w'' (nx.from sp.ag sp.le sp.ab sp.lb)
   unfold wpList;split
   ·rename_i hw;rw [if_pos hw] at key;exact .inl key
   ·rename_i hw;rw [if_neg hw] at key;exact key
  ·cases hx
end
end Go.Proofs.YtckfjploafhenaaGreat.Ai
namespace Go.Proofs.YtckfjploafhenaaGreat.Ai
open Go.RowKit
section
variable {C:Cx} {E:Env} {w0:World} {R0:Nat->Prop} {σ σ':Nat->Int} {bp bp':Nat->Nat} {R R':Nat->Prop} {s s':AS} {a:Act} {w w':World} {p q:Nat->Bool}
theorem inT_ev (h:∀ k,p k=true->σ' k=σ k):∀ {t:List (Nat×Int)},inT p t=true->tev σ' t=tev σ t
 | [],_=>rfl
 | x::r,e=>by
  simp only [inT,Bool.and_eq_true] at e;obtain ⟨u,k⟩:=x;rw [tev,tev,h _ e.1,inT_ev h e.2]
theorem zh0 (h:∀ k,p k=true->σ' k=σ k) {e:Lin} (he:inL p e=true):e.ev σ'=e.ev σ:=by
 unfold Lin.ev;rw [inT_ev h he]
theorem zi9 (h:∀ k,p k=true->σ' k=σ k):∀ {b:BE},inB p b=true->b.ev σ'=b.ev σ
 | .tt,_=>rfl
 | .ff,_=>rfl
 | .le e,he=>by simp only [BE.ev];rw [zh0 h he]
 | .eq e,he=>by simp only [BE.ev];rw [zh0 h he]
 | .not b,he=>by show (!b.ev σ')=!b.ev σ;rw [zi9 (b:=b) h he]
 | .and a b,he=>by
  simp only [inB,Bool.and_eq_true] at he;simp only [BE.ev];rw [zi9 h he.1,zi9 h he.2]
 | .or a b,he=>by
  simp only [inB,Bool.and_eq_true] at he;simp only [BE.ev];rw [zi9 h he.1,zi9 h he.2]
theorem AtOk.cg (h:∀ k,p k=true->σ' k=σ k) (hb:∀ b,q b=true->bp' b=bp b) {x:At} {v:Value} (hx:inA p q x=true) (k:AtOk C σ bp R w x v):AtOk C σ' bp' R w x v:=by
 cases x with
 | num j e=>show v = .int j (e.ev σ')/\_;rw [zh0 h hx];exact k
 | be b=>show v = .bool (b.ev σ');rw [zi9 h hx];exact k
 | str e=>obtain ⟨t,h1,h2,h3⟩:=k;exact ⟨t,h1,by rw [zh0 h hx];exact h2,h3⟩
 | sl T e=>show SlOk C R w T v (e.ev σ');rw [zh0 h hx];exact k
 | ptr b o=>show v = .pointer (some ⟨bp' b,o,none⟩);rw [hb b hx];exact k
 | un=>exact k
 | unk=>exact k
 | nil=>exact k
 | row T o=>exact k
 | cur=>exact k
theorem LsOk.cg (h:∀ k,p k=true->σ' k=σ k) (hb:∀ b,q b=true->bp' b=bp b):∀ {l:List At} {vs:List Value},inAs p q l=true->LsOk C σ bp R w l vs->LsOk C σ' bp' R w l vs
 | [],[],_,_=>trivial
 | [],_::_,_,k=>k.elim
 | _::_,[],_,k=>k.elim
 | x::l,v::r,hx,k=>by
  simp only [inAs,Bool.and_eq_true] at hx;exact ⟨AtOk.cg h hb hx.1 k.1,LsOk.cg h hb hx.2 k.2⟩
theorem TpOk.cg (h:∀ k,p k=true->σ' k=σ k) (hb:∀ b,q b=true->bp' b=bp b):∀ {l:List (Bool×List At)} {vs:List Value},inTp p q l=true->TpOk C σ bp R w l vs->TpOk C σ' bp' R w l vs
 | [],[],_,_=>trivial
 | [],_::_,_,k=>k.elim
 | (true,_)::_,[],_,k=>k.elim
 | (false,_)::_,[],_,k=>k.elim
 | (true,l)::r,v::vs,hx,⟨⟨a,e,k1⟩,k2⟩=>by
  simp only [inTp,Bool.and_eq_true] at hx;exact ⟨⟨a,e,LsOk.cg h hb hx.1 k1⟩,TpOk.cg h hb hx.2 k2⟩
 | (false,l)::r,v::vs,hx,⟨k1,k2⟩=>by
  simp only [inTp,Bool.and_eq_true] at hx;exact ⟨LsOk.cg h hb hx.1 k1,TpOk.cg h hb hx.2 k2⟩
theorem AVOk.cg (h:∀ k,p k=true->σ' k=σ k) (hb:∀ b,q b=true->bp' b=bp b) {x:AV} {v:Value} (hx:inV p q x=true) (k:AVOk C σ bp R w x v):AVOk C σ' bp' R w x v:=by
 have bv:∀ {b:Bv},inBv p q b=true->BvOk C σ bp R w b v->BvOk C σ' bp' R w b v:=by
  intro b hb' k;cases b with
  | one x=>exact AtOk.cg h hb hb' k
  | agg l=>obtain ⟨a,e,k⟩:=k;exact ⟨a,e,LsOk.cg h hb hb' k⟩
  | tup l=>obtain ⟨a,e,k⟩:=k;exact ⟨a,e,TpOk.cg h hb hb' k⟩
 cases x with
 | v b=>exact bv hx k
 | gu g b =>
  simp only [inV,Bool.and_eq_true] at hx;refine ⟨fun hg=>bv hx.2 (k.1 (by rw [<-zi9 h hx.1];exact hg)),fun hg=>k.2 (by rw [<-zi9 h hx.1];exact hg)⟩
theorem inC_cg (h:∀ k,p k=true->σ' k=σ k) {c:List Pr×Lin} (hx:inC p c=true) (k:(∀ r∈c.1,PrH σ r)->0<=c.2.ev σ):(∀ r∈c.1,PrH σ' r)->0<=c.2.ev σ':=by
 simp only [inC,Bool.and_eq_true,List.all_eq_true] at hx;intro hr;rw [zh0 h hx.2];refine k fun r hm=>?_
 have h1:=hx.1 r hm;have h2:=hr r hm;cases r with
 | lin e=>show 0<=e.ev σ;rw [<-zh0 h h1];exact h2
 | be b t=>show b.ev σ=t;rw [<-zi9 h h1];exact h2
-- one by one
theorem mapI_get {α:Type} (f:Nat->α->α):∀ (l:List α) (i j:Nat),(mapI f i l)[j]?=(l[j]?).map (f (i+j))
 | [],i,j=>by simp [mapI]
 | x::l,i,0=>by simp [mapI]
 | x::l,i,j+1=>by
  simp only [mapI,List.getElem?_cons_succ];rw [mapI_get f l (i+1) j,show i+1+j=i+(j+1) by omega]
theorem zh8 {α:Type} (f:Nat->α->α):∀ (l:List α) (i:Nat),(mapI f i l).length=l.length
 | [],i=>rfl
 | x::l,i=>by simp [mapI,zh8 f l]
theorem tmOk_len:∀ {l:List AV} {vs:List Value},TmOk C σ bp R w l vs->l.length=vs.length
 | [],[],_=>rfl
 | [],_::_,h=>h.elim
 | _::_,[],h=>h.elim
 | x::l,v::r,h=>by simp [tmOk_len h.2]
theorem tmOk_of:∀ {l:List AV} {vs:List Value},l.length=vs.length->(∀ (d:Nat) (x:AV) (v:Value),l[d]?=some x->vs[d]?=some v->AVOk C σ bp R w x v)->TmOk C σ bp R w l vs
 | [],[],_,_=>trivial
 | [],_::_,h,_=>by simp at h
 | _::_,[],h,_=>by simp at h
 | x::l,v::r,h,k=>⟨k 0 x v rfl rfl,tmOk_of (by simpa using h) fun d y u h1 h2=>k (d+1) y u (by simpa using h1) (by simpa using h2)⟩
theorem bxOk_of:∀ {l:List (Nat×List At)} {j:Nat},(∀ (i:Nat) (c:Nat×List At),l[i]?=some c->∃ arr,w.heap[bp (j+i)]?=some (.cells arr c.1 (0,0))/\LsOk C σ bp R w c.2 arr.toList)->BxOk C σ bp R w j l
 | [],j,_=>trivial
 | c::l,j,k=>⟨k 0 c rfl,bxOk_of fun i c' h=>by
   have:=k (i+1) c' (by simpa using h)
   rwa [show j+(i+1)=j+1+i by omega] at this⟩
theorem unks_ok:∀ {l:List At} {vs:List Value},l.length=vs.length->LsOk C σ bp R w (unks l) vs
 | [],[],_=>trivial
 | [],_::_,h=>by simp at h
 | _::_,[],h=>by simp at h
 | x::l,v::r,h=>⟨trivial,unks_ok (by simpa using h)⟩
def Dl.wr (D:Dl):Option Nat:=D.bx.map (·.1)
theorem dstIs_iff (d:Nat) (D:Dl):dstIs d D=true↔D.dst=some d:=by
 unfold dstIs;cases D.dst with
 | none=>simp
 | some e =>
  simp only [Option.some.injEq];exact ⟨fun h=>Nat.eq_of_beq_eq_true h,fun h=>by rw [h];exact Nat.beq_refl _⟩
theorem tmv_spec (d:Nat) (x:AV):∀ (P:List Dl),(tmv d x P=x/\∀ D∈P,D.dst≠some d)\/∃ D∈P,D.dst=some d/\tmv d x P=D.v
 | [] => .inl ⟨rfl,by simp⟩
 | D::P=>by
  simp only [tmv];cases hb:dstIs d D
  ·have hn:D.dst≠some d:=fun h=>by rw [(dstIs_iff d D).2 h] at hb;cases hb
   simp only [cond_false];rcases tmv_spec d x P with ⟨h1,h2⟩ | ⟨D',h1,h2,h3⟩
   ·refine .inl ⟨h1,fun D' hm=>?_⟩
    rcases List.mem_cons.1 hm with rfl | hm
    ·exact hn
    ·exact h2 D' hm
   ·exact .inr ⟨D',List.mem_cons_of_mem _ h1,h2,h3⟩
  ·exact .inr ⟨D,List.mem_cons_self,(dstIs_iff d D).1 hb,rfl⟩
theorem bxS_spec (b:Nat) (D:Dl) (c:Option (Nat×List At)):(D.wr≠some b/\bxS b D c=c)\/∃ t l,D.bx=some (b,t,l)/\bxS b D c=some (t,l):=by
 unfold bxS Dl.wr;cases hd:D.bx with
 | none=>exact .inl ⟨by simp,rfl⟩
 | some y =>
  obtain ⟨e,t,l⟩:=y;cases hb:Nat.beq e b
  ·refine .inl ⟨fun h=>?_,by simp only [hb,cond_false]⟩
   simp only [Option.map_some,Option.some.injEq] at h;subst h;rw [Nat.beq_refl] at hb;cases hb
  ·have:=Nat.eq_of_beq_eq_true hb
   subst this;exact .inr ⟨t,l,rfl,by simp only [hb,cond_true]⟩
theorem bxv_spec (b:Nat):∀ (P:List Dl) (c:Option (Nat×List At)),(bxv b P c=c/\∀ D∈P,D.wr≠some b)\/∃ A D r t l,P=A++D::r/\D.bx=some (b,t,l)/\bxv b P c=some (t,l)/\∀ D'∈r,D'.wr≠some b
 | [],c => .inl ⟨rfl,by simp⟩
 | D::P,c=>by
  simp only [bxv];rcases bxv_spec b P (bxS b D c) with ⟨h1,h2⟩ | ⟨A,D',r,t,l,rfl,h2,h3,h4⟩
  ·rw [h1];rcases bxS_spec b D c with ⟨k1,k2⟩ | ⟨t,l,k1,k2⟩
   ·refine .inl ⟨k2,fun D' hm=>?_⟩
    rcases List.mem_cons.1 hm with rfl | hm
    ·exact k1
    ·exact h2 D' hm
   ·exact .inr ⟨[],D,P,t,l,rfl,k1,k2,h2⟩
  ·exact .inr ⟨D::A,D',r,t,l,rfl,h2,h3,h4⟩
theorem zf4 (i:Nat):∀ (l:List Nat),mem i l=true↔i∈l
 | []=>by simp [mem]
 | j::l=>by
  simp only [mem,Bool.or_eq_true,List.mem_cons,zf4 i l];constructor
  ·rintro (h | h)
   ·exact .inl (Nat.eq_of_beq_eq_true h)
   ·exact .inr h
  ·rintro (rfl | h)
   ·exact .inl (Nat.beq_refl _)
   ·exact .inr h
theorem zgt (a b:Nat):Nat.blt a b=true↔a < b:=by
 unfold Nat.blt;constructor
 ·exact fun h=>Nat.le_of_ble_eq_true h
 ·exact fun h=>Nat.ble_eq_true_of_le h
theorem maskT_spec (pres:List (List Nat)) (i:Nat) (pr:List Nat):∀ (l:List Oper) (j k d:Nat) (o:Oper),l[k]?=some o->o.dst=some d->loose pres i pr (j+k)=true->d∈maskT pres i pr j l
 | [],j,k,d,o,h,_,_=>by simp at h
 | o' :: l,j,0,d,o,h,hd,hl=>by
  simp only [List.getElem?_cons_zero,Option.some.injEq] at h;subst h;simp only [maskT,hd];rw [Nat.add_zero] at hl;rw [hl]
  simp
 | o' :: l,j,k+1,d,o,h,hd,hl=>by
  have ih:=maskT_spec pres i pr l (j+1) k d o (by simpa using h) hd (by rw [show j+1+k=j+(k+1) by omega];exact hl)
  simp only [maskT];split
  ·cases loose pres i pr j
   ·exact ih
   ·exact List.mem_cons_of_mem _ ih
  ·exact ih
theorem maskB_spec (pres:List (List Nat)) (i:Nat) (pr:List Nat):∀ (l:List (Nat×Nat)) (j b:Nat),(j,b)∈l->loose pres i pr j=true->b∈maskB pres i pr l
 | [],j,b,h,_=>by simp at h
 | x::l,j,b,h,hl=>by
  simp only [maskB];rcases List.mem_cons.1 h with rfl | h
  ·rw [hl];simp
  ·have ih:=maskB_spec pres i pr l j b h hl;cases loose pres i pr x.1
   ·exact ih
   ·exact List.mem_cons_of_mem _ ih
theorem zga {α:Type} (t:Nat):∀ {l:List (Nat×α)} {x:α},look t l=some x->(t,x)∈l
 | [],x,h=>by simp [look] at h
 | (u,y)::l,x,h=>by
  simp only [look] at h;cases hb:Nat.beq t u <;> rw [hb] at h
  ·exact List.mem_cons_of_mem _ (zga t h)
  ·cases h;rw [Nat.eq_of_beq_eq_true hb];exact List.mem_cons_self
end
end Go.Proofs.YtckfjploafhenaaGreat.Ai
