/- What commands and entries do to an image, in plain words. No program in sight. -/
import Derived.Test.YtckfjploafhenaaGreatPk36
set_option maxRecDepth 100000
set_option maxHeartbeats 16000000
set_option linter.unusedVariables false
set_option linter.unusedSimpArgs false
namespace Go.Proofs.YtckfjploafhenaaGreat
open Go.ChangeShapes Go.WideShapes Go.ChangeAt Go.RowKit Go.Sort
def putC (l:List Cel) (t v:Int):List Cel:=l.take (lbC l t)++([⟨t,v⟩]++l.drop (lbC l t+if hasC l t=true then 1 else 0))
def delC (l:List Cel) (t:Int):List Cel:=if hasC l t=true then l.take (lbC l t)++l.drop (lbC l t+1) else l
def refC (t v:Int):List Cel->Bool->List Cel
 | [],p=>if p=true then [] else [⟨t,v⟩]
 | x::r,p=>(if (!p && decide (t<=x.key))=true then [⟨t,v⟩] else [])++((if (x.key != t)=true then [x] else [])++refC t v r (p || decide (t<=x.key)))
theorem lbC_lt {x:Cel} {r:List Cel} {t:Int} (h:x.key < t):lbC (x::r) t=lbC r t+1:=by
 show (if x.key - t < 0 then lbC r t+1 else 0)=_
 rw [if_pos (by omega)]
theorem lbC_ge {x:Cel} {r:List Cel} {t:Int} (h:¬ x.key < t):lbC (x::r) t=0:=by
 show (if x.key - t < 0 then lbC r t+1 else 0)=_
 rw [if_neg (by omega)]
theorem hasC_lt {x:Cel} {r:List Cel} {t:Int} (h:x.key < t):hasC (x::r) t=hasC r t:=by
 unfold hasC;rw [lbC_lt h,List.getElem?_cons_succ]
theorem hasC_ge {x:Cel} {r:List Cel} {t:Int} (h:¬ x.key < t):hasC (x::r) t=(x.key - t == 0):=by
 unfold hasC;rw [lbC_ge h,List.getElem?_cons_zero]
theorem valC_lt {x:Cel} {r:List Cel} {t:Int} (h:x.key < t):valC (x::r) t=valC r t:=by
 unfold valC;rw [lbC_lt h,List.getElem?_cons_succ]
theorem valC_ge {x:Cel} {r:List Cel} {t:Int} (h:¬ x.key < t):valC (x::r) t=if (x.key - t == 0)=true then x.value else -1:=by
 unfold valC;rw [lbC_ge h,List.getElem?_cons_zero]
theorem putC_lt {x:Cel} {r:List Cel} {t v:Int} (h:x.key < t):putC (x::r) t v=x::putC r t v:=by
 unfold putC;rw [lbC_lt h,hasC_lt h,Tc,Nat.add_right_comm,Dc,List.cons_append]
theorem putC_eq {x:Cel} {r:List Cel} {t v:Int} (h:x.key=t):putC (x::r) t v=⟨t,v⟩::r:=by
 have h0:¬ x.key < t:=by omega
 unfold putC;rw [lbC_ge h0,hasC_ge h0,show (x.key - t == 0)=true by simp;omega]
 rfl
theorem putC_gt {x:Cel} {r:List Cel} {t v:Int} (h:t < x.key):putC (x::r) t v=⟨t,v⟩::x::r:=by
 have h0:¬ x.key < t:=by omega
 unfold putC;rw [lbC_ge h0,hasC_ge h0,show (x.key - t == 0)=false by simp;omega]
 rfl
theorem delC_lt {x:Cel} {r:List Cel} {t:Int} (h:x.key < t):delC (x::r) t=x::delC r t:=by
 unfold delC;rw [lbC_lt h,hasC_lt h];split
 ·rw [Tc,Dc,List.cons_append]
 ·rfl
theorem delC_eq {x:Cel} {r:List Cel} {t:Int} (h:x.key=t):delC (x::r) t=r:=by
 have h0:¬ x.key < t:=by omega
 unfold delC;rw [lbC_ge h0,hasC_ge h0,show (x.key - t == 0)=true by simp;omega]
 rfl
theorem delC_gt {x:Cel} {r:List Cel} {t:Int} (h:t < x.key):delC (x::r) t=x::r:=by
 have h0:¬ x.key < t:=by omega
 unfold delC;rw [hasC_ge h0,show (x.key - t == 0)=false by simp;omega]
 rfl
abbrev AscC (l:List Cel):Prop:=l.Pairwise (fun a b=>a.key < b.key)
theorem zh7 {t v:Int}:∀ {l:List Cel},(∀ x∈l,x.key≠t)->refC t v l true=l
 | [],_=>rfl
 | x::r,h=>by
  have h1:=h x (by simp)
  show (if (!true && decide (t<=x.key))=true then _ else [])++((if (x.key != t)=true then [x] else [])++refC t v r (true || decide (t<=x.key)))=_
  rw [show (true || decide (t<=x.key))=true from rfl,zh7 (fun y hy=>h y (by simp [hy]))]
  simp [h1]
theorem refC_put {t v:Int}:∀ {l:List Cel},AscC l->refC t v l false=putC l t v
 | [],_=>by simp [refC,putC,lbC,hasC]
 | x::r,h=>by
  obtain ⟨h1,h2⟩:=List.pairwise_cons.1 h;show (if (!false && decide (t<=x.key))=true then [⟨t,v⟩] else [])++((if (x.key != t)=true then [x] else [])++refC t v r (false || decide (t<=x.key)))=_
  rcases Int.lt_trichotomy x.key t with h3 | h3 | h3
  ·rw [putC_lt h3,show decide (t<=x.key)=false by simp;omega,show (x.key != t)=true by simp;omega,Bool.false_or,refC_put h2]
   simp
  ·rw [putC_eq h3,show decide (t<=x.key)=true by simp;omega,show (x.key != t)=false by simp;omega,Bool.or_true,zh7 (fun y hy=>by have:=h1 y hy;omega)]
   simp
  ·rw [putC_gt h3,show decide (t<=x.key)=true by simp;omega,show (x.key != t)=true by simp;omega,Bool.or_true,zh7 (fun y hy=>by have:=h1 y hy;omega)]
   simp
theorem refC_del {t v:Int}:∀ {l:List Cel},AscC l->refC t v l true=delC l t
 | [],_=>by simp [refC,delC,lbC]
 | x::r,h=>by
  obtain ⟨h1,h2⟩:=List.pairwise_cons.1 h;show (if (!true && decide (t<=x.key))=true then [⟨t,v⟩] else [])++((if (x.key != t)=true then [x] else [])++refC t v r (true || decide (t<=x.key)))=_
  rcases Int.lt_trichotomy x.key t with h3 | h3 | h3
  ·rw [delC_lt h3,show (x.key != t)=true by simp;omega,Bool.true_or,refC_del h2]
   simp
  ·rw [delC_eq h3,show (x.key != t)=false by simp;omega,Bool.true_or,zh7 (fun y hy=>by have:=h1 y hy;omega)]
   simp
  ·rw [delC_gt h3,show (x.key != t)=true by simp;omega,Bool.true_or,zh7 (fun y hy=>by have:=h1 y hy;omega)]
   simp
theorem putC_mem {t v:Int} {y:Cel}:∀ {l:List Cel},y∈putC l t v->y=⟨t,v⟩\/y∈l
 | [],h=>by simpa [putC,lbC,hasC] using h
 | x::r,h=>by
  rcases Int.lt_trichotomy x.key t with h3 | h3 | h3
  ·rw [putC_lt h3] at h;rcases List.mem_cons.1 h with h | h
   ·exact .inr (by simp [h])
   ·rcases putC_mem h with h | h
    ·exact .inl h
    ·exact .inr (by simp [h])
  ·rw [putC_eq h3] at h;rcases List.mem_cons.1 h with h | h
   ·exact .inl h
   ·exact .inr (by simp [h])
  ·rw [putC_gt h3] at h;rcases List.mem_cons.1 h with h | h
   ·exact .inl h
   ·exact .inr h
theorem delC_sub (l:List Cel) (t:Int):(delC l t).Sublist l:=by
 unfold delC;split
 ·have h:=List.take_append_drop (lbC l t) l
  have h2:(l.drop (lbC l t+1)).Sublist (l.drop (lbC l t)):=by
   rw [<-List.drop_drop];exact List.drop_sublist _ _
  have h3:=(List.Sublist.refl (l.take (lbC l t))).append h2;rw [h] at h3;exact h3
 ·exact List.Sublist.refl _
theorem putC_asc {t v:Int}:∀ {l:List Cel},AscC l->AscC (putC l t v)
 | [],_=>by simp [putC,lbC,hasC,AscC]
 | x::r,h=>by
  obtain ⟨h1,h2⟩:=List.pairwise_cons.1 h;rcases Int.lt_trichotomy x.key t with h3 | h3 | h3
  ·rw [putC_lt h3];refine List.pairwise_cons.2 ⟨fun y hy=>?_,putC_asc h2⟩
   rcases putC_mem hy with rfl | hy
   ·exact h3
   ·exact h1 y hy
  ·rw [putC_eq h3];exact List.pairwise_cons.2 ⟨fun y hy=>by have:=h1 y hy;show t < _;omega,h2⟩
  ·rw [putC_gt h3];refine List.pairwise_cons.2 ⟨fun y hy=>?_,h⟩
   rcases List.mem_cons.1 hy with rfl | hy
   ·exact h3
   ·have:=h1 y hy;show t < _;omega
theorem putC_len (l:List Cel) (t v:Int):(putC l t v).length=l.length+if hasC l t=true then 0 else 1:=by
 have h:=lbC_le l t;unfold putC;by_cases h1:hasC l t=true
 ·have h2:lbC l t < l.length:=by
   unfold hasC at h1;rcases Nat.lt_or_ge (lbC l t) l.length with h3 | h3
   ·exact h3
   ·rw [List.getElem?_eq_none h3] at h1;simp at h1
  simp only [h1,if_true,List.length_append,List.length_take,List.length_drop,List.length_cons,List.length_nil];omega
 ·simp only [h1,if_false,List.length_append,List.length_take,List.length_drop,List.length_cons,List.length_nil,Bf];omega
theorem hasC_val {l:List Cel} {t:Int} (hn:∀ x∈l,0<=x.value):hasC l t=!decide (valC l t < 0):=by
 unfold hasC valC;cases h:l[lbC l t]? with
 | none=>rfl
 | some x =>
  have:=hn x (List.mem_of_getElem? h)
  cases h2:(x.key - t == 0)
  ·simp [h2]
  ·simp [h2];omega
structure CsP (l:List Cel):Prop where
 len:l.length<=40
 num:∀ x∈l,0<=x.key/\x.key<=1000000000/\0<=x.value/\x.value<=1000000000
 asc:AscC l
theorem CsOk.p {l:List Cel} (h:CsOk l):CsP l:=⟨h.len,fun x hx=>by
 obtain ⟨i,hi,rfl⟩:=List.mem_iff_getElem.1 hx
 exact h.num i hi,List.pairwise_iff_getElem.2 fun i j hi hj hij=>h.asc i j hi hj hij⟩
theorem CsP.ok {l:List Cel} (h:CsP l):CsOk l:=⟨h.len,fun i hi=>h.num _ (List.getElem_mem hi),fun i j hi hj hij=>List.pairwise_iff_getElem.1 h.asc i j hi hj hij⟩
theorem CsOk.to {l:List Cel} (h:CsOk l):CTo l l.length:=fun j hj=>by
 rw [cStep_at hj];have h1:=h.num j hj
 have h2:cLow l j l[j].key=true:=by
  cases j with
  | zero=>rfl
  | succ j =>
   rw [cLow_at (by omega)]
   have:=h.asc j (j+1) (by omega) hj (by omega)
   simp;omega
 rw [h2];simp [wh,inB];omega
theorem CsP.put {l:List Cel} (h:CsP l) {t v:Int} (h0:0<=t) (h1:t<=1000000000) (h2:0<=v) (h3:v<=1000000000) (hr:hasC l t=true\/l.length≠40):CsP (putC l t v):=⟨by
 rw [putC_len]
 have:=h.len
 rcases hr with hr | hr
 ·rw [if_pos hr];omega
 ·split <;> omega,fun x hx=>by
 rcases putC_mem hx with rfl | hx
 ·exact ⟨h0,h1,h2,h3⟩
 ·exact h.num x hx,putC_asc h.asc⟩
theorem CsP.del {l:List Cel} (h:CsP l) (t:Int):CsP (delC l t):=⟨Nat.le_trans (delC_sub l t).length_le h.len,fun x hx=>h.num x ((delC_sub l t).subset hx),h.asc.sublist (delC_sub l t)⟩
theorem valC_hit {t:Int}:∀ {l:List Cel},AscC l->∀ {k:Nat} (hk:k < l.length),l[k].key=t->valC l t=l[k].value
 | [],_,k,hk,_=>absurd hk (by simp)
 | x::r,h,k,hk,he=>by
  obtain ⟨h1,h2⟩:=List.pairwise_cons.1 h;cases k with
  | zero =>
   simp only [List.getElem_cons_zero] at he ⊢;rw [valC_ge (by omega),if_pos (by simp;omega)]
  | succ k =>
   simp only [List.getElem_cons_succ] at he ⊢;have hm:k < r.length:=by simpa using hk
   have:=h1 _ (List.getElem_mem hm)
   rw [valC_lt (by omega)]
   exact valC_hit h2 hm he
theorem valC_miss {t:Int}:∀ {l:List Cel},(∀ k (h:k < l.length),l[k].key≠t)->valC l t=-1
 | [],_=>rfl
 | x::r,h=>by
  have h1:=h 0 (by simp)
  simp only [List.getElem_cons_zero] at h1;by_cases h2:x.key < t
  ·rw [valC_lt h2];exact valC_miss fun k hk=>by have:=h (k+1) (by simpa using hk);simpa using this
  ·rw [valC_ge h2,if_neg (by simp;omega)]
theorem valC_b {l:List Cel} (h:CsP l) (t:Int):-1<=valC l t/\valC l t<=1000000000:=by
 unfold valC;cases h2:l[lbC l t]? with
 | none=>simp
 | some x =>
  have:=h.num x (List.mem_of_getElem? h2)
  simp only [];split <;> omega
def putS (l:List Sea) (s:Sea):List Sea:=l.take (lbS l s.client)++([s]++l.drop (lbS l s.client+if hasS l s.client=true then 1 else 0))
def refS (s:Sea):List Sea->Bool->List Sea
 | [],p=>if p=true then [] else [s]
 | x::r,p=>(if (!p && decide (s.client<=x.client))=true then [s] else [])++((if (x.client != s.client)=true then [x] else [])++refS s r (p || decide (s.client<=x.client)))
theorem lbS_lt {x:Sea} {r:List Sea} {t:Int} (h:x.client < t):lbS (x::r) t=lbS r t+1:=by
 show (if x.client - t < 0 then lbS r t+1 else 0)=_
 rw [if_pos (by omega)]
theorem lbS_ge {x:Sea} {r:List Sea} {t:Int} (h:¬ x.client < t):lbS (x::r) t=0:=by
 show (if x.client - t < 0 then lbS r t+1 else 0)=_
 rw [if_neg (by omega)]
theorem hasS_lt {x:Sea} {r:List Sea} {t:Int} (h:x.client < t):hasS (x::r) t=hasS r t:=by
 unfold hasS;rw [lbS_lt h,List.getElem?_cons_succ]
theorem hasS_ge {x:Sea} {r:List Sea} {t:Int} (h:¬ x.client < t):hasS (x::r) t=(x.client - t == 0):=by
 unfold hasS;rw [lbS_ge h,List.getElem?_cons_zero]
theorem putS_lt {x s:Sea} {r:List Sea} (h:x.client < s.client):putS (x::r) s=x::putS r s:=by
 unfold putS;rw [lbS_lt h,hasS_lt h,Tc,Nat.add_right_comm,Dc,List.cons_append]
theorem putS_eq {x s:Sea} {r:List Sea} (h:x.client=s.client):putS (x::r) s=s::r:=by
 have h0:¬ x.client < s.client:=by omega
 unfold putS;rw [lbS_ge h0,hasS_ge h0,show (x.client - s.client == 0)=true by simp;omega]
 rfl
theorem putS_gt {x s:Sea} {r:List Sea} (h:s.client < x.client):putS (x::r) s=s::x::r:=by
 have h0:¬ x.client < s.client:=by omega
 unfold putS;rw [lbS_ge h0,hasS_ge h0,show (x.client - s.client == 0)=false by simp;omega]
 rfl
abbrev AscS (l:List Sea):Prop:=l.Pairwise (fun a b=>a.client < b.client)
theorem refS_done {s:Sea}:∀ {l:List Sea},(∀ x∈l,x.client≠s.client)->refS s l true=l
 | [],_=>rfl
 | x::r,h=>by
  have h1:=h x (by simp)
  show (if (!true && decide (s.client<=x.client))=true then _ else [])++((if (x.client != s.client)=true then [x] else [])++refS s r (true || decide (s.client<=x.client)))=_
  rw [show (true || decide (s.client<=x.client))=true from rfl,refS_done (fun y hy=>h y (by simp [hy]))]
  simp [h1]
theorem refS_put {s:Sea}:∀ {l:List Sea},AscS l->refS s l false=putS l s
 | [],_=>by simp [refS,putS,lbS,hasS]
 | x::r,h=>by
  obtain ⟨h1,h2⟩:=List.pairwise_cons.1 h;show (if (!false && decide (s.client<=x.client))=true then [s] else [])++((if (x.client != s.client)=true then [x] else [])++refS s r (false || decide (s.client<=x.client)))=_
  rcases Int.lt_trichotomy x.client s.client with h3 | h3 | h3
  ·rw [putS_lt h3,show decide (s.client<=x.client)=false by simp;omega,show (x.client != s.client)=true by simp;omega,Bool.false_or,refS_put h2]
   simp
  ·rw [putS_eq h3,show decide (s.client<=x.client)=true by simp;omega,show (x.client != s.client)=false by simp;omega,Bool.or_true,refS_done (fun y hy=>by have:=h1 y hy;omega)]
   simp
  ·rw [putS_gt h3,show decide (s.client<=x.client)=true by simp;omega,show (x.client != s.client)=true by simp;omega,Bool.or_true,refS_done (fun y hy=>by have:=h1 y hy;omega)]
   simp
theorem putS_mem {s y:Sea}:∀ {l:List Sea},y∈putS l s->y=s\/y∈l
 | [],h=>by simpa [putS,lbS,hasS] using h
 | x::r,h=>by
  rcases Int.lt_trichotomy x.client s.client with h3 | h3 | h3
  ·rw [putS_lt h3] at h;rcases List.mem_cons.1 h with h | h
   ·exact .inr (by simp [h])
   ·rcases putS_mem h with h | h
    ·exact .inl h
    ·exact .inr (by simp [h])
  ·rw [putS_eq h3] at h;rcases List.mem_cons.1 h with h | h
   ·exact .inl h
   ·exact .inr (by simp [h])
  ·rw [putS_gt h3] at h;rcases List.mem_cons.1 h with h | h
   ·exact .inl h
   ·exact .inr h
theorem putS_asc {s:Sea}:∀ {l:List Sea},AscS l->AscS (putS l s)
 | [],_=>by simp [putS,lbS,hasS,AscS]
 | x::r,h=>by
  obtain ⟨h1,h2⟩:=List.pairwise_cons.1 h;rcases Int.lt_trichotomy x.client s.client with h3 | h3 | h3
  ·rw [putS_lt h3];refine List.pairwise_cons.2 ⟨fun y hy=>?_,putS_asc h2⟩
   rcases putS_mem hy with rfl | hy
   ·exact h3
   ·exact h1 y hy
  ·rw [putS_eq h3];exact List.pairwise_cons.2 ⟨fun y hy=>by have:=h1 y hy;omega,h2⟩
  ·rw [putS_gt h3];refine List.pairwise_cons.2 ⟨fun y hy=>?_,h⟩
   rcases List.mem_cons.1 hy with rfl | hy
   ·exact h3
   ·have:=h1 y hy;omega
theorem hasS_in {l:List Sea} {t:Int} (h1:hasS l t=true):lbS l t < l.length:=by
 unfold hasS at h1;rcases Nat.lt_or_ge (lbS l t) l.length with h3 | h3
 ·exact h3
 ·rw [List.getElem?_eq_none h3] at h1;simp at h1
theorem putS_len (l:List Sea) (s:Sea):(putS l s).length=l.length+if hasS l s.client=true then 0 else 1:=by
 have h:=lbS_le l s.client;unfold putS;by_cases h1:hasS l s.client=true
 ·have h2:=hasS_in h1;simp only [h1,if_true,List.length_append,List.length_take,List.length_drop,List.length_cons,List.length_nil];omega
 ·simp only [h1,if_false,List.length_append,List.length_take,List.length_drop,List.length_cons,List.length_nil,Bf];omega
structure SsP (l:List Sea):Prop where
 len:l.length<=10
 num:∀ x∈l,0<=x.client/\x.client<=1000000000/\1<=x.req/\x.req<=1000000000/\-1<=x.answer/\x.answer<=1000000000
 asc:AscS l
theorem SsOk.p {l:List Sea} (h:SsOk l):SsP l:=⟨h.len,fun x hx=>by
 obtain ⟨i,hi,rfl⟩:=List.mem_iff_getElem.1 hx
 exact h.num i hi,List.pairwise_iff_getElem.2 fun i j hi hj hij=>h.asc i j hi hj hij⟩
theorem SsP.ok {l:List Sea} (h:SsP l):SsOk l:=⟨h.len,fun i hi=>h.num _ (List.getElem_mem hi),fun i j hi hj hij=>List.pairwise_iff_getElem.1 h.asc i j hi hj hij⟩
theorem SsOk.to {l:List Sea} (h:SsOk l):STo l l.length:=fun j hj=>by
 rw [sStep_at hj];have h1:=h.num j hj
 have h2:sLow l j l[j].client=true:=by
  cases j with
  | zero=>rfl
  | succ j =>
   rw [sLow_at (by omega)]
   have:=h.asc j (j+1) (by omega) hj (by omega)
   simp;omega
 rw [h2];simp [wh,inB];omega
theorem SsP.put {l:List Sea} (h:SsP l) {s:Sea} (h0:0<=s.client/\s.client<=1000000000/\1<=s.req/\s.req<=1000000000/\-1<=s.answer/\s.answer<=1000000000) (hr:hasS l s.client=true\/l.length≠10):SsP (putS l s):=⟨by
 rw [putS_len]
 have:=h.len
 rcases hr with hr | hr
 ·rw [if_pos hr];omega
 ·split <;> omega,fun x hx=>by
 rcases putS_mem hx with rfl | hx
 ·exact h0
 ·exact h.num x hx,putS_asc h.asc⟩
theorem seat_hit {t:Int}:∀ {l:List Sea},AscS l->∀ {k:Nat} (hk:k < l.length),l[k].client=t->lbS l t=k/\hasS l t=true
 | [],_,k,hk,_=>absurd hk (by simp)
 | x::r,h,k,hk,he=>by
  obtain ⟨h1,h2⟩:=List.pairwise_cons.1 h;cases k with
  | zero =>
   simp only [List.getElem_cons_zero] at he;exact ⟨lbS_ge (by omega),by rw [hasS_ge (by omega)];simp;omega⟩
  | succ k =>
   simp only [List.getElem_cons_succ] at he;have hm:k < r.length:=by simpa using hk
   have:=h1 _ (List.getElem_mem hm)
   obtain ⟨h3,h4⟩:=seat_hit h2 hm he;exact ⟨by rw [lbS_lt (by omega),h3],by rw [hasS_lt (by omega),h4]⟩
theorem seat_miss {t:Int}:∀ {l:List Sea},(∀ k (h:k < l.length),l[k].client≠t)->hasS l t=false
 | [],_=>rfl
 | x::r,h=>by
  have h1:=h 0 (by simp)
  simp only [List.getElem_cons_zero] at h1;by_cases h2:x.client < t
  ·rw [hasS_lt h2];exact seat_miss fun k hk=>by have:=h (k+1) (by simpa using hk);simpa using this
  ·rw [hasS_ge h2];simp;omega
def newV (cs:List Cel) (kind key value:Int):Int:=if (kind == 3)=true then value+max (valC cs key) 0 else value
def fullB (cs:List Cel) (kind key value:Int):Bool:=(decide (valC cs key < 0) && (cs.length == 40)) || decide (1000000000 < newV cs kind key value)
def runCs (cs:List Cel) (kind key value:Int):List Cel :=
 if (kind == 1)=true then cs else if (kind == 4)=true then delC cs key else if fullB cs kind key value=true then cs else putC cs key (newV cs kind key value)
def runA (cs:List Cel) (kind key value:Int):Int :=
 if (kind == 1)=true then valC cs key else if (kind == 4)=true then valC cs key else if fullB cs kind key value=true then -1 else newV cs kind key value
def zcd (ss:List Sea) (t:Int):Sea:=ss.getD (lbS ss t) Sea.z
def sameE (ss:List Sea) (e:Ent):Bool:=hasS ss e.client && ((zcd ss e.client).req == e.req)
def oldE (ss:List Sea) (e:Ent):Bool:=hasS ss e.client && decide (e.req < (zcd ss e.client).req)
def fullE (ss:List Sea) (e:Ent):Bool:=!hasS ss e.client && (ss.length == 10)
abbrev Img:=List Cel×List Sea
def entI (m:Img) (e:Ent):Img:=if (sameE m.2 e || (oldE m.2 e || fullE m.2 e))=true then m else (runCs m.1 e.kind e.key e.value,putS m.2 ⟨e.client,e.req,runA m.1 e.kind e.key e.value⟩)
def entA (m:Img) (e:Ent):Int:=if sameE m.2 e=true then (zcd m.2 e.client).answer else if (oldE m.2 e || fullE m.2 e)=true then -1 else runA m.1 e.kind e.key e.value
def zb9 (m:Img) (e:Ent):Int:=if (sameE m.2 e || oldE m.2 e)=true then 2 else if fullE m.2 e=true then 3 else 0
def allI (m:Img) (l:List Ent):Img:=l.foldl entI m
theorem allI_next (m:Img) {l:List Ent} {k:Nat} (h:k < l.length):allI m (l.take (k+1))=entI (allI m (l.take k)) l[k]:=by
 unfold allI;rw [List.take_add_one,List.foldl_append,List.getElem?_eq_getElem h];rfl
structure ImgP (m:Img):Prop where
 c:CsP m.1
 s:SsP m.2
theorem imgP_of {cs:List Cel} {ss:List Sea} (h:zbj cs ss=true):ImgP (cs,ss):=by
 have h:=of_decide_eq_true h;exact ⟨(CTo.ok h.2.2.1 h.1).p,(STo.ok h.2.2.2 h.2.1).p⟩
theorem ImgP.ok {m:Img} (h:ImgP m):zbj m.1 m.2=true:=zin h.c.len h.s.len h.c.ok.to h.s.ok.to
theorem ent_b {e:Ent} (h:e.ok=true):0<=e.client/\e.client<=1000000000/\1<=e.req/\e.req<=1000000000/\0<=e.key/\e.key<=1000000000/\(((e.kind=1\/e.kind=4)/\e.value=0)\/((e.kind=2\/e.kind=3)/\0<=e.value/\e.value<=1000000000)):=by
 unfold Ent.ok cmdOk at h;simp only [wh,inB,Bool.and_eq_true,decide_eq_true_eq] at h;omega
theorem newV_b {cs:List Cel} (hc:CsP cs) {kind key value:Int} (h0:0<=value) (h1:value<=1000000000):0<=newV cs kind key value/\newV cs kind key value<=2000000000:=by
 have:=valC_b hc key
 unfold newV;split <;> omega
theorem run_P {cs:List Cel} (hc:CsP cs) {e:Ent} (he:e.ok=true):CsP (runCs cs e.kind e.key e.value)/\-1<=runA cs e.kind e.key e.value/\runA cs e.kind e.key e.value<=1000000000:=by
 have hb:=ent_b he;have hv:=valC_b hc e.key;unfold runCs runA;by_cases h1:(e.kind == 1)=true
 ·rw [if_pos h1,if_pos h1];exact ⟨hc,hv⟩
 ·rw [if_neg h1,if_neg h1];by_cases h4:(e.kind == 4)=true
  ·rw [if_pos h4,if_pos h4];exact ⟨hc.del _,hv⟩
  ·rw [if_neg h4,if_neg h4];have hn:=newV_b hc (kind:=e.kind) (key:=e.key) (value:=e.value) (by omega) (by omega)
   cases hf:fullB cs e.kind e.key e.value
   ·rw [if_neg (by simp),if_neg (by simp)]
    unfold fullB at hf;simp only [Bool.or_eq_false_iff,Bool.and_eq_false_imp,decide_eq_true_eq,decide_eq_false_iff_not,beq_eq_false_iff_ne] at hf;refine ⟨hc.put (by omega) (by omega) (by omega) (by omega) ?_,by omega,by omega⟩
    rw [hasC_val (fun x hx=>(hc.num x hx).2.2.1)]
    by_cases hneg:valC cs e.key < 0
    ·exact .inr (hf.1 hneg)
    ·exact .inl (by simp [hneg])
   ·rw [if_pos rfl,if_pos rfl];exact ⟨hc,by omega,by omega⟩
theorem ImgP.ent {m:Img} (h:ImgP m) {e:Ent} (he:e.ok=true):ImgP (entI m e):=by
 have hb:=ent_b he;unfold entI;split
 ·exact h
 ·rename_i hn;have hr:=run_P h.c he;refine ⟨hr.1,h.s.put ⟨hb.1,hb.2.1,hb.2.2.1,hb.2.2.2.1,hr.2.1,hr.2.2⟩ ?_⟩;cases hs:hasS m.2 e.client
  ·refine .inr fun hl=>hn ?_
   have:fullE m.2 e=true:=by unfold fullE;rw [hs,hl];rfl
   rw [this];simp
  ·exact .inl rfl
theorem ImgP.all {l:List Ent}:∀ {m:Img},ImgP m->(∀ e∈l,e.ok=true)->ImgP (allI m l):=by
 induction l with
 | nil=>intro m h _;exact h
 | cons e r ih=>intro m h he;exact ih (h.ent (he e (by simp))) fun x hx=>he x (by simp [hx])
theorem refC_step (t v:Int) {l:List Cel} {k:Nat} (h:k < l.length) (p:Bool):refC t v (l.drop k) p=(if (!p && decide (t<=l[k].key))=true then [⟨t,v⟩] else [])++((if (l[k].key != t)=true then [l[k]] else [])++refC t v (l.drop (k+1)) (p || decide (t<=l[k].key))):=by
 rw [List.drop_eq_getElem_cons h];rfl
theorem refS_step (s:Sea) {l:List Sea} {k:Nat} (h:k < l.length) (p:Bool):refS s (l.drop k) p=(if (!p && decide (s.client<=l[k].client))=true then [s] else [])++((if (l[k].client != s.client)=true then [l[k]] else [])++refS s (l.drop (k+1)) (p || decide (s.client<=l[k].client))):=by
 rw [List.drop_eq_getElem_cons h];rfl
end Go.Proofs.YtckfjploafhenaaGreat
