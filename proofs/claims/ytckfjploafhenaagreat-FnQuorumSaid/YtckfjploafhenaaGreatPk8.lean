/- The interpreter of abstract values over whole code: regions, tests, blocks, loops with given invariants, joins; the check of a function against its contract. Definitions alone. -/
import Derived.Test.YtckfjploafhenaaGreatPk0
set_option maxRecDepth 100000
set_option maxHeartbeats 16000000
set_option linter.unusedVariables false
set_option linter.unusedSimpArgs false
namespace Go.Proofs.YtckfjploafhenaaGreat.Ai
def wantB:AV->Bool->Option BE
 | .v (.one (.be b)),p=>some (bif p then b else bnot b)
 | .gu g (.one (.be b)),p=>some (band g (bif p then b else bnot b))
 | .v (.one .un),_=>some .ff
 | _,_=>none
def isUn:AV->Bool
 | .v (.one .un)=>true
 | _=>false
def under (b:BE) (l m:List Lin):List (List Pr×Lin):=(l.filter fun f=>!m.any (leq f)).map fun f=>([.be b true],f)
def puts (o:Oper) (v:Option AV) (s:AS):Option AS:=match o.dst,v with
 | some d,some v=>some { s with tm:=setN s.tm d v }
 | some _,none=>none
 | none,_=>some s
def unx (o:Oper) (s:AS):AS:=match o.dst with
 | some d=>{ s with tm:=setN s.tm d (one .un) }
 | none=>s
def step1 (E:Env) (ops:List Oper) (s:AS) (o:Oper):Option AS :=
 match o.guard with
 | none=>(opx E [] s o.op).bind fun r=>puts o r.1 r.2
 | some (j,p) =>
  match (nth ops j).bind (·.dst) with
  | none=>none
  | some d =>
   match (nth s.tm d).bind fun v=>wantB v p with
   | none=>none
   | some .ff=>some (unx o s)
   | some .tt=>(opx E [] s o.op).bind fun r=>puts o r.1 r.2
   | some W =>
    match s.assume W true with
    | none=>some (unx o s)
    | some t =>
     match opx E (litA W true) t o.op,o.dst with
     | some (some (.v v),u),some d =>
      bif Nat.beq u.bx.length s.bx.length && Nat.ble s.n u.n then
       some { s with tm:=setN s.tm d (.gu W v),n:=u.n,cf:=under W u.fa t.fa++((u.cf.take (u.cf.length - t.cf.length)).map fun c=>(.be W true::c.1,c.2))++s.cf }
      else none
     | _,_=>none
def steps (E:Env) (ops:List Oper):List Oper->AS->Option AS
 | [],s=>some s
 | o::r,s=>match step1 E ops s o with
  | some s=>steps E ops r s
  | none=>none
def mapI {α:Type} (f:Nat->α->α):Nat->List α->List α
 | _,[]=>[]
 | i,x::r=>f i x::mapI f (i+1) r
def inT (p:Nat->Bool):List (Nat×Int)->Bool
 | []=>true
 | x::r=>p x.1 && inT p r
def inL (p:Nat->Bool) (e:Lin):Bool:=inT p e.t
def inB (p:Nat->Bool):BE->Bool
 | .le e=>inL p e
 | .eq e=>inL p e
 | .not b=>inB p b
 | .and a b=>inB p a && inB p b
 | .or a b=>inB p a && inB p b
 | _=>true
def inA (p q:Nat->Bool):At->Bool
 | .num _ e=>inL p e
 | .be b=>inB p b
 | .str e=>inL p e
 | .sl _ e=>inL p e
 | .ptr b _=>q b
 | _=>true
def inAs (p q:Nat->Bool):List At->Bool
 | []=>true
 | x::r=>inA p q x && inAs p q r
def inTp (p q:Nat->Bool):List (Bool×List At)->Bool
 | []=>true
 | x::r=>inAs p q x.2 && inTp p q r
def inBv (p q:Nat->Bool):Bv->Bool
 | .one x=>inA p q x
 | .agg l=>inAs p q l
 | .tup l=>inTp p q l
def inV (p q:Nat->Bool):AV->Bool
 | .v b=>inBv p q b
 | .gu g b=>inB p g && inBv p q b
def inP (p:Nat->Bool):Pr->Bool
 | .lin e=>inL p e
 | .be b _=>inB p b
def inC (p:Nat->Bool) (c:List Pr×Lin):Bool:=c.1.all (inP p) && inL p c.2
def lt (n:Nat):Nat->Bool:=fun k=>Nat.blt k n
def oldL (n:Nat) (e:Lin):Bool:=inL (lt n) e
def oldB (n:Nat) (b:BE):Bool:=inB (lt n) b
structure Dl where
 ix:Nat
 pr:List Nat
 dst:Option Nat
 v:AV
 fa:List Lin
 cf:List (List Pr×Lin)
 bx:Option (Nat×Nat×List At)
 lo:Nat
 hi:Nat
 nb:Nat
def uni:List Nat->List Nat->List Nat
 | [],l=>l
 | x::r,l=>bif mem x l then uni r l else uni r (x::l)
def predsE (acc:List (List Nat)):List Edge->Option (List Nat)
 | []=>some []
 | e::r=>match predsE acc r with
  | none=>none
  | some l=>bif Region.binds .any e then (match nth acc e.on with
   | some p=>some (uni (e.on::p) l)
   | none=>none) else some l
def presOf:List Oper->List (List Nat)->Option (List (List Nat))
 | [],acc=>some acc
 | o::r,acc=>match predsE acc o.after.toList with
  | some p=>presOf r (acc++[p])
  | none=>none
def dstIs (d:Nat) (D:Dl):Bool:=match D.dst with
 | some e=>Nat.beq e d
 | none=>false
def tmv (d:Nat) (x:AV):List Dl->AV
 | []=>x
 | D::r=>bif dstIs d D then D.v else tmv d x r
def bxS (b:Nat) (D:Dl) (c:Option (Nat×List At)):Option (Nat×List At):=match D.bx with
 | some (e,t,l)=>bif Nat.beq e b then some (t,l) else c
 | none=>c
def bxv (b:Nat):List Dl->Option (Nat×List At)->Option (Nat×List At)
 | [],c=>c
 | D::r,c=>bxv b r (bxS b D c)
def unks (l:List At):List At:=l.map fun _ => .unk
def boxv (mb:List Nat) (P:List Dl) (b:Nat) (c:Nat×List At):Nat×List At :=
 bif mem b mb then (c.1,unks c.2) else (bxv b P (some c)).getD c
def view (s:AS) (P:List Dl) (ml mb:List Nat) (n:Nat):AS :=
 {tm:=mapI (fun d x=>bif mem d ml then one .unk else tmv d x P) 0 s.tm
  bx:=mapI (boxv mb P) 0 s.bx++(bxv s.bx.length P none).toList
  n:=n
  fa:=P.reverse.flatMap (·.fa)++s.fa
  at_:=s.at_
  cf:=P.reverse.flatMap (·.cf)++s.cf }
def byIx (pr:List Nat) (ds:List Dl):List Dl:=ds.filter fun D=>mem D.ix pr
def loose (pres:List (List Nat)) (i:Nat) (pr:List Nat) (j:Nat):Bool:=!Nat.beq i j && !mem j pr && !mem i ((nth pres j).getD [])
def maskT (pres:List (List Nat)) (i:Nat) (pr:List Nat):Nat->List Oper->List Nat
 | _,[]=>[]
 | j,o::r=>match o.dst with
  | some d=>bif loose pres i pr j then d::maskT pres i pr (j+1) r else maskT pres i pr (j+1) r
  | none=>maskT pres i pr (j+1) r
def maskB (pres:List (List Nat)) (i:Nat) (pr:List Nat):List (Nat×Nat)->List Nat
 | []=>[]
 | x::r=>bif loose pres i pr x.1 then x.2::maskB pres i pr r else maskB pres i pr r
def wrs (s t:AS):Nat->List Oper->List (Nat×Nat)
 | _,[]=>[]
 | i,o::r=>match o.op with
  | .store _ x _=>(match ev1 [] t x with
   | some (.ptr b _)=>(i,b)::wrs s t (i+1) r
   | _=>wrs s t (i+1) r)
  | .alloc _=>(i,s.bx.length)::wrs s t (i+1) r
  | .box _ _=>(i,s.bx.length)::wrs s t (i+1) r
  | _=>wrs s t (i+1) r
def rng (k:Nat) (D:Dl):Bool:=Nat.ble D.lo k && Nat.blt k D.hi
def symOk (n0:Nat) (P:List Dl) (lo hi:Nat) (k:Nat):Bool:=Nat.blt k n0 || (Nat.ble lo k && Nat.blt k hi) || P.any (rng k)
def mkD (i:Nat) (pr:List Nat) (o:Oper) (t u:AS) (w:Option Nat):Option Dl :=
 match (match o.dst with | some d=>nth u.tm d | none=>some (one .unk)),(match w with | some b=>(nth u.bx b).map fun c=>some (b,c) | none=>some none) with
 | some v,some b=>some ⟨i,pr,o.dst,v,u.fa.take (u.fa.length - t.fa.length),u.cf.take (u.cf.length - t.cf.length),b,t.n,u.n,u.bx.length⟩
 | _,_=>none
def boxOk (s:AS) (D:Dl):Bool:=match D.bx with
 | none=>true
 | some (b,t,l)=>match nth s.bx b with
  | some c=>Nat.beq c.1 t && Nat.beq c.2.length l.length
  | none=>Nat.beq b s.bx.length
def okD (s:AS) (ds P:List Dl) (mb:List Nat) (t u:AS) (o:Oper) (w:Option Nat) (D:Dl):Bool :=
 let p:=symOk s.n P D.lo D.hi
 let q:=lt D.nb
 Nat.ble t.n u.n && Nat.beq u.tm.length t.tm.length &&
 (match tgt [] t o.op with | some b=>(match w with | some c=>Nat.beq b c | none=>false) | none=>true) &&
 (Nat.beq u.bx.length t.bx.length || (Nat.beq t.bx.length s.bx.length && Nat.beq u.bx.length (s.bx.length+1) && (match w with | some c=>Nat.beq c s.bx.length | none=>false))) &&
 boxOk s D && (!mem s.bx.length mb || Nat.beq t.bx.length s.bx.length) &&
 ds.all (fun D'=>(match D.dst,D'.dst with | some d,some e=>!Nat.beq d e | _,_=>true) && (match D.bx,D'.bx with | some b,some c=>!Nat.beq b.1 c.1 || mem D'.ix D.pr | _,_=>true)) &&
 inV p q D.v && D.fa.all (inL p) && D.cf.all (inC p) && (match D.bx with | some b=>inAs p q b.2.2 | none=>true)
def anyGo (E:Env) (ops:List Oper) (s:AS) (pres:List (List Nat)) (wr:List (Nat×Nat)):Nat->List Oper->List Dl->Nat->Option (List Dl×Nat)
 | _,[],ds,n=>some (ds,n)
 | i,o::r,ds,n=>match nth pres i with
  | none=>none
  | some pr =>
   let P:=byIx pr ds
   let mb:=maskB pres i pr wr
   let t:=view s P (maskT pres i pr 0 ops) mb n
   match step1 E ops t o with
   | none=>none
   | some u =>
    match mkD i pr o t u (look i wr) with
    | none=>none
    | some D=>bif okD s ds P mb t u o (look i wr) D then anyGo E ops s pres wr (i+1) r (ds++[D]) u.n else none
def stepsAny (E:Env) (ops:List Oper) (s:AS):Option AS :=
 match presOf ops [],steps E ops ops s with
 | some pres,some t=>(match anyGo E ops s pres (wrs s t 0 ops) 0 ops [] s.n with
  | some (ds,n)=>some (view s ds [] [] n)
  | none=>none)
 | _,_=>none
structure Res where
 n:List AS
 x:List (Nat×AS)
 r:List AS
inductive Hn where
 | loop (bx:List (Nat×Nat)) (fa:List Lin) (cf:List (List Lin×Lin)) (mu:Lin)
 | unroll (n:Nat)
 | join (fa:List Lin)
def dsts:Code->List Nat
 | .region _ ops _=>ops.toList.filterMap (·.dst)
 | .seq a b=>dsts a++dsts b
 | .cond _ a b=>dsts a++dsts b
 | .block _ a=>dsts a
 | .loop a=>dsts a
 | .scope a=>dsts a
 | _=>[]
def nw:Lin:=⟨0,[(1000000,1)]⟩
def hvA:At->At
 | .num k _ => .num k nw
 | .be _ => .be (.le nw)
 | .str _ => .str nw
 | .sl T _ => .sl T nw
 | _ => .unk
def hvV:AV->AV
 | .v (.one x)=>one (hvA x)
 | .v (.agg l) => .v (.agg (l.map hvA))
 | _=>one .unk
def keepV:AV->AV
 | .gu _ _=>one .unk
 | .v (.tup _)=>one .unk
 | v=>v
def isNw (e:Lin):Bool:=match e.t with
 | [(1000000,_)]=>true
 | _=>false
def numA (s:AS):At->At×AS
 | .num k e=>bif isNw e then s.freshC (match k with | .u8 => .int .u8 0 255 | k => .int k i64lo i64hi) else (.num k e,s)
 | .be (.le e)=>bif isNw e then s.freshC .bool else (.be (.le e),s)
 | .str e=>bif isNw e then s.freshC .str else (.str e,s)
 | .sl T e=>bif isNw e then s.freshC (.sl T) else (.sl T e,s)
 | x=>(x,s)
def numL (s:AS):List At->List At×AS
 | []=>([],s)
 | x::r=>let (y,s):=numA s x;let (l,s):=numL s r;(y::l,s)
def numV (s:AS):AV->AV×AS
 | .v (.one x)=>let (y,s):=numA s x;(one y,s)
 | .v (.agg l)=>let (l,s):=numL s l;(.v (.agg l),s)
 | v=>(v,s)
def numT (s:AS):List AV->List AV×AS
 | []=>([],s)
 | x::r=>let (y,s):=numV s x;let (l,s):=numT s r;(y::l,s)
def numX (s:AS):List (Nat×List At)->List (Nat×List At)×AS
 | []=>([],s)
 | x::r=>let (y,s):=numL s x.2;let (l,s):=numX s r;((x.1,y)::l,s)
def AS.number (s:AS):AS:=let (t,s):=numT s s.tm;let (b,s):=numX s s.bx;{ s with tm:=t,bx:=b }
def AS.havoc (s:AS) (ds:List Nat) (bx:List (Nat×Nat)):AS :=
 AS.number { s with tm := mapI (fun i v => bif mem i ds then hvV v else keepV v) 0 s.tm,
                    bx:=mapI (fun i b=>(b.1,mapI (fun j c=>bif bx.any (fun p=>Nat.beq p.1 i && Nat.beq p.2 j) then hvA c else c) 0 b.2)) 0 s.bx }
def mrA (n nb:Nat) (a b:At):At:=bif atB a b && inA (lt n) (lt nb) a then a else match a,b with
 | .num k _, .num j _=>bif keq k j then .num k nw else .unk
 | .be _, .be _ => .be (.le nw)
 | .str _, .str _ => .str nw
 | .sl T _, .sl U _=>bif Nat.beq T U then .sl T nw else .unk
 | _,_ => .unk
def mrL (n nb:Nat):List At->List At->List At
 | a::l,b::r=>mrA n nb a b::mrL n nb l r
 | _,_=>[]
def mrV (n nb:Nat):AV->AV->AV
 | .v (.one a), .v (.one b)=>one (mrA n nb a b)
 | .v (.agg l), .v (.agg r)=>bif Nat.beq l.length r.length then .v (.agg (mrL n nb l r)) else one .unk
 | _,_=>one .unk
def mrT (n nb:Nat):List AV->List AV->List AV
 | a::l,b::r=>mrV n nb a b::mrT n nb l r
 | _,_=>[]
def mrX (n nb:Nat):List (Nat×List At)->List (Nat×List At)->List (Nat×List At)
 | a::l,b::r=>(a.1,mrL n nb a.2 b.2)::mrX n nb l r
 | _,_=>[]
def joined (s:AS) (fa:List Lin):List AS->AS
 | []=>s
 | t::r =>
  let m:=r.foldl (fun (p:List AV×List (Nat×List At)) u=>(mrT s.n s.bx.length p.1 u.tm,mrX s.n s.bx.length p.2 u.bx)) (mrT s.n s.bx.length t.tm t.tm,mrX s.n s.bx.length (t.bx.take s.bx.length) t.bx)
  (AS.number { s with tm:=m.1,bx:=m.2 }).facts fa
inductive Bi where
 | lin (e:Lin)
 | be (b:BE)
def mtA (n nb:Nat) (x h:At):Option (List (Nat×Bi)) :=
 match h with
 | .unk=>some []
 | h=>bif atB x h && inA (lt n) (lt nb) h then some [] else match x,h with
  | .num k e, .num j ⟨0,[(v, .ofNat 1)]⟩=>bif keq k j && Nat.ble n v then some [(v, .lin e)] else none
  | .be b, .be (.le ⟨.negSucc 0,[(v, .ofNat 1)]⟩)=>bif Nat.ble n v then some [(v, .be b)] else none
  | .str e, .str ⟨0,[(v, .ofNat 1)]⟩=>bif Nat.ble n v then some [(v, .lin e)] else none
  | .sl T e, .sl U ⟨0,[(v, .ofNat 1)]⟩=>bif Nat.beq T U && Nat.ble n v then some [(v, .lin e)] else none
  | _,_=>none
def mtL (n nb:Nat):List At->List At->Option (List (Nat×Bi))
 | [],[]=>some []
 | x::l,h::r=>match mtA n nb x h,mtL n nb l r with
  | some a,some b=>some (a++b)
  | _,_=>none
 | _,_=>none
def mtV (n nb:Nat):AV->AV->Option (List (Nat×Bi))
 | _, .v (.one .unk)=>some []
 | .v (.one x), .v (.one h)=>mtA n nb x h
 | .v (.agg l), .v (.agg r)=>mtL n nb l r
 | _,_=>none
def mtT (n nb:Nat):List AV->List AV->Option (List (Nat×Bi))
 | [],[]=>some []
 | x::l,h::r=>match mtV n nb x h,mtT n nb l r with
  | some a,some b=>some (a++b)
  | _,_=>none
 | _,_=>none
def mtX (n nb:Nat):List (Nat×List At)->List (Nat×List At)->Option (List (Nat×Bi))
 | _,[]=>some []
 | x::l,h::r=>bif Nat.beq x.1 h.1 then (match mtL n nb x.2 h.2,mtX n nb l r with
  | some a,some b=>some (a++b)
  | _,_=>none) else none
 | _,_=>none
def inOrder:Nat->List (Nat×Bi)->Bool
 | _,[]=>true
 | n,p::r=>Nat.beq p.1 n && inOrder (n+1) r
def sub1 (n:Nat) (l:List (Nat×Bi)):List (Nat×Int)->Option Lin
 | []=>some (cst 0)
 | (s,k)::r=>match (bif Nat.blt s n then some (.lin (var s)) else look s l),sub1 n l r with
  | some (.lin e),some x=>some ((e.mul k).add x)
  | _,_=>none
def subL (n:Nat) (l:List (Nat×Bi)) (f:Lin):Option Lin:=(sub1 n l f.t).map (·.plus f.c)
def bitF (l:List (Nat×Bi)) (f:Lin):Bool:=match f with
 | ⟨0,[(v, .ofNat 1)]⟩=>(match look v l with | some (.be _)=>true | _=>false)
 | ⟨.ofNat 1,[(v, .negSucc 0)]⟩=>(match look v l with | some (.be _)=>true | _=>false)
 | _=>false
def factOk (d:Nat) (n:Nat) (l:List (Nat×Bi)) (t:AS) (f:Lin):Bool :=
 (oldL n f && t.fa.any (leq f)) || bitF l f || (match subL n l f with | some g=>ent t.fa d g | none=>false)
def prB:Pr->Pr->Bool
 | .lin a, .lin b=>leq a b
 | .be a p, .be b q=>(p == q) && beB a b
 | _,_=>false
def prsB:List Pr->List Pr->Bool
 | [],[]=>true
 | a::l,b::r=>prB a b && prsB l r
 | _,_=>false
def condOk (d:Nat) (t:AS) (pr:List Lin) (co:Lin):Bool :=
 bif pr.any neg then true else
 let t:=((t.facts pr).sign t.at_).wake 4
 ent t.fa d co || t.dead 4
def cfOk (d:Nat) (n:Nat) (l:List (Nat×Bi)) (t:AS) (c:List Pr×Lin):Bool :=
 (inC (lt n) c && t.cf.any (fun e=>prsB c.1 e.1 && leq c.2 e.2)) ||
 (match (c.1.mapM fun p=>match p with | .lin e=>subL n l e | _=>none),subL n l c.2 with
  | some pr,some co=>condOk d t pr co
  | _,_=>false)
def below (d:Nat) (s t h:AS):Option (List (Nat×Bi)) :=
 let n:=s.n
 match mtT n h.bx.length t.tm h.tm,mtX n h.bx.length t.bx h.bx with
 | some a,some b =>
  let l:=a++b
  bif inOrder n l && Nat.beq h.n (n+l.length) && Nat.ble n t.n && Nat.ble s.bx.length h.bx.length && h.fa.all (factOk d n l t) && h.at_.all (fun x=>oldB n x.1 && t.has x.1 x.2) && h.cf.all (cfOk d n l t) then some l else none
 | _,_=>none
def roundOk (d:Nat) (s t:AS) (mu:Lin) (u:AS):Bool:=match below d s u t with
 | some l=>(match subL s.n l mu with
  | some m=>ent u.fa d (mu.plus (-1)) && ent u.fa d ((mu.sub m).plus (-1))
  | none=>false)
 | none=>false
def runs (f:AS->List Hn->Option (Res×List Hn)):List AS->List Hn->Option (Res×List Hn)
 | [],h=>some (⟨[],[],[]⟩,h)
 | s::r,h=>match f s h with
  | some (a,h)=>(match runs f r h with
   | some (b,h)=>some (⟨a.n++b.n,a.x++b.x,a.r++b.r⟩,h)
   | none=>none)
  | none=>none
def unrl (d:Nat) (f:AS->List Hn->Option (Res×List Hn)):Nat->List AS->List Hn->Option (Res×List Hn)
 | 0,l,h=>(match l.filter fun s=>!s.dead d with
  | []=>some (⟨[],[],[]⟩,h)
  | _=>none)
 | k+1,l,h=>match runs f (l.filter fun s=>!s.dead d) h with
  | some (a,h)=>(match unrl d f k a.n h with
   | some (b,h)=>some (⟨[],a.x++b.x,a.r++b.r⟩,h)
   | none=>none)
  | none=>none
def exec (E:Env):Code->AS->List Hn->Option (Res×List Hn)
 | .skip,s,h=>some (⟨[s],[],[]⟩,h)
 | .region _ ops d,s,h=>(bif d then stepsAny E ops.toList s else steps E ops.toList ops.toList s).map fun s=>(⟨[s],[],[]⟩,h)
 | .seq a b,s,h=>match exec E a s h with
  | none=>none
  | some (r,h) =>
   let go (l:List AS) (h:List Hn):Option (Res×List Hn):=(match runs (fun s h=>exec E b s h) l h with
    | some (q,h)=>some (⟨q.n,r.x++q.x,r.r++q.r⟩,h)
    | none=>none)
   bif Nat.ble r.n.length E.mx then go r.n h else match h with
    | .join fa::h=>let t:=joined s fa r.n;bif r.n.all (fun u=>(below (dz E) s u t).isSome) then go [t] h else none
    | _=>none
 | .cond o a b,s,h=>match evB [] s o with
  | none=>none
  | some c =>
   match (match s.assume c true with | some t=>exec E a t h | none=>some (⟨[],[],[]⟩,h)) with
   | none=>none
   | some (p,h)=>(match (match s.assume c false with | some t=>exec E b t h | none=>some (⟨[],[],[]⟩,h)) with
    | some (q,h)=>some (⟨p.n++q.n,p.x++q.x,p.r++q.r⟩,h)
    | none=>none)
 | .block i a,s,h=>(exec E a s h).map fun p=>(⟨p.1.n++(p.1.x.filter fun y=>Nat.beq y.1 i).map (·.2),p.1.x.filter fun y=>!Nat.beq y.1 i,p.1.r⟩,p.2)
 | .exit i,s,h=>some (⟨[],[(i,s)],[]⟩,h)
 | .ret,s,h=>some (⟨[],[],[s]⟩,h)
 | .loop a,s,h=>match h with
  | .unroll k::h=>unrl E.d (fun s h=>exec E a s h) k [s] h
  | .loop bx fa cf mu::h =>
   let t:=((s.havoc (dsts a) bx).facts fa)
   let t:=(({ t with cf:=(cf.map fun c=>(c.1.map .lin,c.2))++t.cf }:AS)).wake 4
   bif !oldL t.n mu then none else (match below (dz E) s s t,exec E a t h with
    | some _,some (p,h) =>
     bif p.n.all (roundOk (dz E) s t mu) then some (⟨[],p.x,p.r⟩,h) else none
    | _,_=>none)
  | _=>none
 | .scope a,s,h=>exec E a s h
 | _,_,_=>none
-- a function
def split:BE->Bool->AS->List AS
 | .not b,p,s=>split b (!p) s
 | .or a b,true,s=>split a true s++(match s.assume a false with | some u=>split b true u | none=>[])
 | .and a b,false,s=>split a false s++(match s.assume a true with | some u=>split b false u | none=>[])
 | .and a b,true,s=>(split a true s).flatMap (split b true)
 | .or a b,false,s=>(split a false s).flatMap (split b false)
 | b,p,s=>match s.assume b p with | some u=>[u] | none=>[]
def atB1 (f:Lin):Option (Nat×Bool):=match f with
 | ⟨.negSucc 0,[(i, .ofNat 1)]⟩=>some (i,true)
 | ⟨0,[(i, .negSucc 0)]⟩=>some (i,false)
 | _=>none
def prems (l:List Sy):List Lin->List AS->Option (List AS)
 | [],ts=>some ts
 | p::r,ts=>match instL l p with
  | some e=>(match e.t with
   | []=>bif nn e.c then prems l r ts else some []
   | _=>prems l r (ts.map (·.fact e)))
  | none=>match atB1 p with
   | some (i,b)=>(match nth l i with
    | some (.be c)=>prems l r (ts.flatMap (split c b))
    | _=>none)
   | none=>none
def concl (d:Nat) (l:List Sy) (co:Lin) (t:AS):Bool :=
 let t:=t.wake 4
 t.fa.any neg || (match instL l co with
  | some e=>ent t.fa d e || t.dead d
  | none=>match atB1 co with
   | some (i,b)=>(match nth l i with
    | some (.be c)=>(split c (!b) t).all (·.dead d)
    | _=>false)
   | none=>false)
def postOk (d:Nat) (l:List Sy) (t:AS) (p:List Lin×Lin):Bool:=match prems l p.1 [t] with
 | some ts=>ts.all (concl d l p.2)
 | none=>false
def params (s:AS):List (Bool×List Ck)->Option (List AV×List Sy×AS)
 | []=>some ([],[],s)
 | c::r=>let (l,s):=s.freshL c.2;match pack c.1 l,params s r with
  | some v,some (vs,ys,s)=>some (v::vs,l.map symO++ys,s)
  | _,_=>none
def results (E:Env) (s:AS):List ResultVar->List (Bool×List Ck)->Option (List (Bool×List At))
 | [],[]=>some []
 | .tmp t::r,_::c=>match evF [] s (.tmp t),results E s r c with
  | some x,some l=>some (x::l)
  | _,_=>none
 | .cell t ty::r,_::c=>match ev1 [] s (.tmp t),look ty E.tb,results E s r c with
  | some (.ptr b 0),some T,some l=>(nth s.bx b).bind fun x=>bif Nat.beq x.2.length T.cells.length then some ((T.agg,x.2)::l) else none
  | _,_,_=>none
 | _,_=>none
def symR (s:AS):At->Sy
 | .be (.le e)=>bif ent s.fa 3 (e.plus 1) && ent s.fa 3 (e.mul (-1)) then .lin (e.plus 1) else .be (.le e)
 | x=>symC x
def wfB:Ck->Bool
 | .int k lo hi=>nn (lo - (nat8 k).1) && nn ((nat8 k).2 - hi)
 | _=>true
def isI64:Option Ck->Bool
 | some (.int .i64 _ _)=>true
 | _=>false
def endOk (E:Env) (f:Func) (c:Ctr) (ins:List Sy) (s:AS):Bool:=match results E s f.results.toList c.outs with
 | none=>false
 | some outs=>fitsA (dz E) s outs c.outs && c.post.all (postOk (dz E) (ins++outs.flatMap fun l=>l.2.map (symR s)) s)
def rgF:Sy->List Lin
 | .lin e=>[le i64hi e,ge i64lo e]
 | _=>[]
def ahead (f:Func) (c:Ctr) (rg:List Nat):Option (List Sy×AS):=match params ⟨[],[],0,[],[],[]⟩ c.ins with
 | some (vs,ys,s)=>(match c.pre.mapM (instL ys),rg.mapM (fun i=>bif isI64 (nth (c.ins.flatMap (·.2)) i) then nth ys i else none) with
  | some pre,some rg=>some (ys,{ (s.facts pre).facts (rg.flatMap rgF) with tm:=vs++List.replicate (f.ntmps - vs.length) (one .un) })
  | _,_=>none)
 | none=>none
def check (E:Env) (f:Func) (c:Ctr) (rg:List Nat) (h:List Hn):Bool :=
 c.ins.all (fun x=>x.2.all wfB) && c.outs.all (fun x=>x.2.all wfB) && match f.body,ahead f c rg with
 | some b,some (ys,s)=>(match exec E b s h with
  | some (r,[])=>r.x.isEmpty && (r.n++r.r).all (endOk E f c ys)
  | _=>false)
 | _,_=>false
end Go.Proofs.YtckfjploafhenaaGreat.Ai
