/- An interpreter of the model's code over abstract values: whole numbers as linear expressions over symbols, rows by their element types, struct variables' boxes cell by cell. Definitions alone; its soundness stands in the next text. -/
import Derived.Orders
import Derived.Below
set_option maxRecDepth 100000
set_option maxHeartbeats 16000000
set_option linter.unusedVariables false
set_option linter.unusedSimpArgs false
namespace Go.Proofs.YtckfjploafhenaaGreat.Ai
structure Lin where
 c:Int
 t:List (Nat×Int)
def nn:Int->Bool
 | .ofNat _=>true
 | .negSucc _=>false
def isZ:Int->Bool
 | .ofNat n=>Nat.beq n 0
 | .negSucc _=>false
def ins (s:Nat) (k:Int):List (Nat×Int)->List (Nat×Int)
 | []=>[(s,k)]
 | (u,j)::r=>bif Nat.blt s u then (s,k)::(u,j)::r else bif Nat.beq s u then (bif isZ (k+j) then r else (s,k+j)::r) else (u,j)::ins s k r
def addT:List (Nat×Int)->List (Nat×Int)->List (Nat×Int)
 | [],b=>b
 | (s,k)::a,b=>ins s k (addT a b)
def Lin.add (a b:Lin):Lin:=⟨a.c+b.c,addT a.t b.t⟩
def Lin.mul (m:Int) (a:Lin):Lin:=bif isZ m then ⟨0,[]⟩ else ⟨m * a.c,a.t.map fun p=>(p.1,m * p.2)⟩
def Lin.sub (a b:Lin):Lin:=a.add (b.mul (-1))
def Lin.plus (a:Lin) (c:Int):Lin:=⟨a.c+c,a.t⟩
def cst (c:Int):Lin:=⟨c,[]⟩
def var (s:Nat):Lin:=⟨0,[(s,1)]⟩
def teq:List (Nat×Int)->List (Nat×Int)->Bool
 | [],[]=>true
 | (s,k)::a,(u,j)::b=>Nat.beq s u && isZ (k - j) && teq a b
 | _,_=>false
def leq (a b:Lin):Bool:=isZ (a.c - b.c) && teq a.t b.t
def coef (s:Nat):List (Nat×Int)->Int
 | []=>0
 | (u,k)::r=>bif Nat.beq s u then k else coef s r
def same (a b:Int):Bool:=bif isZ a || isZ b then false else nn a == nn b
def comb (g f:Lin) (k j:Int):Lin :=
 let d:=Nat.gcd k.natAbs j.natAbs
 let q:=k.natAbs / d
 let m:=j.natAbs / d
 ((g.mul (Int.ofNat m)).sub (f.mul (Int.ofNat q))).plus (Int.ofNat m - 1)
def entD (fs:List Lin):Nat->Lin->Bool
 | 0,g=>match g.t with
  | []=>nn g.c
  | _=>false
 | d+1,g=>match g.t with
  | []=>nn g.c
  | (s,k)::_=>fs.any fun f=>let j:=coef s f.t;bif same k j then entD fs d (comb g f k j) else false
def entU (fs:List Lin) (g:Lin):Nat->Nat->Bool
 | 0,k=>entD fs k g
 | n+1,k=>bif entD fs k g then true else entU fs g n (k+1)
def ent (fs:List Lin) (d:Nat) (g:Lin):Bool:=match g.t with
 | []=>nn g.c
 | _=>entU fs g (d - 1) 1
inductive BE where
 | tt
 | ff
 | le (e:Lin)
 | eq (e:Lin)
 | not (b:BE)
 | and (a b:BE)
 | or (a b:BE)
def beB:BE->BE->Bool
 | .tt, .tt=>true
 | .ff, .ff=>true
 | .le a, .le b=>leq a b
 | .eq a, .eq b=>leq a b
 | .not a, .not b=>beB a b
 | .and a b, .and c d=>beB a c && beB b d
 | .or a b, .or c d=>beB a c && beB b d
 | _,_=>false
def ble (e:Lin):BE:=match e.t with
 | []=>bif nn e.c then .tt else .ff
 | _ => .le e
def beq (e:Lin):BE:=match e.t with
 | []=>bif isZ e.c then .tt else .ff
 | _ => .eq e
def bnot:BE->BE
 | .tt => .ff
 | .ff => .tt
 | .not b=>b
 | b => .not b
def band:BE->BE->BE
 | .ff,_ => .ff
 | .tt,b=>b
 | a, .ff => .ff
 | a, .tt=>a
 | a,b => .and a b
def bor:BE->BE->BE
 | .tt,_ => .tt
 | .ff,b=>b
 | a, .tt => .tt
 | a, .ff=>a
 | a,b => .or a b
def litF:BE->Bool->List Lin
 | .le e,true=>[e]
 | .le e,false=>[(cst (-1)).sub e]
 | .eq e,true=>[e,e.mul (-1)]
 | .not b,p=>litF b (!p)
 | .and a b,true=>litF a true++litF b true
 | .or a b,false=>litF a false++litF b false
 | _,_=>[]
def litA:BE->Bool->List (BE×Bool)
 | .not b,p=>litA b (!p)
 | .and a b,true=>litA a true++litA b true++[(.and a b,true)]
 | .or a b,false=>litA a false++litA b false++[(.or a b,false)]
 | b,p=>[(b,p)]
inductive Ck where
 | int (k:IntKind) (lo hi:Int)
 | bool
 | str
 | sl (T:Nat)
 | cur
inductive At where
 | un
 | unk
 | num (k:IntKind) (e:Lin)
 | be (b:BE)
 | str (e:Lin)
 | sl (T:Nat) (e:Lin)
 | nil
 | ptr (b off:Nat)
 | row (T off:Nat)
 | cur
inductive Bv where
 | one (x:At)
 | agg (l:List At)
 | tup (l:List (Bool×List At))
inductive AV where
 | v (b:Bv)
 | gu (g:BE) (b:Bv)
def keq:IntKind->IntKind->Bool
 | .i64, .i64=>true
 | .u8, .u8=>true
 | _,_=>false
def atB:At->At->Bool
 | .un, .un=>true
 | .unk, .unk=>true
 | .num k e, .num j f=>keq k j && leq e f
 | .be a, .be b=>beB a b
 | .str e, .str f=>leq e f
 | .sl T e, .sl U f=>Nat.beq T U && leq e f
 | .nil, .nil=>true
 | .ptr b o, .ptr c p=>Nat.beq b c && Nat.beq o p
 | .row T o, .row U p=>Nat.beq T U && Nat.beq o p
 | .cur, .cur=>true
 | _,_=>false
structure Ty where
 agg:Bool
 cells:List Ck
 flds:List (Nat×Nat)
 el:Nat
 rk:List Ck
structure Ctr where
 ins:List (Bool×List Ck)
 outs:List (Bool×List Ck)
 pre:List Lin
 post:List (List Lin×Lin)
structure Env where
 tb:List (Nat×Ty)
 ct:List (Nat×Ctr)
 d:Nat
 mx:Nat
 eq:List Nat
def LIM:Int:=1048576
def look {α:Type} (t:Nat):List (Nat×α)->Option α
 | []=>none
 | (u,x)::r=>bif Nat.beq t u then some x else look t r
def nth {α:Type}:List α->Nat->Option α
 | [],_=>none
 | x::_,0=>some x
 | _::r,n+1=>nth r n
def setN {α:Type}:List α->Nat->α->List α
 | [],_,_=>[]
 | _::r,0,y=>y::r
 | x::r,n+1,y=>x::setN r n y
inductive Pr where
 | lin (e:Lin)
 | be (b:BE) (p:Bool)
structure AS where
 tm:List AV
 bx:List (Nat×List At)
 n:Nat
 fa:List Lin
 at_:List (BE×Bool)
 cf:List (List Pr×Lin)
def AS.fact (s:AS) (f:Lin):AS:=match f.t with
 | []=>s
 | _=>bif s.fa.any (leq f) then s else { s with fa:=f::s.fa }
def AS.facts (s:AS) (l:List Lin):AS:=l.foldl AS.fact s
def AS.has (s:AS) (b:BE) (p:Bool):Bool:=s.at_.any fun x=>(x.2 == p) && beB b x.1
def AS.lit (s:AS) (b:BE) (p:Bool):AS:=bif s.has b p then s else { s with at_:=(b,p)::s.at_ }
def unnot:BE->Bool->BE×Bool
 | .not b,p=>unnot b (!p)
 | b,p=>(b,p)
def AS.prem (s:AS):Pr->Bool
 | .lin e=>ent s.fa 3 e
 | .be b p=>s.has (unnot b p).1 (unnot b p).2
def wake1 (s:AS):List (List Pr×Lin)->AS
 | []=>s
 | (pr,f)::r=>wake1 (bif pr.all s.prem then s.fact f else s) r
def AS.wake (s:AS):Nat->AS
 | 0=>s
 | k+1=>let t:=wake1 s s.cf;bif Nat.beq t.fa.length s.fa.length then s else t.wake k
def AS.sign (s:AS):List (BE×Bool)->AS
 | []=>s
 | (.eq e,false)::r=>(bif ent s.fa 3 e then s.fact (e.plus (-1)) else bif ent s.fa 3 (e.mul (-1)) then s.fact ((e.mul (-1)).plus (-1)) else s).sign r
 | _::r=>s.sign r
def neg (f:Lin):Bool:=match f.t with
 | []=>!nn f.c
 | _=>false
def AS.assume (s:AS) (b:BE) (p:Bool):Option AS :=
 match b,p with
 | .tt,true=>some s
 | .ff,false=>some s
 | .tt,false=>none
 | .ff,true=>none
 | b,p =>
  let l:=litA b p
  bif (litF b p).any neg || l.any (fun x=>s.has x.1 (!x.2)) then none else
  some (((l.foldl (fun s x=>s.lit x.1 x.2) (s.facts (litF b p))).sign l).wake 4)
def AS.dead (s:AS) (d:Nat):Bool:=(s.fa.take 12).any fun f=>ent s.fa d ((f.mul (-1)).plus (-1))
def AS.fresh (s:AS) (r:List (Lin->Lin)):Lin×AS:=(var s.n,({ s with n:=s.n+1 }:AS).facts (r.map fun f=>f (var s.n)))
def ge (c:Int):Lin->Lin:=fun e=>e.plus (-c)
def le (c:Int):Lin->Lin:=fun e=>(cst c).sub e
def i64lo:Int:=-9223372036854775808
def i64hi:Int:=9223372036854775807
def nat8:IntKind->Int×Int
 | .u8=>(0,255)
 | .i64=>(i64lo,i64hi)
 | .i32=>(-2147483648,2147483647)
 | .u64=>(0,18446744073709551615)
 | _=>(1,0)
def AS.freshC (s:AS):Ck->At×AS
 | .int k lo hi=>let (x,s):=s.fresh (bif isZ (lo - i64lo) then [] else [ge lo,le hi]);(.num k x,s)
 | .bool=>let (x,s):=s.fresh [ge 0,le 1];(.be (.le (x.plus (-1))),s)
 | .str=>let (x,s):=s.fresh [ge 0,le LIM];(.str x,s)
 | .sl T=>let (x,s):=s.fresh [ge 0,le LIM];(.sl T x,s)
 | .cur=>(.cur,s)
def AS.freshL (s:AS):List Ck->List At×AS
 | []=>([],s)
 | c::r=>let (x,s):=s.freshC c;let (l,s):=s.freshL r;(x::l,s)
def zeroC:Ck->At
 | .int k _ _ => .num k (cst 0)
 | .bool => .be .ff
 | .str => .str (cst 0)
 | .sl T => .sl T (cst 0)
 | .cur => .unk
def fitC (d:Nat) (s:AS):At->Ck->Bool
 | .num k e, .int j lo hi=>keq k j && (bif isZ (lo - (nat8 j).1) && isZ (hi - (nat8 j).2) then true else ent s.fa d (ge lo e) && ent s.fa d (le hi e))
 | .be _, .bool=>true
 | .str _, .str=>true
 | .nil, .sl _=>true
 | .sl T _, .sl U=>Nat.beq T U
 | .cur, .cur=>true
 | _,_=>false
def fitL (d:Nat) (s:AS):List At->List Ck->Bool
 | [],[]=>true
 | x::l,c::r=>fitC d s x c && fitL d s l r
 | _,_=>false
def intoC:At->Ck->Option At
 | .nil, .sl T=>some (.sl T (cst 0))
 | .nil,_=>none
 | .un,_=>none
 | .unk,_=>none
 | x,_=>some x
def intoL:List At->List Ck->Option (List At)
 | [],[]=>some []
 | x::l,c::r=>match intoC x c,intoL l r with
  | some y,some m=>some (y::m)
  | _,_=>none
 | _,_=>none
inductive Sy where
 | lin (e:Lin)
 | be (b:BE)
def symC:At->Sy
 | .num _ e => .lin e
 | .str e => .lin e
 | .sl _ e => .lin e
 | .be b => .be b
 | _ => .lin (cst 0)
def inst (l:List Sy):List (Nat×Int)->Option Lin
 | []=>some (cst 0)
 | (s,k)::r=>match nth l s,inst l r with
  | some (.lin e),some x=>some ((e.mul k).add x)
  | some (.be .tt),some x=>some (x.plus k)
  | some (.be .ff),some x=>some x
  | _,_=>none
def instL (l:List Sy) (f:Lin):Option Lin:=(inst l f.t).map (·.plus f.c)
-- operands
def impl (l:List (BE×Bool)):BE->Bool->Bool
 | .tt,p=>p
 | .ff,p=>!p
 | .not g,p=>l.any (fun x=>(x.2 == p) && beB x.1 (.not g)) || impl l g (!p)
 | .and a b,true=>l.any (fun x=>x.2 && beB x.1 (.and a b)) || (impl l a true && impl l b true)
 | .or a b,false=>l.any (fun x=>!x.2 && beB x.1 (.or a b)) || (impl l a false && impl l b false)
 | g,p=>l.any (fun x=>(x.2 == p) && beB x.1 g)
def evO (W:List (BE×Bool)) (s:AS):Operand->Option AV
 | .tmp t=>match nth s.tm t with
  | some (.gu g b)=>bif impl W g true then some (.v b) else some (.gu g b)
  | x=>x
 | .const (.int k n)=>bif nn (n - (nat8 k).1) && nn ((nat8 k).2 - n) then some (.v (.one (.num k (cst n)))) else none
 | .const (.bool b)=>some (.v (.one (.be (bif b then .tt else .ff))))
 | .const (.slice none 0 0)=>some (.v (.one .nil))
 | .const (.string s)=>bif nn (LIM - s.size) then some (.v (.one (.str (cst s.size)))) else none
 | _=>none
def ev1 (W:List (BE×Bool)) (s:AS) (o:Operand):Option At:=match evO W s o with
 | some (.v (.one x))=>some x
 | _=>none
def evN (W:List (BE×Bool)) (s:AS) (o:Operand):Option (IntKind×Lin):=match ev1 W s o with
 | some (.num k e)=>some (k,e)
 | _=>none
def evB (W:List (BE×Bool)) (s:AS) (o:Operand):Option BE:=match ev1 W s o with
 | some (.be b)=>some b
 | _=>none
def evC (W:List (BE×Bool)) (s:AS) (o:Operand):Option (List At):=match evO W s o with
 | some (.v (.one x))=>some [x]
 | some (.v (.agg l))=>some l
 | _=>none
def one (x:At):AV := .v (.one x)
def AS.lim (s:AS) (d:Nat) (k:IntKind) (e:Lin):Bool:=match e.t with
 | []=>nn (e.c - (nat8 k).1) && nn ((nat8 k).2 - e.c)
 | _=>ent s.fa d (ge (nat8 k).1 e) && ent s.fa d (le (nat8 k).2 e)
def AS.fint (s:AS) (k:IntKind):At×AS:=s.freshC (match k with | .u8 => .int .u8 0 255 | k => .int k i64lo i64hi)
def AS.numOr (s:AS) (d:Nat) (k:IntKind) (e:Lin):AV×AS:=bif s.lim d k e then (one (.num k e),s) else let (x,s):=s.fint k;(one x,s)
def AS.sb (s:AS):BE->BE
 | .not b=>bnot (s.sb b)
 | .le e=>bif s.has (.le e) true || ent s.fa 3 e then .tt else bif s.has (.le e) false || ent s.fa 3 ((cst (-1)).sub e) then .ff else .le e
 | .eq e=>bif s.has (.eq e) true then .tt else bif s.has (.eq e) false || ent s.fa 3 (e.plus (-1)) || ent s.fa 3 ((e.mul (-1)).plus (-1)) then .ff else .eq e
 | b=>b
def AS.tru (s:AS) (b:BE):AV×AS:=(one (.be (s.sb b)),s)
def ubd (x:Nat):List Lin->Option Int
 | []=>none
 | f::r=>match f.t with
  | [(u, .negSucc 0)]=>bif Nat.beq u x then some f.c else ubd x r
  | _=>ubd x r
def AS.quo (s:AS) (d:Nat) (a:Lin) (b:Int):Lin×AS :=
 bif ent s.fa (max 5 d) a then
  let (r,s):=s.fresh [ge 0,fun r=>a.sub (r.mul b),fun r=>((r.mul b).sub a).plus (b - 1)]
  (r,match a.t with
   | [(x, .ofNat 1)]=>(match ubd x s.fa with | some h=>s.fact (le ((h+a.c) / b) r) | none=>s)
   | _=>s)
 else s.fresh []
def is64:IntKind->Bool
 | .i64=>true
 | _=>false
def bin (d:Nat) (s:AS) (o:BinOp) (x y:AV):Option (AV×AS) :=
 match x,y with
 | .v (.one (.num k a)), .v (.one (.num j b)) =>
  match o with
  | .eql=>bif keq k j then some (s.tru (beq (a.sub b))) else none
  | .neq=>bif keq k j then some (s.tru (bnot (beq (a.sub b)))) else none
  | .lss=>bif keq k j then some (s.tru (ble ((b.sub a).plus (-1)))) else none
  | .leq=>bif keq k j then some (s.tru (ble (b.sub a))) else none
  | .gtr=>bif keq k j then some (s.tru (ble ((a.sub b).plus (-1)))) else none
  | .geq=>bif keq k j then some (s.tru (ble (a.sub b))) else none
  | .add=>bif keq k j then some (s.numOr d k (a.add b)) else none
  | .sub=>bif keq k j then some (s.numOr d k (a.sub b)) else none
  | .mul=>bif keq k j then (match b.t,a.t with
   | [],_=>some (s.numOr d k (a.mul b.c))
   | _,[]=>some (s.numOr d k (b.mul a.c))
   | _,_=>let (x,s):=s.fint k;some (one x,s)) else none
  | .quo=>bif keq k j then (match b.t,b.c,k with
   | [], .ofNat (c+1), .i64=>let (r,s):=s.quo d a (Int.ofNat (c+1));some (one (.num k r),s)
   | _,_,_=>none) else none
  | .rem=>bif keq k j && is64 k && ent s.fa (max 5 d) (b.plus (-1)) then
    let p:=ent s.fa (max 5 d) a
    let (r,s):=s.fresh ([fun r=>(b.sub r).plus (-1),fun r=>(b.add r).plus (-1)]++bif p then [ge 0] else [])
    some (one (.num k r),s) else none
  | .shr=>bif keq k k && ent s.fa (max 5 d) b then let (x,s):=s.fint k;some (one x,s) else none
  | .shl=>bif keq k k && ent s.fa (max 5 d) b then let (x,s):=s.fint k;some (one x,s) else none
  | .and=>bif keq k j then (match b.t,k with
   | [], .i64=>bif nn b.c then let (r,s):=s.fresh [ge 0,le b.c];some (one (.num k r),s) else let (x,s):=s.fint k;some (one x,s)
   | _,_=>let (x,s):=s.fint k;some (one x,s)) else none
  | .or=>bif keq k j then let (x,s):=s.fint k;some (one x,s) else none
  | .xor=>bif keq k j then let (x,s):=s.fint k;some (one x,s) else none
  | _=>none
 | _,_=>none
def cut {α:Type} (l:List α) (off n:Nat):List α:=(l.drop off).take n
def lay {α:Type}:List α->Nat->List α->List α
 | l,_,[]=>l
 | l,off,y::r=>lay (setN l off y) (off+1) r
def pack (agg:Bool) (l:List At):Option AV:=match agg,l with
 | true,l=>some (.v (.agg l))
 | false,[x]=>some (one x)
 | false,_=>none
def evF (W:List (BE×Bool)) (s:AS) (o:Operand):Option (Bool×List At):=match evO W s o with
 | some (.v (.one x))=>some (false,[x])
 | some (.v (.agg l))=>some (true,l)
 | _=>none
def evL (W:List (BE×Bool)) (s:AS):List Operand->Option (List (Bool×List At))
 | []=>some []
 | o::r=>match evF W s o,evL W s r with
  | some x,some l=>some (x::l)
  | _,_=>none
def fitsA (d:Nat) (s:AS):List (Bool×List At)->List (Bool×List Ck)->Bool
 | [],[]=>true
 | x::l,c::r=>(x.1 == c.1) && fitL d s x.2 c.2 && fitsA d s l r
 | _,_=>false
def zav (s:AS):List (Bool×List Ck)->List (Bool×List At)×AS
 | []=>([],s)
 | c::r=>let (x,s):=s.freshL c.2;let (l,s):=zav s r;((c.1,x)::l,s)
def symO:At->Sy
 | .be (.le e) => .lin (e.plus 1)
 | x=>symC x
def posts (s:AS) (l:List Sy):List (List Lin×Lin)->Option AS
 | []=>some s
 | (pr,co)::r=>match pr.mapM (instL l),instL l co with
  | some pr,some co =>
   let pr:=pr.filter fun p=>!ent s.fa 3 p
   posts (match pr with | []=>s.fact co | pr=>{ s with cf:=(pr.map .lin,co)::s.cf }) l r
  | _,_=>none
def call (E:Env) (s:AS) (f:Nat) (args:List (Bool×List At)):Option (AV×AS) :=
 match look f E.ct with
 | none=>none
 | some c =>
  bif fitsA (max 5 E.d) s args c.ins then
   let i:=args.flatMap fun l=>l.2.map symC
   match c.pre.mapM (instL i) with
   | none=>none
   | some pre =>
    bif pre.all (ent s.fa (max 5 E.d)) then
     let (res,s):=zav s c.outs
     match posts s (i++res.flatMap fun l=>l.2.map symO) c.post with
     | none=>none
     | some s=>some (match res with
      | [(true,l)] => .v (.agg l)
      | [(false,[x])]=>one x
      | l => .v (.tup l),s)
    else none
  else none
def arm (W:List (BE×Bool)) (s:AS) (v:AV) (c:BE) (p:Bool):Option BE :=
 match v with
 | .v (.one (.be b))=>some b
 | .v (.one .un)=>(match s.assume c p with
  | none=>some .ff
  | some _=>none)
 | .gu g (.one (.be b))=>bif impl (W++litA c p) g true then some b else none
 | _=>none
def parts (W:List (BE×Bool)) (s:AS) (fl:List (Nat×Nat)) (ck:List Ck) (z:List At):List (Nat×Operand)->Option (List At)
 | []=>some z
 | (i,o)::r=>match nth fl i,evC W s o with
  | some (off,n),some x=>bif Nat.beq x.length n && Nat.ble (off+n) z.length then
    (match intoL x (cut ck off n) with
     | some y=>parts W s fl ck (lay z off y) r
     | none=>none) else none
  | _,_=>none
def rowParts (W:List (BE×Bool)) (d:Nat) (s:AS) (rk:List Ck):List (Nat×Operand)->Bool
 | []=>true
 | (_,o)::r=>(match evC W s o with | some x=>fitL d s x rk | none=>false) && rowParts W d s rk r
def dz (E:Env):=max 5 E.d
def slT (E:Env) (t T:Nat):Bool:=(match look t E.tb with
 | some V=>!V.agg && Nat.beq V.el T && (match V.cells with | [.sl e]=>Nat.beq e T | _=>false)
 | none=>false) && (look T E.tb).isSome
def isStr (E:Env) (t:Nat):Bool:=match look t E.tb with
 | some V=>!V.agg && (match V.cells with | [.str]=>true | _=>false)
 | none=>false
def isU8 (E:Env) (t:Nat):Bool:=match look t E.tb with
 | some V=>!V.agg && (match V.cells with | [.int .u8 _ _]=>true | _=>false) && (match V.rk with | [.int .u8 a b]=>isZ a && isZ (b - 255) | _=>false)
 | none=>false
def mem (i:Nat):List Nat->Bool
 | []=>false
 | j::r=>Nat.beq i j || mem i r
def ints:List At->Bool
 | []=>true
 | .num .i64 _::r=>ints r
 | _=>false
def eqable (E:Env) (t:Nat):AV->AV->Bool
 | .v (.one (.str _)), .v (.one (.str _))=>true
 | .v (.agg l), .v (.agg r)=>mem t E.eq && ints l && ints r && Nat.beq l.length r.length && (match look t E.tb with | some T=>Nat.beq l.length T.cells.length | none=>false)
 | _,_=>false
def partsIn (n:Nat):List (Nat×Operand)->Bool
 | []=>true
 | (i,_)::r=>Nat.blt i n && partsIn n r
def opx (E:Env) (W:List (BE×Bool)) (s:AS):Op->Option (Option AV×AS)
 | .move x=>(evO W s x).map fun v=>(some v,s)
 | .assign x=>(evO W s x).map fun v=>(some v,s)
 | .nilCheck x=>match ev1 W s x with
  | some (.ptr b o)=>some (some (one (.ptr b o)),s)
  | some (.row T o)=>some (some (one (.row T o)),s)
  | some .cur=>some (some (one .cur),s)
  | _=>none
 | .pick c a b=>match evB W s c,evO W s a,evO W s b with
  | some c,some x,some y=>(match c with
   | .tt=>some (some x,s)
   | .ff=>some (some y,s)
   | c=>(match arm W s x c true,arm W s y c false with
    | some x,some y=>some (some (one (.be (match x,y with
     | .tt,y=>bor c y
     | x, .ff=>band c x
     | x,y=>bor (band c x) (band (bnot c) y)))),s)
    | _,_=>none))
  | _,_,_=>none
 | .alloc t=>(look t E.tb).bind fun T=>some (some (one (.ptr s.bx.length 0)),{ s with bx:=s.bx++[(t,T.cells.map zeroC)] })
 | .box t x=>(look t E.tb).bind fun T=>(evC W s x).bind fun l=>(intoL l T.cells).map fun l=>(some (one (.ptr s.bx.length 0)),{ s with bx:=s.bx++[(t,l)] })
 | .fieldAddr t x f=>(look t E.tb).bind fun T=>(nth T.flds f).bind fun o=>match ev1 W s x with
  | some (.ptr b p)=>some (some (one (.ptr b (p+o.1))),s)
  | some (.row U p)=>some (some (one (.row U (p+o.1))),s)
  | _=>none
 | .load t x=>(look t E.tb).bind fun T=>match ev1 W s x with
  | some (.ptr b o)=>(nth s.bx b).bind fun c=>let l:=cut c.2 o T.cells.length
   bif Nat.beq l.length T.cells.length then (pack T.agg l).map fun v=>(some v,s) else none
  | some (.row U o)=>(look U E.tb).bind fun V=>let c:=cut V.rk o T.cells.length
   bif Nat.beq c.length T.cells.length then (let (l,s):=s.freshL c;(pack T.agg l).map fun v=>(some v,s)) else none
  | _=>none
 | .store t x y=>(look t E.tb).bind fun T=>(evC W s y).bind fun l=>bif Nat.beq l.length T.cells.length then (match ev1 W s x with
  | some (.ptr b o)=>(nth s.bx b).bind fun c=>(look c.1 E.tb).bind fun U=>(intoL l (cut U.cells o T.cells.length)).bind fun l =>
   bif Nat.ble (o+T.cells.length) c.2.length then some (none,{ s with bx:=setN s.bx b (c.1,lay c.2 o l) }) else none
  | some (.row U o)=>(look U E.tb).bind fun V=>bif fitL (dz E) s l (cut V.rk o T.cells.length) then some (none,s) else none
  | _=>none) else none
 | .indexAddr t x i=>match ev1 W s x,evN W s i with
  | some (.sl T e),some (_,j)=>bif slT E t T && ent s.fa (dz E) j && ent s.fa (dz E) ((e.sub j).plus (-1)) then some (some (one (.row T 0)),s) else none
  | _,_=>none
 | .index t x i=>match ev1 W s x,evN W s i with
  | some (.str e),some (_,j)=>bif isStr E t && ent s.fa (dz E) j && ent s.fa (dz E) ((e.sub j).plus (-1)) then (let (y,s):=s.freshC (.int .u8 0 255);some (some (one y),s)) else none
  | _,_=>none
 | .build t ps=>(look t E.tb).bind fun T=>bif !T.agg then none else (parts W s T.flds T.cells (T.cells.map zeroC) ps.toList).map fun l=>(some (.v (.agg l)),s)
 | .buildSlice t n ps=>(look t E.tb).bind fun T=>(look T.el E.tb).bind fun V=>bif slT E t T.el && nn (LIM - n) && Nat.ble (n * V.cells.length) 16777216 && partsIn n ps.toList && rowParts W (dz E) s V.rk ps.toList && fitL (dz E) s (V.cells.map zeroC) V.rk then some (some (one (.sl T.el (cst n))),s) else none
 | .slice t x lo hi none=>match ev1 W s x,(match lo with | none=>some (cst 0) | some o=>(evN W s o).map (fun (p:IntKind×Lin)=>p.2)) with
  | some (.sl T e),some l=>(match (match hi with | none=>some e | some o=>(evN W s o).map (fun (p:IntKind×Lin)=>p.2)) with
   | some h=>bif slT E t T && ent s.fa (dz E) l && ent s.fa (dz E) (h.sub l) && ent s.fa (dz E) (e.sub h) then some (some (one (.sl T (h.sub l))),s) else none
   | none=>none)
  | _,_=>none
 | .extract x i=>match evO W s x with
  | some (.v (.tup l))=>(nth l i).bind fun p=>(pack p.1 p.2).map fun v=>(some v,s)
  | _=>none
 | .convert a b x=>match look a E.tb,look b E.tb,ev1 W s x with
  | some A,some T,some v=>bif A.agg || T.agg then none else (match A.cells,T.cells,v with
   | [.sl U],[.str], .sl V e=>bif Nat.beq U V && isU8 E U then some (some (one (.str e)),s) else none
   | [.str],[.sl U], .str e=>bif isU8 E U then some (some (one (.sl U e)),s) else none
   | [.int _ _ _],[.int j _ _], .num k e=>bif keq k j then some (some (one (.num j e)),s) else bif keq j j then (let (y,s):=s.numOr E.d j e;some (some y,s)) else none
   | _,_,_=>none)
  | _,_,_=>none
 | .unOp .not _ x=>(evB W s x).map fun b=>(some (one (.be (bnot b))),s)
 | .binOp o t x y _=>match evO W s x,evO W s y with
  | some a,some b=>(match bin E.d s o a b with
   | some r=>some (some r.1,r.2)
   | none=>bif eqable E t a b then (match o with
    | .eql=>let (x,s):=s.freshC .bool;some (some (one x),s)
    | .neq=>let (x,s):=s.fresh [ge 0,le 1];some (some (one (.be (.not (.le (x.plus (-1)))))),s)
    | _=>none) else none)
  | _,_=>none
 | .call { callee := .builtin .len,args:=a,argTypes:=ts }=>match a.toList,ts.toList with
  | [x],[t]=>(match ev1 W s x with
   | some (.sl T e)=>bif slT E t T then some (some (one (.num .i64 e)),s) else none
   | some (.str e)=>bif isStr E t then some (some (one (.num .i64 e)),s) else none
   | _=>none)
  | _,_=>none
 | .call { callee := .builtin .append,args:=a,argTypes:=ts }=>match a.toList,ts.toList with
  | [x,y],[t,u]=>(look t E.tb).bind fun T=>(look T.el E.tb).bind fun V=>match ev1 W s x,ev1 W s y with
   | some x,some y =>
    (match (match x with | .sl X e=>bif Nat.beq X T.el then some e else none | .nil=>some (cst 0) | _=>none),(match y with | .sl X e=>bif Nat.beq X T.el && slT E u T.el then some e else none | .str e=>bif isStr E u && isU8 E T.el then some e else none | .nil=>bif slT E u T.el then some (cst 0) else none | _=>none) with
     | some n,some k=>bif slT E t T.el && ent s.fa (dz E) ((cst LIM).sub (n.add k)) && fitL (dz E) s (V.cells.map zeroC) V.rk then some (some (one (.sl T.el (n.add k))),s) else none
     | _,_=>none)
   | _,_=>none
  | _,_=>none
 | .call { callee := .value (.func f),args:=a,argTypes:=_ }=>(evL W s a.toList).bind fun l=>(call E s f l).map fun r=>(some r.1,r.2)
 | _=>none
def tgt (W:List (BE×Bool)) (s:AS):Op->Option Nat
 | .store _ x _=>match ev1 W s x with
  | some (.ptr b _)=>some b
  | _=>none
 | _=>none
end Go.Proofs.YtckfjploafhenaaGreat.Ai
