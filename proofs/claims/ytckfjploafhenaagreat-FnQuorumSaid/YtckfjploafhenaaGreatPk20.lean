/- The laws' own functions on messages and replicas. -/
import Derived.Test.YtckfjploafhenaaGreatPk19
set_option maxRecDepth 100000
set_option maxHeartbeats 16000000
set_option linter.unusedVariables false
set_option linter.unusedSimpArgs false
namespace Go.Proofs.YtckfjploafhenaaGreat
open Go.ChangeShapes Go.WideShapes Go.ChangeAt Go.RowKit Go.Sort
abbrev Mg.val (a:LAd) (m:Mg):Value := .agg #[.int .i64 m.kind, .int .i64 m.frm, .int .i64 m.view, .int .i64 m.op, .int .i64 m.commit, .int .i64 m.normal, .int .i64 m.nonce, .int .i64 m.client, .int .i64 m.req, .int .i64 m.answer, .int .i64 m.ck, .int .i64 m.cx, .int .i64 m.cv, .int .i64 m.log.base, .slice a.cA m.log.cells.length a.cc, .slice a.sA m.log.seats.length a.sc, .slice a.eA m.log.ents.length a.ec]
abbrev Mg.obj (a:LAd) (m:Mg):Obj := .cells #[.int .i64 m.kind, .int .i64 m.frm, .int .i64 m.view, .int .i64 m.op, .int .i64 m.commit, .int .i64 m.normal, .int .i64 m.nonce, .int .i64 m.client, .int .i64 m.req, .int .i64 m.answer, .int .i64 m.ck, .int .i64 m.cx, .int .i64 m.cv, .int .i64 m.log.base, .slice a.cA m.log.cells.length a.cc, .slice a.sA m.log.seats.length a.sc, .slice a.eA m.log.ents.length a.ec] 37
abbrev Mg.zobj:Obj := .cells #[.int .i64 0, .int .i64 0, .int .i64 0, .int .i64 0, .int .i64 0, .int .i64 0, .int .i64 0, .int .i64 0, .int .i64 0, .int .i64 0, .int .i64 0, .int .i64 0, .int .i64 0, .int .i64 0, .slice none 0 0, .slice none 0 0, .slice none 0 0] 37
abbrev Rp.val (a:LAd) (A:Option Addr) (n c:Nat) (r:Rp):Value := .agg #[.int .i64 r.me, .int .i64 r.of, .int .i64 r.mode, .int .i64 r.view, .int .i64 r.normal, .int .i64 r.commit, .int .i64 r.log.base, .slice a.cA r.log.cells.length a.cc, .slice a.sA r.log.seats.length a.sc, .slice a.eA r.log.ents.length a.ec, .slice A n c, .int .i64 r.cell, .int .i64 r.nonce]
abbrev Rp.obj (a:LAd) (A:Option Addr) (n c:Nat) (r:Rp):Obj := .cells #[.int .i64 r.me, .int .i64 r.of, .int .i64 r.mode, .int .i64 r.view, .int .i64 r.normal, .int .i64 r.commit, .int .i64 r.log.base, .slice a.cA r.log.cells.length a.cc, .slice a.sA r.log.seats.length a.sc, .slice a.eA r.log.ents.length a.ec, .slice A n c, .int .i64 r.cell, .int .i64 r.nonce] 33
abbrev Rp.zobj:Obj := .cells #[.int .i64 0, .int .i64 0, .int .i64 0, .int .i64 0, .int .i64 0, .int .i64 0, .int .i64 0, .slice none 0 0, .slice none 0 0, .slice none 0 0, .slice none 0 0, .int .i64 0, .int .i64 0] 33
structure RpR (w:World) (a:LAd) (A:Option Addr) (c:Nat) (ps:List VtE) (r:Rp):Prop where
 l:LgR w a r.log
 v:VsR w A c ps
 e:ps.map Prod.snd=r.votes
theorem RpR.keep {w w':World} {a:LAd} {A:Option Addr} {c:Nat} {ps:List VtE} {r:Rp} (h:RpR w a A c ps r) (hx:Ext w w'):RpR w' a A c ps r:=⟨h.l.keep hx,h.v.keep hx,h.e⟩
def vsF (A:Option Addr) (ps:List VtE):List Nat:=blk A++ps.flatMap (fun p=>p.1.fp)
structure RpO (w:World) (B T:Nat) (a:LAd) (A:Option Addr) (c:Nat) (ps:List VtE) (r:Rp):Prop where
 l:LgO w B T a r.log
 v:VsO w B T A c ps
 e:ps.map Prod.snd=r.votes
 d:∀ k∈a.fp,k∉vsF A ps
theorem RpO.rd {w:World} {B T:Nat} {a:LAd} {A:Option Addr} {c:Nat} {ps:List VtE} {r:Rp} (h:RpO w B T a A c ps r):RpR w a A c ps r:=⟨h.l.rd,h.v.rd,h.e⟩
theorem RpO.kept {w w':World} {B T:Nat} {a:LAd} {A:Option Addr} {c:Nat} {ps:List VtE} {r:Rp} (h:RpO w B T a A c ps r) (hx:Ext w w'):RpO w' B T a A c ps r:=⟨h.l.kept hx,h.v.kept hx,h.e,h.d⟩
theorem VsO.low {w:World} {B T:Nat} {A:Option Addr} {c:Nat} {ps:List VtE} (h:VsO w B T A c ps):∀ k∈vsF A ps,B<=k/\k < w.heap.size:=fun k hk=>by
 rcases List.mem_append.1 hk with hk | hk
 ·exact h.r.inB k hk
 ·obtain ⟨p,hp,hk⟩:=List.mem_flatMap.1 hk;exact ⟨(h.l p hp).low k hk,(h.l p hp).lt k hk⟩
theorem VsO.wide {w:World} {B B' T T':Nat} {A:Option Addr} {c:Nat} {ps:List VtE} (h:VsO w B T A c ps) (hB:B'<=B) (hT:T<=T'):VsO w B' T' A c ps:=⟨h.r.less hB,fun p hp=>(h.l p hp).wide hB hT,h.nd,fun k hk=>by have:=h.top k hk;omega⟩
theorem VsO.chg {w w':World} {B T:Nat} {A:Option Addr} {c:Nat} {ps:List VtE} {S:List Nat} (h:VsO w B T A c ps) (hg:Chg w w' S) (hne:∀ k,k∈vsF A ps->k∉S):VsO w' B T A c ps :=
 ⟨h.r.chg hg (fun k hk=>hne k (List.mem_append_left _ hk)),fun p hp=>(h.l p hp).chg hg (fun k hk=>hne k (List.mem_append_right _ (List.mem_flatMap.2 ⟨p,hp,hk⟩))),h.nd,h.top⟩
theorem VsR.len {w:World} {A:Option Addr} {c:Nat} {ps:List VtE} (h:VsR w A c ps):(ps.length:Int)<=9223372036854775807:=rd_len h.1
end Go.Proofs.YtckfjploafhenaaGreat
