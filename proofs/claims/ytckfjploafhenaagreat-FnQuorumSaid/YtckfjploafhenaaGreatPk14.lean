/- The interpreter's tables and contracts for this program; K: the size of the group. Printed by a program. -/
import Derived.Test.YtckfjploafhenaaGreatPk13
import Derived.Test.YtckfjploafhenaaGreatProg
import Derived.Laws.StructEq
set_option maxRecDepth 100000
set_option maxHeartbeats 16000000
set_option linter.unusedVariables false
set_option linter.unusedSimpArgs false
namespace Go.Proofs.YtckfjploafhenaaGreat.Ai
abbrev Kt (K:Int):Prop:=K=1\/K=3\/K=5
def ii:Ck := .int .i64 i64lo i64hi
abbrev rC (K:Int):List Ck:=[ii, .int .i64 (0) (K),ii,ii,ii,ii,ii, .sl 162, .sl 111, .sl 104, .sl 45,ii,ii]
abbrev mC:List Ck:=[ii,ii,ii,ii,ii,ii,ii,ii,ii,ii,ii,ii,ii,ii, .sl 162, .sl 111, .sl 104]
abbrev lC:List Ck:=[ii, .sl 162, .sl 111, .sl 104]
abbrev gC:List Ck:=[ii, .sl 33,ii, .sl 91, .sl 194]
def tb0:List (Nat×Ty):=[(3,⟨false,[ii],[],0,[ii]⟩),
 (4,⟨false,[.bool],[],0,[.bool]⟩),
 (5,⟨false,[.int .u8 (0) 255],[],0,[.int .u8 (0) 255]⟩),
 (9,⟨false,[.str],[],0,[.str]⟩),
 (22,⟨false,[.sl 5],[],5,[.sl 5]⟩),
 (24,⟨false,[.sl 162],[],162,[.sl 162]⟩),
 (25,⟨false,[.sl 111],[],111,[.sl 111]⟩),
 (27,⟨true,[.sl 162, .sl 111],[(0,1),(1,1)],0,[.sl 162, .sl 111]⟩),
 (28,⟨false,[.sl 104],[],104,[.sl 104]⟩),
 (30,⟨true,[ii, .sl 162, .sl 111, .sl 104],[(0,1),(1,2),(3,1)],0,[ii, .sl 162, .sl 111, .sl 104]⟩),
 (31,⟨false,[.sl 45],[],45,[.sl 45]⟩),
 (40,⟨false,[.sl 47],[],47,[.sl 47]⟩),
 (35,⟨true,[ii,ii,ii],[(0,1),(1,1),(2,1)],0,[ii,ii,ii]⟩),
 (37,⟨true,[ii,ii,ii,ii,ii,ii,ii,ii,ii,ii,ii,ii,ii,ii, .sl 162, .sl 111, .sl 104],[(0,1),(1,1),(2,1),(3,1),(4,1),(5,1),(6,1),(7,1),(8,1),(9,1),(10,3),(13,4)],0,[ii,ii,ii,ii,ii,ii,ii,ii,ii,ii,ii,ii,ii,ii, .sl 162, .sl 111, .sl 104]⟩),
 (45,⟨true,[ii,ii,ii,ii,ii,ii,ii, .sl 162, .sl 111, .sl 104],[(0,1),(1,1),(2,1),(3,1),(4,1),(5,1),(6,4)],0,[ii,ii,ii,ii,ii,ii,ii, .sl 162, .sl 111, .sl 104]⟩),
 (104,⟨true,[ii,ii,ii,ii,ii],[(0,1),(1,1),(2,3)],0,[ii,ii,ii,ii,ii]⟩),
 (75,⟨false,[.sl 33],[],33,[.sl 33]⟩),
 (76,⟨false,[.sl 91],[],91,[.sl 91]⟩),
 (78,⟨true,[ii, .sl 91],[(0,1),(1,1)],0,[ii, .sl 91]⟩),
 (79,⟨false,[.sl 194],[],194,[.sl 194]⟩),
 (81,⟨true,[ii, .sl 33,ii, .sl 91, .sl 194],[(0,1),(1,1),(2,2),(4,1)],0,[ii, .sl 33,ii, .sl 91, .sl 194]⟩),
 (82,⟨false,[.sl 123],[],123,[.sl 123]⟩),
 (162,⟨true,[ii,ii],[(0,1),(1,1)],0,[ii,ii]⟩),
 (111,⟨true,[ii,ii,ii],[(0,1),(1,1),(2,1)],0,[ii,ii,ii]⟩),
 (121,⟨false,[.sl 3],[],3,[.sl 3]⟩),
 (123,⟨true,[ii,ii,ii,ii,ii,ii,ii,ii],[(0,1),(1,1),(2,1),(3,1),(4,1),(5,3)],0,[ii,ii,ii,ii,ii,ii,ii,ii]⟩),
 (194,⟨true,[ii,ii,ii],[(0,1),(1,1),(2,1)],0,[ii,ii,ii]⟩)]
def tbK (K:Int):List (Nat×Ty):=[(33,⟨true,[ii,ii,ii,ii,ii,ii,ii, .sl 162, .sl 111, .sl 104, .sl 45,ii,ii],[(0,1),(1,1),(2,1),(3,1),(4,1),(5,1),(6,4),(10,1),(11,1),(12,1)],0,[ii, .int .i64 (0) (K),ii,ii,ii,ii,ii, .sl 162, .sl 111, .sl 104, .sl 45,ii,ii]⟩),
 (47,⟨true,[ii,ii,ii,ii,ii,ii,ii,ii,ii,ii,ii,ii,ii,ii,ii, .sl 162, .sl 111, .sl 104],[(0,1),(1,17)],0,[.int .i64 (-1) (K - 1),ii,ii,ii,ii,ii,ii,ii,ii,ii,ii,ii,ii,ii,ii, .sl 162, .sl 111, .sl 104]⟩),
 (91,⟨true,[ii,ii, .str],[(0,1),(1,1),(2,1)],0,[ii, .int .i64 (0) (K - 1), .str]⟩)]
def tb (K:Int):List (Nat×Ty):=tb0++tbK K
def eqs:List Nat:=[35,104,162,111]
def zb4 (K:Int):Ctr:=⟨[(true,(rC K))],[(false,[.bool])],[],[([⟨-1,[(13,1)]⟩],⟨-1,[(1,1)]⟩),([⟨-1,[(13,1)]⟩],⟨5,[(1,-1)]⟩),([⟨-1,[(13,1)]⟩],⟨0,[(0,1)]⟩),([⟨-1,[(13,1)]⟩],⟨-1,[(0,-1),(1,1)]⟩),([⟨-1,[(13,1)]⟩],⟨0,[(5,1),(6,-1)]⟩),([⟨-1,[(13,1)]⟩],⟨0,[(5,-1),(6,1),(9,1)]⟩),([⟨-1,[(13,1)]⟩],⟨0,[(6,1)]⟩),([⟨-1,[(13,1)]⟩],⟨60,[(9,-1)]⟩),([⟨-1,[(13,1)]⟩],⟨20,[(10,-1)]⟩),([⟨-1,[(13,1)]⟩],⟨0,[(3,1)]⟩),([⟨-1,[(13,1)]⟩],⟨1000000000,[(3,-1)]⟩),([⟨-1,[(13,1)]⟩],⟨1000000000,[(6,-1),(9,-1)]⟩)]⟩
def zda:Ctr:=⟨[(false,[ii])],[(false,[.bool])],[],[([⟨-1,[(1,1)]⟩],⟨-1,[(0,1)]⟩),([⟨-1,[(1,1)]⟩],⟨5,[(0,-1)]⟩),([⟨-1,[(0,1)]⟩,⟨1,[(0,-1)]⟩],⟨-1,[(1,1)]⟩),([⟨-3,[(0,1)]⟩,⟨3,[(0,-1)]⟩],⟨-1,[(1,1)]⟩),([⟨-5,[(0,1)]⟩,⟨5,[(0,-1)]⟩],⟨-1,[(1,1)]⟩)]⟩
def zb6:Ctr:=⟨[(false,[ii]),(false,[ii]),(false,[ii])],[(false,[.bool])],[],[([⟨-1,[(3,1)]⟩],⟨0,[(0,1),(1,-1)]⟩),([⟨-1,[(3,1)]⟩],⟨0,[(0,-1),(2,1)]⟩)]⟩
def zah:Ctr:=⟨[(false,[ii])],[(false,[.bool])],[],[([⟨-1,[(1,1)]⟩],⟨0,[(0,1)]⟩),([⟨-1,[(1,1)]⟩],⟨1000000000,[(0,-1)]⟩)]⟩
def zif:Ctr:=⟨[(true,lC),(false,[ii])],[(false,[.bool])],[],[([⟨-1,[(5,1)]⟩],⟨0,[(0,1)]⟩),([⟨-1,[(5,1)]⟩],⟨60,[(3,-1)]⟩),([⟨-1,[(5,1)]⟩],⟨0,[(0,-1),(4,1)]⟩),([⟨-1,[(5,1)]⟩],⟨0,[(0,1),(3,1),(4,-1)]⟩),([⟨-1,[(5,1)]⟩],⟨1000000000,[(0,-1),(3,-1)]⟩),([⟨-1,[(5,1)]⟩],⟨1000000000,[(0,-1),(3,-1)]⟩),([⟨-1,[(5,1)]⟩],⟨40,[(1,-1)]⟩),([⟨-1,[(5,1)]⟩],⟨10,[(2,-1)]⟩),([⟨-1,[(5,1)]⟩],⟨40,[(1,-1)]⟩),([⟨-1,[(5,1)]⟩],⟨10,[(2,-1)]⟩)]⟩
def zf6:Ctr:=⟨[(true,[ii,ii,ii,ii,ii,ii,ii, .sl 162, .sl 111, .sl 104]),(false,[ii])],[(false,[.bool])],[],[]⟩
def c_SameLog:Ctr:=⟨[(true,lC),(true,lC)],[(false,[.bool])],[],[]⟩
def zem:Ctr:=⟨[(true,lC)],[(false,[.bool])],[],[([⟨-1,[(4,1)]⟩],⟨0,[(0,1)]⟩),([⟨-1,[(4,1)]⟩],⟨60,[(3,-1)]⟩),([⟨-1,[(4,1)]⟩],⟨1000000000,[(0,-1),(3,-1)]⟩),([⟨-1,[(4,1)]⟩],⟨40,[(1,-1)]⟩),([⟨-1,[(4,1)]⟩],⟨10,[(2,-1)]⟩)]⟩
def zbs:Ctr:=⟨[(true,lC)],[(false,[ii])],[],[([],⟨1,[(4,1)]⟩),([⟨0,[(0,1)]⟩],⟨0,[(0,1),(3,1),(4,-1)]⟩),([],⟨1000000000,[(4,-1)]⟩)]⟩
def zir:Ctr:=⟨[(true,[.sl 162, .sl 111]),(true,[.sl 162, .sl 111])],[(false,[.bool])],[],[]⟩
def ze2:Ctr:=⟨[(false,[.cur]),(false,[ii])],[(true,mC)],[⟨1000,[(1,-1)]⟩,⟨0,[(1,1)]⟩],[]⟩
def c_l1Below:Ctr:=⟨[(false,[.cur]),(false,[ii])],[(false,[ii])],[],[([],⟨0,[(2,1)]⟩),([⟨-1,[(1,1)]⟩],⟨-1,[(1,1),(2,-1)]⟩),([⟨0,[(1,-1)]⟩],⟨0,[(2,-1)]⟩)]⟩
def zej:Ctr:=⟨[(false,[.sl 5])],[(true,mC),(false,[ii])],[],[]⟩
def zdq:Ctr:=⟨[(false,[.cur]),(false,[ii])],[(false,[.bool])],[],[]⟩
def zhq (K:Int):Ctr:=⟨[(false,[.cur]),(true,(rC K)),(false,[ii])],[(true,mC)],[],[]⟩
def zic:Ctr:=⟨[(false,[.cur]),(false,[ii])],[(true,mC)],[⟨1000,[(1,-1)]⟩,⟨0,[(1,1)]⟩],[]⟩
def zfk (K:Int):Ctr:=⟨[(false,[.cur]),(true,(rC K))],[(true,(rC K))],[],[]⟩
def zep:Ctr:=⟨[(true,[.sl 162, .sl 111])],[(false,[.bool])],[],[([⟨-1,[(2,1)]⟩],⟨40,[(0,-1)]⟩),([⟨-1,[(2,1)]⟩],⟨10,[(1,-1)]⟩)]⟩
def zh6:Ctr:=⟨[(true,[ii,ii,ii,ii,ii])],[(false,[.bool])],[],[]⟩
def zec (K:Int):Ctr:=⟨[(false,[ii])],[(true,gC)],[⟨(-K),[(0,1)]⟩,⟨(K),[(0,-1)]⟩],[([],⟨(-K),[(1,1)]⟩),([],⟨(K),[(1,-1)]⟩),([],⟨(-K),[(2,1)]⟩),([],⟨(K),[(2,-1)]⟩)]⟩
def c_l1PickInt:Ctr:=⟨[(false,[.cur]),(false,[.sl 3])],[(false,[ii])],[⟨-1,[(1,1)]⟩],[]⟩
def zea:Ctr:=⟨[(false,[.cur]),(true,gC)],[(true,[ii,ii,ii,ii,ii,ii,ii,ii])],[⟨0,[(1,-1),(2,1)]⟩,⟨-1,[(1,1)]⟩],[]⟩
def zfh (K:Int):Ctr:=⟨[(true,gC),(true,[ii,ii,ii,ii,ii,ii,ii,ii])],[(true,gC),(false,[ii])],[⟨(-K),[(0,1)]⟩,⟨(K),[(0,-1)]⟩],[([⟨0,[(18,1)]⟩,⟨0,[(18,-1)]⟩],⟨0,[(0,1),(13,-1)]⟩),([⟨0,[(18,1)]⟩,⟨0,[(18,-1)]⟩],⟨0,[(0,-1),(13,1)]⟩),([⟨0,[(18,1)]⟩,⟨0,[(18,-1)]⟩],⟨0,[(1,1),(14,-1)]⟩),([⟨0,[(18,1)]⟩,⟨0,[(18,-1)]⟩],⟨0,[(1,-1),(14,1)]⟩)]⟩
def zcb:Ctr:=⟨[(false,[ii])],[(false,[.str])],[],[([],⟨7,[(1,-1)]⟩)]⟩
def zct:Ctr:=⟨[(false,[.cur])],[(true,[ii,ii,ii])],[],[]⟩
def zd4:Ctr:=⟨[(false,[.cur]),(false,[ii])],[(true,lC)],[⟨1000,[(1,-1)]⟩,⟨0,[(1,1)]⟩],[([],⟨1000,[(5,-1)]⟩)]⟩
def c_l4Set:Ctr:=⟨[(true,mC),(false,[.int .u8 (0) 255]),(false,[ii])],[(true,mC)],[],[]⟩
def c_Unframe:Ctr:=⟨[(false,[.sl 5]),(false,[ii])],[(false,[.sl 5]),(false,[ii]),(false,[ii])],[],[]⟩
def zfw:Ctr:=⟨[(false,[.sl 5]),(false,[ii])],[(false,[ii]),(false,[ii]),(false,[.bool])],[],[([],⟨0,[(2,1)]⟩),([],⟨0,[(3,1)]⟩),([],⟨0,[(0,1),(3,-1)]⟩)]⟩
def c_GetNums:Ctr:=⟨[(false,[.sl 5]),(false,[ii]),(false,[ii])],[(false,[.sl 3]),(false,[ii]),(false,[.bool])],[⟨0,[(1,1)]⟩,⟨0,[(0,1),(1,-1)]⟩],[([],⟨0,[(4,1)]⟩),([],⟨0,[(0,1),(4,-1)]⟩),([⟨-1,[(5,1)]⟩],⟨0,[(2,-1),(3,1)]⟩)]⟩
def zia:Ctr:=⟨[(false,[.sl 5]),(false,[ii])],[(true,lC),(false,[ii]),(false,[.bool])],[],[([],⟨0,[(6,1)]⟩),([],⟨0,[(0,1),(6,-1)]⟩)]⟩
def zgs:Ctr:=⟨[(true,mC)],[(false,[.bool])],[],[([⟨-1,[(17,1)]⟩],⟨0,[(1,1)]⟩),([⟨-1,[(17,1)]⟩],⟨4,[(1,-1)]⟩),([⟨-1,[(17,1)]⟩],⟨0,[(2,1)]⟩),([⟨-1,[(17,1)]⟩],⟨1000000000,[(2,-1)]⟩),([⟨-1,[(17,1)]⟩],⟨0,[(3,1)]⟩),([⟨-1,[(17,1)]⟩],⟨1000000000,[(3,-1)]⟩),([⟨-1,[(17,1)]⟩],⟨0,[(4,1)]⟩),([⟨-1,[(17,1)]⟩],⟨1000000000,[(4,-1)]⟩)]⟩
def zch:Ctr:=⟨[(false,[.str]),(false,[.int .u8 (0) 255])],[(false,[.bool])],[],[]⟩
def zdi:Ctr:=⟨[(false,[ii]),(false,[ii])],[(false,[ii])],[],[([],⟨0,[(0,-1),(2,1)]⟩),([],⟨0,[(1,-1),(2,1)]⟩)]⟩
def zbt:Ctr:=⟨[(true,lC)],[(true,lC)],[],[([],⟨0,[(0,1),(4,-1)]⟩),([],⟨0,[(0,-1),(4,1)]⟩),([],⟨0,[(1,1),(5,-1)]⟩),([],⟨0,[(1,-1),(5,1)]⟩),([],⟨0,[(2,1),(6,-1)]⟩),([],⟨0,[(2,-1),(6,1)]⟩),([],⟨0,[(3,1),(7,-1)]⟩),([],⟨0,[(3,-1),(7,1)]⟩)]⟩
def ze8:Ctr:=⟨[(false,[.cur])],[(true,[ii,ii,ii,ii,ii])],[],[]⟩
def c_LogPut:Ctr:=⟨[(true,lC),(true,[ii,ii,ii,ii,ii])],[(true,lC),(false,[.bool])],[],[([⟨0,[(0,1)]⟩],⟨0,[(0,1),(9,-1)]⟩),([],⟨1,[(3,1),(12,-1)]⟩),([⟨0,[(0,1)]⟩],⟨0,[(9,1)]⟩)]⟩
def zgy:Ctr:=⟨[(false,[ii]),(false,[ii])],[(false,[ii])],[],[([],⟨0,[(0,1),(2,-1)]⟩),([],⟨0,[(1,1),(2,-1)]⟩)]⟩
def zg1:Ctr:=⟨[(false,[.cur]),(false,[ii])],[(true,lC)],[⟨1000,[(1,-1)]⟩,⟨0,[(1,1)]⟩],[]⟩
def zik:Ctr:=⟨[(false,[.cur])],[(true,[ii,ii,ii])],[],[]⟩
def c_CmdOk:Ctr:=⟨[(true,[ii,ii,ii])],[(false,[.bool])],[],[]⟩
def zgn (K:Int):Ctr:=⟨[(false,[ii]),(false,[ii])],[(true,(rC K))],[⟨0,[(1,1)]⟩,⟨(K),[(1,-1)]⟩],[]⟩
def zeb:Ctr:=⟨[(false,[.cur]),(true,gC)],[(false,[ii])],[⟨0,[(1,-1),(2,1)]⟩,⟨-1,[(1,1)]⟩],[([],⟨0,[(6,1)]⟩),([],⟨-1,[(1,1),(6,-1)]⟩)]⟩
def c_l9Soon:Ctr:=⟨[(false,[.cur]),(false,[ii])],[(false,[ii])],[],[]⟩
def zfc:Ctr:=⟨[(true,gC)],[(false,[.bool])],[],[([⟨-1,[(5,1)]⟩],⟨-1,[(0,1)]⟩),([⟨-1,[(5,1)]⟩],⟨5,[(0,-1)]⟩),([⟨-1,[(5,1)]⟩],⟨0,[(0,1),(1,-1)]⟩),([⟨-1,[(5,1)]⟩],⟨0,[(0,-1),(1,1)]⟩),([⟨-1,[(5,1)]⟩],⟨60,[(3,-1)]⟩),([⟨-1,[(5,1)]⟩],⟨200,[(4,-1)]⟩)]⟩
def c_GoOk:Ctr:=⟨[(true,[ii,ii,ii,ii,ii,ii,ii,ii])],[(false,[.bool])],[],[([⟨-1,[(8,1)]⟩],⟨0,[(1,1)]⟩)]⟩
def zhd:Ctr:=⟨[(true,gC)],[(true,gC)],[],[([],⟨0,[(0,1),(5,-1)]⟩),([],⟨0,[(0,-1),(5,1)]⟩),([],⟨0,[(1,1),(6,-1)]⟩),([],⟨0,[(1,-1),(6,1)]⟩),([],⟨0,[(2,1),(7,-1)]⟩),([],⟨0,[(2,-1),(7,1)]⟩),([],⟨0,[(3,1),(8,-1)]⟩),([],⟨0,[(3,-1),(8,1)]⟩),([],⟨0,[(4,1),(9,-1)]⟩),([],⟨0,[(4,-1),(9,1)]⟩)]⟩
def c_l9Net:Ctr:=⟨[(true,gC),(true,[ii,ii,ii,ii,ii,ii,ii,ii])],[(true,gC),(false,[ii])],[],[([],⟨0,[(0,1),(13,-1)]⟩),([],⟨0,[(0,-1),(13,1)]⟩),([],⟨0,[(1,1),(14,-1)]⟩),([],⟨0,[(1,-1),(14,1)]⟩)]⟩
def zcm (K:Int):Ctr:=⟨[(true,[ii, .sl 91]),(false,[ii])],[(true,[ii, .sl 91]),(true,[ii, .int .i64 (0) (K - 1), .str]),(false,[ii])],[],[([⟨0,[(8,1)]⟩,⟨0,[(8,-1)]⟩],⟨0,[(2,1)]⟩),([⟨0,[(8,1)]⟩,⟨0,[(8,-1)]⟩],⟨-1,[(1,1),(2,-1)]⟩),([⟨0,[(8,1)]⟩,⟨0,[(8,-1)]⟩],⟨1,[(1,-1),(4,1)]⟩),([⟨0,[(8,1)]⟩,⟨0,[(8,-1)]⟩],⟨60,[(4,-1)]⟩)]⟩
def c_l9Hear:Ctr:=⟨[(true,gC),(false,[ii]),(true,mC)],[(true,gC)],[⟨0,[(5,1)]⟩,⟨-1,[(1,1),(5,-1)]⟩],[([],⟨0,[(0,1),(23,-1)]⟩),([],⟨0,[(0,-1),(23,1)]⟩),([],⟨0,[(1,1),(24,-1)]⟩),([],⟨0,[(1,-1),(24,1)]⟩)]⟩
def c_Turn (K:Int):Ctr:=⟨[(true,(rC K))],[(true,(rC K)),(false,[.sl 47])],[],[]⟩
def zhg (K:Int):Ctr:=⟨[(true,(rC K))],[(false,[.sl 47])],[],[]⟩
def c_l9Up:Ctr:=⟨[(true,gC)],[(false,[ii])],[],[]⟩
def zd1 (K:Int):Ctr:=⟨[(true,(rC K))],[(false,[.bool])],[],[]⟩
def c_Crash (K:Int):Ctr:=⟨[(true,(rC K))],[(true,(rC K))],[],[]⟩
def c_Restart (K:Int):Ctr:=⟨[(true,(rC K))],[(true,(rC K)),(false,[.sl 47])],[],[]⟩
def zg2:Ctr:=⟨[(true,gC),(false,[.sl 47])],[(true,gC)],[],[([],⟨0,[(0,1),(6,-1)]⟩),([],⟨0,[(0,-1),(6,1)]⟩),([],⟨0,[(1,1),(7,-1)]⟩),([],⟨0,[(1,-1),(7,1)]⟩)]⟩
def zd9:Ctr:=⟨[(false,[.cur]),(false,[ii])],[(false,[.sl 104])],[⟨1000,[(1,-1)]⟩,⟨0,[(1,1)]⟩],[([],⟨1000,[(2,-1)]⟩)]⟩
def c_LogFold:Ctr:=⟨[(true,lC),(false,[ii])],[(true,lC),(false,[.bool])],[],[([],⟨0,[(3,1),(8,-1)]⟩),([⟨0,[(4,1)]⟩],⟨0,[(4,1),(5,-1)]⟩),([⟨0,[(4,1)]⟩],⟨0,[(5,1)]⟩)]⟩
def c_Crc:Ctr:=⟨[(false,[.sl 5])],[(false,[ii])],[],[]⟩
def c_l4Rows:Ctr:=⟨[(false,[.sl 5]),(false,[ii]),(false,[ii]),(false,[ii])],[(false,[.sl 3]),(false,[ii]),(false,[.bool])],[],[([],⟨0,[(5,1)]⟩),([],⟨0,[(0,1),(5,-1)]⟩)]⟩
def zan:Ctr:=⟨[(false,[.bool]),(false,[ii]),(false,[ii]),(false,[ii])],[(false,[.bool])],[],[([⟨-1,[(4,1)]⟩,⟨0,[(2,-1)]⟩],⟨0,[(1,1),(2,-1)]⟩),([⟨-1,[(4,1)]⟩,⟨0,[(3,1)]⟩],⟨0,[(1,-1),(3,1)]⟩)]⟩
def zck:Ctr:=⟨[(true,[.sl 162, .sl 111])],[(true,[.sl 162, .sl 111])],[],[([],⟨0,[(0,1),(2,-1)]⟩),([],⟨0,[(0,-1),(2,1)]⟩),([],⟨0,[(1,1),(3,-1)]⟩),([],⟨0,[(1,-1),(3,1)]⟩)]⟩
def zg3:Ctr:=⟨[(false,[.cur]),(false,[ii])],[(true,[.sl 162, .sl 111])],[⟨1000,[(1,-1)]⟩,⟨0,[(1,1)]⟩],[]⟩
def zbq (K:Int):Ctr:=⟨[(true,(rC K))],[(false,[.bool])],[],[]⟩
def zh1:Ctr:=⟨[(true,[ii, .sl 91])],[(false,[.bool])],[],[([⟨-1,[(2,1)]⟩],⟨60,[(1,-1)]⟩)]⟩
def zfr:Ctr:=⟨[(true,[ii, .sl 91])],[(true,[ii, .sl 91])],[],[([],⟨0,[(0,1),(2,-1)]⟩),([],⟨0,[(0,-1),(2,1)]⟩),([],⟨0,[(1,1),(3,-1)]⟩),([],⟨0,[(1,-1),(3,1)]⟩)]⟩
def ze5 (K:Int):Ctr:=⟨[(true,(rC K))],[(true,(rC K))],[],[]⟩
def zib:Ctr:=⟨[(true,[ii, .sl 91]),(false,[ii])],[(true,[ii, .sl 91]),(false,[ii])],[],[]⟩
def c_NetMove:Ctr:=⟨[(true,[ii, .sl 91]),(false,[ii]),(false,[ii])],[(true,[ii, .sl 91]),(false,[ii])],[],[]⟩
def c_NetSpoil:Ctr:=⟨[(true,[ii, .sl 91]),(false,[ii]),(false,[ii])],[(true,[ii, .sl 91]),(false,[ii])],[],[([⟨0,[(6,1)]⟩,⟨0,[(6,-1)]⟩],⟨0,[(2,1)]⟩),([⟨0,[(6,1)]⟩,⟨0,[(6,-1)]⟩],⟨-1,[(1,1),(2,-1)]⟩)]⟩
def c_OnMsg (K:Int):Ctr:=⟨[(true,(rC K)),(true,mC)],[(true,(rC K)),(false,[.sl 47])],[],[]⟩
def zbi (K:Int):Ctr:=⟨[(true,(rC K))],[(true,(rC K))],[],[]⟩
def zgk (K:Int):Ctr:=⟨[(true,(rC K)),(false,[ii])],[(true,(rC K)),(false,[.sl 47])],[],[([],⟨(2 * K+1),[(27,-1)]⟩)]⟩
def zdg (K:Int):Ctr:=⟨[(true,(rC K)),(true,mC)],[(false,[.sl 47])],[],[([],⟨(K),[(30,-1)]⟩)]⟩
def zfm (K:Int):Ctr:=⟨[(true,(rC K)),(false,[ii])],[(true,mC)],[],[]⟩
def zdp:Ctr:=⟨[(false,[.sl 45]),(false,[ii]),(false,[ii])],[(false,[ii])],[],[([],⟨1,[(3,1)]⟩),([],⟨-1,[(0,1),(3,-1)]⟩)]⟩
def zbp (K:Int):Ctr:=⟨[(false,[ii]),(false,[ii])],[(false,[ii])],[],[([],⟨1,[(2,1)]⟩),([⟨(K),[(1,-1)]⟩],⟨(K - 1),[(2,-1)]⟩),([⟨-1,[(1,1)]⟩],⟨-1,[(1,1),(2,-1)]⟩)]⟩
def c_l6Do (K:Int):Ctr:=⟨[(true,(rC K))],[(true,mC)],[],[]⟩
def c_PackMsg:Ctr:=⟨[(true,mC)],[(false,[.sl 5]),(false,[.bool])],[],[]⟩
def c_NetSend (K:Int):Ctr:=⟨[(true,[ii, .sl 91]),(false,[ii]),(false,[.str])],[(true,[ii, .sl 91]),(false,[ii])],[⟨(K - 1),[(2,-1)]⟩],[]⟩
def zfd:Ctr:=⟨[(true,lC),(false,[ii])],[(true,[.sl 162, .sl 111]),(false,[.bool])],[],[([⟨-1,[(7,1)]⟩],⟨0,[(0,-1),(4,1)]⟩),([⟨-1,[(7,1)]⟩],⟨0,[(0,1),(3,1),(4,-1)]⟩)]⟩
def zfp:Ctr:=⟨[(false,[.cur]),(false,[ii])],[(true,[.sl 162, .sl 111])],[⟨1000,[(1,-1)]⟩,⟨0,[(1,1)]⟩],[([],⟨100,[(2,-1)]⟩),([],⟨100,[(3,-1)]⟩)]⟩
def zhr:Ctr:=⟨[(true,[ii,ii, .str])],[(false,[.bool])],[],[([⟨-1,[(3,1)]⟩],⟨0,[(1,1)]⟩),([⟨-1,[(3,1)]⟩],⟨4,[(1,-1)]⟩)]⟩
def zdf (K:Int):Ctr:=⟨[(true,(rC K)),(true,mC)],[(true,(rC K)),(false,[.sl 47])],[],[]⟩
def zdd (K:Int):Ctr:=⟨[(true,(rC K)),(true,mC)],[(true,(rC K)),(false,[.sl 47])],[],[]⟩
def c_OnOk (K:Int):Ctr:=⟨[(true,(rC K)),(true,mC)],[(true,(rC K)),(false,[.sl 47])],[],[]⟩
def zee (K:Int):Ctr:=⟨[(true,(rC K)),(true,mC)],[(true,(rC K)),(false,[.sl 47])],[],[]⟩
def c_OnTurn (K:Int):Ctr:=⟨[(true,(rC K)),(true,mC)],[(true,(rC K)),(false,[.sl 47])],[],[]⟩
def c_OnDo (K:Int):Ctr:=⟨[(true,(rC K)),(true,mC)],[(true,(rC K)),(false,[.sl 47])],[],[]⟩
def c_OnStart (K:Int):Ctr:=⟨[(true,(rC K)),(true,mC)],[(true,(rC K)),(false,[.sl 47])],[],[]⟩
def zim (K:Int):Ctr:=⟨[(true,(rC K)),(true,mC)],[(true,(rC K)),(false,[.sl 47])],[],[]⟩
def zhb (K:Int):Ctr:=⟨[(true,(rC K)),(true,mC)],[(true,(rC K)),(false,[.sl 47])],[],[]⟩
def zh2 (K:Int):Ctr:=⟨[(true,(rC K)),(true,mC)],[(true,(rC K)),(false,[.sl 47])],[],[]⟩
def zfe (K:Int):Ctr:=⟨[(true,(rC K)),(true,mC)],[(true,(rC K)),(false,[.sl 47])],[],[]⟩
def zc1 (K:Int):Ctr:=⟨[(true,(rC K))],[(true,(rC K)),(false,[.sl 47])],[],[([],⟨(K+1),[(26,-1)]⟩)]⟩
def c_LogAt:Ctr:=⟨[(true,lC),(false,[ii])],[(true,[ii,ii,ii,ii,ii]),(false,[.bool])],[],[]⟩
def c_PutNum:Ctr:=⟨[(false,[ii])],[(false,[.sl 5])],[],[([],⟨10,[(1,-1)]⟩)]⟩
def c_PutNums:Ctr:=⟨[(false,[.sl 3])],[(false,[.sl 5])],[⟨5000,[(0,-1)]⟩],[([],⟨50000,[(1,-1)]⟩)]⟩
def c_PackLog:Ctr:=⟨[(true,lC)],[(false,[.sl 5]),(false,[.bool])],[],[([],⟨50000,[(4,-1)]⟩)]⟩
def c_Frame:Ctr:=⟨[(false,[.sl 5])],[(false,[.sl 5]),(false,[.bool])],[],[]⟩
def zfa:Ctr:=⟨[(true,lC),(false,[ii])],[(false,[.bool])],[],[([⟨-1,[(5,1)]⟩],⟨0,[(0,1)]⟩),([⟨-1,[(5,1)]⟩],⟨60,[(3,-1)]⟩),([⟨-1,[(5,1)]⟩],⟨0,[(0,-1),(4,1)]⟩),([⟨-1,[(5,1)]⟩],⟨0,[(0,1),(3,1),(4,-1)]⟩),([⟨-1,[(5,1)]⟩],⟨1000000000,[(0,-1),(3,-1)]⟩),([⟨-1,[(5,1)]⟩],⟨1000000000,[(0,-1),(3,-1)]⟩),([⟨-1,[(5,1)]⟩],⟨40,[(1,-1)]⟩),([⟨-1,[(5,1)]⟩],⟨10,[(2,-1)]⟩),([⟨-1,[(5,1)]⟩],⟨40,[(1,-1)]⟩),([⟨-1,[(5,1)]⟩],⟨10,[(2,-1)]⟩)]⟩
def zhy:Ctr:=⟨[(true,[.sl 162, .sl 111]),(false,[.sl 104])],[(true,[.sl 162, .sl 111]),(false,[.sl 3])],[⟨100,[(0,-1)]⟩,⟨100,[(1,-1)]⟩],[([],⟨100,[(3,-1)]⟩),([],⟨100,[(4,-1)]⟩)]⟩
def zbn (K:Int):Ctr:=⟨[(true,(rC K)),(true,mC),(false,[ii])],[(false,[.bool])],[],[([⟨-1,[(31,1)]⟩],⟨-1,[(1,1)]⟩),([⟨-1,[(31,1)]⟩],⟨5,[(1,-1)]⟩),([⟨-1,[(31,1)]⟩],⟨0,[(0,1)]⟩),([⟨-1,[(31,1)]⟩],⟨-1,[(0,-1),(1,1)]⟩),([⟨-1,[(31,1)]⟩],⟨0,[(5,1),(6,-1)]⟩),([⟨-1,[(31,1)]⟩],⟨0,[(5,-1),(6,1),(9,1)]⟩),([⟨-1,[(31,1)]⟩],⟨0,[(6,1)]⟩),([⟨-1,[(31,1)]⟩],⟨60,[(9,-1)]⟩),([⟨-1,[(31,1)]⟩],⟨20,[(10,-1)]⟩),([⟨-1,[(31,1)]⟩],⟨0,[(3,1)]⟩),([⟨-1,[(31,1)]⟩],⟨1000000000,[(3,-1)]⟩),([⟨-1,[(31,1)]⟩],⟨1000000000,[(6,-1),(9,-1)]⟩),([⟨-1,[(31,1)]⟩],⟨0,[(14,1)]⟩),([⟨-1,[(31,1)]⟩,⟨-2,[(30,1)]⟩],⟨-1,[(1,1),(14,-1)]⟩),([⟨-1,[(31,1)]⟩],⟨0,[(15,1)]⟩),([⟨-1,[(31,1)]⟩],⟨1000000000,[(15,-1)]⟩)]⟩
def c_SeatOf:Ctr:=⟨[(true,[.sl 162, .sl 111]),(false,[ii])],[(true,[ii,ii,ii]),(false,[.bool])],[],[]⟩
def zii (K:Int):Ctr:=⟨[(true,(rC K))],[(true,[.sl 162, .sl 111])],[],[]⟩
def c_LogFrom:Ctr:=⟨[(true,lC),(false,[ii])],[(false,[.sl 104]),(false,[.bool])],[],[]⟩
def c_l6Put (K:Int):Ctr:=⟨[(true,(rC K)),(true,[ii,ii,ii,ii,ii])],[(true,lC),(false,[.bool])],[⟨0,[(5,1)]⟩,⟨0,[(5,1),(6,-1)]⟩,⟨60,[(9,-1)]⟩,⟨0,[(6,1)]⟩],[([],⟨0,[(5,1),(18,-1)]⟩),([],⟨61,[(21,-1)]⟩),([],⟨0,[(18,1)]⟩)]⟩
def zc6 (K:Int):Ctr:=⟨[(true,(rC K)),(false,[ii]),(false,[ii])],[(false,[.sl 47])],[⟨1000000000,[(14,-1)]⟩,⟨100,[(13,1),(14,-1)]⟩,⟨0,[(13,1)]⟩,⟨1000000000,[(13,-1)]⟩],[([],⟨100,[(15,-1)]⟩)]⟩
def c_l6Ask (K:Int):Ctr:=⟨[(true,(rC K)),(false,[ii]),(false,[ii]),(false,[ii])],[(false,[.sl 47])],[⟨1,[(15,1)]⟩,⟨(K - 1),[(15,-1)]⟩],[([],⟨1,[(16,-1)]⟩)]⟩
def zcs (K:Int):Ctr:=⟨[(true,(rC K)),(true,[ii,ii,ii,ii,ii,ii,ii, .sl 162, .sl 111, .sl 104])],[(true,(rC K))],[],[]⟩
def zg9 (K:Int):Ctr:=⟨[(true,(rC K))],[(false,[ii])],[],[]⟩
def c_l7Take (K:Int):Ctr:=⟨[(true,(rC K)),(false,[ii]),(true,lC),(false,[ii])],[(true,(rC K))],[],[]⟩
def c_l7Count:Ctr:=⟨[(false,[.sl 45]),(false,[ii])],[(false,[ii])],[],[]⟩
def zbg (K:Int):Ctr:=⟨[(true,(rC K))],[(true,(rC K)),(false,[.sl 47])],[],[([],⟨(K),[(26,-1)]⟩)]⟩
def zdh:Ctr:=⟨[(true,[.sl 162, .sl 111]),(true,[ii,ii,ii,ii,ii])],[(true,[.sl 162, .sl 111]),(false,[ii]),(false,[ii])],[],[([],⟨100,[(7,-1)]⟩),([],⟨100,[(8,-1)]⟩)]⟩
def c_RunCmd:Ctr:=⟨[(true,[.sl 162, .sl 111]),(true,[ii,ii,ii])],[(true,[.sl 162, .sl 111]),(false,[ii])],[],[([],⟨100,[(5,-1)]⟩),([],⟨100,[(6,-1)]⟩)]⟩
def zf8:Ctr:=⟨[(false,[.sl 111]),(true,[ii,ii,ii])],[(false,[.sl 111])],[⟨1000,[(0,-1)]⟩],[([],⟨1,[(0,2),(4,-1)]⟩)]⟩
def c_CellAt:Ctr:=⟨[(true,[.sl 162, .sl 111]),(false,[ii])],[(false,[ii])],[],[]⟩
def zd5:Ctr:=⟨[(false,[.sl 162]),(false,[ii]),(false,[ii]),(false,[.bool])],[(false,[.sl 162])],[⟨1000,[(0,-1)]⟩],[([],⟨1,[(0,2),(4,-1)]⟩)]⟩
end Go.Proofs.YtckfjploafhenaaGreat.Ai
namespace Go.Proofs.YtckfjploafhenaaGreat.Ai
open Go.RowKit
set_option maxRecDepth 100000
def Zs (P:Program):List (Nat×Ty)->Prop
 | []=>True
 | x::r=>(P.info? x.1).bind (·.zero)=some (zeroT x.2)/\Zs P r
theorem Zs.at {P:Program}:∀ {l:List (Nat×Ty)},Zs P l->∀ x∈l,(P.info? x.1).bind (·.zero)=some (zeroT x.2)
 | [],_,x,h=>by cases h
 | y::r,k,x,h=>by
  rcases List.mem_cons.1 h with rfl | h
  ·exact k.1
  ·exact Zs.at k.2 x h
theorem tyB0:tb0.all (fun x=>tyB Tryz.prog x.1 x.2)=true:=by kernel_rfl
theorem tyBK {K:Int} (hK:K=1\/K=3\/K=5):(tbK K).all (fun x=>tyB Tryz.prog x.1 x.2)=true:=by rcases hK with rfl | rfl | rfl <;> kernel_rfl
theorem zs0:Zs Tryz.prog tb0:=⟨by kernel_rfl,by kernel_rfl,by kernel_rfl,by kernel_rfl,by kernel_rfl,by kernel_rfl,by kernel_rfl,by kernel_rfl,by kernel_rfl,by kernel_rfl,by kernel_rfl,by kernel_rfl,by kernel_rfl,by kernel_rfl,by kernel_rfl,by kernel_rfl,by kernel_rfl,by kernel_rfl,by kernel_rfl,by kernel_rfl,by kernel_rfl,by kernel_rfl,by kernel_rfl,by kernel_rfl,by kernel_rfl,by kernel_rfl,by kernel_rfl,trivial⟩
theorem zsK (K:Int):Zs Tryz.prog (tbK K):=⟨by kernel_rfl,by kernel_rfl,by kernel_rfl,trivial⟩
theorem ty_all {K:Int} (hK:K=1\/K=3\/K=5):∀ t T,look t (tb K)=some T->TyOk Tryz.prog t T:=by
 intro t T h;have hm:=zga t h;unfold tb at hm;rcases List.mem_append.1 hm with hm | hm
 ·exact tyOk_of (List.all_eq_true.1 tyB0 _ hm) (zs0.at _ hm)
 ·exact tyOk_of (List.all_eq_true.1 (tyBK hK) _ hm) ((zsK K).at _ hm)
theorem look_app {α:Type} (t:Nat) (r:List (Nat×α)):∀ {l:List (Nat×α)} {x:α},look t l=some x->look t (l++r)=some x
 | [],x,h=>by cases h
 | (u,y)::l,x,h=>by
  simp only [look] at h;show look t ((u,y)::(l++r))=some x;simp only [look];cases hb:Nat.beq t u <;> rw [hb] at h
  ·exact look_app t r h
  ·exact h
def eqB (P:Program):Nat->TypeId->Nat->Bool
 | 0,_,_=>false
 | m+1,t,n=>match P.underlying t with
  | some (.int _)=>Nat.beq n 1
  | some (.struct _)=>!P.stoodInHeld t && (P.fieldsOf t).toList.all fun f=>(f.name != "_") && (match P.info? f.type with
   | some i=>Nat.ble (f.offset+i.size) n && eqB P m f.type i.size
   | none=>false)
  | _=>false
def IsV (P:Program) (t:TypeId) (n:Nat) (v:Value):Prop :=
 (∃ k,P.underlying t=some (.int k)/\∃ a,v = .int .i64 a)\/(∃ fs,P.underlying t=some (.struct fs)/\∃ zs:List Int,zs.length=n/\v = .agg (zs.map (Value.int .i64)).toArray)
theorem part_ints {P:Program} {w:World} {m t:Nat} {i:TypeInfo} (hi:P.info? t=some i) (h:eqB P m t i.size=true) {zs:List Int} {off:Nat} (hl:off+i.size<=zs.length):∃ v,(part t (zs.map (Value.int .i64)).toArray off).run P w = .ok v w/\IsV P t i.size v:=by
 cases m with
 | zero=>cases h
 | succ m =>
  unfold eqB at h;split at h
  ·rename_i k hu;have hn:=Nat.eq_of_beq_eq_true h
   have hag:(isAgg t).run P w = .ok false w:=by
    unfold isAgg;rw [Sem.run_bind,run_underlying hu w];rfl
   refine ⟨.int .i64 zs[off], ?_, .inl ⟨k,hu,_,rfl⟩⟩;unfold part;simp only [Sem.run_bind,hag,Result.andThen_ok,Bool.false_eq_true,if_false]
   have:(zs.map (Value.int .i64)).toArray[off]?=some (.int .i64 zs[off]):=by
    rw [List.getElem?_toArray,List.getElem?_map,List.getElem?_eq_getElem (by omega)]
    rfl
   rw [this];rfl
  ·rename_i fs hu
   have hag:(isAgg t).run P w = .ok true w:=by
    unfold isAgg;rw [Sem.run_bind,run_underlying hu w];rfl
   refine ⟨.agg (((zs.drop off).take i.size).map (Value.int .i64)).toArray, ?_, .inr ⟨fs,hu,_,by simp;omega,rfl⟩⟩
   have hsz:(sizeOf t).run P w = .ok i.size w:=zdb (by rw [hi];rfl)
   unfold part;simp only [Sem.run_bind,hag,Result.andThen_ok,if_true,hsz,Sem.run_pure];congr 2;apply Array.ext'
   simp [List.map_take,List.map_drop]
  ·cases h
theorem eq_ints {P:Program} {w:World}:∀ (m:Nat) {t n d:Nat},eqB P m t n=true->m<=d->∀ {x y:Value},IsV P t n x->IsV P t n y->∃ b:Bool,(Op.equalIn d t x y).run P w = .ok b w
 | 0,t,n,d,h,_,x,y,_,_=>by cases h
 | m+1,t,n,0,h,hd,x,y,_,_=>by omega
 | m+1,t,n,d+1,h,hd,x,y,hx,hy=>by
  unfold eqB at h;split at h
  ·rename_i k hu
   have key:∀ {v:Value},IsV P t n v->∃ a,v = .int .i64 a:=by
    rintro v (⟨_,_,a,e⟩ | ⟨fs,hf,_⟩)
    ·exact ⟨a,e⟩
    ·rw [hu] at hf;cases hf
   obtain ⟨a,rfl⟩:=key hx;obtain ⟨b,rfl⟩:=key hy;exact ⟨_,run_equalIn_int w d t .i64 k a b hu⟩
  ·rename_i fs hu;simp only [Bool.and_eq_true,Bool.not_eq_true'] at h
   have key:∀ {v:Value},IsV P t n v->∃ zs:List Int,zs.length=n/\v = .agg (zs.map (Value.int .i64)).toArray:=by
    rintro v (⟨_,hf,_⟩ | ⟨fs,hf,zs,e1,e2⟩)
    ·rw [hu] at hf;cases hf
    ·exact ⟨zs,e1,e2⟩
   obtain ⟨xs,x1,rfl⟩:=key hx;obtain ⟨ys,y1,rfl⟩:=key hy;have hfo:P.fieldsOf t=fs:=by simp [Program.fieldsOf,hu]
   rw [run_equalIn_struct w d t _ _ (by rw [hfo];exact hu) h.1]
   have all:=List.all_eq_true.1 h.2;generalize (P.fieldsOf t).toList=l at all;induction l with
   | nil=>exact ⟨true,by simp [Op.eqFields]⟩
   | cons f l ih =>
    have hf:=all f List.mem_cons_self;simp only [Bool.and_eq_true,bne_iff_ne,ne_eq] at hf;obtain ⟨hname,hf⟩:=hf;split at hf
    ·rename_i i hi;simp only [Bool.and_eq_true] at hf;have hle:=Nat.le_of_ble_eq_true hf.1;obtain ⟨v1,p1,p2⟩:=part_ints (w:=w) hi hf.2 (zs:=xs) (off:=f.offset) (by omega)
     obtain ⟨v2,q1,q2⟩:=part_ints (w:=w) hi hf.2 (zs:=ys) (off:=f.offset) (by omega)
     obtain ⟨b,hb⟩:=eq_ints (w:=w) m (d:=d) hf.2 (by omega) p2 q2
     obtain ⟨r,hr⟩:=ih fun g hg=>all g (List.mem_cons_of_mem _ hg)
     simp only [Op.eqFields,ne_eq,hname,not_false_eq_true,if_true,Sem.run_bind,p1,q1,hb,Result.andThen_ok];cases b
     ·exact ⟨false,rfl⟩
     ·exact ⟨r,hr⟩
    ·cases hf
  ·cases h
theorem eq_of {P:Program} {t n:Nat} (hk:eqB P 5 t n=true) {fs:Array Field} (hu:P.underlying t=some (.struct fs)) (hg:P.eqGuardType P.depth t=false) {a b:List Int} (ha:a.length=n) (hb:b.length=n) (w:World) (x y:Operand) :
  ∃ r:Bool,(eqGuard .eql t x y (.agg (a.map (Value.int .i64)).toArray) (.agg (b.map (Value.int .i64)).toArray)).run P w = .ok () w/\(eqGuard .neq t x y (.agg (a.map (Value.int .i64)).toArray) (.agg (b.map (Value.int .i64)).toArray)).run P w = .ok () w/\(Op.equal t (.agg (a.map (Value.int .i64)).toArray) (.agg (b.map (Value.int .i64)).toArray)).run P w = .ok r w:=by
 obtain ⟨r,hr⟩:=eq_ints (w:=w) 5 (d:=10000) hk (by omega) (.inr ⟨fs,hu,a,ha,rfl⟩) (.inr ⟨fs,hu,b,hb,rfl⟩)
 exact ⟨r,run_eqGuard_agg w .eql t x y _ _ hg,run_eqGuard_agg w .neq t x y _ _ hg,hr⟩
theorem underS (t:TypeId) (h:(match Tryz.prog.underlying t with | some (.struct _)=>true | _=>false)=true):Tryz.prog.underlying t=some (.struct (Tryz.prog.fieldsOf t)):=by
 unfold Program.fieldsOf;split at h
 ·rename_i fs hu;rw [hu]
 ·cases h
theorem eq_all {K:Int} (hK:K=1\/K=3\/K=5):∀ t,mem t eqs=true->∀ T,look t (tb K)=some T->∀ (w:World) (l r:List Int),l.length=T.cells.length->r.length=T.cells.length->∀ (x y:Operand),∃ b:Bool,
  (eqGuard .eql t x y (.agg (l.map (Value.int .i64)).toArray) (.agg (r.map (Value.int .i64)).toArray)).run Tryz.prog w = .ok () w/\(eqGuard .neq t x y (.agg (l.map (Value.int .i64)).toArray) (.agg (r.map (Value.int .i64)).toArray)).run Tryz.prog w = .ok () w /\
  (Op.equal t (.agg (l.map (Value.int .i64)).toArray) (.agg (r.map (Value.int .i64)).toArray)).run Tryz.prog w = .ok b w:=by
 intro t ht T hT w l r hl hr x y;have hm:=(zf4 _ _).1 ht
 have hlen:∀ {u n},look u (tb K)=some T->(look u tb0).map (·.cells.length)=some n->T.cells.length=n:=by
  intro u n h1 h2;simp only [Option.map_eq_some_iff] at h2;obtain ⟨V,hV,e⟩:=h2
  have:=look_app u (tbK K) hV
  unfold tb at h1;rw [h1] at this;cases this;exact e
 unfold eqs at hm;simp only [List.mem_cons,List.not_mem_nil,or_false] at hm;rcases hm with rfl | rfl | rfl | rfl
 ·have:=hlen hT (n:=3) (by kernel_rfl)
  exact eq_of (n:=3) (by kernel_rfl) (underS 35 (by kernel_rfl)) (by kernel_rfl) (by omega) (by omega) w x y
 ·have:=hlen hT (n:=5) (by kernel_rfl)
  exact eq_of (n:=5) (by kernel_rfl) (underS 104 (by kernel_rfl)) (by kernel_rfl) (by omega) (by omega) w x y
 ·have:=hlen hT (n:=2) (by kernel_rfl)
  exact eq_of (n:=2) (by kernel_rfl) (underS 162 (by kernel_rfl)) (by kernel_rfl) (by omega) (by omega) w x y
 ·have:=hlen hT (n:=3) (by kernel_rfl)
  exact eq_of (n:=3) (by kernel_rfl) (underS 111 (by kernel_rfl)) (by kernel_rfl) (by omega) (by omega) w x y
end Go.Proofs.YtckfjploafhenaaGreat.Ai
