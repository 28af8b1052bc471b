/- The interpreter's tables and contracts for this program; K: the size of the group. Printed by a program. -/
import Derived.Test.YtikelfmmldafpaaGreatPk33
import Derived.Test.YtikelfmmldafpaaGreatProg
namespace Go.Proofs.YtikelfmmldafpaaGreat.Ai
set_option linter.unusedVariables false
def ii:Ck := .int .i64 i64lo i64hi
def tb0:List (Nat×Ty):=[(3,⟨false,[ii],[],0,[ii]⟩),
 (4,⟨false,[.bool],[],0,[.bool]⟩),
 (5,⟨false,[.int .u8 (0) 255],[],0,[.int .u8 (0) 255]⟩),
 (9,⟨false,[.str],[],0,[.str]⟩),
 (22,⟨false,[.sl 5],[],5,[.sl 5]⟩),
 (24,⟨false,[.sl 124],[],124,[.sl 124]⟩),
 (25,⟨false,[.sl 126],[],126,[.sl 126]⟩),
 (27,⟨true,[.sl 124, .sl 126],[(0,1),(1,1)],0,[.sl 124, .sl 126]⟩),
 (28,⟨false,[.sl 65],[],65,[.sl 65]⟩),
 (30,⟨true,[ii, .sl 124, .sl 126, .sl 65],[(0,1),(1,2),(3,1)],0,[ii, .sl 124, .sl 126, .sl 65]⟩),
 (31,⟨false,[.sl 57],[],57,[.sl 57]⟩),
 (35,⟨false,[.sl 117],[],117,[.sl 117]⟩),
 (41,⟨true,[ii,ii,ii],[(0,1),(1,1),(2,1)],0,[ii,ii,ii]⟩),
 (43,⟨true,[ii,ii,ii,ii,ii,ii,ii,ii,ii,ii,ii,ii,ii,ii, .sl 124, .sl 126, .sl 65],[(0,1),(1,1),(2,1),(3,1),(4,1),(5,1),(6,1),(7,1),(8,1),(9,1),(10,3),(13,4)],0,[ii,ii,ii,ii,ii,ii,ii,ii,ii,ii,ii,ii,ii,ii, .sl 124, .sl 126, .sl 65]⟩),
 (57,⟨true,[ii,ii,ii,ii,ii,ii,ii, .sl 124, .sl 126, .sl 65],[(0,1),(1,1),(2,1),(3,1),(4,1),(5,1),(6,4)],0,[ii,ii,ii,ii,ii,ii,ii, .sl 124, .sl 126, .sl 65]⟩),
 (65,⟨true,[ii,ii,ii,ii,ii],[(0,1),(1,1),(2,3)],0,[ii,ii,ii,ii,ii]⟩),
 (86,⟨false,[.sl 33],[],33,[.sl 33]⟩),
 (87,⟨false,[.sl 102],[],102,[.sl 102]⟩),
 (89,⟨true,[ii, .sl 102],[(0,1),(1,1)],0,[ii, .sl 102]⟩),
 (90,⟨false,[.sl 185],[],185,[.sl 185]⟩),
 (92,⟨true,[ii, .sl 33,ii, .sl 102, .sl 185],[(0,1),(1,1),(2,2),(4,1)],0,[ii, .sl 33,ii, .sl 102, .sl 185]⟩),
 (93,⟨false,[.sl 137],[],137,[.sl 137]⟩),
 (124,⟨true,[ii,ii],[(0,1),(1,1)],0,[ii,ii]⟩),
 (126,⟨true,[ii,ii,ii],[(0,1),(1,1),(2,1)],0,[ii,ii,ii]⟩),
 (135,⟨false,[.sl 3],[],3,[.sl 3]⟩),
 (137,⟨true,[ii,ii,ii,ii,ii,ii,ii,ii],[(0,1),(1,1),(2,1),(3,1),(4,1),(5,3)],0,[ii,ii,ii,ii,ii,ii,ii,ii]⟩),
 (185,⟨true,[ii,ii,ii],[(0,1),(1,1),(2,1)],0,[ii,ii,ii]⟩)]
def tbK (K:Int):List (Nat×Ty):=[(33,⟨true,[ii,ii,ii,ii,ii,ii,ii, .sl 124, .sl 126, .sl 65, .sl 57,ii,ii],[(0,1),(1,1),(2,1),(3,1),(4,1),(5,1),(6,4),(10,1),(11,1),(12,1)],0,[ii, .int .i64 (0) (K),ii,ii,ii,ii,ii, .sl 124, .sl 126, .sl 65, .sl 57,ii,ii]⟩),
 (117,⟨true,[ii,ii,ii,ii,ii,ii,ii,ii,ii,ii,ii,ii,ii,ii,ii, .sl 124, .sl 126, .sl 65],[(0,1),(1,17)],0,[.int .i64 (-1) (K - 1),ii,ii,ii,ii,ii,ii,ii,ii,ii,ii,ii,ii,ii,ii, .sl 124, .sl 126, .sl 65]⟩),
 (102,⟨true,[ii,ii, .str],[(0,1),(1,1),(2,1)],0,[ii, .int .i64 (0) (K - 1), .str]⟩)]
def tb (K:Int):List (Nat×Ty):=tb0++tbK K
def eqs:List Nat:=[41,65,124,126]
def c_ReplicaOk (K:Int):Ctr:=⟨[(true,[ii, .int .i64 (0) (K),ii,ii,ii,ii,ii, .sl 124, .sl 126, .sl 65, .sl 57,ii,ii])],[(false,[.bool])],[],[([⟨-1,[(13,1)]⟩],⟨-1,[(1,1)]⟩),([⟨-1,[(13,1)]⟩],⟨5,[(1,-1)]⟩),([⟨-1,[(13,1)]⟩],⟨0,[(0,1)]⟩),([⟨-1,[(13,1)]⟩],⟨-1,[(0,-1),(1,1)]⟩),([⟨-1,[(13,1)]⟩],⟨0,[(5,1),(6,-1)]⟩),([⟨-1,[(13,1)]⟩],⟨0,[(5,-1),(6,1),(9,1)]⟩),([⟨-1,[(13,1)]⟩],⟨0,[(6,1)]⟩),([⟨-1,[(13,1)]⟩],⟨60,[(9,-1)]⟩),([⟨-1,[(13,1)]⟩],⟨20,[(10,-1)]⟩),([⟨-1,[(13,1)]⟩],⟨0,[(3,1)]⟩),([⟨-1,[(13,1)]⟩],⟨1000000000,[(3,-1)]⟩),([⟨-1,[(13,1)]⟩],⟨1000000000,[(6,-1),(9,-1)]⟩)]⟩
def c_l6Of:Ctr:=⟨[(false,[ii])],[(false,[.bool])],[],[([⟨-1,[(1,1)]⟩],⟨-1,[(0,1)]⟩),([⟨-1,[(1,1)]⟩],⟨5,[(0,-1)]⟩),([⟨-1,[(0,1)]⟩,⟨1,[(0,-1)]⟩],⟨-1,[(1,1)]⟩),([⟨-3,[(0,1)]⟩,⟨3,[(0,-1)]⟩],⟨-1,[(1,1)]⟩),([⟨-5,[(0,1)]⟩,⟨5,[(0,-1)]⟩],⟨-1,[(1,1)]⟩)]⟩
def c_l1In:Ctr:=⟨[(false,[ii]),(false,[ii]),(false,[ii])],[(false,[.bool])],[],[([⟨-1,[(3,1)]⟩],⟨0,[(0,1),(1,-1)]⟩),([⟨-1,[(3,1)]⟩],⟨0,[(0,-1),(2,1)]⟩)]⟩
def c_l1Whole:Ctr:=⟨[(false,[ii])],[(false,[.bool])],[],[([⟨-1,[(1,1)]⟩],⟨0,[(0,1)]⟩),([⟨-1,[(1,1)]⟩],⟨1000000000,[(0,-1)]⟩)]⟩
def c_l6Log:Ctr:=⟨[(true,[ii, .sl 124, .sl 126, .sl 65]),(false,[ii])],[(false,[.bool])],[],[([⟨-1,[(5,1)]⟩],⟨0,[(0,1)]⟩),([⟨-1,[(5,1)]⟩],⟨60,[(3,-1)]⟩),([⟨-1,[(5,1)]⟩],⟨0,[(0,-1),(4,1)]⟩),([⟨-1,[(5,1)]⟩],⟨0,[(0,1),(3,1),(4,-1)]⟩),([⟨-1,[(5,1)]⟩],⟨1000000000,[(0,-1),(3,-1)]⟩),([⟨-1,[(5,1)]⟩],⟨1000000000,[(0,-1),(3,-1)]⟩),([⟨-1,[(5,1)]⟩],⟨40,[(1,-1)]⟩),([⟨-1,[(5,1)]⟩],⟨10,[(2,-1)]⟩),([⟨-1,[(5,1)]⟩],⟨40,[(1,-1)]⟩),([⟨-1,[(5,1)]⟩],⟨10,[(2,-1)]⟩)]⟩
def c_l6VoteOk:Ctr:=⟨[(true,[ii,ii,ii,ii,ii,ii,ii, .sl 124, .sl 126, .sl 65]),(false,[ii])],[(false,[.bool])],[],[]⟩
def c_SameLog:Ctr:=⟨[(true,[ii, .sl 124, .sl 126, .sl 65]),(true,[ii, .sl 124, .sl 126, .sl 65])],[(false,[.bool])],[],[]⟩
def c_LogOk:Ctr:=⟨[(true,[ii, .sl 124, .sl 126, .sl 65])],[(false,[.bool])],[],[([⟨-1,[(4,1)]⟩],⟨0,[(0,1)]⟩),([⟨-1,[(4,1)]⟩],⟨60,[(3,-1)]⟩),([⟨-1,[(4,1)]⟩],⟨1000000000,[(0,-1),(3,-1)]⟩),([⟨-1,[(4,1)]⟩],⟨40,[(1,-1)]⟩),([⟨-1,[(4,1)]⟩],⟨10,[(2,-1)]⟩)]⟩
def c_LogEnd:Ctr:=⟨[(true,[ii, .sl 124, .sl 126, .sl 65])],[(false,[ii])],[],[([],⟨1,[(4,1)]⟩),([⟨0,[(0,1)]⟩],⟨0,[(0,1),(3,1),(4,-1)]⟩),([],⟨1000000000,[(4,-1)]⟩)]⟩
def c_SameImage:Ctr:=⟨[(true,[.sl 124, .sl 126]),(true,[.sl 124, .sl 126])],[(false,[.bool])],[],[]⟩
def c_l4DrawRight:Ctr:=⟨[(false,[.cur]),(false,[ii])],[(true,[ii,ii,ii,ii,ii,ii,ii,ii,ii,ii,ii,ii,ii,ii, .sl 124, .sl 126, .sl 65])],[⟨1000,[(1,-1)]⟩,⟨0,[(1,1)]⟩],[]⟩
def c_l1Below:Ctr:=⟨[(false,[.cur]),(false,[ii])],[(false,[ii])],[],[([],⟨0,[(2,1)]⟩),([⟨-1,[(1,1)]⟩],⟨-1,[(1,1),(2,-1)]⟩),([⟨0,[(1,-1)]⟩],⟨0,[(2,-1)]⟩)]⟩
def c_UnpackMsg:Ctr:=⟨[(false,[.sl 5])],[(true,[ii,ii,ii,ii,ii,ii,ii,ii,ii,ii,ii,ii,ii,ii, .sl 124, .sl 126, .sl 65]),(false,[ii])],[],[]⟩
def c_l1Once:Ctr:=⟨[(false,[.cur]),(false,[ii])],[(false,[.bool])],[],[]⟩
def c_l9Made (K:Int):Ctr:=⟨[(false,[.cur]),(true,[ii, .int .i64 (0) (K),ii,ii,ii,ii,ii, .sl 124, .sl 126, .sl 65, .sl 57,ii,ii]),(false,[ii])],[(true,[ii,ii,ii,ii,ii,ii,ii,ii,ii,ii,ii,ii,ii,ii, .sl 124, .sl 126, .sl 65])],[],[]⟩
def c_l4DrawMsg:Ctr:=⟨[(false,[.cur]),(false,[ii])],[(true,[ii,ii,ii,ii,ii,ii,ii,ii,ii,ii,ii,ii,ii,ii, .sl 124, .sl 126, .sl 65])],[⟨1000,[(1,-1)]⟩,⟨0,[(1,1)]⟩],[]⟩
def c_l9Spoil (K:Int):Ctr:=⟨[(false,[.cur]),(true,[ii, .int .i64 (0) (K),ii,ii,ii,ii,ii, .sl 124, .sl 126, .sl 65, .sl 57,ii,ii])],[(true,[ii, .int .i64 (0) (K),ii,ii,ii,ii,ii, .sl 124, .sl 126, .sl 65, .sl 57,ii,ii])],[],[]⟩
def c_ImageOk:Ctr:=⟨[(true,[.sl 124, .sl 126])],[(false,[.bool])],[],[([⟨-1,[(2,1)]⟩],⟨40,[(0,-1)]⟩),([⟨-1,[(2,1)]⟩],⟨10,[(1,-1)]⟩)]⟩
def c_EntryOk:Ctr:=⟨[(true,[ii,ii,ii,ii,ii])],[(false,[.bool])],[],[]⟩
def c_NewGroup (K:Int):Ctr:=⟨[(false,[ii])],[(true,[ii, .sl 33,ii, .sl 102, .sl 185])],[⟨(-K),[(0,1)]⟩,⟨(K),[(0,-1)]⟩],[([],⟨(-K),[(1,1)]⟩),([],⟨(K),[(1,-1)]⟩),([],⟨(-K),[(2,1)]⟩),([],⟨(K),[(2,-1)]⟩)]⟩
def c_l1PickInt:Ctr:=⟨[(false,[.cur]),(false,[.sl 3])],[(false,[ii])],[⟨-1,[(1,1)]⟩],[]⟩
def c_l9DrawGo:Ctr:=⟨[(false,[.cur]),(true,[ii, .sl 33,ii, .sl 102, .sl 185])],[(true,[ii,ii,ii,ii,ii,ii,ii,ii])],[⟨0,[(1,-1),(2,1)]⟩,⟨-1,[(1,1)]⟩],[]⟩
def c_GroupDo (K:Int):Ctr:=⟨[(true,[ii, .sl 33,ii, .sl 102, .sl 185]),(true,[ii,ii,ii,ii,ii,ii,ii,ii])],[(true,[ii, .sl 33,ii, .sl 102, .sl 185]),(false,[ii])],[⟨(-K),[(0,1)]⟩,⟨(K),[(0,-1)]⟩],[([⟨0,[(18,1)]⟩,⟨0,[(18,-1)]⟩],⟨0,[(0,1),(13,-1)]⟩),([⟨0,[(18,1)]⟩,⟨0,[(18,-1)]⟩],⟨0,[(0,-1),(13,1)]⟩),([⟨0,[(18,1)]⟩,⟨0,[(18,-1)]⟩],⟨0,[(1,1),(14,-1)]⟩),([⟨0,[(18,1)]⟩,⟨0,[(18,-1)]⟩],⟨0,[(1,-1),(14,1)]⟩)]⟩
def c_l4Has:Ctr:=⟨[(false,[ii])],[(false,[.str])],[],[([],⟨7,[(1,-1)]⟩)]⟩
def c_l2DrawCmd:Ctr:=⟨[(false,[.cur])],[(true,[ii,ii,ii])],[],[]⟩
def c_l3DrawRight:Ctr:=⟨[(false,[.cur]),(false,[ii])],[(true,[ii, .sl 124, .sl 126, .sl 65])],[⟨1000,[(1,-1)]⟩,⟨0,[(1,1)]⟩],[([],⟨1000,[(5,-1)]⟩)]⟩
def c_l4Set:Ctr:=⟨[(true,[ii,ii,ii,ii,ii,ii,ii,ii,ii,ii,ii,ii,ii,ii, .sl 124, .sl 126, .sl 65]),(false,[.int .u8 (0) 255]),(false,[ii])],[(true,[ii,ii,ii,ii,ii,ii,ii,ii,ii,ii,ii,ii,ii,ii, .sl 124, .sl 126, .sl 65])],[],[]⟩
def c_Unframe:Ctr:=⟨[(false,[.sl 5]),(false,[ii])],[(false,[.sl 5]),(false,[ii]),(false,[ii])],[],[]⟩
def c_GetNum:Ctr:=⟨[(false,[.sl 5]),(false,[ii])],[(false,[ii]),(false,[ii]),(false,[.bool])],[],[([],⟨0,[(2,1)]⟩),([],⟨0,[(3,1)]⟩),([],⟨0,[(0,1),(3,-1)]⟩)]⟩
def c_GetNums:Ctr:=⟨[(false,[.sl 5]),(false,[ii]),(false,[ii])],[(false,[.sl 3]),(false,[ii]),(false,[.bool])],[⟨0,[(1,1)]⟩,⟨0,[(0,1),(1,-1)]⟩],[([],⟨0,[(4,1)]⟩),([],⟨0,[(0,1),(4,-1)]⟩),([⟨-1,[(5,1)]⟩],⟨0,[(2,-1),(3,1)]⟩)]⟩
def c_UnpackLog:Ctr:=⟨[(false,[.sl 5]),(false,[ii])],[(true,[ii, .sl 124, .sl 126, .sl 65]),(false,[ii]),(false,[.bool])],[],[([],⟨0,[(6,1)]⟩),([],⟨0,[(0,1),(6,-1)]⟩)]⟩
def c_MsgFits:Ctr:=⟨[(true,[ii,ii,ii,ii,ii,ii,ii,ii,ii,ii,ii,ii,ii,ii, .sl 124, .sl 126, .sl 65])],[(false,[.bool])],[],[([⟨-1,[(17,1)]⟩],⟨0,[(1,1)]⟩),([⟨-1,[(17,1)]⟩],⟨4,[(1,-1)]⟩),([⟨-1,[(17,1)]⟩],⟨0,[(2,1)]⟩),([⟨-1,[(17,1)]⟩],⟨1000000000,[(2,-1)]⟩),([⟨-1,[(17,1)]⟩],⟨0,[(3,1)]⟩),([⟨-1,[(17,1)]⟩],⟨1000000000,[(3,-1)]⟩),([⟨-1,[(17,1)]⟩],⟨0,[(4,1)]⟩),([⟨-1,[(17,1)]⟩],⟨1000000000,[(4,-1)]⟩)]⟩
def c_l4In:Ctr:=⟨[(false,[.str]),(false,[.int .u8 (0) 255])],[(false,[.bool])],[],[]⟩
def c_l1Max:Ctr:=⟨[(false,[ii]),(false,[ii])],[(false,[ii])],[],[([],⟨0,[(0,-1),(2,1)]⟩),([],⟨0,[(1,-1),(2,1)]⟩)]⟩
def c_l3Copy:Ctr:=⟨[(true,[ii, .sl 124, .sl 126, .sl 65])],[(true,[ii, .sl 124, .sl 126, .sl 65])],[],[([],⟨0,[(0,1),(4,-1)]⟩),([],⟨0,[(0,-1),(4,1)]⟩),([],⟨0,[(1,1),(5,-1)]⟩),([],⟨0,[(1,-1),(5,1)]⟩),([],⟨0,[(2,1),(6,-1)]⟩),([],⟨0,[(2,-1),(6,1)]⟩),([],⟨0,[(3,1),(7,-1)]⟩),([],⟨0,[(3,-1),(7,1)]⟩)]⟩
def c_l2DrawEntry:Ctr:=⟨[(false,[.cur])],[(true,[ii,ii,ii,ii,ii])],[],[]⟩
def c_LogPut:Ctr:=⟨[(true,[ii, .sl 124, .sl 126, .sl 65]),(true,[ii,ii,ii,ii,ii])],[(true,[ii, .sl 124, .sl 126, .sl 65]),(false,[.bool])],[],[([⟨0,[(0,1)]⟩],⟨0,[(0,1),(9,-1)]⟩),([],⟨1,[(3,1),(12,-1)]⟩),([⟨0,[(0,1)]⟩],⟨0,[(9,1)]⟩)]⟩
def c_l1Min:Ctr:=⟨[(false,[ii]),(false,[ii])],[(false,[ii])],[],[([],⟨0,[(0,1),(2,-1)]⟩),([],⟨0,[(1,1),(2,-1)]⟩)]⟩
def c_l3DrawLog:Ctr:=⟨[(false,[.cur]),(false,[ii])],[(true,[ii, .sl 124, .sl 126, .sl 65])],[⟨1000,[(1,-1)]⟩,⟨0,[(1,1)]⟩],[]⟩
def c_l2DrawAny:Ctr:=⟨[(false,[.cur])],[(true,[ii,ii,ii])],[],[]⟩
def c_CmdOk:Ctr:=⟨[(true,[ii,ii,ii])],[(false,[.bool])],[],[]⟩
def c_NewReplica (K:Int):Ctr:=⟨[(false,[ii]),(false,[ii])],[(true,[ii, .int .i64 (0) (K),ii,ii,ii,ii,ii, .sl 124, .sl 126, .sl 65, .sl 57,ii,ii])],[⟨0,[(1,1)]⟩,⟨(K),[(1,-1)]⟩],[]⟩
def c_l9Leader:Ctr:=⟨[(false,[.cur]),(true,[ii, .sl 33,ii, .sl 102, .sl 185])],[(false,[ii])],[⟨0,[(1,-1),(2,1)]⟩,⟨-1,[(1,1)]⟩],[([],⟨0,[(6,1)]⟩),([],⟨-1,[(1,1),(6,-1)]⟩)]⟩
def c_l9Soon:Ctr:=⟨[(false,[.cur]),(false,[ii])],[(false,[ii])],[],[]⟩
def c_GroupOk:Ctr:=⟨[(true,[ii, .sl 33,ii, .sl 102, .sl 185])],[(false,[.bool])],[],[([⟨-1,[(5,1)]⟩],⟨-1,[(0,1)]⟩),([⟨-1,[(5,1)]⟩],⟨5,[(0,-1)]⟩),([⟨-1,[(5,1)]⟩],⟨0,[(0,1),(1,-1)]⟩),([⟨-1,[(5,1)]⟩],⟨0,[(0,-1),(1,1)]⟩),([⟨-1,[(5,1)]⟩],⟨60,[(3,-1)]⟩),([⟨-1,[(5,1)]⟩],⟨200,[(4,-1)]⟩)]⟩
def c_GoOk:Ctr:=⟨[(true,[ii,ii,ii,ii,ii,ii,ii,ii])],[(false,[.bool])],[],[([⟨-1,[(8,1)]⟩],⟨0,[(1,1)]⟩)]⟩
def c_l9Copy:Ctr:=⟨[(true,[ii, .sl 33,ii, .sl 102, .sl 185])],[(true,[ii, .sl 33,ii, .sl 102, .sl 185])],[],[([],⟨0,[(0,1),(5,-1)]⟩),([],⟨0,[(0,-1),(5,1)]⟩),([],⟨0,[(1,1),(6,-1)]⟩),([],⟨0,[(1,-1),(6,1)]⟩),([],⟨0,[(2,1),(7,-1)]⟩),([],⟨0,[(2,-1),(7,1)]⟩),([],⟨0,[(3,1),(8,-1)]⟩),([],⟨0,[(3,-1),(8,1)]⟩),([],⟨0,[(4,1),(9,-1)]⟩),([],⟨0,[(4,-1),(9,1)]⟩)]⟩
def c_l9Net:Ctr:=⟨[(true,[ii, .sl 33,ii, .sl 102, .sl 185]),(true,[ii,ii,ii,ii,ii,ii,ii,ii])],[(true,[ii, .sl 33,ii, .sl 102, .sl 185]),(false,[ii])],[],[([],⟨0,[(0,1),(13,-1)]⟩),([],⟨0,[(0,-1),(13,1)]⟩),([],⟨0,[(1,1),(14,-1)]⟩),([],⟨0,[(1,-1),(14,1)]⟩)]⟩
def c_NetTake (K:Int):Ctr:=⟨[(true,[ii, .sl 102]),(false,[ii])],[(true,[ii, .sl 102]),(true,[ii, .int .i64 (0) (K - 1), .str]),(false,[ii])],[],[([⟨0,[(8,1)]⟩,⟨0,[(8,-1)]⟩],⟨0,[(2,1)]⟩),([⟨0,[(8,1)]⟩,⟨0,[(8,-1)]⟩],⟨-1,[(1,1),(2,-1)]⟩),([⟨0,[(8,1)]⟩,⟨0,[(8,-1)]⟩],⟨1,[(1,-1),(4,1)]⟩),([⟨0,[(8,1)]⟩,⟨0,[(8,-1)]⟩],⟨60,[(4,-1)]⟩)]⟩
def c_l9Hear:Ctr:=⟨[(true,[ii, .sl 33,ii, .sl 102, .sl 185]),(false,[ii]),(true,[ii,ii,ii,ii,ii,ii,ii,ii,ii,ii,ii,ii,ii,ii, .sl 124, .sl 126, .sl 65])],[(true,[ii, .sl 33,ii, .sl 102, .sl 185])],[⟨0,[(5,1)]⟩,⟨-1,[(1,1),(5,-1)]⟩],[([],⟨0,[(0,1),(23,-1)]⟩),([],⟨0,[(0,-1),(23,1)]⟩),([],⟨0,[(1,1),(24,-1)]⟩),([],⟨0,[(1,-1),(24,1)]⟩)]⟩
def c_Turn (K:Int):Ctr:=⟨[(true,[ii, .int .i64 (0) (K),ii,ii,ii,ii,ii, .sl 124, .sl 126, .sl 65, .sl 57,ii,ii])],[(true,[ii, .int .i64 (0) (K),ii,ii,ii,ii,ii, .sl 124, .sl 126, .sl 65, .sl 57,ii,ii]),(false,[.sl 117])],[],[]⟩
def c_Resend (K:Int):Ctr:=⟨[(true,[ii, .int .i64 (0) (K),ii,ii,ii,ii,ii, .sl 124, .sl 126, .sl 65, .sl 57,ii,ii])],[(false,[.sl 117])],[],[]⟩
def c_l9Up:Ctr:=⟨[(true,[ii, .sl 33,ii, .sl 102, .sl 185])],[(false,[ii])],[],[]⟩
def c_l6Live (K:Int):Ctr:=⟨[(true,[ii, .int .i64 (0) (K),ii,ii,ii,ii,ii, .sl 124, .sl 126, .sl 65, .sl 57,ii,ii])],[(false,[.bool])],[],[]⟩
def c_Crash (K:Int):Ctr:=⟨[(true,[ii, .int .i64 (0) (K),ii,ii,ii,ii,ii, .sl 124, .sl 126, .sl 65, .sl 57,ii,ii])],[(true,[ii, .int .i64 (0) (K),ii,ii,ii,ii,ii, .sl 124, .sl 126, .sl 65, .sl 57,ii,ii])],[],[]⟩
def c_Restart (K:Int):Ctr:=⟨[(true,[ii, .int .i64 (0) (K),ii,ii,ii,ii,ii, .sl 124, .sl 126, .sl 65, .sl 57,ii,ii])],[(true,[ii, .int .i64 (0) (K),ii,ii,ii,ii,ii, .sl 124, .sl 126, .sl 65, .sl 57,ii,ii]),(false,[.sl 117])],[],[]⟩
def c_l9Post:Ctr:=⟨[(true,[ii, .sl 33,ii, .sl 102, .sl 185]),(false,[.sl 117])],[(true,[ii, .sl 33,ii, .sl 102, .sl 185])],[],[([],⟨0,[(0,1),(6,-1)]⟩),([],⟨0,[(0,-1),(6,1)]⟩),([],⟨0,[(1,1),(7,-1)]⟩),([],⟨0,[(1,-1),(7,1)]⟩)]⟩
def c_l2DrawEntries:Ctr:=⟨[(false,[.cur]),(false,[ii])],[(false,[.sl 65])],[⟨1000,[(1,-1)]⟩,⟨0,[(1,1)]⟩],[([],⟨1000,[(2,-1)]⟩)]⟩
def c_LogFold:Ctr:=⟨[(true,[ii, .sl 124, .sl 126, .sl 65]),(false,[ii])],[(true,[ii, .sl 124, .sl 126, .sl 65]),(false,[.bool])],[],[([],⟨0,[(3,1),(8,-1)]⟩),([⟨0,[(4,1)]⟩],⟨0,[(4,1),(5,-1)]⟩),([⟨0,[(4,1)]⟩],⟨0,[(5,1)]⟩)]⟩
def c_Crc:Ctr:=⟨[(false,[.sl 5])],[(false,[ii])],[],[]⟩
def c_l4Rows:Ctr:=⟨[(false,[.sl 5]),(false,[ii]),(false,[ii]),(false,[ii])],[(false,[.sl 3]),(false,[ii]),(false,[.bool])],[],[([],⟨0,[(5,1)]⟩),([],⟨0,[(0,1),(5,-1)]⟩)]⟩
def c_l4Num:Ctr:=⟨[(false,[.bool]),(false,[ii]),(false,[ii]),(false,[ii])],[(false,[.bool])],[],[([⟨-1,[(4,1)]⟩,⟨0,[(2,-1)]⟩],⟨0,[(1,1),(2,-1)]⟩),([⟨-1,[(4,1)]⟩,⟨0,[(3,1)]⟩],⟨0,[(1,-1),(3,1)]⟩)]⟩
def c_l2Copy:Ctr:=⟨[(true,[.sl 124, .sl 126])],[(true,[.sl 124, .sl 126])],[],[([],⟨0,[(0,1),(2,-1)]⟩),([],⟨0,[(0,-1),(2,1)]⟩),([],⟨0,[(1,1),(3,-1)]⟩),([],⟨0,[(1,-1),(3,1)]⟩)]⟩
def c_l2DrawImage:Ctr:=⟨[(false,[.cur]),(false,[ii])],[(true,[.sl 124, .sl 126])],[⟨1000,[(1,-1)]⟩,⟨0,[(1,1)]⟩],[]⟩
def c_l6Leads (K:Int):Ctr:=⟨[(true,[ii, .int .i64 (0) (K),ii,ii,ii,ii,ii, .sl 124, .sl 126, .sl 65, .sl 57,ii,ii])],[(false,[.bool])],[],[]⟩
def c_NetOk:Ctr:=⟨[(true,[ii, .sl 102])],[(false,[.bool])],[],[([⟨-1,[(2,1)]⟩],⟨60,[(1,-1)]⟩)]⟩
def c_l5Copy:Ctr:=⟨[(true,[ii, .sl 102])],[(true,[ii, .sl 102])],[],[([],⟨0,[(0,1),(2,-1)]⟩),([],⟨0,[(0,-1),(2,1)]⟩),([],⟨0,[(1,1),(3,-1)]⟩),([],⟨0,[(1,-1),(3,1)]⟩)]⟩
def c_l6Copy (K:Int):Ctr:=⟨[(true,[ii, .int .i64 (0) (K),ii,ii,ii,ii,ii, .sl 124, .sl 126, .sl 65, .sl 57,ii,ii])],[(true,[ii, .int .i64 (0) (K),ii,ii,ii,ii,ii, .sl 124, .sl 126, .sl 65, .sl 57,ii,ii])],[],[]⟩
def c_NetDouble:Ctr:=⟨[(true,[ii, .sl 102]),(false,[ii])],[(true,[ii, .sl 102]),(false,[ii])],[],[]⟩
def c_NetMove:Ctr:=⟨[(true,[ii, .sl 102]),(false,[ii]),(false,[ii])],[(true,[ii, .sl 102]),(false,[ii])],[],[]⟩
def c_NetSpoil:Ctr:=⟨[(true,[ii, .sl 102]),(false,[ii]),(false,[ii])],[(true,[ii, .sl 102]),(false,[ii])],[],[([⟨0,[(6,1)]⟩,⟨0,[(6,-1)]⟩],⟨0,[(2,1)]⟩),([⟨0,[(6,1)]⟩,⟨0,[(6,-1)]⟩],⟨-1,[(1,1),(2,-1)]⟩)]⟩
def c_OnMsg (K:Int):Ctr:=⟨[(true,[ii, .int .i64 (0) (K),ii,ii,ii,ii,ii, .sl 124, .sl 126, .sl 65, .sl 57,ii,ii]),(true,[ii,ii,ii,ii,ii,ii,ii,ii,ii,ii,ii,ii,ii,ii, .sl 124, .sl 126, .sl 65])],[(true,[ii, .int .i64 (0) (K),ii,ii,ii,ii,ii, .sl 124, .sl 126, .sl 65, .sl 57,ii,ii]),(false,[.sl 117])],[],[]⟩
def c_l6Same (K:Int):Ctr:=⟨[(true,[ii, .int .i64 (0) (K),ii,ii,ii,ii,ii, .sl 124, .sl 126, .sl 65, .sl 57,ii,ii])],[(true,[ii, .int .i64 (0) (K),ii,ii,ii,ii,ii, .sl 124, .sl 126, .sl 65, .sl 57,ii,ii])],[],[]⟩
def c_l7Begin (K:Int):Ctr:=⟨[(true,[ii, .int .i64 (0) (K),ii,ii,ii,ii,ii, .sl 124, .sl 126, .sl 65, .sl 57,ii,ii]),(false,[ii])],[(true,[ii, .int .i64 (0) (K),ii,ii,ii,ii,ii, .sl 124, .sl 126, .sl 65, .sl 57,ii,ii]),(false,[.sl 117])],[],[([],⟨(2 * K+1),[(27,-1)]⟩)]⟩
def c_l6All (K:Int):Ctr:=⟨[(true,[ii, .int .i64 (0) (K),ii,ii,ii,ii,ii, .sl 124, .sl 126, .sl 65, .sl 57,ii,ii]),(true,[ii,ii,ii,ii,ii,ii,ii,ii,ii,ii,ii,ii,ii,ii, .sl 124, .sl 126, .sl 65])],[(false,[.sl 117])],[],[([],⟨(K),[(30,-1)]⟩)]⟩
def c_l6Prepare (K:Int):Ctr:=⟨[(true,[ii, .int .i64 (0) (K),ii,ii,ii,ii,ii, .sl 124, .sl 126, .sl 65, .sl 57,ii,ii]),(false,[ii])],[(true,[ii,ii,ii,ii,ii,ii,ii,ii,ii,ii,ii,ii,ii,ii, .sl 124, .sl 126, .sl 65])],[],[]⟩
def c_l6Find:Ctr:=⟨[(false,[.sl 57]),(false,[ii]),(false,[ii])],[(false,[ii])],[],[([],⟨1,[(3,1)]⟩),([],⟨-1,[(0,1),(3,-1)]⟩)]⟩
def c_PrimaryOf (K:Int):Ctr:=⟨[(false,[ii]),(false,[ii])],[(false,[ii])],[],[([],⟨1,[(2,1)]⟩),([⟨(K),[(1,-1)]⟩],⟨(K - 1),[(2,-1)]⟩),([⟨-1,[(1,1)]⟩],⟨-1,[(1,1),(2,-1)]⟩)]⟩
def c_l6Do (K:Int):Ctr:=⟨[(true,[ii, .int .i64 (0) (K),ii,ii,ii,ii,ii, .sl 124, .sl 126, .sl 65, .sl 57,ii,ii])],[(true,[ii,ii,ii,ii,ii,ii,ii,ii,ii,ii,ii,ii,ii,ii, .sl 124, .sl 126, .sl 65])],[],[]⟩
def c_PackMsg:Ctr:=⟨[(true,[ii,ii,ii,ii,ii,ii,ii,ii,ii,ii,ii,ii,ii,ii, .sl 124, .sl 126, .sl 65])],[(false,[.sl 5]),(false,[.bool])],[],[]⟩
def c_NetSend (K:Int):Ctr:=⟨[(true,[ii, .sl 102]),(false,[ii]),(false,[.str])],[(true,[ii, .sl 102]),(false,[ii])],[⟨(K - 1),[(2,-1)]⟩],[]⟩
def c_LogImage:Ctr:=⟨[(true,[ii, .sl 124, .sl 126, .sl 65]),(false,[ii])],[(true,[.sl 124, .sl 126]),(false,[.bool])],[],[([⟨-1,[(7,1)]⟩],⟨0,[(0,-1),(4,1)]⟩),([⟨-1,[(7,1)]⟩],⟨0,[(0,1),(3,1),(4,-1)]⟩)]⟩
def c_l2DrawRight:Ctr:=⟨[(false,[.cur]),(false,[ii])],[(true,[.sl 124, .sl 126])],[⟨1000,[(1,-1)]⟩,⟨0,[(1,1)]⟩],[([],⟨100,[(2,-1)]⟩),([],⟨100,[(3,-1)]⟩)]⟩
def c_l5Flight:Ctr:=⟨[(true,[ii,ii, .str])],[(false,[.bool])],[],[([⟨-1,[(3,1)]⟩],⟨0,[(1,1)]⟩),([⟨-1,[(3,1)]⟩],⟨4,[(1,-1)]⟩)]⟩
def c_OnRequest (K:Int):Ctr:=⟨[(true,[ii, .int .i64 (0) (K),ii,ii,ii,ii,ii, .sl 124, .sl 126, .sl 65, .sl 57,ii,ii]),(true,[ii,ii,ii,ii,ii,ii,ii,ii,ii,ii,ii,ii,ii,ii, .sl 124, .sl 126, .sl 65])],[(true,[ii, .int .i64 (0) (K),ii,ii,ii,ii,ii, .sl 124, .sl 126, .sl 65, .sl 57,ii,ii]),(false,[.sl 117])],[],[]⟩
def c_OnPrepare (K:Int):Ctr:=⟨[(true,[ii, .int .i64 (0) (K),ii,ii,ii,ii,ii, .sl 124, .sl 126, .sl 65, .sl 57,ii,ii]),(true,[ii,ii,ii,ii,ii,ii,ii,ii,ii,ii,ii,ii,ii,ii, .sl 124, .sl 126, .sl 65])],[(true,[ii, .int .i64 (0) (K),ii,ii,ii,ii,ii, .sl 124, .sl 126, .sl 65, .sl 57,ii,ii]),(false,[.sl 117])],[],[]⟩
def c_OnOk (K:Int):Ctr:=⟨[(true,[ii, .int .i64 (0) (K),ii,ii,ii,ii,ii, .sl 124, .sl 126, .sl 65, .sl 57,ii,ii]),(true,[ii,ii,ii,ii,ii,ii,ii,ii,ii,ii,ii,ii,ii,ii, .sl 124, .sl 126, .sl 65])],[(true,[ii, .int .i64 (0) (K),ii,ii,ii,ii,ii, .sl 124, .sl 126, .sl 65, .sl 57,ii,ii]),(false,[.sl 117])],[],[]⟩
def c_OnCommit (K:Int):Ctr:=⟨[(true,[ii, .int .i64 (0) (K),ii,ii,ii,ii,ii, .sl 124, .sl 126, .sl 65, .sl 57,ii,ii]),(true,[ii,ii,ii,ii,ii,ii,ii,ii,ii,ii,ii,ii,ii,ii, .sl 124, .sl 126, .sl 65])],[(true,[ii, .int .i64 (0) (K),ii,ii,ii,ii,ii, .sl 124, .sl 126, .sl 65, .sl 57,ii,ii]),(false,[.sl 117])],[],[]⟩
def c_OnTurn (K:Int):Ctr:=⟨[(true,[ii, .int .i64 (0) (K),ii,ii,ii,ii,ii, .sl 124, .sl 126, .sl 65, .sl 57,ii,ii]),(true,[ii,ii,ii,ii,ii,ii,ii,ii,ii,ii,ii,ii,ii,ii, .sl 124, .sl 126, .sl 65])],[(true,[ii, .int .i64 (0) (K),ii,ii,ii,ii,ii, .sl 124, .sl 126, .sl 65, .sl 57,ii,ii]),(false,[.sl 117])],[],[]⟩
def c_OnDo (K:Int):Ctr:=⟨[(true,[ii, .int .i64 (0) (K),ii,ii,ii,ii,ii, .sl 124, .sl 126, .sl 65, .sl 57,ii,ii]),(true,[ii,ii,ii,ii,ii,ii,ii,ii,ii,ii,ii,ii,ii,ii, .sl 124, .sl 126, .sl 65])],[(true,[ii, .int .i64 (0) (K),ii,ii,ii,ii,ii, .sl 124, .sl 126, .sl 65, .sl 57,ii,ii]),(false,[.sl 117])],[],[]⟩
def c_OnStart (K:Int):Ctr:=⟨[(true,[ii, .int .i64 (0) (K),ii,ii,ii,ii,ii, .sl 124, .sl 126, .sl 65, .sl 57,ii,ii]),(true,[ii,ii,ii,ii,ii,ii,ii,ii,ii,ii,ii,ii,ii,ii, .sl 124, .sl 126, .sl 65])],[(true,[ii, .int .i64 (0) (K),ii,ii,ii,ii,ii, .sl 124, .sl 126, .sl 65, .sl 57,ii,ii]),(false,[.sl 117])],[],[]⟩
def c_OnAskBack (K:Int):Ctr:=⟨[(true,[ii, .int .i64 (0) (K),ii,ii,ii,ii,ii, .sl 124, .sl 126, .sl 65, .sl 57,ii,ii]),(true,[ii,ii,ii,ii,ii,ii,ii,ii,ii,ii,ii,ii,ii,ii, .sl 124, .sl 126, .sl 65])],[(true,[ii, .int .i64 (0) (K),ii,ii,ii,ii,ii, .sl 124, .sl 126, .sl 65, .sl 57,ii,ii]),(false,[.sl 117])],[],[]⟩
def c_OnBack (K:Int):Ctr:=⟨[(true,[ii, .int .i64 (0) (K),ii,ii,ii,ii,ii, .sl 124, .sl 126, .sl 65, .sl 57,ii,ii]),(true,[ii,ii,ii,ii,ii,ii,ii,ii,ii,ii,ii,ii,ii,ii, .sl 124, .sl 126, .sl 65])],[(true,[ii, .int .i64 (0) (K),ii,ii,ii,ii,ii, .sl 124, .sl 126, .sl 65, .sl 57,ii,ii]),(false,[.sl 117])],[],[]⟩
def c_OnAskState (K:Int):Ctr:=⟨[(true,[ii, .int .i64 (0) (K),ii,ii,ii,ii,ii, .sl 124, .sl 126, .sl 65, .sl 57,ii,ii]),(true,[ii,ii,ii,ii,ii,ii,ii,ii,ii,ii,ii,ii,ii,ii, .sl 124, .sl 126, .sl 65])],[(true,[ii, .int .i64 (0) (K),ii,ii,ii,ii,ii, .sl 124, .sl 126, .sl 65, .sl 57,ii,ii]),(false,[.sl 117])],[],[]⟩
def c_OnState (K:Int):Ctr:=⟨[(true,[ii, .int .i64 (0) (K),ii,ii,ii,ii,ii, .sl 124, .sl 126, .sl 65, .sl 57,ii,ii]),(true,[ii,ii,ii,ii,ii,ii,ii,ii,ii,ii,ii,ii,ii,ii, .sl 124, .sl 126, .sl 65])],[(true,[ii, .int .i64 (0) (K),ii,ii,ii,ii,ii, .sl 124, .sl 126, .sl 65, .sl 57,ii,ii]),(false,[.sl 117])],[],[]⟩
def c_l7Look (K:Int):Ctr:=⟨[(true,[ii, .int .i64 (0) (K),ii,ii,ii,ii,ii, .sl 124, .sl 126, .sl 65, .sl 57,ii,ii])],[(true,[ii, .int .i64 (0) (K),ii,ii,ii,ii,ii, .sl 124, .sl 126, .sl 65, .sl 57,ii,ii]),(false,[.sl 117])],[],[([],⟨(K+1),[(26,-1)]⟩)]⟩
def c_LogAt:Ctr:=⟨[(true,[ii, .sl 124, .sl 126, .sl 65]),(false,[ii])],[(true,[ii,ii,ii,ii,ii]),(false,[.bool])],[],[]⟩
def c_PutNum:Ctr:=⟨[(false,[ii])],[(false,[.sl 5])],[],[([],⟨10,[(1,-1)]⟩)]⟩
def c_PutNums:Ctr:=⟨[(false,[.sl 3])],[(false,[.sl 5])],[⟨5000,[(0,-1)]⟩],[([],⟨50000,[(1,-1)]⟩)]⟩
def c_PackLog:Ctr:=⟨[(true,[ii, .sl 124, .sl 126, .sl 65])],[(false,[.sl 5]),(false,[.bool])],[],[([],⟨50000,[(4,-1)]⟩)]⟩
def c_Frame:Ctr:=⟨[(false,[.sl 5])],[(false,[.sl 5]),(false,[.bool])],[],[]⟩
def c_l3Among:Ctr:=⟨[(true,[ii, .sl 124, .sl 126, .sl 65]),(false,[ii])],[(false,[.bool])],[],[([⟨-1,[(5,1)]⟩],⟨0,[(0,1)]⟩),([⟨-1,[(5,1)]⟩],⟨60,[(3,-1)]⟩),([⟨-1,[(5,1)]⟩],⟨0,[(0,-1),(4,1)]⟩),([⟨-1,[(5,1)]⟩],⟨0,[(0,1),(3,1),(4,-1)]⟩),([⟨-1,[(5,1)]⟩],⟨1000000000,[(0,-1),(3,-1)]⟩),([⟨-1,[(5,1)]⟩],⟨1000000000,[(0,-1),(3,-1)]⟩),([⟨-1,[(5,1)]⟩],⟨40,[(1,-1)]⟩),([⟨-1,[(5,1)]⟩],⟨10,[(2,-1)]⟩),([⟨-1,[(5,1)]⟩],⟨40,[(1,-1)]⟩),([⟨-1,[(5,1)]⟩],⟨10,[(2,-1)]⟩)]⟩
def c_RunAll:Ctr:=⟨[(true,[.sl 124, .sl 126]),(false,[.sl 65])],[(true,[.sl 124, .sl 126]),(false,[.sl 3])],[⟨100,[(0,-1)]⟩,⟨100,[(1,-1)]⟩],[([],⟨100,[(3,-1)]⟩),([],⟨100,[(4,-1)]⟩)]⟩
def c_l6Hears (K:Int):Ctr:=⟨[(true,[ii, .int .i64 (0) (K),ii,ii,ii,ii,ii, .sl 124, .sl 126, .sl 65, .sl 57,ii,ii]),(true,[ii,ii,ii,ii,ii,ii,ii,ii,ii,ii,ii,ii,ii,ii, .sl 124, .sl 126, .sl 65]),(false,[ii])],[(false,[.bool])],[],[([⟨-1,[(31,1)]⟩],⟨-1,[(1,1)]⟩),([⟨-1,[(31,1)]⟩],⟨5,[(1,-1)]⟩),([⟨-1,[(31,1)]⟩],⟨0,[(0,1)]⟩),([⟨-1,[(31,1)]⟩],⟨-1,[(0,-1),(1,1)]⟩),([⟨-1,[(31,1)]⟩],⟨0,[(5,1),(6,-1)]⟩),([⟨-1,[(31,1)]⟩],⟨0,[(5,-1),(6,1),(9,1)]⟩),([⟨-1,[(31,1)]⟩],⟨0,[(6,1)]⟩),([⟨-1,[(31,1)]⟩],⟨60,[(9,-1)]⟩),([⟨-1,[(31,1)]⟩],⟨20,[(10,-1)]⟩),([⟨-1,[(31,1)]⟩],⟨0,[(3,1)]⟩),([⟨-1,[(31,1)]⟩],⟨1000000000,[(3,-1)]⟩),([⟨-1,[(31,1)]⟩],⟨1000000000,[(6,-1),(9,-1)]⟩),([⟨-1,[(31,1)]⟩],⟨0,[(14,1)]⟩),([⟨-1,[(31,1)]⟩,⟨-2,[(30,1)]⟩],⟨-1,[(1,1),(14,-1)]⟩),([⟨-1,[(31,1)]⟩],⟨0,[(15,1)]⟩),([⟨-1,[(31,1)]⟩],⟨1000000000,[(15,-1)]⟩)]⟩
def c_SeatOf:Ctr:=⟨[(true,[.sl 124, .sl 126]),(false,[ii])],[(true,[ii,ii,ii]),(false,[.bool])],[],[]⟩
def c_Committed (K:Int):Ctr:=⟨[(true,[ii, .int .i64 (0) (K),ii,ii,ii,ii,ii, .sl 124, .sl 126, .sl 65, .sl 57,ii,ii])],[(true,[.sl 124, .sl 126])],[],[]⟩
def c_LogFrom:Ctr:=⟨[(true,[ii, .sl 124, .sl 126, .sl 65]),(false,[ii])],[(false,[.sl 65]),(false,[.bool])],[],[]⟩
def c_l6Put (K:Int):Ctr:=⟨[(true,[ii, .int .i64 (0) (K),ii,ii,ii,ii,ii, .sl 124, .sl 126, .sl 65, .sl 57,ii,ii]),(true,[ii,ii,ii,ii,ii])],[(true,[ii, .sl 124, .sl 126, .sl 65]),(false,[.bool])],[⟨0,[(5,1)]⟩,⟨0,[(5,1),(6,-1)]⟩,⟨60,[(9,-1)]⟩,⟨0,[(6,1)]⟩],[([],⟨0,[(5,1),(18,-1)]⟩),([],⟨61,[(21,-1)]⟩),([],⟨0,[(18,1)]⟩)]⟩
def c_l6Answers (K:Int):Ctr:=⟨[(true,[ii, .int .i64 (0) (K),ii,ii,ii,ii,ii, .sl 124, .sl 126, .sl 65, .sl 57,ii,ii]),(false,[ii]),(false,[ii])],[(false,[.sl 117])],[⟨1000000000,[(14,-1)]⟩,⟨100,[(13,1),(14,-1)]⟩,⟨0,[(13,1)]⟩,⟨1000000000,[(13,-1)]⟩],[([],⟨100,[(15,-1)]⟩)]⟩
def c_l6Ask (K:Int):Ctr:=⟨[(true,[ii, .int .i64 (0) (K),ii,ii,ii,ii,ii, .sl 124, .sl 126, .sl 65, .sl 57,ii,ii]),(false,[ii]),(false,[ii]),(false,[ii])],[(false,[.sl 117])],[⟨1,[(15,1)]⟩,⟨(K - 1),[(15,-1)]⟩],[([],⟨1,[(16,-1)]⟩)]⟩
def c_l6Vote (K:Int):Ctr:=⟨[(true,[ii, .int .i64 (0) (K),ii,ii,ii,ii,ii, .sl 124, .sl 126, .sl 65, .sl 57,ii,ii]),(true,[ii,ii,ii,ii,ii,ii,ii, .sl 124, .sl 126, .sl 65])],[(true,[ii, .int .i64 (0) (K),ii,ii,ii,ii,ii, .sl 124, .sl 126, .sl 65, .sl 57,ii,ii])],[],[]⟩
def c_l6Half (K:Int):Ctr:=⟨[(true,[ii, .int .i64 (0) (K),ii,ii,ii,ii,ii, .sl 124, .sl 126, .sl 65, .sl 57,ii,ii])],[(false,[ii])],[],[]⟩
def c_l7Take (K:Int):Ctr:=⟨[(true,[ii, .int .i64 (0) (K),ii,ii,ii,ii,ii, .sl 124, .sl 126, .sl 65, .sl 57,ii,ii]),(false,[ii]),(true,[ii, .sl 124, .sl 126, .sl 65]),(false,[ii])],[(true,[ii, .int .i64 (0) (K),ii,ii,ii,ii,ii, .sl 124, .sl 126, .sl 65, .sl 57,ii,ii])],[],[]⟩
def c_l7Count:Ctr:=⟨[(false,[.sl 57]),(false,[ii])],[(false,[ii])],[],[]⟩
def c_l7Start (K:Int):Ctr:=⟨[(true,[ii, .int .i64 (0) (K),ii,ii,ii,ii,ii, .sl 124, .sl 126, .sl 65, .sl 57,ii,ii])],[(true,[ii, .int .i64 (0) (K),ii,ii,ii,ii,ii, .sl 124, .sl 126, .sl 65, .sl 57,ii,ii]),(false,[.sl 117])],[],[([],⟨(K),[(26,-1)]⟩)]⟩
def c_RunEntry:Ctr:=⟨[(true,[.sl 124, .sl 126]),(true,[ii,ii,ii,ii,ii])],[(true,[.sl 124, .sl 126]),(false,[ii]),(false,[ii])],[],[([],⟨100,[(7,-1)]⟩),([],⟨100,[(8,-1)]⟩)]⟩
def c_RunCmd:Ctr:=⟨[(true,[.sl 124, .sl 126]),(true,[ii,ii,ii])],[(true,[.sl 124, .sl 126]),(false,[ii])],[],[([],⟨100,[(5,-1)]⟩),([],⟨100,[(6,-1)]⟩)]⟩
def c_l2Seats:Ctr:=⟨[(false,[.sl 126]),(true,[ii,ii,ii])],[(false,[.sl 126])],[⟨1000,[(0,-1)]⟩],[([],⟨1,[(0,2),(4,-1)]⟩)]⟩
def c_CellAt:Ctr:=⟨[(true,[.sl 124, .sl 126]),(false,[ii])],[(false,[ii])],[],[]⟩
def c_l2Cells:Ctr:=⟨[(false,[.sl 124]),(false,[ii]),(false,[ii]),(false,[.bool])],[(false,[.sl 124])],[⟨1000,[(0,-1)]⟩],[([],⟨1,[(0,2),(4,-1)]⟩)]⟩
end Go.Proofs.YtikelfmmldafpaaGreat.Ai
