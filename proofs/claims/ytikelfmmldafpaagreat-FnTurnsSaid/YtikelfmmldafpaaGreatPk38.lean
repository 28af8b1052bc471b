/- Checks of the interpreter: functions against their contracts. Printed by a program. -/
import Derived.Test.YtikelfmmldafpaaGreatPk34
namespace Go.Proofs.YtikelfmmldafpaaGreat.Ai
set_option linter.unusedVariables false
def h_PutNum:List Hn:=[.unroll 10]
def t_PutNum:List (Nat×Ctr):=[]
theorem k_PutNum:check ⟨tb0,t_PutNum,2,20,eqs⟩ Tryz.f186 c_PutNum [0] h_PutNum=true:=by kernel_rfl
def h_OnBack (K:Int):List Hn:=[.join [⟨0,[(50,1)]⟩,⟨(K),[(50,-1)]⟩,⟨0,[(56,1)]⟩,⟨1048576,[(56,-1)]⟩,⟨0,[(57,1)]⟩,⟨1048576,[(57,-1)]⟩,⟨0,[(58,1)]⟩,⟨1048576,[(58,-1)]⟩,⟨0,[(59,1)]⟩,⟨1048576,[(59,-1)]⟩], .loop [] [⟨0,[(64,1)]⟩,⟨1,[(64,1)]⟩,⟨2097152,[(64,-1)]⟩,⟨0,[(59,1),(64,-1)]⟩] [] ⟨0,[(59,1),(64,-1)]⟩, .join [⟨0,[(68,1)]⟩,⟨1,[(68,-1)]⟩], .loop [] [⟨0,[(66,1)]⟩,⟨1,[(66,1)]⟩,⟨2097152,[(66,-1)]⟩,⟨0,[(59,1),(66,-1)]⟩] [] ⟨0,[(59,1),(66,-1)]⟩]
def t_OnBack (K:Int):List (Nat×Ctr):=[(9,c_LogEnd),(118,c_l1Max),(86,c_l3Copy),(17,c_l6Same K),(89,c_l6Find),(93,c_PrimaryOf K),(198,c_l6Hears K),(91,c_l6Vote K),(88,c_l6Half K),(205,c_l7Take K)]
theorem k1_OnBack:check ⟨tb 1,t_OnBack 1,4,1,eqs⟩ Tryz.f182 (c_OnBack 1) [] (h_OnBack 1)=true:=by kernel_rfl
theorem k3_OnBack:check ⟨tb 3,t_OnBack 3,4,1,eqs⟩ Tryz.f182 (c_OnBack 3) [] (h_OnBack 3)=true:=by kernel_rfl
theorem k5_OnBack:check ⟨tb 5,t_OnBack 5,4,1,eqs⟩ Tryz.f182 (c_OnBack 5) [] (h_OnBack 5)=true:=by kernel_rfl
theorem k_OnBack {K:Int} (hK:K=1∨K=3∨K=5):check ⟨tb K,t_OnBack K,4,1,eqs⟩ Tryz.f182 (c_OnBack K) [] (h_OnBack K)=true:=by
 rcases hK with rfl | rfl | rfl
 ·exact k1_OnBack
 ·exact k3_OnBack
 ·exact k5_OnBack
def h_OnMsg:List Hn:=[]
def t_OnMsg (K:Int):List (Nat×Ctr):=[(17,c_l6Same K),(174,c_OnRequest K),(175,c_OnPrepare K),(176,c_OnOk K),(177,c_OnCommit K),(178,c_OnTurn K),(179,c_OnDo K),(180,c_OnStart K),(181,c_OnAskBack K),(182,c_OnBack K),(183,c_OnAskState K),(184,c_OnState K)]
theorem k1_OnMsg:check ⟨tb 1,t_OnMsg 1,4,1,eqs⟩ Tryz.f164 (c_OnMsg 1) [] h_OnMsg=true:=by kernel_rfl
theorem k3_OnMsg:check ⟨tb 3,t_OnMsg 3,4,1,eqs⟩ Tryz.f164 (c_OnMsg 3) [] h_OnMsg=true:=by kernel_rfl
theorem k5_OnMsg:check ⟨tb 5,t_OnMsg 5,4,1,eqs⟩ Tryz.f164 (c_OnMsg 5) [] h_OnMsg=true:=by kernel_rfl
theorem k_OnMsg {K:Int} (hK:K=1∨K=3∨K=5):check ⟨tb K,t_OnMsg K,4,1,eqs⟩ Tryz.f164 (c_OnMsg K) [] h_OnMsg=true:=by
 rcases hK with rfl | rfl | rfl
 ·exact k1_OnMsg
 ·exact k3_OnMsg
 ·exact k5_OnMsg
def h_GoOk:List Hn:=[.join [⟨0,[(9,1)]⟩,⟨1,[(9,-1)]⟩]]
def t_GoOk:List (Nat×Ctr):=[(21,c_l1In),(22,c_l1Whole),(95,c_CmdOk)]
theorem k_GoOk:check ⟨tb0,t_GoOk,4,1,eqs⟩ Tryz.f139 c_GoOk [] h_GoOk=true:=by kernel_rfl
def h_l4DrawMsg:List Hn:=[.join [⟨0,[(19,1)]⟩,⟨1,[(19,-1)]⟩,⟨0,[(20,1)]⟩,⟨1,[(20,-1)]⟩,⟨0,[(31,1)]⟩,⟨1048576,[(31,-1)]⟩,⟨0,[(32,1)]⟩,⟨1048576,[(32,-1)]⟩,⟨0,[(33,1)]⟩,⟨1048576,[(33,-1)]⟩]]
def t_l4DrawMsg:List (Nat×Ctr):=[(69,c_l4DrawRight),(70,c_l1Below),(104,c_l1PickInt),(122,c_l3DrawLog),(123,c_l2DrawAny)]
theorem k_l4DrawMsg:check ⟨tb0,t_l4DrawMsg,4,1,eqs⟩ Tryz.f74 c_l4DrawMsg [] h_l4DrawMsg=true:=by kernel_rfl
def h_l9Leader:List Hn:=[.loop [] [⟨0,[(5,1)]⟩,⟨1,[(5,1)]⟩,⟨2097152,[(5,-1)]⟩,⟨0,[(5,-1),(6,1)]⟩,⟨0,[(6,1)]⟩,⟨1,[(6,1)]⟩,⟨2097152,[(6,-1)]⟩,⟨0,[(0,1),(6,-1)]⟩,⟨-1,[(0,1),(5,-1)]⟩] [] ⟨0,[(0,1),(6,-1)]⟩]
def t_l9Leader (K:Int):List (Nat×Ctr):=[(70,c_l1Below),(72,c_l1Once),(92,c_l6Leads K)]
theorem k1_l9Leader:check ⟨tb 1,t_l9Leader 1,4,2,eqs⟩ Tryz.f136 c_l9Leader [] h_l9Leader=true:=by kernel_rfl
theorem k3_l9Leader:check ⟨tb 3,t_l9Leader 3,4,2,eqs⟩ Tryz.f136 c_l9Leader [] h_l9Leader=true:=by kernel_rfl
theorem k5_l9Leader:check ⟨tb 5,t_l9Leader 5,4,2,eqs⟩ Tryz.f136 c_l9Leader [] h_l9Leader=true:=by kernel_rfl
theorem k_l9Leader {K:Int} (hK:K=1∨K=3∨K=5):check ⟨tb K,t_l9Leader K,4,2,eqs⟩ Tryz.f136 c_l9Leader [] h_l9Leader=true:=by
 rcases hK with rfl | rfl | rfl
 ·exact k1_l9Leader
 ·exact k3_l9Leader
 ·exact k5_l9Leader
def h_l6VoteOk:List Hn:=[.join [⟨0,[(11,1)]⟩,⟨1,[(11,-1)]⟩]]
def t_l6VoteOk:List (Nat×Ctr):=[(21,c_l1In),(22,c_l1Whole),(23,c_l6Log)]
theorem k_l6VoteOk:check ⟨tb0,t_l6VoteOk,4,1,eqs⟩ Tryz.f24 c_l6VoteOk [] h_l6VoteOk=true:=by kernel_rfl
def h_l9Copy:List Hn:=[.loop [(2,1)] [⟨0,[(7,1)]⟩,⟨1,[(7,1)]⟩,⟨2097152,[(7,-1)]⟩,⟨0,[(7,1),(8,-1)]⟩,⟨0,[(7,-1),(8,1)]⟩,⟨0,[(1,1),(7,-1)]⟩] [] ⟨0,[(1,1),(7,-1)]⟩]
def t_l9Copy (K:Int):List (Nat×Ctr):=[(160,c_l5Copy),(50,c_l6Copy K)]
theorem k1_l9Copy:check ⟨tb 1,t_l9Copy 1,4,1,eqs⟩ Tryz.f140 c_l9Copy [] h_l9Copy=true:=by kernel_rfl
theorem k3_l9Copy:check ⟨tb 3,t_l9Copy 3,4,1,eqs⟩ Tryz.f140 c_l9Copy [] h_l9Copy=true:=by kernel_rfl
theorem k5_l9Copy:check ⟨tb 5,t_l9Copy 5,4,1,eqs⟩ Tryz.f140 c_l9Copy [] h_l9Copy=true:=by kernel_rfl
theorem k_l9Copy {K:Int} (hK:K=1∨K=3∨K=5):check ⟨tb K,t_l9Copy K,4,1,eqs⟩ Tryz.f140 c_l9Copy [] h_l9Copy=true:=by
 rcases hK with rfl | rfl | rfl
 ·exact k1_l9Copy
 ·exact k3_l9Copy
 ·exact k5_l9Copy
def h_l2DrawAny:List Hn:=[]
def t_l2DrawAny:List (Nat×Ctr):=[(70,c_l1Below),(104,c_l1PickInt),(108,c_l2DrawCmd)]
theorem k_l2DrawAny:check ⟨tb0,t_l2DrawAny,4,4,eqs⟩ Tryz.f123 c_l2DrawAny [] h_l2DrawAny=true:=by kernel_rfl
def h_CellAt:List Hn:=[.loop [] [⟨0,[(4,1)]⟩,⟨0,[(4,-1)]⟩,⟨1,[(4,1)]⟩,⟨2097152,[(4,-1)]⟩,⟨0,[(4,-1),(5,1)]⟩,⟨0,[(5,1)]⟩,⟨1,[(5,1)]⟩,⟨2097152,[(5,-1)]⟩,⟨0,[(0,1),(5,-1)]⟩] [] ⟨0,[(0,1),(5,-1)]⟩]
def t_CellAt:List (Nat×Ctr):=[(54,c_ImageOk)]
theorem k_CellAt:check ⟨tb0,t_CellAt,4,1,eqs⟩ Tryz.f218 c_CellAt [] h_CellAt=true:=by kernel_rfl
def h_l3DrawRight:List Hn:=[]
def t_l3DrawRight:List (Nat×Ctr):=[(70,c_l1Below),(72,c_l1Once),(149,c_l2DrawEntries),(150,c_LogFold)]
theorem k_l3DrawRight:check ⟨tb0,t_l3DrawRight,4,2,eqs⟩ Tryz.f109 c_l3DrawRight [] h_l3DrawRight=true:=by kernel_rfl
def h_l4In:List Hn:=[.loop [] [⟨0,[(3,1)]⟩,⟨1,[(3,1)]⟩,⟨2097152,[(3,-1)]⟩,⟨0,[(0,1),(3,-1)]⟩] [] ⟨0,[(0,1),(3,-1)]⟩]
def t_l4In:List (Nat×Ctr):=[]
theorem k_l4In:check ⟨tb0,t_l4In,4,1,eqs⟩ Tryz.f117 c_l4In [] h_l4In=true:=by kernel_rfl
def h_l9Soon:List Hn:=[]
def t_l9Soon:List (Nat×Ctr):=[(70,c_l1Below),(72,c_l1Once),(121,c_l1Min)]
theorem k_l9Soon:check ⟨tb0,t_l9Soon,4,1,eqs⟩ Tryz.f137 c_l9Soon [] h_l9Soon=true:=by kernel_rfl
def h_l6Leads:List Hn:=[]
def t_l6Leads (K:Int):List (Nat×Ctr):=[(93,c_PrimaryOf K)]
theorem k1_l6Leads:check ⟨tb 1,t_l6Leads 1,4,1,eqs⟩ Tryz.f92 (c_l6Leads 1) [] h_l6Leads=true:=by kernel_rfl
theorem k3_l6Leads:check ⟨tb 3,t_l6Leads 3,4,1,eqs⟩ Tryz.f92 (c_l6Leads 3) [] h_l6Leads=true:=by kernel_rfl
theorem k5_l6Leads:check ⟨tb 5,t_l6Leads 5,4,1,eqs⟩ Tryz.f92 (c_l6Leads 5) [] h_l6Leads=true:=by kernel_rfl
theorem k_l6Leads {K:Int} (hK:K=1∨K=3∨K=5):check ⟨tb K,t_l6Leads K,4,1,eqs⟩ Tryz.f92 (c_l6Leads K) [] h_l6Leads=true:=by
 rcases hK with rfl | rfl | rfl
 ·exact k1_l6Leads
 ·exact k3_l6Leads
 ·exact k5_l6Leads
def h_l1Once:List Hn:=[]
def t_l1Once:List (Nat×Ctr):=[(70,c_l1Below)]
theorem k_l1Once:check ⟨tb0,t_l1Once,4,1,eqs⟩ Tryz.f72 c_l1Once [] h_l1Once=true:=by kernel_rfl
end Go.Proofs.YtikelfmmldafpaaGreat.Ai
namespace Go.Proofs.YtikelfmmldafpaaGreat.Ai
set_option linter.unusedVariables false
def h_RunAll:List Hn:=[.loop [(2,0),(2,1)] [⟨100,[(5,-1)]⟩,⟨0,[(5,-1),(6,1)]⟩,⟨0,[(5,1),(6,-1)]⟩,⟨0,[(6,1)]⟩,⟨1,[(6,1)]⟩,⟨2097152,[(6,-1)]⟩,⟨100,[(7,-1)]⟩,⟨100,[(8,-1)]⟩,⟨0,[(2,1),(6,-1)]⟩] [] ⟨0,[(2,1),(6,-1)]⟩]
def t_RunAll:List (Nat×Ctr):=[(132,c_l2Copy),(206,c_RunEntry)]
theorem k_RunAll:check ⟨tb0,t_RunAll,4,2,eqs⟩ Tryz.f191 c_RunAll [] h_RunAll=true:=by kernel_rfl
def h_UnpackMsg:List Hn:=[.loop [(2,0),(2,1),(2,2),(2,3),(2,4),(2,5),(2,6),(2,7),(2,8),(2,9),(2,10),(2,11),(2,12),(2,13),(2,14),(2,15),(2,16)] [⟨0,[(9,1)]⟩,⟨0,[(9,-1)]⟩,⟨1,[(9,1)]⟩,⟨2097152,[(9,-1)]⟩,⟨0,[(9,-1),(11,1)]⟩,⟨0,[(10,1)]⟩,⟨0,[(1,1),(10,-1)]⟩,⟨1,[(10,1)]⟩,⟨2097152,[(10,-1)]⟩,⟨0,[(11,1)]⟩,⟨1,[(11,1)]⟩,⟨2097152,[(11,-1)]⟩,⟨0,[(9,-1),(26,1)]⟩,⟨0,[(9,-1),(27,1)]⟩,⟨0,[(9,-1),(28,1)]⟩,⟨0,[(7,1),(11,-1)]⟩] [] ⟨0,[(7,1),(11,-1)]⟩]
def t_UnpackMsg:List (Nat×Ctr):=[(107,c_l4Has),(110,c_l4Set),(112,c_Unframe),(113,c_GetNum),(114,c_GetNums),(115,c_UnpackLog),(116,c_MsgFits)]
theorem k_UnpackMsg:check ⟨tb0,t_UnpackMsg,4,4,eqs⟩ Tryz.f71 c_UnpackMsg [] h_UnpackMsg=true:=by kernel_rfl
def h_ImageOk:List Hn:=[.loop [] [⟨0,[(3,1)]⟩,⟨1,[(3,1)]⟩,⟨2097152,[(3,-1)]⟩,⟨0,[(0,1),(3,-1)]⟩] [] ⟨0,[(0,1),(3,-1)]⟩, .loop [] [⟨0,[(5,1)]⟩,⟨1,[(5,1)]⟩,⟨2097152,[(5,-1)]⟩,⟨0,[(1,1),(5,-1)]⟩] [] ⟨0,[(1,1),(5,-1)]⟩]
def t_ImageOk:List (Nat×Ctr):=[(21,c_l1In),(22,c_l1Whole)]
theorem k_ImageOk:check ⟨tb0,t_ImageOk,4,1,eqs⟩ Tryz.f54 c_ImageOk [] h_ImageOk=true:=by kernel_rfl
def h_l4DrawRight:List Hn:=[.loop [(1,0),(1,1),(1,2),(1,3),(1,4),(1,5),(1,6),(1,7),(1,8),(1,9),(1,10),(1,11),(1,12),(1,13),(1,14),(1,15),(1,16)] [⟨0,[(3,1)]⟩,⟨1,[(3,1)]⟩,⟨2097152,[(3,-1)]⟩,⟨0,[(2,1),(3,-1)]⟩] [] ⟨0,[(2,1),(3,-1)]⟩, .join [⟨0,[(21,1)]⟩,⟨255,[(21,-1)]⟩,⟨0,[(22,1)]⟩,⟨1,[(22,-1)]⟩,⟨0,[(23,1)]⟩,⟨1,[(23,-1)]⟩,⟨0,[(38,1)]⟩,⟨1048576,[(38,-1)]⟩,⟨0,[(39,1)]⟩,⟨1048576,[(39,-1)]⟩,⟨0,[(40,1)]⟩,⟨1048576,[(40,-1)]⟩]]
def t_l4DrawRight:List (Nat×Ctr):=[(70,c_l1Below),(107,c_l4Has),(108,c_l2DrawCmd),(109,c_l3DrawRight),(110,c_l4Set)]
theorem k_l4DrawRight:check ⟨tb0,t_l4DrawRight,4,1,eqs⟩ Tryz.f69 c_l4DrawRight [] h_l4DrawRight=true:=by kernel_rfl
def h_NetTake:List Hn:=[.loop [(3,1)] [⟨0,[(4,1)]⟩,⟨1,[(4,1)]⟩,⟨2097152,[(4,-1)]⟩,⟨0,[(4,1),(5,-1)]⟩,⟨0,[(1,1),(4,-1)]⟩] [([⟨0,[(2,1),(4,-1)]⟩],⟨0,[(4,-1),(5,1)]⟩),([⟨-1,[(2,-1),(4,1)]⟩],⟨1,[(4,-1),(5,1)]⟩)] ⟨0,[(1,1),(4,-1)]⟩]
def t_NetTake:List (Nat×Ctr):=[(159,c_NetOk),(160,c_l5Copy)]
theorem k1_NetTake:check ⟨tb 1,t_NetTake,4,2,eqs⟩ Tryz.f142 (c_NetTake 1) [] h_NetTake=true:=by kernel_rfl
theorem k3_NetTake:check ⟨tb 3,t_NetTake,4,2,eqs⟩ Tryz.f142 (c_NetTake 3) [] h_NetTake=true:=by kernel_rfl
theorem k5_NetTake:check ⟨tb 5,t_NetTake,4,2,eqs⟩ Tryz.f142 (c_NetTake 5) [] h_NetTake=true:=by kernel_rfl
theorem k_NetTake {K:Int} (hK:K=1∨K=3∨K=5):check ⟨tb K,t_NetTake,4,2,eqs⟩ Tryz.f142 (c_NetTake K) [] h_NetTake=true:=by
 rcases hK with rfl | rfl | rfl
 ·exact k1_NetTake
 ·exact k3_NetTake
 ·exact k5_NetTake
def h_GetNums:List Hn:=[.loop [] [⟨0,[(4,1)]⟩,⟨0,[(0,1),(4,-1)]⟩,⟨1,[(4,1)]⟩,⟨2097152,[(4,-1)]⟩,⟨0,[(5,1)]⟩,⟨0,[(5,-1)]⟩,⟨1,[(5,1)]⟩,⟨2097152,[(5,-1)]⟩,⟨0,[(5,-1),(8,1)]⟩,⟨0,[(5,-1),(7,1)]⟩,⟨0,[(7,-1),(8,1)]⟩,⟨0,[(7,1),(8,-1)]⟩,⟨0,[(8,1)]⟩,⟨1,[(8,1)]⟩,⟨2097152,[(8,-1)]⟩,⟨0,[(2,1),(8,-1)]⟩] [] ⟨0,[(2,1),(8,-1)]⟩]
def t_GetNums:List (Nat×Ctr):=[(21,c_l1In),(113,c_GetNum)]
theorem k_GetNums:check ⟨tb0,t_GetNums,4,1,eqs⟩ Tryz.f114 c_GetNums [] h_GetNums=true:=by kernel_rfl
def h_l2DrawImage:List Hn:=[]
def t_l2DrawImage:List (Nat×Ctr):=[(70,c_l1Below),(104,c_l1PickInt),(169,c_l2DrawRight)]
theorem k_l2DrawImage:check ⟨tb0,t_l2DrawImage,4,4,eqs⟩ Tryz.f154 c_l2DrawImage [] h_l2DrawImage=true:=by kernel_rfl
def h_Crc:List Hn:=[.loop [] [⟨0,[(2,1)]⟩,⟨1,[(2,1)]⟩,⟨2097152,[(2,-1)]⟩,⟨0,[(0,1),(2,-1)]⟩] [] ⟨0,[(0,1),(2,-1)]⟩, .loop [] [⟨0,[(6,1)]⟩,⟨1,[(6,1)]⟩,⟨2097152,[(6,-1)]⟩,⟨8,[(6,-1)]⟩] [] ⟨8,[(6,-1)]⟩, .join [⟨0,[(8,1)]⟩,⟨1,[(8,-1)]⟩,⟨0,[(10,1)]⟩,⟨1,[(10,-1)]⟩,⟨0,[(12,1)]⟩,⟨1,[(12,-1)]⟩]]
def t_Crc:List (Nat×Ctr):=[]
theorem k_Crc:check ⟨tb0,t_Crc,4,1,eqs⟩ Tryz.f151 c_Crc [] h_Crc=true:=by kernel_rfl
def h_CmdOk:List Hn:=[.join [⟨0,[(3,1)]⟩,⟨1,[(3,-1)]⟩], .join [⟨0,[(4,1)]⟩,⟨1,[(4,-1)]⟩]]
def t_CmdOk:List (Nat×Ctr):=[(22,c_l1Whole)]
theorem k_CmdOk:check ⟨tb0,t_CmdOk,4,1,eqs⟩ Tryz.f95 c_CmdOk [] h_CmdOk=true:=by kernel_rfl
def h_LogImage:List Hn:=[]
def t_LogImage:List (Nat×Ctr):=[(190,c_l3Among),(191,c_RunAll)]
theorem k_LogImage:check ⟨tb0,t_LogImage,4,1,eqs⟩ Tryz.f168 c_LogImage [] h_LogImage=true:=by kernel_rfl
def h_l9Up:List Hn:=[.loop [] [⟨0,[(6,1)]⟩,⟨1,[(6,1)]⟩,⟨2097152,[(6,-1)]⟩,⟨0,[(1,1),(6,-1)]⟩] [] ⟨0,[(1,1),(6,-1)]⟩, .join [⟨0,[(15,1)]⟩,⟨1048576,[(15,-1)]⟩,⟨0,[(16,1)]⟩,⟨1048576,[(16,-1)]⟩,⟨0,[(17,1)]⟩,⟨1048576,[(17,-1)]⟩,⟨0,[(18,1)]⟩,⟨1048576,[(18,-1)]⟩,⟨0,[(21,1)]⟩,⟨1,[(21,-1)]⟩]]
def t_l9Up (K:Int):List (Nat×Ctr):=[(18,c_l6Live K)]
theorem k1_l9Up:check ⟨tb 1,t_l9Up 1,4,1,eqs⟩ Tryz.f145 c_l9Up [] h_l9Up=true:=by kernel_rfl
theorem k3_l9Up:check ⟨tb 3,t_l9Up 3,4,1,eqs⟩ Tryz.f145 c_l9Up [] h_l9Up=true:=by kernel_rfl
theorem k5_l9Up:check ⟨tb 5,t_l9Up 5,4,1,eqs⟩ Tryz.f145 c_l9Up [] h_l9Up=true:=by kernel_rfl
theorem k_l9Up {K:Int} (hK:K=1∨K=3∨K=5):check ⟨tb K,t_l9Up K,4,1,eqs⟩ Tryz.f145 c_l9Up [] h_l9Up=true:=by
 rcases hK with rfl | rfl | rfl
 ·exact k1_l9Up
 ·exact k3_l9Up
 ·exact k5_l9Up
def h_l6Vote:List Hn:=[.join [⟨0,[(23,1)]⟩,⟨1048576,[(23,-1)]⟩]]
def t_l6Vote:List (Nat×Ctr):=[]
theorem k1_l6Vote:check ⟨tb 1,t_l6Vote,4,1,eqs⟩ Tryz.f91 (c_l6Vote 1) [] h_l6Vote=true:=by kernel_rfl
theorem k3_l6Vote:check ⟨tb 3,t_l6Vote,4,1,eqs⟩ Tryz.f91 (c_l6Vote 3) [] h_l6Vote=true:=by kernel_rfl
theorem k5_l6Vote:check ⟨tb 5,t_l6Vote,4,1,eqs⟩ Tryz.f91 (c_l6Vote 5) [] h_l6Vote=true:=by kernel_rfl
theorem k_l6Vote {K:Int} (hK:K=1∨K=3∨K=5):check ⟨tb K,t_l6Vote,4,1,eqs⟩ Tryz.f91 (c_l6Vote K) [] h_l6Vote=true:=by
 rcases hK with rfl | rfl | rfl
 ·exact k1_l6Vote
 ·exact k3_l6Vote
 ·exact k5_l6Vote
def h_l3Copy:List Hn:=[]
def t_l3Copy:List (Nat×Ctr):=[(132,c_l2Copy)]
theorem k_l3Copy:check ⟨tb0,t_l3Copy,4,1,eqs⟩ Tryz.f86 c_l3Copy [] h_l3Copy=true:=by kernel_rfl
def h_l6Ask:List Hn:=[]
def t_l6Ask:List (Nat×Ctr):=[]
theorem k1_l6Ask:check ⟨tb 1,t_l6Ask,4,1,eqs⟩ Tryz.f204 (c_l6Ask 1) [] h_l6Ask=true:=by kernel_rfl
theorem k3_l6Ask:check ⟨tb 3,t_l6Ask,4,1,eqs⟩ Tryz.f204 (c_l6Ask 3) [] h_l6Ask=true:=by kernel_rfl
theorem k5_l6Ask:check ⟨tb 5,t_l6Ask,4,1,eqs⟩ Tryz.f204 (c_l6Ask 5) [] h_l6Ask=true:=by kernel_rfl
theorem k_l6Ask {K:Int} (hK:K=1∨K=3∨K=5):check ⟨tb K,t_l6Ask,4,1,eqs⟩ Tryz.f204 (c_l6Ask K) [] h_l6Ask=true:=by
 rcases hK with rfl | rfl | rfl
 ·exact k1_l6Ask
 ·exact k3_l6Ask
 ·exact k5_l6Ask
def h_l1Whole:List Hn:=[]
def t_l1Whole:List (Nat×Ctr):=[(21,c_l1In)]
theorem k_l1Whole:check ⟨tb0,t_l1Whole,4,1,eqs⟩ Tryz.f22 c_l1Whole [] h_l1Whole=true:=by kernel_rfl
end Go.Proofs.YtikelfmmldafpaaGreat.Ai
namespace Go.Proofs.YtikelfmmldafpaaGreat.Ai
set_option linter.unusedVariables false
def h_l9Post:List Hn:=[.loop [(0,2),(0,3),(0,4)] [⟨0,[(6,1)]⟩,⟨1,[(6,1)]⟩,⟨2097152,[(6,-1)]⟩,⟨0,[(5,1),(6,-1)]⟩] [] ⟨0,[(5,1),(6,-1)]⟩, .join [⟨0,[(24,1)]⟩,⟨1048576,[(24,-1)]⟩,⟨0,[(25,1)]⟩,⟨1048576,[(25,-1)]⟩,⟨0,[(26,1)]⟩,⟨1048576,[(26,-1)]⟩,⟨0,[(28,1)]⟩,⟨1,[(28,-1)]⟩,⟨0,[(30,1)]⟩,⟨1048576,[(30,-1)]⟩,⟨0,[(31,1)]⟩,⟨1048576,[(31,-1)]⟩]]
def t_l9Post (K:Int):List (Nat×Ctr):=[(166,c_PackMsg),(167,c_NetSend K)]
theorem k1_l9Post:check ⟨tb 1,t_l9Post 1,4,2,eqs⟩ Tryz.f148 c_l9Post [] h_l9Post=true:=by kernel_rfl
theorem k3_l9Post:check ⟨tb 3,t_l9Post 3,4,2,eqs⟩ Tryz.f148 c_l9Post [] h_l9Post=true:=by kernel_rfl
theorem k5_l9Post:check ⟨tb 5,t_l9Post 5,4,2,eqs⟩ Tryz.f148 c_l9Post [] h_l9Post=true:=by kernel_rfl
theorem k_l9Post {K:Int} (hK:K=1∨K=3∨K=5):check ⟨tb K,t_l9Post K,4,2,eqs⟩ Tryz.f148 c_l9Post [] h_l9Post=true:=by
 rcases hK with rfl | rfl | rfl
 ·exact k1_l9Post
 ·exact k3_l9Post
 ·exact k5_l9Post
def h_l9Made:List Hn:=[.join [⟨0,[(15,1)]⟩,⟨1,[(15,-1)]⟩], .join [⟨0,[(17,1)]⟩,⟨1,[(17,-1)]⟩], .join [⟨0,[(20,1)]⟩,⟨1,[(20,-1)]⟩], .join [⟨0,[(22,1)]⟩,⟨1,[(22,-1)]⟩], .join [⟨0,[(24,1)]⟩,⟨1,[(24,-1)]⟩], .join [⟨0,[(26,1)]⟩,⟨1,[(26,-1)]⟩], .join [⟨0,[(28,1)]⟩,⟨1,[(28,-1)]⟩], .join [⟨0,[(30,1)]⟩,⟨1,[(30,-1)]⟩], .join [⟨0,[(32,1)]⟩,⟨1,[(32,-1)]⟩], .join [⟨0,[(41,1)]⟩,⟨1,[(41,-1)]⟩,⟨0,[(42,1)]⟩,⟨1,[(42,-1)]⟩,⟨0,[(43,1)]⟩,⟨1,[(43,-1)]⟩,⟨0,[(44,1)]⟩,⟨1,[(44,-1)]⟩,⟨0,[(46,1)]⟩,⟨1048576,[(46,-1)]⟩,⟨0,[(47,1)]⟩,⟨1048576,[(47,-1)]⟩,⟨0,[(48,1)]⟩,⟨1048576,[(48,-1)]⟩], .join [⟨0,[(54,1)]⟩,⟨1,[(54,-1)]⟩,⟨0,[(56,1)]⟩,⟨1048576,[(56,-1)]⟩,⟨0,[(57,1)]⟩,⟨1048576,[(57,-1)]⟩,⟨0,[(58,1)]⟩,⟨1048576,[(58,-1)]⟩,⟨0,[(59,1)]⟩,⟨1,[(59,-1)]⟩,⟨0,[(60,1)]⟩,⟨1,[(60,-1)]⟩,⟨0,[(61,1)]⟩,⟨1,[(61,-1)]⟩,⟨0,[(62,1)]⟩,⟨1,[(62,-1)]⟩,⟨0,[(64,1)]⟩,⟨1048576,[(64,-1)]⟩,⟨0,[(65,1)]⟩,⟨1048576,[(65,-1)]⟩,⟨0,[(66,1)]⟩,⟨1048576,[(66,-1)]⟩], .join [⟨0,[(36,1)]⟩,⟨1,[(36,-1)]⟩,⟨0,[(39,1)]⟩,⟨1048576,[(39,-1)]⟩,⟨0,[(40,1)]⟩,⟨1048576,[(40,-1)]⟩,⟨0,[(41,1)]⟩,⟨1048576,[(41,-1)]⟩]]
def t_l9Made:List (Nat×Ctr):=[(26,c_LogOk),(9,c_LogEnd),(70,c_l1Below),(72,c_l1Once),(107,c_l4Has),(108,c_l2DrawCmd),(109,c_l3DrawRight),(117,c_l4In),(118,c_l1Max),(86,c_l3Copy),(119,c_l2DrawEntry),(120,c_LogPut),(121,c_l1Min)]
theorem k1_l9Made:check ⟨tb 1,t_l9Made,4,1,eqs⟩ Tryz.f73 (c_l9Made 1) [] h_l9Made=true:=by kernel_rfl
theorem k3_l9Made:check ⟨tb 3,t_l9Made,4,1,eqs⟩ Tryz.f73 (c_l9Made 3) [] h_l9Made=true:=by kernel_rfl
theorem k5_l9Made:check ⟨tb 5,t_l9Made,4,1,eqs⟩ Tryz.f73 (c_l9Made 5) [] h_l9Made=true:=by kernel_rfl
theorem k_l9Made {K:Int} (hK:K=1∨K=3∨K=5):check ⟨tb K,t_l9Made,4,1,eqs⟩ Tryz.f73 (c_l9Made K) [] h_l9Made=true:=by
 rcases hK with rfl | rfl | rfl
 ·exact k1_l9Made
 ·exact k3_l9Made
 ·exact k5_l9Made
def h_RunEntry:List Hn:=[]
def t_RunEntry:List (Nat×Ctr):=[(54,c_ImageOk),(55,c_EntryOk),(132,c_l2Copy),(199,c_SeatOf),(211,c_RunCmd),(212,c_l2Seats)]
theorem k_RunEntry:check ⟨tb0,t_RunEntry,4,1,eqs⟩ Tryz.f206 c_RunEntry [] h_RunEntry=true:=by kernel_rfl
def h_Resend (K:Int):List Hn:=[.loop [] [⟨(-K),[(5,(-K)),(15,-1),(16,(K))]⟩,⟨-1,[(5,-1),(16,1)]⟩,⟨0,[(16,1)]⟩,⟨1,[(16,1)]⟩,⟨1,[(6,1),(9,1),(16,-1)]⟩] [] ⟨1,[(6,1),(9,1),(16,-1)]⟩]
def t_Resend (K:Int):List (Nat×Ctr):=[(8,c_ReplicaOk K),(9,c_LogEnd),(92,c_l6Leads K),(51,c_l6All K),(165,c_l6Prepare K),(89,c_l6Find),(93,c_PrimaryOf K),(90,c_l6Do K)]
theorem k1_Resend:check ⟨tb 1,t_Resend 1,8,4,eqs⟩ Tryz.f144 (c_Resend 1) [] (h_Resend 1)=true:=by kernel_rfl
theorem k3_Resend:check ⟨tb 3,t_Resend 3,8,4,eqs⟩ Tryz.f144 (c_Resend 3) [] (h_Resend 3)=true:=by kernel_rfl
theorem k5_Resend:check ⟨tb 5,t_Resend 5,8,4,eqs⟩ Tryz.f144 (c_Resend 5) [] (h_Resend 5)=true:=by kernel_rfl
theorem k_Resend {K:Int} (hK:K=1∨K=3∨K=5):check ⟨tb K,t_Resend K,8,4,eqs⟩ Tryz.f144 (c_Resend K) [] (h_Resend K)=true:=by
 rcases hK with rfl | rfl | rfl
 ·exact k1_Resend
 ·exact k3_Resend
 ·exact k5_Resend
def h_l2DrawRight:List Hn:=[.loop [(1,0)] [⟨0,[(6,1)]⟩,⟨1,[(6,1)]⟩,⟨2097152,[(6,-1)]⟩,⟨100,[(7,-1)]⟩,⟨0,[(6,1),(7,-1)]⟩,⟨0,[(6,-1),(7,1)]⟩,⟨40,[(6,-1)]⟩] [] ⟨40,[(6,-1)]⟩, .loop [(1,1)] [⟨0,[(9,1)]⟩,⟨1,[(9,1)]⟩,⟨2097152,[(9,-1)]⟩,⟨100,[(10,-1)]⟩,⟨0,[(9,1),(10,-1)]⟩,⟨0,[(9,-1),(10,1)]⟩,⟨10,[(9,-1)]⟩] [] ⟨10,[(9,-1)]⟩, .loop [(1,1)] [⟨0,[(7,1)]⟩,⟨1,[(7,1)]⟩,⟨2097152,[(7,-1)]⟩,⟨100,[(8,-1)]⟩,⟨0,[(7,1),(8,-1)]⟩,⟨0,[(7,-1),(8,1)]⟩,⟨10,[(7,-1)]⟩] [] ⟨10,[(7,-1)]⟩]
def t_l2DrawRight:List (Nat×Ctr):=[(72,c_l1Once),(149,c_l2DrawEntries),(191,c_RunAll)]
theorem k_l2DrawRight:check ⟨tb0,t_l2DrawRight,4,2,eqs⟩ Tryz.f169 c_l2DrawRight [] h_l2DrawRight=true:=by kernel_rfl
def h_l2Seats:List Hn:=[.loop [] [⟨0,[(4,-1),(6,2)]⟩,⟨0,[(6,1)]⟩,⟨1,[(6,1)]⟩,⟨2097152,[(6,-1)]⟩,⟨0,[(0,1),(6,-1)]⟩] [] ⟨0,[(0,1),(6,-1)]⟩]
def t_l2Seats:List (Nat×Ctr):=[]
theorem k_l2Seats:check ⟨tb0,t_l2Seats,4,4,eqs⟩ Tryz.f212 c_l2Seats [] h_l2Seats=true:=by kernel_rfl
def h_SameLog:List Hn:=[.loop [] [⟨0,[(10,1)]⟩,⟨1,[(10,1)]⟩,⟨2097152,[(10,-1)]⟩,⟨0,[(3,1),(10,-1)]⟩] [] ⟨0,[(3,1),(10,-1)]⟩]
def t_SameLog:List (Nat×Ctr):=[(53,c_SameImage)]
theorem k_SameLog:check ⟨tb0,t_SameLog,4,1,eqs⟩ Tryz.f25 c_SameLog [] h_SameLog=true:=by kernel_rfl
def h_Turn:List Hn:=[]
def t_Turn (K:Int):List (Nat×Ctr):=[(8,c_ReplicaOk K),(18,c_l6Live K),(17,c_l6Same K),(19,c_l7Begin K)]
theorem k1_Turn:check ⟨tb 1,t_Turn 1,4,1,eqs⟩ Tryz.f7 (c_Turn 1) [] h_Turn=true:=by kernel_rfl
theorem k3_Turn:check ⟨tb 3,t_Turn 3,4,1,eqs⟩ Tryz.f7 (c_Turn 3) [] h_Turn=true:=by kernel_rfl
theorem k5_Turn:check ⟨tb 5,t_Turn 5,4,1,eqs⟩ Tryz.f7 (c_Turn 5) [] h_Turn=true:=by kernel_rfl
theorem k_Turn {K:Int} (hK:K=1∨K=3∨K=5):check ⟨tb K,t_Turn K,4,1,eqs⟩ Tryz.f7 (c_Turn K) [] h_Turn=true:=by
 rcases hK with rfl | rfl | rfl
 ·exact k1_Turn
 ·exact k3_Turn
 ·exact k5_Turn
def h_LogFold:List Hn:=[]
def t_LogFold:List (Nat×Ctr):=[(168,c_LogImage)]
theorem k_LogFold:check ⟨tb0,t_LogFold,4,1,eqs⟩ Tryz.f150 c_LogFold [] h_LogFold=true:=by kernel_rfl
def h_l7Take:List Hn:=[]
def t_l7Take:List (Nat×Ctr):=[(9,c_LogEnd),(118,c_l1Max),(86,c_l3Copy),(121,c_l1Min)]
theorem k1_l7Take:check ⟨tb 1,t_l7Take,4,1,eqs⟩ Tryz.f205 (c_l7Take 1) [] h_l7Take=true:=by kernel_rfl
theorem k3_l7Take:check ⟨tb 3,t_l7Take,4,1,eqs⟩ Tryz.f205 (c_l7Take 3) [] h_l7Take=true:=by kernel_rfl
theorem k5_l7Take:check ⟨tb 5,t_l7Take,4,1,eqs⟩ Tryz.f205 (c_l7Take 5) [] h_l7Take=true:=by kernel_rfl
theorem k_l7Take {K:Int} (hK:K=1∨K=3∨K=5):check ⟨tb K,t_l7Take,4,1,eqs⟩ Tryz.f205 (c_l7Take K) [] h_l7Take=true:=by
 rcases hK with rfl | rfl | rfl
 ·exact k1_l7Take
 ·exact k3_l7Take
 ·exact k5_l7Take
def h_Crash:List Hn:=[]
def t_Crash (K:Int):List (Nat×Ctr):=[(8,c_ReplicaOk K),(17,c_l6Same K)]
theorem k1_Crash:check ⟨tb 1,t_Crash 1,4,1,eqs⟩ Tryz.f146 (c_Crash 1) [] h_Crash=true:=by kernel_rfl
theorem k3_Crash:check ⟨tb 3,t_Crash 3,4,1,eqs⟩ Tryz.f146 (c_Crash 3) [] h_Crash=true:=by kernel_rfl
theorem k5_Crash:check ⟨tb 5,t_Crash 5,4,1,eqs⟩ Tryz.f146 (c_Crash 5) [] h_Crash=true:=by kernel_rfl
theorem k_Crash {K:Int} (hK:K=1∨K=3∨K=5):check ⟨tb K,t_Crash K,4,1,eqs⟩ Tryz.f146 (c_Crash K) [] h_Crash=true:=by
 rcases hK with rfl | rfl | rfl
 ·exact k1_Crash
 ·exact k3_Crash
 ·exact k5_Crash
def h_EntryOk:List Hn:=[]
def t_EntryOk:List (Nat×Ctr):=[(21,c_l1In),(22,c_l1Whole),(95,c_CmdOk)]
theorem k_EntryOk:check ⟨tb0,t_EntryOk,4,1,eqs⟩ Tryz.f55 c_EntryOk [] h_EntryOk=true:=by kernel_rfl
def h_LogEnd:List Hn:=[]
def t_LogEnd:List (Nat×Ctr):=[(26,c_LogOk)]
theorem k_LogEnd:check ⟨tb0,t_LogEnd,4,1,eqs⟩ Tryz.f9 c_LogEnd [] h_LogEnd=true:=by kernel_rfl
def h_l1In:List Hn:=[]
def t_l1In:List (Nat×Ctr):=[]
theorem k_l1In:check ⟨tb0,t_l1In,4,1,eqs⟩ Tryz.f21 c_l1In [] h_l1In=true:=by kernel_rfl
end Go.Proofs.YtikelfmmldafpaaGreat.Ai
