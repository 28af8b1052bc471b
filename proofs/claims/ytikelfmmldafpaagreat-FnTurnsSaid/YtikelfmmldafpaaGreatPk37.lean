/- Checks of the interpreter: functions against their contracts. Printed by a program. -/
import Derived.Test.YtikelfmmldafpaaGreatPk34
namespace Go.Proofs.YtikelfmmldafpaaGreat.Ai
set_option linter.unusedVariables false
def h_PackLog:List Hn:=[.loop [] [⟨-2,[(5,1)]⟩,⟨100,[(5,-1)]⟩,⟨150,[(5,-1)]⟩,⟨600,[(5,-1)]⟩,⟨-2,[(5,1),(6,-1)]⟩,⟨2,[(5,-1),(6,2)]⟩,⟨2,[(5,-1),(6,3)]⟩,⟨2,[(5,-1),(6,5)]⟩,⟨0,[(6,1)]⟩,⟨1,[(6,1)]⟩,⟨2097152,[(6,-1)]⟩,⟨0,[(1,1),(6,-1)]⟩] [] ⟨0,[(1,1),(6,-1)]⟩, .loop [] [⟨-1,[(5,-1),(7,1)]⟩,⟨150,[(7,-1)]⟩,⟨600,[(7,-1)]⟩,⟨-1,[(5,-1),(7,1),(8,-1)]⟩,⟨1,[(5,1),(7,-1),(8,3)]⟩,⟨1,[(5,1),(7,-1),(8,5)]⟩,⟨0,[(8,1)]⟩,⟨1,[(8,1)]⟩,⟨2097152,[(8,-1)]⟩,⟨0,[(2,1),(8,-1)]⟩] [] ⟨0,[(2,1),(8,-1)]⟩, .loop [] [⟨-1,[(7,-1),(9,1)]⟩,⟨600,[(9,-1)]⟩,⟨-1,[(7,-1),(9,1),(10,-1)]⟩,⟨1,[(7,1),(9,-1),(10,5)]⟩,⟨0,[(10,1)]⟩,⟨1,[(10,1)]⟩,⟨2097152,[(10,-1)]⟩,⟨0,[(3,1),(10,-1)]⟩] [] ⟨0,[(3,1),(10,-1)]⟩]
def t_PackLog:List (Nat×Ctr):=[(26,c_LogOk),(187,c_PutNums)]
theorem k_PackLog:check ⟨tb0,t_PackLog,4,1,eqs⟩ Tryz.f188 c_PackLog [] h_PackLog=true:=by kernel_rfl
def h_OnPrepare:List Hn:=[.join [⟨0,[(49,1)]⟩,⟨1048576,[(49,-1)]⟩,⟨0,[(50,1)]⟩,⟨1048576,[(50,-1)]⟩,⟨0,[(51,1)]⟩,⟨1048576,[(51,-1)]⟩]]
def t_OnPrepare (K:Int):List (Nat×Ctr):=[(9,c_LogEnd),(118,c_l1Max),(121,c_l1Min),(18,c_l6Live K),(92,c_l6Leads K),(17,c_l6Same K),(93,c_PrimaryOf K),(198,c_l6Hears K),(202,c_l6Put K),(204,c_l6Ask K)]
theorem k1_OnPrepare:check ⟨tb 1,t_OnPrepare 1,4,1,eqs⟩ Tryz.f175 (c_OnPrepare 1) [] h_OnPrepare=true:=by kernel_rfl
theorem k3_OnPrepare:check ⟨tb 3,t_OnPrepare 3,4,1,eqs⟩ Tryz.f175 (c_OnPrepare 3) [] h_OnPrepare=true:=by kernel_rfl
theorem k5_OnPrepare:check ⟨tb 5,t_OnPrepare 5,4,1,eqs⟩ Tryz.f175 (c_OnPrepare 5) [] h_OnPrepare=true:=by kernel_rfl
theorem k_OnPrepare {K:Int} (hK:K=1∨K=3∨K=5):check ⟨tb K,t_OnPrepare K,4,1,eqs⟩ Tryz.f175 (c_OnPrepare K) [] h_OnPrepare=true:=by
 rcases hK with rfl | rfl | rfl
 ·exact k1_OnPrepare
 ·exact k3_OnPrepare
 ·exact k5_OnPrepare
def h_ReplicaOk:List Hn:=[.loop [] [⟨0,[(21,1)]⟩,⟨1,[(21,1)]⟩,⟨2097152,[(21,-1)]⟩,⟨0,[(10,1),(21,-1)]⟩] [] ⟨0,[(10,1),(21,-1)]⟩, .join [⟨0,[(22,1)]⟩,⟨1,[(22,-1)]⟩]]
def t_ReplicaOk:List (Nat×Ctr):=[(20,c_l6Of),(21,c_l1In),(22,c_l1Whole),(23,c_l6Log),(24,c_l6VoteOk),(25,c_SameLog)]
theorem k1_ReplicaOk:check ⟨tb 1,t_ReplicaOk,4,1,eqs⟩ Tryz.f8 (c_ReplicaOk 1) [] h_ReplicaOk=true:=by kernel_rfl
theorem k3_ReplicaOk:check ⟨tb 3,t_ReplicaOk,4,1,eqs⟩ Tryz.f8 (c_ReplicaOk 3) [] h_ReplicaOk=true:=by kernel_rfl
theorem k5_ReplicaOk:check ⟨tb 5,t_ReplicaOk,4,1,eqs⟩ Tryz.f8 (c_ReplicaOk 5) [] h_ReplicaOk=true:=by kernel_rfl
theorem k_ReplicaOk {K:Int} (hK:K=1∨K=3∨K=5):check ⟨tb K,t_ReplicaOk,4,1,eqs⟩ Tryz.f8 (c_ReplicaOk K) [] h_ReplicaOk=true:=by
 rcases hK with rfl | rfl | rfl
 ·exact k1_ReplicaOk
 ·exact k3_ReplicaOk
 ·exact k5_ReplicaOk
def h_OnStart:List Hn:=[]
def t_OnStart (K:Int):List (Nat×Ctr):=[(9,c_LogEnd),(18,c_l6Live K),(17,c_l6Same K),(93,c_PrimaryOf K),(198,c_l6Hears K),(205,c_l7Take K)]
theorem k1_OnStart:check ⟨tb 1,t_OnStart 1,4,1,eqs⟩ Tryz.f180 (c_OnStart 1) [] h_OnStart=true:=by kernel_rfl
theorem k3_OnStart:check ⟨tb 3,t_OnStart 3,4,1,eqs⟩ Tryz.f180 (c_OnStart 3) [] h_OnStart=true:=by kernel_rfl
theorem k5_OnStart:check ⟨tb 5,t_OnStart 5,4,1,eqs⟩ Tryz.f180 (c_OnStart 5) [] h_OnStart=true:=by kernel_rfl
theorem k_OnStart {K:Int} (hK:K=1∨K=3∨K=5):check ⟨tb K,t_OnStart K,4,1,eqs⟩ Tryz.f180 (c_OnStart K) [] h_OnStart=true:=by
 rcases hK with rfl | rfl | rfl
 ·exact k1_OnStart
 ·exact k3_OnStart
 ·exact k5_OnStart
def h_l9Spoil:List Hn:=[.loop [(0,10)] [⟨0,[(10,-1),(14,1)]⟩] [] ⟨22,[(14,-1)]⟩, .join [⟨0,[(14,1)]⟩,⟨1,[(14,-1)]⟩,⟨0,[(15,1)]⟩,⟨1,[(15,-1)]⟩,⟨0,[(21,1)]⟩,⟨1048576,[(21,-1)]⟩,⟨0,[(22,1)]⟩,⟨1048576,[(22,-1)]⟩,⟨0,[(23,1)]⟩,⟨1048576,[(23,-1)]⟩,⟨0,[(24,1)]⟩,⟨1048576,[(24,-1)]⟩]]
def t_l9Spoil:List (Nat×Ctr):=[(70,c_l1Below),(104,c_l1PickInt),(122,c_l3DrawLog)]
theorem k1_l9Spoil:check ⟨tb 1,t_l9Spoil,4,1,eqs⟩ Tryz.f75 (c_l9Spoil 1) [] h_l9Spoil=true:=by kernel_rfl
theorem k3_l9Spoil:check ⟨tb 3,t_l9Spoil,4,1,eqs⟩ Tryz.f75 (c_l9Spoil 3) [] h_l9Spoil=true:=by kernel_rfl
theorem k5_l9Spoil:check ⟨tb 5,t_l9Spoil,4,1,eqs⟩ Tryz.f75 (c_l9Spoil 5) [] h_l9Spoil=true:=by kernel_rfl
theorem k_l9Spoil {K:Int} (hK:K=1∨K=3∨K=5):check ⟨tb K,t_l9Spoil,4,1,eqs⟩ Tryz.f75 (c_l9Spoil K) [] h_l9Spoil=true:=by
 rcases hK with rfl | rfl | rfl
 ·exact k1_l9Spoil
 ·exact k3_l9Spoil
 ·exact k5_l9Spoil
def h_l4Rows:List Hn:=[]
def t_l4Rows:List (Nat×Ctr):=[(113,c_GetNum),(114,c_GetNums)]
theorem k_l4Rows:check ⟨tb0,t_l4Rows,4,1,eqs⟩ Tryz.f152 c_l4Rows [] h_l4Rows=true:=by kernel_rfl
def h_OnAskBack:List Hn:=[]
def t_OnAskBack (K:Int):List (Nat×Ctr):=[(86,c_l3Copy),(17,c_l6Same K),(198,c_l6Hears K)]
theorem k1_OnAskBack:check ⟨tb 1,t_OnAskBack 1,4,1,eqs⟩ Tryz.f181 (c_OnAskBack 1) [] h_OnAskBack=true:=by kernel_rfl
theorem k3_OnAskBack:check ⟨tb 3,t_OnAskBack 3,4,1,eqs⟩ Tryz.f181 (c_OnAskBack 3) [] h_OnAskBack=true:=by kernel_rfl
theorem k5_OnAskBack:check ⟨tb 5,t_OnAskBack 5,4,1,eqs⟩ Tryz.f181 (c_OnAskBack 5) [] h_OnAskBack=true:=by kernel_rfl
theorem k_OnAskBack {K:Int} (hK:K=1∨K=3∨K=5):check ⟨tb K,t_OnAskBack K,4,1,eqs⟩ Tryz.f181 (c_OnAskBack K) [] h_OnAskBack=true:=by
 rcases hK with rfl | rfl | rfl
 ·exact k1_OnAskBack
 ·exact k3_OnAskBack
 ·exact k5_OnAskBack
def h_Frame:List Hn:=[]
def t_Frame:List (Nat×Ctr):=[(151,c_Crc),(186,c_PutNum)]
theorem k_Frame:check ⟨tb0,t_Frame,4,1,eqs⟩ Tryz.f189 c_Frame [] h_Frame=true:=by kernel_rfl
def h_NetDouble:List Hn:=[]
def t_NetDouble (K:Int):List (Nat×Ctr):=[(142,c_NetTake K),(167,c_NetSend K)]
theorem k1_NetDouble:check ⟨tb 1,t_NetDouble 1,4,1,eqs⟩ Tryz.f161 c_NetDouble [] h_NetDouble=true:=by kernel_rfl
theorem k3_NetDouble:check ⟨tb 3,t_NetDouble 3,4,1,eqs⟩ Tryz.f161 c_NetDouble [] h_NetDouble=true:=by kernel_rfl
theorem k5_NetDouble:check ⟨tb 5,t_NetDouble 5,4,1,eqs⟩ Tryz.f161 c_NetDouble [] h_NetDouble=true:=by kernel_rfl
theorem k_NetDouble {K:Int} (hK:K=1∨K=3∨K=5):check ⟨tb K,t_NetDouble K,4,1,eqs⟩ Tryz.f161 c_NetDouble [] h_NetDouble=true:=by
 rcases hK with rfl | rfl | rfl
 ·exact k1_NetDouble
 ·exact k3_NetDouble
 ·exact k5_NetDouble
def h_l6Find:List Hn:=[.loop [] [⟨0,[(3,1)]⟩,⟨0,[(3,-1)]⟩,⟨1,[(3,1)]⟩,⟨2097152,[(3,-1)]⟩,⟨0,[(3,-1),(4,1)]⟩,⟨0,[(4,1)]⟩,⟨1,[(4,1)]⟩,⟨2097152,[(4,-1)]⟩,⟨0,[(0,1),(4,-1)]⟩] [] ⟨0,[(0,1),(4,-1)]⟩]
def t_l6Find:List (Nat×Ctr):=[]
theorem k_l6Find:check ⟨tb0,t_l6Find,4,1,eqs⟩ Tryz.f89 c_l6Find [] h_l6Find=true:=by kernel_rfl
def h_l6Prepare:List Hn:=[]
def t_l6Prepare:List (Nat×Ctr):=[(185,c_LogAt)]
theorem k1_l6Prepare:check ⟨tb 1,t_l6Prepare,4,1,eqs⟩ Tryz.f165 (c_l6Prepare 1) [] h_l6Prepare=true:=by kernel_rfl
theorem k3_l6Prepare:check ⟨tb 3,t_l6Prepare,4,1,eqs⟩ Tryz.f165 (c_l6Prepare 3) [] h_l6Prepare=true:=by kernel_rfl
theorem k5_l6Prepare:check ⟨tb 5,t_l6Prepare,4,1,eqs⟩ Tryz.f165 (c_l6Prepare 5) [] h_l6Prepare=true:=by kernel_rfl
theorem k_l6Prepare {K:Int} (hK:K=1∨K=3∨K=5):check ⟨tb K,t_l6Prepare,4,1,eqs⟩ Tryz.f165 (c_l6Prepare K) [] h_l6Prepare=true:=by
 rcases hK with rfl | rfl | rfl
 ·exact k1_l6Prepare
 ·exact k3_l6Prepare
 ·exact k5_l6Prepare
def h_l6Do:List Hn:=[]
def t_l6Do:List (Nat×Ctr):=[(86,c_l3Copy)]
theorem k1_l6Do:check ⟨tb 1,t_l6Do,4,1,eqs⟩ Tryz.f90 (c_l6Do 1) [] h_l6Do=true:=by kernel_rfl
theorem k3_l6Do:check ⟨tb 3,t_l6Do,4,1,eqs⟩ Tryz.f90 (c_l6Do 3) [] h_l6Do=true:=by kernel_rfl
theorem k5_l6Do:check ⟨tb 5,t_l6Do,4,1,eqs⟩ Tryz.f90 (c_l6Do 5) [] h_l6Do=true:=by kernel_rfl
theorem k_l6Do {K:Int} (hK:K=1∨K=3∨K=5):check ⟨tb K,t_l6Do,4,1,eqs⟩ Tryz.f90 (c_l6Do K) [] h_l6Do=true:=by
 rcases hK with rfl | rfl | rfl
 ·exact k1_l6Do
 ·exact k3_l6Do
 ·exact k5_l6Do
def h_PrimaryOf:List Hn:=[]
def t_PrimaryOf:List (Nat×Ctr):=[(20,c_l6Of),(22,c_l1Whole)]
theorem k1_PrimaryOf:check ⟨tb 1,t_PrimaryOf,4,1,eqs⟩ Tryz.f93 (c_PrimaryOf 1) [] h_PrimaryOf=true:=by kernel_rfl
theorem k3_PrimaryOf:check ⟨tb 3,t_PrimaryOf,4,1,eqs⟩ Tryz.f93 (c_PrimaryOf 3) [] h_PrimaryOf=true:=by kernel_rfl
theorem k5_PrimaryOf:check ⟨tb 5,t_PrimaryOf,4,1,eqs⟩ Tryz.f93 (c_PrimaryOf 5) [] h_PrimaryOf=true:=by kernel_rfl
theorem k_PrimaryOf {K:Int} (hK:K=1∨K=3∨K=5):check ⟨tb K,t_PrimaryOf,4,1,eqs⟩ Tryz.f93 (c_PrimaryOf K) [] h_PrimaryOf=true:=by
 rcases hK with rfl | rfl | rfl
 ·exact k1_PrimaryOf
 ·exact k3_PrimaryOf
 ·exact k5_PrimaryOf
def h_l1PickInt:List Hn:=[]
def t_l1PickInt:List (Nat×Ctr):=[(70,c_l1Below)]
theorem k_l1PickInt:check ⟨tb0,t_l1PickInt,4,4,eqs⟩ Tryz.f104 c_l1PickInt [] h_l1PickInt=true:=by kernel_rfl
def h_l1Max:List Hn:=[]
def t_l1Max:List (Nat×Ctr):=[]
theorem k_l1Max:check ⟨tb0,t_l1Max,4,1,eqs⟩ Tryz.f118 c_l1Max [] h_l1Max=true:=by kernel_rfl
end Go.Proofs.YtikelfmmldafpaaGreat.Ai
namespace Go.Proofs.YtikelfmmldafpaaGreat.Ai
set_option linter.unusedVariables false
def h_PackMsg:List Hn:=[.loop [] [⟨0,[(19,-1),(20,1)]⟩,⟨0,[(19,1),(20,-1),(21,50000)]⟩,⟨0,[(21,1)]⟩,⟨1,[(21,1)]⟩,⟨2097152,[(21,-1)]⟩,⟨0,[(18,1),(21,-1)]⟩] [] ⟨0,[(18,1),(21,-1)]⟩]
def t_PackMsg:List (Nat×Ctr):=[(107,c_l4Has),(116,c_MsgFits),(186,c_PutNum),(187,c_PutNums),(188,c_PackLog),(189,c_Frame)]
theorem k_PackMsg:check ⟨tb0,t_PackMsg,4,20,eqs⟩ Tryz.f166 c_PackMsg [] h_PackMsg=true:=by kernel_rfl
def h_MsgFits:List Hn:=[]
def t_MsgFits:List (Nat×Ctr):=[(21,c_l1In),(25,c_SameLog),(26,c_LogOk),(9,c_LogEnd),(107,c_l4Has),(117,c_l4In),(95,c_CmdOk),(153,c_l4Num)]
theorem k_MsgFits:check ⟨tb0,t_MsgFits,4,1,eqs⟩ Tryz.f116 c_MsgFits [] h_MsgFits=true:=by kernel_rfl
def h_l9DrawGo:List Hn:=[.join [⟨0,[(7,1)]⟩,⟨1,[(7,-1)]⟩], .join [⟨0,[(8,1)]⟩,⟨1,[(8,-1)]⟩], .join [⟨0,[(9,1)]⟩,⟨1,[(9,-1)]⟩], .join [⟨0,[(10,1)]⟩,⟨1,[(10,-1)]⟩], .loop [] [⟨0,[(11,1)]⟩,⟨1,[(11,1)]⟩,⟨2097152,[(11,-1)]⟩,⟨0,[(0,1),(11,-1)]⟩] [] ⟨0,[(0,1),(11,-1)]⟩, .join [⟨0,[(7,1)]⟩,⟨1,[(7,-1)]⟩,⟨0,[(8,1)]⟩,⟨1,[(8,-1)]⟩,⟨0,[(9,1)]⟩,⟨1,[(9,-1)]⟩,⟨0,[(10,1)]⟩,⟨1,[(10,-1)]⟩,⟨0,[(11,1)]⟩,⟨1,[(11,-1)]⟩,⟨0,[(12,1)]⟩,⟨1,[(12,-1)]⟩,⟨0,[(13,1)]⟩,⟨1,[(13,-1)]⟩,⟨0,[(14,1)]⟩,⟨1,[(14,-1)]⟩,⟨0,[(15,1)]⟩,⟨1,[(15,-1)]⟩,⟨0,[(16,1)]⟩,⟨1,[(16,-1)]⟩]]
def t_l9DrawGo:List (Nat×Ctr):=[(70,c_l1Below),(108,c_l2DrawCmd),(118,c_l1Max),(136,c_l9Leader),(137,c_l9Soon)]
theorem k1_l9DrawGo:check ⟨tb 1,t_l9DrawGo,4,1,eqs⟩ Tryz.f105 c_l9DrawGo [] h_l9DrawGo=true:=by kernel_rfl
theorem k3_l9DrawGo:check ⟨tb 3,t_l9DrawGo,4,1,eqs⟩ Tryz.f105 c_l9DrawGo [] h_l9DrawGo=true:=by kernel_rfl
theorem k5_l9DrawGo:check ⟨tb 5,t_l9DrawGo,4,1,eqs⟩ Tryz.f105 c_l9DrawGo [] h_l9DrawGo=true:=by kernel_rfl
theorem k_l9DrawGo {K:Int} (hK:K=1∨K=3∨K=5):check ⟨tb K,t_l9DrawGo,4,1,eqs⟩ Tryz.f105 c_l9DrawGo [] h_l9DrawGo=true:=by
 rcases hK with rfl | rfl | rfl
 ·exact k1_l9DrawGo
 ·exact k3_l9DrawGo
 ·exact k5_l9DrawGo
def h_RunCmd:List Hn:=[.join []]
def t_RunCmd:List (Nat×Ctr):=[(54,c_ImageOk),(118,c_l1Max),(95,c_CmdOk),(132,c_l2Copy),(218,c_CellAt),(219,c_l2Cells)]
theorem k_RunCmd:check ⟨tb0,t_RunCmd,4,1,eqs⟩ Tryz.f211 c_RunCmd [] h_RunCmd=true:=by kernel_rfl
def h_OnTurn:List Hn:=[]
def t_OnTurn (K:Int):List (Nat×Ctr):=[(18,c_l6Live K),(17,c_l6Same K),(19,c_l7Begin K),(89,c_l6Find),(52,c_l7Look K),(198,c_l6Hears K),(91,c_l6Vote K)]
theorem k1_OnTurn:check ⟨tb 1,t_OnTurn 1,4,2,eqs⟩ Tryz.f178 (c_OnTurn 1) [] h_OnTurn=true:=by kernel_rfl
theorem k3_OnTurn:check ⟨tb 3,t_OnTurn 3,4,2,eqs⟩ Tryz.f178 (c_OnTurn 3) [] h_OnTurn=true:=by kernel_rfl
theorem k5_OnTurn:check ⟨tb 5,t_OnTurn 5,4,2,eqs⟩ Tryz.f178 (c_OnTurn 5) [] h_OnTurn=true:=by kernel_rfl
theorem k_OnTurn {K:Int} (hK:K=1∨K=3∨K=5):check ⟨tb K,t_OnTurn K,4,2,eqs⟩ Tryz.f178 (c_OnTurn K) [] h_OnTurn=true:=by
 rcases hK with rfl | rfl | rfl
 ·exact k1_OnTurn
 ·exact k3_OnTurn
 ·exact k5_OnTurn
def h_OnAskState:List Hn:=[]
def t_OnAskState (K:Int):List (Nat×Ctr):=[(86,c_l3Copy),(17,c_l6Same K),(198,c_l6Hears K)]
theorem k1_OnAskState:check ⟨tb 1,t_OnAskState 1,4,1,eqs⟩ Tryz.f183 (c_OnAskState 1) [] h_OnAskState=true:=by kernel_rfl
theorem k3_OnAskState:check ⟨tb 3,t_OnAskState 3,4,1,eqs⟩ Tryz.f183 (c_OnAskState 3) [] h_OnAskState=true:=by kernel_rfl
theorem k5_OnAskState:check ⟨tb 5,t_OnAskState 5,4,1,eqs⟩ Tryz.f183 (c_OnAskState 5) [] h_OnAskState=true:=by kernel_rfl
theorem k_OnAskState {K:Int} (hK:K=1∨K=3∨K=5):check ⟨tb K,t_OnAskState K,4,1,eqs⟩ Tryz.f183 (c_OnAskState K) [] h_OnAskState=true:=by
 rcases hK with rfl | rfl | rfl
 ·exact k1_OnAskState
 ·exact k3_OnAskState
 ·exact k5_OnAskState
def h_LogOk:List Hn:=[.loop [] [⟨0,[(8,1)]⟩,⟨1,[(8,1)]⟩,⟨2097152,[(8,-1)]⟩,⟨0,[(3,1),(8,-1)]⟩] [] ⟨0,[(3,1),(8,-1)]⟩]
def t_LogOk:List (Nat×Ctr):=[(22,c_l1Whole),(54,c_ImageOk),(55,c_EntryOk)]
theorem k_LogOk:check ⟨tb0,t_LogOk,4,1,eqs⟩ Tryz.f26 c_LogOk [] h_LogOk=true:=by kernel_rfl
def h_l4Has:List Hn:=[.join [⟨0,[(1,1)]⟩,⟨1,[(1,-1)]⟩], .join [⟨0,[(2,1)]⟩,⟨1,[(2,-1)]⟩]]
def t_l4Has:List (Nat×Ctr):=[]
theorem k_l4Has:check ⟨tb0,t_l4Has,4,1,eqs⟩ Tryz.f107 c_l4Has [] h_l4Has=true:=by kernel_rfl
def h_l7Begin:List Hn:=[]
def t_l7Begin (K:Int):List (Nat×Ctr):=[(51,c_l6All K),(52,c_l7Look K)]
theorem k1_l7Begin:check ⟨tb 1,t_l7Begin 1,4,1,eqs⟩ Tryz.f19 (c_l7Begin 1) [] h_l7Begin=true:=by kernel_rfl
theorem k3_l7Begin:check ⟨tb 3,t_l7Begin 3,4,1,eqs⟩ Tryz.f19 (c_l7Begin 3) [] h_l7Begin=true:=by kernel_rfl
theorem k5_l7Begin:check ⟨tb 5,t_l7Begin 5,4,1,eqs⟩ Tryz.f19 (c_l7Begin 5) [] h_l7Begin=true:=by kernel_rfl
theorem k_l7Begin {K:Int} (hK:K=1∨K=3∨K=5):check ⟨tb K,t_l7Begin K,4,1,eqs⟩ Tryz.f19 (c_l7Begin K) [] h_l7Begin=true:=by
 rcases hK with rfl | rfl | rfl
 ·exact k1_l7Begin
 ·exact k3_l7Begin
 ·exact k5_l7Begin
def h_l2DrawEntries:List Hn:=[.loop [] [⟨60,[(3,-1)]⟩,⟨0,[(3,-1),(4,1)]⟩,⟨0,[(3,1),(4,-1)]⟩,⟨0,[(4,1)]⟩,⟨1,[(4,1)]⟩,⟨2097152,[(4,-1)]⟩,⟨60,[(4,-1)]⟩] [] ⟨60,[(4,-1)]⟩, .loop [] [⟨0,[(3,-1),(4,1)]⟩,⟨0,[(3,1),(4,-1)]⟩,⟨0,[(4,1)]⟩,⟨1,[(4,1)]⟩,⟨2097152,[(4,-1)]⟩,⟨0,[(1,1),(4,-1)]⟩] [] ⟨0,[(1,1),(4,-1)]⟩]
def t_l2DrawEntries:List (Nat×Ctr):=[(70,c_l1Below),(72,c_l1Once),(119,c_l2DrawEntry)]
theorem k_l2DrawEntries:check ⟨tb0,t_l2DrawEntries,4,2,eqs⟩ Tryz.f149 c_l2DrawEntries [] h_l2DrawEntries=true:=by kernel_rfl
def h_PutNums:List Hn:=[.loop [] [⟨0,[(1,-1),(2,10)]⟩,⟨0,[(2,1)]⟩,⟨1,[(2,1)]⟩,⟨2097152,[(2,-1)]⟩,⟨0,[(0,1),(2,-1)]⟩] [] ⟨0,[(0,1),(2,-1)]⟩]
def t_PutNums:List (Nat×Ctr):=[(186,c_PutNum)]
theorem k_PutNums:check ⟨tb0,t_PutNums,4,1,eqs⟩ Tryz.f187 c_PutNums [] h_PutNums=true:=by kernel_rfl
def h_l3Among:List Hn:=[]
def t_l3Among:List (Nat×Ctr):=[(21,c_l1In),(26,c_LogOk),(9,c_LogEnd)]
theorem k_l3Among:check ⟨tb0,t_l3Among,4,1,eqs⟩ Tryz.f190 c_l3Among [] h_l3Among=true:=by kernel_rfl
def h_l6Of:List Hn:=[]
def t_l6Of:List (Nat×Ctr):=[]
theorem k_l6Of:check ⟨tb0,t_l6Of,4,1,eqs⟩ Tryz.f20 c_l6Of [] h_l6Of=true:=by kernel_rfl
def h_l6Same:List Hn:=[]
def t_l6Same (K:Int):List (Nat×Ctr):=[(8,c_ReplicaOk K),(50,c_l6Copy K)]
theorem k1_l6Same:check ⟨tb 1,t_l6Same 1,4,1,eqs⟩ Tryz.f17 (c_l6Same 1) [] h_l6Same=true:=by kernel_rfl
theorem k3_l6Same:check ⟨tb 3,t_l6Same 3,4,1,eqs⟩ Tryz.f17 (c_l6Same 3) [] h_l6Same=true:=by kernel_rfl
theorem k5_l6Same:check ⟨tb 5,t_l6Same 5,4,1,eqs⟩ Tryz.f17 (c_l6Same 5) [] h_l6Same=true:=by kernel_rfl
theorem k_l6Same {K:Int} (hK:K=1∨K=3∨K=5):check ⟨tb K,t_l6Same K,4,1,eqs⟩ Tryz.f17 (c_l6Same K) [] h_l6Same=true:=by
 rcases hK with rfl | rfl | rfl
 ·exact k1_l6Same
 ·exact k3_l6Same
 ·exact k5_l6Same
def h_l1Min:List Hn:=[]
def t_l1Min:List (Nat×Ctr):=[]
theorem k_l1Min:check ⟨tb0,t_l1Min,4,1,eqs⟩ Tryz.f121 c_l1Min [] h_l1Min=true:=by kernel_rfl
end Go.Proofs.YtikelfmmldafpaaGreat.Ai
namespace Go.Proofs.YtikelfmmldafpaaGreat.Ai
set_option linter.unusedVariables false
def h_GroupOk:List Hn:=[.loop [] [⟨0,[(8,1)]⟩,⟨1,[(8,1)]⟩,⟨2097152,[(8,-1)]⟩,⟨0,[(0,1),(8,-1)]⟩] [] ⟨0,[(0,1),(8,-1)]⟩, .loop [] [⟨0,[(10,1)]⟩,⟨1,[(10,1)]⟩,⟨2097152,[(10,-1)]⟩,⟨0,[(3,1),(10,-1)]⟩] [] ⟨0,[(3,1),(10,-1)]⟩, .loop [] [⟨0,[(12,1)]⟩,⟨1,[(12,1)]⟩,⟨2097152,[(12,-1)]⟩,⟨0,[(4,1),(12,-1)]⟩] [] ⟨0,[(4,1),(12,-1)]⟩]
def t_GroupOk (K:Int):List (Nat×Ctr):=[(8,c_ReplicaOk K),(20,c_l6Of),(21,c_l1In),(22,c_l1Whole),(159,c_NetOk)]
theorem k1_GroupOk:check ⟨tb 1,t_GroupOk 1,4,1,eqs⟩ Tryz.f138 c_GroupOk [] h_GroupOk=true:=by kernel_rfl
theorem k3_GroupOk:check ⟨tb 3,t_GroupOk 3,4,1,eqs⟩ Tryz.f138 c_GroupOk [] h_GroupOk=true:=by kernel_rfl
theorem k5_GroupOk:check ⟨tb 5,t_GroupOk 5,4,1,eqs⟩ Tryz.f138 c_GroupOk [] h_GroupOk=true:=by kernel_rfl
theorem k_GroupOk {K:Int} (hK:K=1∨K=3∨K=5):check ⟨tb K,t_GroupOk K,4,1,eqs⟩ Tryz.f138 c_GroupOk [] h_GroupOk=true:=by
 rcases hK with rfl | rfl | rfl
 ·exact k1_GroupOk
 ·exact k3_GroupOk
 ·exact k5_GroupOk
def h_OnRequest:List Hn:=[.loop [] [⟨0,[(53,1)]⟩,⟨1,[(53,1)]⟩,⟨2097152,[(53,-1)]⟩,⟨0,[(51,1),(53,-1)]⟩] [] ⟨0,[(51,1),(53,-1)]⟩, .join [⟨0,[(78,1)]⟩,⟨1048576,[(78,-1)]⟩]]
def t_OnRequest (K:Int):List (Nat×Ctr):=[(9,c_LogEnd),(92,c_l6Leads K),(17,c_l6Same K),(51,c_l6All K),(165,c_l6Prepare K),(198,c_l6Hears K),(199,c_SeatOf),(200,c_Committed K),(201,c_LogFrom),(202,c_l6Put K),(203,c_l6Answers K)]
theorem k1_OnRequest:check ⟨tb 1,t_OnRequest 1,4,1,eqs⟩ Tryz.f174 (c_OnRequest 1) [] h_OnRequest=true:=by kernel_rfl
theorem k3_OnRequest:check ⟨tb 3,t_OnRequest 3,4,1,eqs⟩ Tryz.f174 (c_OnRequest 3) [] h_OnRequest=true:=by kernel_rfl
theorem k5_OnRequest:check ⟨tb 5,t_OnRequest 5,4,1,eqs⟩ Tryz.f174 (c_OnRequest 5) [] h_OnRequest=true:=by kernel_rfl
theorem k_OnRequest {K:Int} (hK:K=1∨K=3∨K=5):check ⟨tb K,t_OnRequest K,4,1,eqs⟩ Tryz.f174 (c_OnRequest K) [] h_OnRequest=true:=by
 rcases hK with rfl | rfl | rfl
 ·exact k1_OnRequest
 ·exact k3_OnRequest
 ·exact k5_OnRequest
def h_OnDo:List Hn:=[]
def t_OnDo (K:Int):List (Nat×Ctr):=[(86,c_l3Copy),(18,c_l6Live K),(17,c_l6Same K),(19,c_l7Begin K),(89,c_l6Find),(93,c_PrimaryOf K),(52,c_l7Look K),(198,c_l6Hears K),(91,c_l6Vote K)]
theorem k1_OnDo:check ⟨tb 1,t_OnDo 1,4,2,eqs⟩ Tryz.f179 (c_OnDo 1) [] h_OnDo=true:=by kernel_rfl
theorem k3_OnDo:check ⟨tb 3,t_OnDo 3,4,2,eqs⟩ Tryz.f179 (c_OnDo 3) [] h_OnDo=true:=by kernel_rfl
theorem k5_OnDo:check ⟨tb 5,t_OnDo 5,4,2,eqs⟩ Tryz.f179 (c_OnDo 5) [] h_OnDo=true:=by kernel_rfl
theorem k_OnDo {K:Int} (hK:K=1∨K=3∨K=5):check ⟨tb K,t_OnDo K,4,2,eqs⟩ Tryz.f179 (c_OnDo K) [] h_OnDo=true:=by
 rcases hK with rfl | rfl | rfl
 ·exact k1_OnDo
 ·exact k3_OnDo
 ·exact k5_OnDo
def h_Unframe:List Hn:=[]
def t_Unframe:List (Nat×Ctr):=[(113,c_GetNum),(151,c_Crc)]
theorem k_Unframe:check ⟨tb0,t_Unframe,4,1,eqs⟩ Tryz.f112 c_Unframe [] h_Unframe=true:=by kernel_rfl
def h_NetSpoil:List Hn:=[]
def t_NetSpoil (K:Int):List (Nat×Ctr):=[(142,c_NetTake K),(160,c_l5Copy)]
theorem k1_NetSpoil:check ⟨tb 1,t_NetSpoil 1,4,1,eqs⟩ Tryz.f163 c_NetSpoil [] h_NetSpoil=true:=by kernel_rfl
theorem k3_NetSpoil:check ⟨tb 3,t_NetSpoil 3,4,1,eqs⟩ Tryz.f163 c_NetSpoil [] h_NetSpoil=true:=by kernel_rfl
theorem k5_NetSpoil:check ⟨tb 5,t_NetSpoil 5,4,1,eqs⟩ Tryz.f163 c_NetSpoil [] h_NetSpoil=true:=by kernel_rfl
theorem k_NetSpoil {K:Int} (hK:K=1∨K=3∨K=5):check ⟨tb K,t_NetSpoil K,4,1,eqs⟩ Tryz.f163 c_NetSpoil [] h_NetSpoil=true:=by
 rcases hK with rfl | rfl | rfl
 ·exact k1_NetSpoil
 ·exact k3_NetSpoil
 ·exact k5_NetSpoil
def h_NetSend:List Hn:=[]
def t_NetSend:List (Nat×Ctr):=[(159,c_NetOk),(160,c_l5Copy),(173,c_l5Flight)]
theorem k1_NetSend:check ⟨tb 1,t_NetSend,4,1,eqs⟩ Tryz.f167 (c_NetSend 1) [] h_NetSend=true:=by kernel_rfl
theorem k3_NetSend:check ⟨tb 3,t_NetSend,4,1,eqs⟩ Tryz.f167 (c_NetSend 3) [] h_NetSend=true:=by kernel_rfl
theorem k5_NetSend:check ⟨tb 5,t_NetSend,4,1,eqs⟩ Tryz.f167 (c_NetSend 5) [] h_NetSend=true:=by kernel_rfl
theorem k_NetSend {K:Int} (hK:K=1∨K=3∨K=5):check ⟨tb K,t_NetSend,4,1,eqs⟩ Tryz.f167 (c_NetSend K) [] h_NetSend=true:=by
 rcases hK with rfl | rfl | rfl
 ·exact k1_NetSend
 ·exact k3_NetSend
 ·exact k5_NetSend
def h_l4Set:List Hn:=[.join []]
def t_l4Set:List (Nat×Ctr):=[]
theorem k_l4Set:check ⟨tb0,t_l4Set,4,1,eqs⟩ Tryz.f110 c_l4Set [] h_l4Set=true:=by kernel_rfl
def h_l6Hears:List Hn:=[]
def t_l6Hears (K:Int):List (Nat×Ctr):=[(8,c_ReplicaOk K),(116,c_MsgFits)]
theorem k1_l6Hears:check ⟨tb 1,t_l6Hears 1,4,1,eqs⟩ Tryz.f198 (c_l6Hears 1) [] h_l6Hears=true:=by kernel_rfl
theorem k3_l6Hears:check ⟨tb 3,t_l6Hears 3,4,1,eqs⟩ Tryz.f198 (c_l6Hears 3) [] h_l6Hears=true:=by kernel_rfl
theorem k5_l6Hears:check ⟨tb 5,t_l6Hears 5,4,1,eqs⟩ Tryz.f198 (c_l6Hears 5) [] h_l6Hears=true:=by kernel_rfl
theorem k_l6Hears {K:Int} (hK:K=1∨K=3∨K=5):check ⟨tb K,t_l6Hears K,4,1,eqs⟩ Tryz.f198 (c_l6Hears K) [] h_l6Hears=true:=by
 rcases hK with rfl | rfl | rfl
 ·exact k1_l6Hears
 ·exact k3_l6Hears
 ·exact k5_l6Hears
def h_l9Hear:List Hn:=[]
def t_l9Hear (K:Int):List (Nat×Ctr):=[(148,c_l9Post),(164,c_OnMsg K)]
theorem k1_l9Hear:check ⟨tb 1,t_l9Hear 1,4,1,eqs⟩ Tryz.f143 c_l9Hear [] h_l9Hear=true:=by kernel_rfl
theorem k3_l9Hear:check ⟨tb 3,t_l9Hear 3,4,1,eqs⟩ Tryz.f143 c_l9Hear [] h_l9Hear=true:=by kernel_rfl
theorem k5_l9Hear:check ⟨tb 5,t_l9Hear 5,4,1,eqs⟩ Tryz.f143 c_l9Hear [] h_l9Hear=true:=by kernel_rfl
theorem k_l9Hear {K:Int} (hK:K=1∨K=3∨K=5):check ⟨tb K,t_l9Hear K,4,1,eqs⟩ Tryz.f143 c_l9Hear [] h_l9Hear=true:=by
 rcases hK with rfl | rfl | rfl
 ·exact k1_l9Hear
 ·exact k3_l9Hear
 ·exact k5_l9Hear
def h_NewGroup:List Hn:=[.loop [(1,1)] [⟨0,[(2,1)]⟩,⟨1,[(2,1)]⟩,⟨2097152,[(2,-1)]⟩,⟨0,[(2,1),(3,-1)]⟩,⟨0,[(2,-1),(3,1)]⟩,⟨0,[(0,1),(2,-1)]⟩] [] ⟨0,[(0,1),(2,-1)]⟩]
def t_NewGroup (K:Int):List (Nat×Ctr):=[(20,c_l6Of),(135,c_NewReplica K)]
theorem k1_NewGroup:check ⟨tb 1,t_NewGroup 1,4,1,eqs⟩ Tryz.f103 (c_NewGroup 1) [] h_NewGroup=true:=by kernel_rfl
theorem k3_NewGroup:check ⟨tb 3,t_NewGroup 3,4,1,eqs⟩ Tryz.f103 (c_NewGroup 3) [] h_NewGroup=true:=by kernel_rfl
theorem k5_NewGroup:check ⟨tb 5,t_NewGroup 5,4,1,eqs⟩ Tryz.f103 (c_NewGroup 5) [] h_NewGroup=true:=by kernel_rfl
theorem k_NewGroup {K:Int} (hK:K=1∨K=3∨K=5):check ⟨tb K,t_NewGroup K,4,1,eqs⟩ Tryz.f103 (c_NewGroup K) [] h_NewGroup=true:=by
 rcases hK with rfl | rfl | rfl
 ·exact k1_NewGroup
 ·exact k3_NewGroup
 ·exact k5_NewGroup
def h_l6Put:List Hn:=[]
def t_l6Put:List (Nat×Ctr):=[(120,c_LogPut),(150,c_LogFold)]
theorem k1_l6Put:check ⟨tb 1,t_l6Put,4,2,eqs⟩ Tryz.f202 (c_l6Put 1) [] h_l6Put=true:=by kernel_rfl
theorem k3_l6Put:check ⟨tb 3,t_l6Put,4,2,eqs⟩ Tryz.f202 (c_l6Put 3) [] h_l6Put=true:=by kernel_rfl
theorem k5_l6Put:check ⟨tb 5,t_l6Put,4,2,eqs⟩ Tryz.f202 (c_l6Put 5) [] h_l6Put=true:=by kernel_rfl
theorem k_l6Put {K:Int} (hK:K=1∨K=3∨K=5):check ⟨tb K,t_l6Put,4,2,eqs⟩ Tryz.f202 (c_l6Put K) [] h_l6Put=true:=by
 rcases hK with rfl | rfl | rfl
 ·exact k1_l6Put
 ·exact k3_l6Put
 ·exact k5_l6Put
def h_l6Log:List Hn:=[]
def t_l6Log:List (Nat×Ctr):=[(21,c_l1In),(26,c_LogOk),(9,c_LogEnd)]
theorem k_l6Log:check ⟨tb0,t_l6Log,4,1,eqs⟩ Tryz.f23 c_l6Log [] h_l6Log=true:=by kernel_rfl
def h_l5Flight:List Hn:=[]
def t_l5Flight:List (Nat×Ctr):=[(21,c_l1In)]
theorem k1_l5Flight:check ⟨tb 1,t_l5Flight,4,1,eqs⟩ Tryz.f173 c_l5Flight [] h_l5Flight=true:=by kernel_rfl
theorem k3_l5Flight:check ⟨tb 3,t_l5Flight,4,1,eqs⟩ Tryz.f173 c_l5Flight [] h_l5Flight=true:=by kernel_rfl
theorem k5_l5Flight:check ⟨tb 5,t_l5Flight,4,1,eqs⟩ Tryz.f173 c_l5Flight [] h_l5Flight=true:=by kernel_rfl
theorem k_l5Flight {K:Int} (hK:K=1∨K=3∨K=5):check ⟨tb K,t_l5Flight,4,1,eqs⟩ Tryz.f173 c_l5Flight [] h_l5Flight=true:=by
 rcases hK with rfl | rfl | rfl
 ·exact k1_l5Flight
 ·exact k3_l5Flight
 ·exact k5_l5Flight
def h_l5Copy:List Hn:=[]
def t_l5Copy:List (Nat×Ctr):=[]
theorem k1_l5Copy:check ⟨tb 1,t_l5Copy,4,1,eqs⟩ Tryz.f160 c_l5Copy [] h_l5Copy=true:=by kernel_rfl
theorem k3_l5Copy:check ⟨tb 3,t_l5Copy,4,1,eqs⟩ Tryz.f160 c_l5Copy [] h_l5Copy=true:=by kernel_rfl
theorem k5_l5Copy:check ⟨tb 5,t_l5Copy,4,1,eqs⟩ Tryz.f160 c_l5Copy [] h_l5Copy=true:=by kernel_rfl
theorem k_l5Copy {K:Int} (hK:K=1∨K=3∨K=5):check ⟨tb K,t_l5Copy,4,1,eqs⟩ Tryz.f160 c_l5Copy [] h_l5Copy=true:=by
 rcases hK with rfl | rfl | rfl
 ·exact k1_l5Copy
 ·exact k3_l5Copy
 ·exact k5_l5Copy
def h_l6Half:List Hn:=[]
def t_l6Half:List (Nat×Ctr):=[]
theorem k1_l6Half:check ⟨tb 1,t_l6Half,4,1,eqs⟩ Tryz.f88 (c_l6Half 1) [] h_l6Half=true:=by kernel_rfl
theorem k3_l6Half:check ⟨tb 3,t_l6Half,4,1,eqs⟩ Tryz.f88 (c_l6Half 3) [] h_l6Half=true:=by kernel_rfl
theorem k5_l6Half:check ⟨tb 5,t_l6Half,4,1,eqs⟩ Tryz.f88 (c_l6Half 5) [] h_l6Half=true:=by kernel_rfl
theorem k_l6Half {K:Int} (hK:K=1∨K=3∨K=5):check ⟨tb K,t_l6Half,4,1,eqs⟩ Tryz.f88 (c_l6Half K) [] h_l6Half=true:=by
 rcases hK with rfl | rfl | rfl
 ·exact k1_l6Half
 ·exact k3_l6Half
 ·exact k5_l6Half
end Go.Proofs.YtikelfmmldafpaaGreat.Ai
