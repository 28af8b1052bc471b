/- Checks of the interpreter: functions against their contracts. Printed by a program. -/
import Derived.Test.YtikelfmmldafpaaGreatPk34
namespace Go.Proofs.YtikelfmmldafpaaGreat.Ai
set_option linter.unusedVariables false
def h_OnOk (K:Int):List Hn:=[.join [⟨0,[(48,1)]⟩,⟨(K),[(48,-1)]⟩,⟨0,[(54,1)]⟩,⟨1048576,[(54,-1)]⟩,⟨0,[(55,1)]⟩,⟨1048576,[(55,-1)]⟩,⟨0,[(56,1)]⟩,⟨1048576,[(56,-1)]⟩,⟨0,[(57,1)]⟩,⟨1048576,[(57,-1)]⟩], .loop [] [⟨0,[(61,-1)]⟩,⟨0,[(60,1),(61,1),(62,-1)]⟩,⟨0,[(60,1),(62,-1)]⟩,⟨1,[(62,1)]⟩,⟨0,[(6,1),(9,1),(62,-1)]⟩,⟨1000000000,[(62,-1)]⟩] [] ⟨0,[(5,-1),(62,1)]⟩, .loop [] [⟨0,[(64,1)]⟩,⟨1,[(64,1)]⟩,⟨2097152,[(64,-1)]⟩,⟨0,[(57,1),(64,-1)]⟩] [] ⟨0,[(57,1),(64,-1)]⟩, .join [⟨0,[(67,1)]⟩,⟨1,[(67,-1)]⟩,⟨0,[(68,1)]⟩,⟨1,[(68,-1)]⟩,⟨0,[(69,1)]⟩,⟨1,[(69,-1)]⟩]]
def t_OnOk (K:Int):List (Nat×Ctr):=[(9,c_LogEnd),(118,c_l1Max),(92,c_l6Leads K),(17,c_l6Same K),(51,c_l6All K),(89,c_l6Find),(198,c_l6Hears K),(203,c_l6Answers K),(91,c_l6Vote K),(88,c_l6Half K)]
theorem k1_OnOk:check ⟨tb 1,t_OnOk 1,4,1,eqs⟩ Tryz.f176 (c_OnOk 1) [] (h_OnOk 1)=true:=by kernel_rfl
theorem k3_OnOk:check ⟨tb 3,t_OnOk 3,4,1,eqs⟩ Tryz.f176 (c_OnOk 3) [] (h_OnOk 3)=true:=by kernel_rfl
theorem k5_OnOk:check ⟨tb 5,t_OnOk 5,4,1,eqs⟩ Tryz.f176 (c_OnOk 5) [] (h_OnOk 5)=true:=by kernel_rfl
theorem k_OnOk {K:Int} (hK:K=1∨K=3∨K=5):check ⟨tb K,t_OnOk K,4,1,eqs⟩ Tryz.f176 (c_OnOk K) [] (h_OnOk K)=true:=by
 rcases hK with rfl | rfl | rfl
 ·exact k1_OnOk
 ·exact k3_OnOk
 ·exact k5_OnOk
def h_GroupDo (K:Int):List Hn:=[.join [⟨0,[(20,1)]⟩,⟨1,[(20,-1)]⟩], .join [⟨0,[(34,1)]⟩,⟨1048576,[(34,-1)]⟩,⟨0,[(36,1)]⟩,⟨(K),[(36,-1)]⟩,⟨0,[(42,1)]⟩,⟨1048576,[(42,-1)]⟩,⟨0,[(43,1)]⟩,⟨1048576,[(43,-1)]⟩,⟨0,[(44,1)]⟩,⟨1048576,[(44,-1)]⟩,⟨0,[(45,1)]⟩,⟨1048576,[(45,-1)]⟩]]
def t_GroupDo (K:Int):List (Nat×Ctr):=[(71,c_UnpackMsg),(138,c_GroupOk),(139,c_GoOk),(140,c_l9Copy),(141,c_l9Net),(142,c_NetTake K),(143,c_l9Hear),(7,c_Turn K),(144,c_Resend K),(145,c_l9Up),(18,c_l6Live K),(146,c_Crash K),(147,c_Restart K),(148,c_l9Post)]
theorem k1_GroupDo:check ⟨tb 1,t_GroupDo 1,4,2,eqs⟩ Tryz.f106 (c_GroupDo 1) [] (h_GroupDo 1)=true:=by kernel_rfl
theorem k3_GroupDo:check ⟨tb 3,t_GroupDo 3,4,2,eqs⟩ Tryz.f106 (c_GroupDo 3) [] (h_GroupDo 3)=true:=by kernel_rfl
theorem k5_GroupDo:check ⟨tb 5,t_GroupDo 5,4,2,eqs⟩ Tryz.f106 (c_GroupDo 5) [] (h_GroupDo 5)=true:=by kernel_rfl
theorem k_GroupDo {K:Int} (hK:K=1∨K=3∨K=5):check ⟨tb K,t_GroupDo K,4,2,eqs⟩ Tryz.f106 (c_GroupDo K) [] (h_GroupDo K)=true:=by
 rcases hK with rfl | rfl | rfl
 ·exact k1_GroupDo
 ·exact k3_GroupDo
 ·exact k5_GroupDo
def h_l9Net:List Hn:=[.join [⟨0,[(15,1)]⟩,⟨1048576,[(15,-1)]⟩]]
def t_l9Net (K:Int):List (Nat×Ctr):=[(71,c_UnpackMsg),(142,c_NetTake K),(161,c_NetDouble),(162,c_NetMove),(163,c_NetSpoil)]
theorem k1_l9Net:check ⟨tb 1,t_l9Net 1,4,1,eqs⟩ Tryz.f141 c_l9Net [] h_l9Net=true:=by kernel_rfl
theorem k3_l9Net:check ⟨tb 3,t_l9Net 3,4,1,eqs⟩ Tryz.f141 c_l9Net [] h_l9Net=true:=by kernel_rfl
theorem k5_l9Net:check ⟨tb 5,t_l9Net 5,4,1,eqs⟩ Tryz.f141 c_l9Net [] h_l9Net=true:=by kernel_rfl
theorem k_l9Net {K:Int} (hK:K=1∨K=3∨K=5):check ⟨tb K,t_l9Net K,4,1,eqs⟩ Tryz.f141 c_l9Net [] h_l9Net=true:=by
 rcases hK with rfl | rfl | rfl
 ·exact k1_l9Net
 ·exact k3_l9Net
 ·exact k5_l9Net
def h_OnCommit:List Hn:=[.join [⟨0,[(48,1)]⟩,⟨1048576,[(48,-1)]⟩]]
def t_OnCommit (K:Int):List (Nat×Ctr):=[(9,c_LogEnd),(118,c_l1Max),(121,c_l1Min),(18,c_l6Live K),(92,c_l6Leads K),(17,c_l6Same K),(93,c_PrimaryOf K),(198,c_l6Hears K),(204,c_l6Ask K)]
theorem k1_OnCommit:check ⟨tb 1,t_OnCommit 1,4,1,eqs⟩ Tryz.f177 (c_OnCommit 1) [] h_OnCommit=true:=by kernel_rfl
theorem k3_OnCommit:check ⟨tb 3,t_OnCommit 3,4,1,eqs⟩ Tryz.f177 (c_OnCommit 3) [] h_OnCommit=true:=by kernel_rfl
theorem k5_OnCommit:check ⟨tb 5,t_OnCommit 5,4,1,eqs⟩ Tryz.f177 (c_OnCommit 5) [] h_OnCommit=true:=by kernel_rfl
theorem k_OnCommit {K:Int} (hK:K=1∨K=3∨K=5):check ⟨tb K,t_OnCommit K,4,1,eqs⟩ Tryz.f177 (c_OnCommit K) [] h_OnCommit=true:=by
 rcases hK with rfl | rfl | rfl
 ·exact k1_OnCommit
 ·exact k3_OnCommit
 ·exact k5_OnCommit
def h_NetOk:List Hn:=[.loop [] [⟨0,[(4,1)]⟩,⟨1,[(4,1)]⟩,⟨2097152,[(4,-1)]⟩,⟨0,[(1,1),(4,-1)]⟩] [] ⟨0,[(1,1),(4,-1)]⟩, .loop [] [⟨0,[(12,1)]⟩,⟨1,[(12,1)]⟩,⟨2097152,[(12,-1)]⟩,⟨0,[(4,1),(12,-1)]⟩] [] ⟨0,[(4,1),(12,-1)]⟩]
def t_NetOk:List (Nat×Ctr):=[(21,c_l1In),(22,c_l1Whole),(173,c_l5Flight)]
theorem k1_NetOk:check ⟨tb 1,t_NetOk,4,1,eqs⟩ Tryz.f159 c_NetOk [] h_NetOk=true:=by kernel_rfl
theorem k3_NetOk:check ⟨tb 3,t_NetOk,4,1,eqs⟩ Tryz.f159 c_NetOk [] h_NetOk=true:=by kernel_rfl
theorem k5_NetOk:check ⟨tb 5,t_NetOk,4,1,eqs⟩ Tryz.f159 c_NetOk [] h_NetOk=true:=by kernel_rfl
theorem k_NetOk {K:Int} (hK:K=1∨K=3∨K=5):check ⟨tb K,t_NetOk,4,1,eqs⟩ Tryz.f159 c_NetOk [] h_NetOk=true:=by
 rcases hK with rfl | rfl | rfl
 ·exact k1_NetOk
 ·exact k3_NetOk
 ·exact k5_NetOk
def h_l2Cells:List Hn:=[.loop [] [⟨0,[(4,-1),(6,2)]⟩,⟨0,[(6,1)]⟩,⟨1,[(6,1)]⟩,⟨2097152,[(6,-1)]⟩,⟨0,[(0,1),(6,-1)]⟩] [] ⟨0,[(0,1),(6,-1)]⟩]
def t_l2Cells:List (Nat×Ctr):=[]
theorem k_l2Cells:check ⟨tb0,t_l2Cells,4,4,eqs⟩ Tryz.f219 c_l2Cells [] h_l2Cells=true:=by kernel_rfl
def h_l6Copy:List Hn:=[.loop [(2,10)] [⟨0,[(17,1)]⟩,⟨1,[(17,1)]⟩,⟨2097152,[(17,-1)]⟩,⟨0,[(17,1),(18,-1)]⟩,⟨0,[(17,-1),(18,1)]⟩,⟨0,[(10,1),(17,-1)]⟩] [] ⟨0,[(10,1),(17,-1)]⟩]
def t_l6Copy:List (Nat×Ctr):=[(86,c_l3Copy)]
theorem k1_l6Copy:check ⟨tb 1,t_l6Copy,4,1,eqs⟩ Tryz.f50 (c_l6Copy 1) [] h_l6Copy=true:=by kernel_rfl
theorem k3_l6Copy:check ⟨tb 3,t_l6Copy,4,1,eqs⟩ Tryz.f50 (c_l6Copy 3) [] h_l6Copy=true:=by kernel_rfl
theorem k5_l6Copy:check ⟨tb 5,t_l6Copy,4,1,eqs⟩ Tryz.f50 (c_l6Copy 5) [] h_l6Copy=true:=by kernel_rfl
theorem k_l6Copy {K:Int} (hK:K=1∨K=3∨K=5):check ⟨tb K,t_l6Copy,4,1,eqs⟩ Tryz.f50 (c_l6Copy K) [] h_l6Copy=true:=by
 rcases hK with rfl | rfl | rfl
 ·exact k1_l6Copy
 ·exact k3_l6Copy
 ·exact k5_l6Copy
def h_LogPut:List Hn:=[]
def t_LogPut:List (Nat×Ctr):=[(26,c_LogOk),(9,c_LogEnd),(55,c_EntryOk),(86,c_l3Copy)]
theorem k_LogPut:check ⟨tb0,t_LogPut,4,1,eqs⟩ Tryz.f120 c_LogPut [] h_LogPut=true:=by kernel_rfl
def h_SeatOf:List Hn:=[.loop [] [⟨0,[(4,1)]⟩,⟨1,[(4,1)]⟩,⟨2097152,[(4,-1)]⟩,⟨0,[(1,1),(4,-1)]⟩] [] ⟨0,[(1,1),(4,-1)]⟩]
def t_SeatOf:List (Nat×Ctr):=[(54,c_ImageOk)]
theorem k_SeatOf:check ⟨tb0,t_SeatOf,4,1,eqs⟩ Tryz.f199 c_SeatOf [] h_SeatOf=true:=by kernel_rfl
def h_l2DrawCmd:List Hn:=[]
def t_l2DrawCmd:List (Nat×Ctr):=[(70,c_l1Below),(72,c_l1Once)]
theorem k_l2DrawCmd:check ⟨tb0,t_l2DrawCmd,4,4,eqs⟩ Tryz.f108 c_l2DrawCmd [] h_l2DrawCmd=true:=by kernel_rfl
def h_LogFrom:List Hn:=[]
def t_LogFrom:List (Nat×Ctr):=[(190,c_l3Among)]
theorem k_LogFrom:check ⟨tb0,t_LogFrom,4,1,eqs⟩ Tryz.f201 c_LogFrom [] h_LogFrom=true:=by kernel_rfl
def h_l4Num:List Hn:=[]
def t_l4Num:List (Nat×Ctr):=[(21,c_l1In)]
theorem k_l4Num:check ⟨tb0,t_l4Num,4,1,eqs⟩ Tryz.f153 c_l4Num [] h_l4Num=true:=by kernel_rfl
def h_NewReplica:List Hn:=[]
def t_NewReplica (K:Int):List (Nat×Ctr):=[(8,c_ReplicaOk K)]
theorem k1_NewReplica:check ⟨tb 1,t_NewReplica 1,4,1,eqs⟩ Tryz.f135 (c_NewReplica 1) [] h_NewReplica=true:=by kernel_rfl
theorem k3_NewReplica:check ⟨tb 3,t_NewReplica 3,4,1,eqs⟩ Tryz.f135 (c_NewReplica 3) [] h_NewReplica=true:=by kernel_rfl
theorem k5_NewReplica:check ⟨tb 5,t_NewReplica 5,4,1,eqs⟩ Tryz.f135 (c_NewReplica 5) [] h_NewReplica=true:=by kernel_rfl
theorem k_NewReplica {K:Int} (hK:K=1∨K=3∨K=5):check ⟨tb K,t_NewReplica K,4,1,eqs⟩ Tryz.f135 (c_NewReplica K) [] h_NewReplica=true:=by
 rcases hK with rfl | rfl | rfl
 ·exact k1_NewReplica
 ·exact k3_NewReplica
 ·exact k5_NewReplica
def h_l2DrawEntry:List Hn:=[]
def t_l2DrawEntry:List (Nat×Ctr):=[(70,c_l1Below),(108,c_l2DrawCmd)]
theorem k_l2DrawEntry:check ⟨tb0,t_l2DrawEntry,4,1,eqs⟩ Tryz.f119 c_l2DrawEntry [] h_l2DrawEntry=true:=by kernel_rfl
end Go.Proofs.YtikelfmmldafpaaGreat.Ai
namespace Go.Proofs.YtikelfmmldafpaaGreat.Ai
set_option linter.unusedVariables false
def h_GetNum:List Hn:=[.unroll 10, .join [⟨0,[(7,1)]⟩,⟨1,[(7,-1)]⟩,⟨0,[(8,1)]⟩,⟨1,[(8,-1)]⟩,⟨0,[(9,1)]⟩,⟨1,[(9,-1)]⟩,⟨0,[(14,1)]⟩,⟨255,[(14,-1)]⟩,⟨0,[(23,1)]⟩,⟨1,[(23,-1)]⟩]]
def t_GetNum:List (Nat×Ctr):=[]
theorem k_GetNum:check ⟨tb0,t_GetNum,12,1,eqs⟩ Tryz.f113 c_GetNum [] h_GetNum=true:=by kernel_rfl
def h_UnpackLog:List Hn:=[.loop [(1,1)] [⟨0,[(14,1)]⟩,⟨1,[(14,1)]⟩,⟨2097152,[(14,-1)]⟩,⟨0,[(14,1),(15,-1)]⟩] [] ⟨-1,[(5,1),(14,-1)]⟩, .loop [(1,2)] [⟨0,[(16,1)]⟩,⟨1,[(16,1)]⟩,⟨2097152,[(16,-1)]⟩,⟨0,[(16,1),(17,-1)]⟩] [] ⟨-2,[(8,1),(16,-1)]⟩, .loop [(1,3)] [⟨0,[(18,1)]⟩,⟨1,[(18,1)]⟩,⟨2097152,[(18,-1)]⟩,⟨0,[(18,1),(19,-1)]⟩] [] ⟨-4,[(11,1),(18,-1)]⟩]
def t_UnpackLog:List (Nat×Ctr):=[(26,c_LogOk),(113,c_GetNum),(152,c_l4Rows)]
theorem k_UnpackLog:check ⟨tb0,t_UnpackLog,4,1,eqs⟩ Tryz.f115 c_UnpackLog [] h_UnpackLog=true:=by kernel_rfl
def h_l6Answers:List Hn:=[.loop [] [⟨100,[(15,-1)]⟩,⟨-1,[(13,-1),(15,-1),(16,1)]⟩,⟨-1,[(13,-1),(16,1)]⟩,⟨0,[(16,1)]⟩,⟨1,[(16,1)]⟩] [] ⟨1,[(14,1),(16,-1)]⟩]
def t_l6Answers:List (Nat×Ctr):=[(168,c_LogImage),(185,c_LogAt),(199,c_SeatOf),(206,c_RunEntry)]
theorem k1_l6Answers:check ⟨tb 1,t_l6Answers,4,4,eqs⟩ Tryz.f203 (c_l6Answers 1) [] h_l6Answers=true:=by kernel_rfl
theorem k3_l6Answers:check ⟨tb 3,t_l6Answers,4,4,eqs⟩ Tryz.f203 (c_l6Answers 3) [] h_l6Answers=true:=by kernel_rfl
theorem k5_l6Answers:check ⟨tb 5,t_l6Answers,4,4,eqs⟩ Tryz.f203 (c_l6Answers 5) [] h_l6Answers=true:=by kernel_rfl
theorem k_l6Answers {K:Int} (hK:K=1∨K=3∨K=5):check ⟨tb K,t_l6Answers,4,4,eqs⟩ Tryz.f203 (c_l6Answers K) [] h_l6Answers=true:=by
 rcases hK with rfl | rfl | rfl
 ·exact k1_l6Answers
 ·exact k3_l6Answers
 ·exact k5_l6Answers
def h_OnState:List Hn:=[.join [⟨0,[(61,1)]⟩,⟨1048576,[(61,-1)]⟩,⟨0,[(63,1)]⟩,⟨1,[(63,-1)]⟩]]
def t_OnState (K:Int):List (Nat×Ctr):=[(9,c_LogEnd),(18,c_l6Live K),(92,c_l6Leads K),(17,c_l6Same K),(93,c_PrimaryOf K),(198,c_l6Hears K),(205,c_l7Take K)]
theorem k1_OnState:check ⟨tb 1,t_OnState 1,4,1,eqs⟩ Tryz.f184 (c_OnState 1) [] h_OnState=true:=by kernel_rfl
theorem k3_OnState:check ⟨tb 3,t_OnState 3,4,1,eqs⟩ Tryz.f184 (c_OnState 3) [] h_OnState=true:=by kernel_rfl
theorem k5_OnState:check ⟨tb 5,t_OnState 5,4,1,eqs⟩ Tryz.f184 (c_OnState 5) [] h_OnState=true:=by kernel_rfl
theorem k_OnState {K:Int} (hK:K=1∨K=3∨K=5):check ⟨tb K,t_OnState K,4,1,eqs⟩ Tryz.f184 (c_OnState K) [] h_OnState=true:=by
 rcases hK with rfl | rfl | rfl
 ·exact k1_OnState
 ·exact k3_OnState
 ·exact k5_OnState
def h_NetMove:List Hn:=[]
def t_NetMove (K:Int):List (Nat×Ctr):=[(142,c_NetTake K),(160,c_l5Copy)]
theorem k1_NetMove:check ⟨tb 1,t_NetMove 1,4,1,eqs⟩ Tryz.f162 c_NetMove [] h_NetMove=true:=by kernel_rfl
theorem k3_NetMove:check ⟨tb 3,t_NetMove 3,4,1,eqs⟩ Tryz.f162 c_NetMove [] h_NetMove=true:=by kernel_rfl
theorem k5_NetMove:check ⟨tb 5,t_NetMove 5,4,1,eqs⟩ Tryz.f162 c_NetMove [] h_NetMove=true:=by kernel_rfl
theorem k_NetMove {K:Int} (hK:K=1∨K=3∨K=5):check ⟨tb K,t_NetMove K,4,1,eqs⟩ Tryz.f162 c_NetMove [] h_NetMove=true:=by
 rcases hK with rfl | rfl | rfl
 ·exact k1_NetMove
 ·exact k3_NetMove
 ·exact k5_NetMove
def h_SameImage:List Hn:=[.loop [] [⟨0,[(5,1)]⟩,⟨1,[(5,1)]⟩,⟨2097152,[(5,-1)]⟩,⟨0,[(0,1),(5,-1)]⟩] [] ⟨0,[(0,1),(5,-1)]⟩, .loop [] [⟨0,[(7,1)]⟩,⟨1,[(7,1)]⟩,⟨2097152,[(7,-1)]⟩,⟨0,[(1,1),(7,-1)]⟩] [] ⟨0,[(1,1),(7,-1)]⟩]
def t_SameImage:List (Nat×Ctr):=[]
theorem k_SameImage:check ⟨tb0,t_SameImage,4,1,eqs⟩ Tryz.f53 c_SameImage [] h_SameImage=true:=by kernel_rfl
def h_Restart:List Hn:=[]
def t_Restart (K:Int):List (Nat×Ctr):=[(8,c_ReplicaOk K),(17,c_l6Same K),(51,c_l6All K)]
theorem k1_Restart:check ⟨tb 1,t_Restart 1,4,1,eqs⟩ Tryz.f147 (c_Restart 1) [] h_Restart=true:=by kernel_rfl
theorem k3_Restart:check ⟨tb 3,t_Restart 3,4,1,eqs⟩ Tryz.f147 (c_Restart 3) [] h_Restart=true:=by kernel_rfl
theorem k5_Restart:check ⟨tb 5,t_Restart 5,4,1,eqs⟩ Tryz.f147 (c_Restart 5) [] h_Restart=true:=by kernel_rfl
theorem k_Restart {K:Int} (hK:K=1∨K=3∨K=5):check ⟨tb K,t_Restart K,4,1,eqs⟩ Tryz.f147 (c_Restart K) [] h_Restart=true:=by
 rcases hK with rfl | rfl | rfl
 ·exact k1_Restart
 ·exact k3_Restart
 ·exact k5_Restart
def h_l3DrawLog:List Hn:=[]
def t_l3DrawLog:List (Nat×Ctr):=[(70,c_l1Below),(104,c_l1PickInt),(109,c_l3DrawRight),(154,c_l2DrawImage)]
theorem k_l3DrawLog:check ⟨tb0,t_l3DrawLog,4,4,eqs⟩ Tryz.f122 c_l3DrawLog [] h_l3DrawLog=true:=by kernel_rfl
def h_l6All (K:Int):List Hn:=[.loop [] [⟨(K),[(30,-1)]⟩,⟨0,[(30,-1),(31,1)]⟩,⟨0,[(31,1)]⟩,⟨1,[(31,1)]⟩,⟨2097152,[(31,-1)]⟩,⟨0,[(1,1),(31,-1)]⟩] [] ⟨0,[(1,1),(31,-1)]⟩]
def t_l6All:List (Nat×Ctr):=[(86,c_l3Copy)]
theorem k1_l6All:check ⟨tb 1,t_l6All,4,2,eqs⟩ Tryz.f51 (c_l6All 1) [] (h_l6All 1)=true:=by kernel_rfl
theorem k3_l6All:check ⟨tb 3,t_l6All,4,2,eqs⟩ Tryz.f51 (c_l6All 3) [] (h_l6All 3)=true:=by kernel_rfl
theorem k5_l6All:check ⟨tb 5,t_l6All,4,2,eqs⟩ Tryz.f51 (c_l6All 5) [] (h_l6All 5)=true:=by kernel_rfl
theorem k_l6All {K:Int} (hK:K=1∨K=3∨K=5):check ⟨tb K,t_l6All,4,2,eqs⟩ Tryz.f51 (c_l6All K) [] (h_l6All K)=true:=by
 rcases hK with rfl | rfl | rfl
 ·exact k1_l6All
 ·exact k3_l6All
 ·exact k5_l6All
def h_LogAt:List Hn:=[]
def t_LogAt:List (Nat×Ctr):=[(26,c_LogOk),(9,c_LogEnd)]
theorem k_LogAt:check ⟨tb0,t_LogAt,4,1,eqs⟩ Tryz.f185 c_LogAt [] h_LogAt=true:=by kernel_rfl
def h_l7Count:List Hn:=[.loop [] [⟨0,[(3,1)]⟩,⟨1,[(3,1)]⟩,⟨2097152,[(3,-1)]⟩,⟨0,[(0,1),(3,-1)]⟩] [] ⟨0,[(0,1),(3,-1)]⟩, .join [⟨0,[(6,1)]⟩,⟨1,[(6,-1)]⟩]]
def t_l7Count:List (Nat×Ctr):=[]
theorem k_l7Count:check ⟨tb0,t_l7Count,4,1,eqs⟩ Tryz.f87 c_l7Count [] h_l7Count=true:=by kernel_rfl
def h_Committed:List Hn:=[]
def t_Committed (K:Int):List (Nat×Ctr):=[(8,c_ReplicaOk K),(168,c_LogImage)]
theorem k1_Committed:check ⟨tb 1,t_Committed 1,4,1,eqs⟩ Tryz.f200 (c_Committed 1) [] h_Committed=true:=by kernel_rfl
theorem k3_Committed:check ⟨tb 3,t_Committed 3,4,1,eqs⟩ Tryz.f200 (c_Committed 3) [] h_Committed=true:=by kernel_rfl
theorem k5_Committed:check ⟨tb 5,t_Committed 5,4,1,eqs⟩ Tryz.f200 (c_Committed 5) [] h_Committed=true:=by kernel_rfl
theorem k_Committed {K:Int} (hK:K=1∨K=3∨K=5):check ⟨tb K,t_Committed K,4,1,eqs⟩ Tryz.f200 (c_Committed K) [] h_Committed=true:=by
 rcases hK with rfl | rfl | rfl
 ·exact k1_Committed
 ·exact k3_Committed
 ·exact k5_Committed
def h_l2Copy:List Hn:=[]
def t_l2Copy:List (Nat×Ctr):=[]
theorem k_l2Copy:check ⟨tb0,t_l2Copy,4,1,eqs⟩ Tryz.f132 c_l2Copy [] h_l2Copy=true:=by kernel_rfl
def h_l6Live:List Hn:=[]
def t_l6Live:List (Nat×Ctr):=[]
theorem k1_l6Live:check ⟨tb 1,t_l6Live,4,1,eqs⟩ Tryz.f18 (c_l6Live 1) [] h_l6Live=true:=by kernel_rfl
theorem k3_l6Live:check ⟨tb 3,t_l6Live,4,1,eqs⟩ Tryz.f18 (c_l6Live 3) [] h_l6Live=true:=by kernel_rfl
theorem k5_l6Live:check ⟨tb 5,t_l6Live,4,1,eqs⟩ Tryz.f18 (c_l6Live 5) [] h_l6Live=true:=by kernel_rfl
theorem k_l6Live {K:Int} (hK:K=1∨K=3∨K=5):check ⟨tb K,t_l6Live,4,1,eqs⟩ Tryz.f18 (c_l6Live K) [] h_l6Live=true:=by
 rcases hK with rfl | rfl | rfl
 ·exact k1_l6Live
 ·exact k3_l6Live
 ·exact k5_l6Live
end Go.Proofs.YtikelfmmldafpaaGreat.Ai
