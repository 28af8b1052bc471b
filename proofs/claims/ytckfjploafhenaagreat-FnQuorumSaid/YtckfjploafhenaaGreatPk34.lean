/- Checks of the interpreter: functions against their contracts. Printed by a program. -/
import Derived.Test.YtckfjploafhenaaGreatPk14
import Derived.Test.YtckfjploafhenaaGreatPk33
import Derived.Test.YtckfjploafhenaaGreatPk17
set_option maxRecDepth 100000
set_option maxHeartbeats 16000000
set_option linter.unusedVariables false
set_option linter.unusedSimpArgs false
namespace Go.Proofs.YtckfjploafhenaaGreat.Ai
def h_l9Post:List Hn:=[.loop [(0,2),(0,3),(0,4)] [⟨0,[(6,1)]⟩,⟨1,[(6,1)]⟩,⟨2097152,[(6,-1)]⟩,⟨0,[(5,1),(6,-1)]⟩] [] ⟨0,[(5,1),(6,-1)]⟩, .join [⟨0,[(24,1)]⟩,⟨1048576,[(24,-1)]⟩,⟨0,[(25,1)]⟩,⟨1048576,[(25,-1)]⟩,⟨0,[(26,1)]⟩,⟨1048576,[(26,-1)]⟩,⟨0,[(28,1)]⟩,⟨1,[(28,-1)]⟩,⟨0,[(30,1)]⟩,⟨1048576,[(30,-1)]⟩,⟨0,[(31,1)]⟩,⟨1048576,[(31,-1)]⟩]]
def t_l9Post (K:Int):List (Nat×Ctr):=[(164,c_PackMsg),(165,c_NetSend K)]
theorem k1_l9Post:check ⟨tb 1,t_l9Post 1,4,2,eqs⟩ Tryz.f134 zg2 [] h_l9Post=true:=by kernel_rfl
theorem k3_l9Post:check ⟨tb 3,t_l9Post 3,4,2,eqs⟩ Tryz.f134 zg2 [] h_l9Post=true:=by kernel_rfl
theorem k5_l9Post:check ⟨tb 5,t_l9Post 5,4,2,eqs⟩ Tryz.f134 zg2 [] h_l9Post=true:=by kernel_rfl
theorem k_l9Post {K:Int} (hK:Kt K):check ⟨tb K,t_l9Post K,4,2,eqs⟩ Tryz.f134 zg2 [] h_l9Post=true:=by
 rcases hK with rfl | rfl | rfl
 ·exact k1_l9Post
 ·exact k3_l9Post
 ·exact k5_l9Post
def h_l9Made:List Hn:=[.join [⟨0,[(15,1)]⟩,⟨1,[(15,-1)]⟩], .join [⟨0,[(17,1)]⟩,⟨1,[(17,-1)]⟩], .join [⟨0,[(20,1)]⟩,⟨1,[(20,-1)]⟩], .join [⟨0,[(22,1)]⟩,⟨1,[(22,-1)]⟩], .join [⟨0,[(24,1)]⟩,⟨1,[(24,-1)]⟩], .join [⟨0,[(26,1)]⟩,⟨1,[(26,-1)]⟩], .join [⟨0,[(28,1)]⟩,⟨1,[(28,-1)]⟩], .join [⟨0,[(30,1)]⟩,⟨1,[(30,-1)]⟩], .join [⟨0,[(32,1)]⟩,⟨1,[(32,-1)]⟩], .join [⟨0,[(41,1)]⟩,⟨1,[(41,-1)]⟩,⟨0,[(42,1)]⟩,⟨1,[(42,-1)]⟩,⟨0,[(43,1)]⟩,⟨1,[(43,-1)]⟩,⟨0,[(44,1)]⟩,⟨1,[(44,-1)]⟩,⟨0,[(46,1)]⟩,⟨1048576,[(46,-1)]⟩,⟨0,[(47,1)]⟩,⟨1048576,[(47,-1)]⟩,⟨0,[(48,1)]⟩,⟨1048576,[(48,-1)]⟩], .join [⟨0,[(54,1)]⟩,⟨1,[(54,-1)]⟩,⟨0,[(56,1)]⟩,⟨1048576,[(56,-1)]⟩,⟨0,[(57,1)]⟩,⟨1048576,[(57,-1)]⟩,⟨0,[(58,1)]⟩,⟨1048576,[(58,-1)]⟩,⟨0,[(59,1)]⟩,⟨1,[(59,-1)]⟩,⟨0,[(60,1)]⟩,⟨1,[(60,-1)]⟩,⟨0,[(61,1)]⟩,⟨1,[(61,-1)]⟩,⟨0,[(62,1)]⟩,⟨1,[(62,-1)]⟩,⟨0,[(64,1)]⟩,⟨1048576,[(64,-1)]⟩,⟨0,[(65,1)]⟩,⟨1048576,[(65,-1)]⟩,⟨0,[(66,1)]⟩,⟨1048576,[(66,-1)]⟩], .join [⟨0,[(36,1)]⟩,⟨1,[(36,-1)]⟩,⟨0,[(39,1)]⟩,⟨1048576,[(39,-1)]⟩,⟨0,[(40,1)]⟩,⟨1048576,[(40,-1)]⟩,⟨0,[(41,1)]⟩,⟨1048576,[(41,-1)]⟩]]
def t_l9Made:List (Nat×Ctr):=[(66,zem),(24,zbs),(42,c_l1Below),(44,zdq),(77,zcb),(78,zct),(79,zd4),(86,zch),(26,zdi),(71,zbt),(87,ze8),(88,c_LogPut),(89,zgy)]
theorem k1_l9Made:check ⟨tb 1,t_l9Made,4,1,eqs⟩ Tryz.f45 (zhq 1) [] h_l9Made=true:=by kernel_rfl
theorem k3_l9Made:check ⟨tb 3,t_l9Made,4,1,eqs⟩ Tryz.f45 (zhq 3) [] h_l9Made=true:=by kernel_rfl
theorem k5_l9Made:check ⟨tb 5,t_l9Made,4,1,eqs⟩ Tryz.f45 (zhq 5) [] h_l9Made=true:=by kernel_rfl
theorem k_l9Made {K:Int} (hK:Kt K):check ⟨tb K,t_l9Made,4,1,eqs⟩ Tryz.f45 (zhq K) [] h_l9Made=true:=by
 rcases hK with rfl | rfl | rfl
 ·exact k1_l9Made
 ·exact k3_l9Made
 ·exact k5_l9Made
def h_RunEntry:List Hn:=[]
def t_RunEntry:List (Nat×Ctr):=[(112,zep),(113,zh6),(116,zck),(70,c_SeatOf),(117,c_RunCmd),(118,zf8)]
theorem k_RunEntry:check ⟨tb0,t_RunEntry,4,1,eqs⟩ Tryz.f69 zdh [] h_RunEntry=true:=by kernel_rfl
def h_Resend (K:Int):List Hn:=[.loop [] [⟨(-K),[(5,(-K)),(15,-1),(16,(K))]⟩,⟨-1,[(5,-1),(16,1)]⟩,⟨0,[(16,1)]⟩,⟨1,[(16,1)]⟩,⟨1,[(6,1),(9,1),(16,-1)]⟩] [] ⟨1,[(6,1),(9,1),(16,-1)]⟩]
def t_Resend (K:Int):List (Nat×Ctr):=[(8,zb4 K),(24,zbs),(23,zbq K),(30,zdg K),(162,zfm K),(25,zdp),(65,zbp K),(163,c_l6Do K)]
theorem k1_Resend:check ⟨tb 1,t_Resend 1,8,4,eqs⟩ Tryz.f129 (zhg 1) [] (h_Resend 1)=true:=by kernel_rfl
theorem k3_Resend:check ⟨tb 3,t_Resend 3,8,4,eqs⟩ Tryz.f129 (zhg 3) [] (h_Resend 3)=true:=by kernel_rfl
theorem k5_Resend:check ⟨tb 5,t_Resend 5,8,4,eqs⟩ Tryz.f129 (zhg 5) [] (h_Resend 5)=true:=by kernel_rfl
theorem k_Resend {K:Int} (hK:Kt K):check ⟨tb K,t_Resend K,8,4,eqs⟩ Tryz.f129 (zhg K) [] (h_Resend K)=true:=by
 rcases hK with rfl | rfl | rfl
 ·exact k1_Resend
 ·exact k3_Resend
 ·exact k5_Resend
def h_l2DrawRight:List Hn:=[.loop [(1,0)] [⟨0,[(6,1)]⟩,⟨1,[(6,1)]⟩,⟨2097152,[(6,-1)]⟩,⟨100,[(7,-1)]⟩,⟨0,[(6,1),(7,-1)]⟩,⟨0,[(6,-1),(7,1)]⟩,⟨40,[(6,-1)]⟩] [] ⟨40,[(6,-1)]⟩, .loop [(1,1)] [⟨0,[(9,1)]⟩,⟨1,[(9,1)]⟩,⟨2097152,[(9,-1)]⟩,⟨100,[(10,-1)]⟩,⟨0,[(9,1),(10,-1)]⟩,⟨0,[(9,-1),(10,1)]⟩,⟨10,[(9,-1)]⟩] [] ⟨10,[(9,-1)]⟩, .loop [(1,1)] [⟨0,[(7,1)]⟩,⟨1,[(7,1)]⟩,⟨2097152,[(7,-1)]⟩,⟨100,[(8,-1)]⟩,⟨0,[(7,1),(8,-1)]⟩,⟨0,[(7,-1),(8,1)]⟩,⟨10,[(7,-1)]⟩] [] ⟨10,[(7,-1)]⟩]
def t_l2DrawRight:List (Nat×Ctr):=[(44,zdq),(135,zd9),(115,zhy)]
theorem k_l2DrawRight:check ⟨tb0,t_l2DrawRight,4,2,eqs⟩ Tryz.f166 zfp [] h_l2DrawRight=true:=by kernel_rfl
def h_l2Seats:List Hn:=[.loop [] [⟨0,[(4,-1),(6,2)]⟩,⟨0,[(6,1)]⟩,⟨1,[(6,1)]⟩,⟨2097152,[(6,-1)]⟩,⟨0,[(0,1),(6,-1)]⟩] [] ⟨0,[(0,1),(6,-1)]⟩]
def t_l2Seats:List (Nat×Ctr):=[]
theorem k_l2Seats:check ⟨tb0,t_l2Seats,4,4,eqs⟩ Tryz.f118 zf8 [] h_l2Seats=true:=by kernel_rfl
def h_SameLog:List Hn:=[.loop [] [⟨0,[(10,1)]⟩,⟨1,[(10,1)]⟩,⟨2097152,[(10,-1)]⟩,⟨0,[(3,1),(10,-1)]⟩] [] ⟨0,[(3,1),(10,-1)]⟩]
def t_SameLog:List (Nat×Ctr):=[(72,zir)]
theorem k_SameLog:check ⟨tb0,t_SameLog,4,1,eqs⟩ Tryz.f36 c_SameLog [] h_SameLog=true:=by kernel_rfl
def h_Turn:List Hn:=[]
def t_Turn (K:Int):List (Nat×Ctr):=[(8,zb4 K),(131,zd1 K),(21,zbi K),(161,zgk K)]
theorem k_Turn {K:Int} (hK:Kt K):check ⟨tb K,t_Turn K,4,1,eqs⟩ Tryz.f128 (c_Turn K) [] h_Turn=true:=by rcases hK with rfl | rfl | rfl <;> kernel_rfl
def h_LogFold:List Hn:=[]
def t_LogFold:List (Nat×Ctr):=[(67,zfd)]
theorem k_LogFold:check ⟨tb0,t_LogFold,4,1,eqs⟩ Tryz.f136 c_LogFold [] h_LogFold=true:=by kernel_rfl
def h_l7Take:List Hn:=[]
def t_l7Take:List (Nat×Ctr):=[(24,zbs),(26,zdi),(71,zbt),(89,zgy)]
theorem k_l7Take {K:Int} (hK:Kt K):check ⟨tb K,t_l7Take,4,1,eqs⟩ Tryz.f201 (c_l7Take K) [] h_l7Take=true:=by rcases hK with rfl | rfl | rfl <;> kernel_rfl
def h_Crash:List Hn:=[]
def t_Crash (K:Int):List (Nat×Ctr):=[(8,zb4 K),(21,zbi K)]
theorem k_Crash {K:Int} (hK:Kt K):check ⟨tb K,t_Crash K,4,1,eqs⟩ Tryz.f132 (c_Crash K) [] h_Crash=true:=by rcases hK with rfl | rfl | rfl <;> kernel_rfl
def h_EntryOk:List Hn:=[]
def t_EntryOk:List (Nat×Ctr):=[(32,zb6),(33,zah),(111,c_CmdOk)]
theorem k_EntryOk:check ⟨tb0,t_EntryOk,4,1,eqs⟩ Tryz.f113 zh6 [] h_EntryOk=true:=by kernel_rfl
def h_LogEnd:List Hn:=[]
def t_LogEnd:List (Nat×Ctr):=[(66,zem)]
theorem k_LogEnd:check ⟨tb0,t_LogEnd,4,1,eqs⟩ Tryz.f24 zbs [] h_LogEnd=true:=by kernel_rfl
def h_l1In:List Hn:=[]
def t_l1In:List (Nat×Ctr):=[]
theorem k_l1In:check ⟨tb0,t_l1In,4,1,eqs⟩ Tryz.f32 zb6 [] h_l1In=true:=by kernel_rfl
end Go.Proofs.YtckfjploafhenaaGreat.Ai
namespace Go.Proofs.YtckfjploafhenaaGreat.Ai
def h_OnOk (K:Int):List Hn:=[.join [⟨0,[(48,1)]⟩,⟨(K),[(48,-1)]⟩,⟨0,[(54,1)]⟩,⟨1048576,[(54,-1)]⟩,⟨0,[(55,1)]⟩,⟨1048576,[(55,-1)]⟩,⟨0,[(56,1)]⟩,⟨1048576,[(56,-1)]⟩,⟨0,[(57,1)]⟩,⟨1048576,[(57,-1)]⟩], .loop [] [⟨0,[(61,-1)]⟩,⟨0,[(60,1),(61,1),(62,-1)]⟩,⟨0,[(60,1),(62,-1)]⟩,⟨1,[(62,1)]⟩,⟨0,[(6,1),(9,1),(62,-1)]⟩,⟨1000000000,[(62,-1)]⟩] [] ⟨0,[(5,-1),(62,1)]⟩, .loop [] [⟨0,[(64,1)]⟩,⟨1,[(64,1)]⟩,⟨2097152,[(64,-1)]⟩,⟨0,[(57,1),(64,-1)]⟩] [] ⟨0,[(57,1),(64,-1)]⟩, .join [⟨0,[(67,1)]⟩,⟨1,[(67,-1)]⟩,⟨0,[(68,1)]⟩,⟨1,[(68,-1)]⟩,⟨0,[(69,1)]⟩,⟨1,[(69,-1)]⟩]]
def t_OnOk (K:Int):List (Nat×Ctr):=[(24,zbs),(26,zdi),(23,zbq K),(21,zbi K),(30,zdg K),(25,zdp),(22,zbn K),(29,zc6 K),(27,zcs K),(28,zg9 K)]
theorem k1_OnOk:check ⟨tb 1,t_OnOk 1,4,1,eqs⟩ Tryz.f7 (c_OnOk 1) [] (h_OnOk 1)=true:=by kernel_rfl
theorem k3_OnOk:check ⟨tb 3,t_OnOk 3,4,1,eqs⟩ Tryz.f7 (c_OnOk 3) [] (h_OnOk 3)=true:=by kernel_rfl
theorem k5_OnOk:check ⟨tb 5,t_OnOk 5,4,1,eqs⟩ Tryz.f7 (c_OnOk 5) [] (h_OnOk 5)=true:=by kernel_rfl
theorem k_OnOk {K:Int} (hK:Kt K):check ⟨tb K,t_OnOk K,4,1,eqs⟩ Tryz.f7 (c_OnOk K) [] (h_OnOk K)=true:=by
 rcases hK with rfl | rfl | rfl
 ·exact k1_OnOk
 ·exact k3_OnOk
 ·exact k5_OnOk
def h_GroupDo (K:Int):List Hn:=[.join [⟨0,[(20,1)]⟩,⟨1,[(20,-1)]⟩], .join [⟨0,[(34,1)]⟩,⟨1048576,[(34,-1)]⟩,⟨0,[(36,1)]⟩,⟨(K),[(36,-1)]⟩,⟨0,[(42,1)]⟩,⟨1048576,[(42,-1)]⟩,⟨0,[(43,1)]⟩,⟨1048576,[(43,-1)]⟩,⟨0,[(44,1)]⟩,⟨1048576,[(44,-1)]⟩,⟨0,[(45,1)]⟩,⟨1048576,[(45,-1)]⟩]]
def t_GroupDo (K:Int):List (Nat×Ctr):=[(43,zej),(122,zfc),(123,c_GoOk),(124,zhd),(125,c_l9Net),(126,zcm K),(127,c_l9Hear),(128,c_Turn K),(129,zhg K),(130,c_l9Up),(131,zd1 K),(132,c_Crash K),(133,c_Restart K),(134,zg2)]
theorem k1_GroupDo:check ⟨tb 1,t_GroupDo 1,4,2,eqs⟩ Tryz.f76 (zfh 1) [] (h_GroupDo 1)=true:=by kernel_rfl
theorem k3_GroupDo:check ⟨tb 3,t_GroupDo 3,4,2,eqs⟩ Tryz.f76 (zfh 3) [] (h_GroupDo 3)=true:=by kernel_rfl
theorem k5_GroupDo:check ⟨tb 5,t_GroupDo 5,4,2,eqs⟩ Tryz.f76 (zfh 5) [] (h_GroupDo 5)=true:=by kernel_rfl
theorem k_GroupDo {K:Int} (hK:Kt K):check ⟨tb K,t_GroupDo K,4,2,eqs⟩ Tryz.f76 (zfh K) [] (h_GroupDo K)=true:=by
 rcases hK with rfl | rfl | rfl
 ·exact k1_GroupDo
 ·exact k3_GroupDo
 ·exact k5_GroupDo
def h_l9Net:List Hn:=[.join [⟨0,[(15,1)]⟩,⟨1048576,[(15,-1)]⟩]]
def t_l9Net (K:Int):List (Nat×Ctr):=[(43,zej),(126,zcm K),(157,zib),(158,c_NetMove),(159,c_NetSpoil)]
theorem k1_l9Net:check ⟨tb 1,t_l9Net 1,4,1,eqs⟩ Tryz.f125 c_l9Net [] h_l9Net=true:=by kernel_rfl
theorem k3_l9Net:check ⟨tb 3,t_l9Net 3,4,1,eqs⟩ Tryz.f125 c_l9Net [] h_l9Net=true:=by kernel_rfl
theorem k5_l9Net:check ⟨tb 5,t_l9Net 5,4,1,eqs⟩ Tryz.f125 c_l9Net [] h_l9Net=true:=by kernel_rfl
theorem k_l9Net {K:Int} (hK:Kt K):check ⟨tb K,t_l9Net K,4,1,eqs⟩ Tryz.f125 c_l9Net [] h_l9Net=true:=by
 rcases hK with rfl | rfl | rfl
 ·exact k1_l9Net
 ·exact k3_l9Net
 ·exact k5_l9Net
def zhm:List Hn:=[.join [⟨0,[(48,1)]⟩,⟨1048576,[(48,-1)]⟩]]
def zhj (K:Int):List (Nat×Ctr):=[(24,zbs),(26,zdi),(89,zgy),(131,zd1 K),(23,zbq K),(21,zbi K),(65,zbp K),(22,zbn K),(200,c_l6Ask K)]
theorem k1_OnCommit:check ⟨tb 1,zhj 1,4,1,eqs⟩ Tryz.f177 (zee 1) [] zhm=true:=by kernel_rfl
theorem k3_OnCommit:check ⟨tb 3,zhj 3,4,1,eqs⟩ Tryz.f177 (zee 3) [] zhm=true:=by kernel_rfl
theorem k5_OnCommit:check ⟨tb 5,zhj 5,4,1,eqs⟩ Tryz.f177 (zee 5) [] zhm=true:=by kernel_rfl
theorem k_OnCommit {K:Int} (hK:Kt K):check ⟨tb K,zhj K,4,1,eqs⟩ Tryz.f177 (zee K) [] zhm=true:=by
 rcases hK with rfl | rfl | rfl
 ·exact k1_OnCommit
 ·exact k3_OnCommit
 ·exact k5_OnCommit
def h_NetOk:List Hn:=[.loop [] [⟨0,[(4,1)]⟩,⟨1,[(4,1)]⟩,⟨2097152,[(4,-1)]⟩,⟨0,[(1,1),(4,-1)]⟩] [] ⟨0,[(1,1),(4,-1)]⟩, .loop [] [⟨0,[(12,1)]⟩,⟨1,[(12,1)]⟩,⟨2097152,[(12,-1)]⟩,⟨0,[(4,1),(12,-1)]⟩] [] ⟨0,[(4,1),(12,-1)]⟩]
def t_NetOk:List (Nat×Ctr):=[(32,zb6),(33,zah),(174,zhr)]
theorem k1_NetOk:check ⟨tb 1,t_NetOk,4,1,eqs⟩ Tryz.f155 zh1 [] h_NetOk=true:=by kernel_rfl
theorem k3_NetOk:check ⟨tb 3,t_NetOk,4,1,eqs⟩ Tryz.f155 zh1 [] h_NetOk=true:=by kernel_rfl
theorem k5_NetOk:check ⟨tb 5,t_NetOk,4,1,eqs⟩ Tryz.f155 zh1 [] h_NetOk=true:=by kernel_rfl
theorem k_NetOk {K:Int} (hK:Kt K):check ⟨tb K,t_NetOk,4,1,eqs⟩ Tryz.f155 zh1 [] h_NetOk=true:=by
 rcases hK with rfl | rfl | rfl
 ·exact k1_NetOk
 ·exact k3_NetOk
 ·exact k5_NetOk
def h_l2Cells:List Hn:=[.loop [] [⟨0,[(4,-1),(6,2)]⟩,⟨0,[(6,1)]⟩,⟨1,[(6,1)]⟩,⟨2097152,[(6,-1)]⟩,⟨0,[(0,1),(6,-1)]⟩] [] ⟨0,[(0,1),(6,-1)]⟩]
def t_l2Cells:List (Nat×Ctr):=[]
theorem k_l2Cells:check ⟨tb0,t_l2Cells,4,4,eqs⟩ Tryz.f154 zd5 [] h_l2Cells=true:=by kernel_rfl
def h_l6Copy:List Hn:=[.loop [(2,10)] [⟨0,[(17,1)]⟩,⟨1,[(17,1)]⟩,⟨2097152,[(17,-1)]⟩,⟨0,[(17,1),(18,-1)]⟩,⟨0,[(17,-1),(18,1)]⟩,⟨0,[(10,1),(17,-1)]⟩] [] ⟨0,[(10,1),(17,-1)]⟩]
def t_l6Copy:List (Nat×Ctr):=[(71,zbt)]
theorem k1_l6Copy:check ⟨tb 1,t_l6Copy,4,1,eqs⟩ Tryz.f63 (ze5 1) [] h_l6Copy=true:=by kernel_rfl
theorem k3_l6Copy:check ⟨tb 3,t_l6Copy,4,1,eqs⟩ Tryz.f63 (ze5 3) [] h_l6Copy=true:=by kernel_rfl
theorem k5_l6Copy:check ⟨tb 5,t_l6Copy,4,1,eqs⟩ Tryz.f63 (ze5 5) [] h_l6Copy=true:=by kernel_rfl
theorem k_l6Copy {K:Int} (hK:Kt K):check ⟨tb K,t_l6Copy,4,1,eqs⟩ Tryz.f63 (ze5 K) [] h_l6Copy=true:=by
 rcases hK with rfl | rfl | rfl
 ·exact k1_l6Copy
 ·exact k3_l6Copy
 ·exact k5_l6Copy
def h_LogPut:List Hn:=[]
def t_LogPut:List (Nat×Ctr):=[(66,zem),(24,zbs),(113,zh6),(71,zbt)]
theorem k_LogPut:check ⟨tb0,t_LogPut,4,1,eqs⟩ Tryz.f88 c_LogPut [] h_LogPut=true:=by kernel_rfl
def h_SeatOf:List Hn:=[.loop [] [⟨0,[(4,1)]⟩,⟨1,[(4,1)]⟩,⟨2097152,[(4,-1)]⟩,⟨0,[(1,1),(4,-1)]⟩] [] ⟨0,[(1,1),(4,-1)]⟩]
def t_SeatOf:List (Nat×Ctr):=[(112,zep)]
theorem k_SeatOf:check ⟨tb0,t_SeatOf,4,1,eqs⟩ Tryz.f70 c_SeatOf [] h_SeatOf=true:=by kernel_rfl
def h_l2DrawCmd:List Hn:=[]
def t_l2DrawCmd:List (Nat×Ctr):=[(42,c_l1Below),(44,zdq)]
theorem k_l2DrawCmd:check ⟨tb0,t_l2DrawCmd,4,4,eqs⟩ Tryz.f78 zct [] h_l2DrawCmd=true:=by kernel_rfl
def h_LogFrom:List Hn:=[]
def t_LogFrom:List (Nat×Ctr):=[(114,zfa)]
theorem k_LogFrom:check ⟨tb0,t_LogFrom,4,1,eqs⟩ Tryz.f198 c_LogFrom [] h_LogFrom=true:=by kernel_rfl
def h_l4Num:List Hn:=[]
def t_l4Num:List (Nat×Ctr):=[(32,zb6)]
theorem k_l4Num:check ⟨tb0,t_l4Num,4,1,eqs⟩ Tryz.f110 zan [] h_l4Num=true:=by kernel_rfl
def h_NewReplica:List Hn:=[]
def t_NewReplica (K:Int):List (Nat×Ctr):=[(8,zb4 K)]
theorem k_NewReplica {K:Int} (hK:Kt K):check ⟨tb K,t_NewReplica K,4,1,eqs⟩ Tryz.f119 (zgn K) [] h_NewReplica=true:=by rcases hK with rfl | rfl | rfl <;> kernel_rfl
def h_l2DrawEntry:List Hn:=[]
def t_l2DrawEntry:List (Nat×Ctr):=[(42,c_l1Below),(78,zct)]
theorem k_l2DrawEntry:check ⟨tb0,t_l2DrawEntry,4,1,eqs⟩ Tryz.f87 ze8 [] h_l2DrawEntry=true:=by kernel_rfl
end Go.Proofs.YtckfjploafhenaaGreat.Ai
namespace Go.Proofs.YtckfjploafhenaaGreat.Ai
def h_GetNum:List Hn:=[.unroll 10, .join [⟨0,[(7,1)]⟩,⟨1,[(7,-1)]⟩,⟨0,[(8,1)]⟩,⟨1,[(8,-1)]⟩,⟨0,[(9,1)]⟩,⟨1,[(9,-1)]⟩,⟨0,[(14,1)]⟩,⟨255,[(14,-1)]⟩,⟨0,[(23,1)]⟩,⟨1,[(23,-1)]⟩]]
def t_GetNum:List (Nat×Ctr):=[]
theorem k_GetNum:check ⟨tb0,t_GetNum,12,1,eqs⟩ Tryz.f83 zfw [] h_GetNum=true:=by kernel_rfl
def h_UnpackLog:List Hn:=[.loop [(1,1)] [⟨0,[(14,1)]⟩,⟨1,[(14,1)]⟩,⟨2097152,[(14,-1)]⟩,⟨0,[(14,1),(15,-1)]⟩] [] ⟨-1,[(5,1),(14,-1)]⟩, .loop [(1,2)] [⟨0,[(16,1)]⟩,⟨1,[(16,1)]⟩,⟨2097152,[(16,-1)]⟩,⟨0,[(16,1),(17,-1)]⟩] [] ⟨-2,[(8,1),(16,-1)]⟩, .loop [(1,3)] [⟨0,[(18,1)]⟩,⟨1,[(18,1)]⟩,⟨2097152,[(18,-1)]⟩,⟨0,[(18,1),(19,-1)]⟩] [] ⟨-4,[(11,1),(18,-1)]⟩]
def t_UnpackLog:List (Nat×Ctr):=[(66,zem),(83,zfw),(138,c_l4Rows)]
theorem k_UnpackLog:check ⟨tb0,t_UnpackLog,4,1,eqs⟩ Tryz.f85 zia [] h_UnpackLog=true:=by kernel_rfl
def zfq:List Hn:=[.loop [] [⟨100,[(15,-1)]⟩,⟨-1,[(13,-1),(15,-1),(16,1)]⟩,⟨-1,[(13,-1),(16,1)]⟩,⟨0,[(16,1)]⟩,⟨1,[(16,1)]⟩] [] ⟨1,[(14,1),(16,-1)]⟩]
def zgg:List (Nat×Ctr):=[(67,zfd),(68,c_LogAt),(70,c_SeatOf),(69,zdh)]
theorem k1_l6Answers:check ⟨tb 1,zgg,4,4,eqs⟩ Tryz.f29 (zc6 1) [] zfq=true:=by kernel_rfl
theorem k3_l6Answers:check ⟨tb 3,zgg,4,4,eqs⟩ Tryz.f29 (zc6 3) [] zfq=true:=by kernel_rfl
theorem k5_l6Answers:check ⟨tb 5,zgg,4,4,eqs⟩ Tryz.f29 (zc6 5) [] zfq=true:=by kernel_rfl
theorem k_l6Answers {K:Int} (hK:Kt K):check ⟨tb K,zgg,4,4,eqs⟩ Tryz.f29 (zc6 K) [] zfq=true:=by
 rcases hK with rfl | rfl | rfl
 ·exact k1_l6Answers
 ·exact k3_l6Answers
 ·exact k5_l6Answers
def h_OnState:List Hn:=[.join [⟨0,[(61,1)]⟩,⟨1048576,[(61,-1)]⟩,⟨0,[(63,1)]⟩,⟨1,[(63,-1)]⟩]]
def t_OnState (K:Int):List (Nat×Ctr):=[(24,zbs),(131,zd1 K),(23,zbq K),(21,zbi K),(65,zbp K),(22,zbn K),(201,c_l7Take K)]
theorem k1_OnState:check ⟨tb 1,t_OnState 1,4,1,eqs⟩ Tryz.f184 (zfe 1) [] h_OnState=true:=by kernel_rfl
theorem k3_OnState:check ⟨tb 3,t_OnState 3,4,1,eqs⟩ Tryz.f184 (zfe 3) [] h_OnState=true:=by kernel_rfl
theorem k5_OnState:check ⟨tb 5,t_OnState 5,4,1,eqs⟩ Tryz.f184 (zfe 5) [] h_OnState=true:=by kernel_rfl
theorem k_OnState {K:Int} (hK:Kt K):check ⟨tb K,t_OnState K,4,1,eqs⟩ Tryz.f184 (zfe K) [] h_OnState=true:=by
 rcases hK with rfl | rfl | rfl
 ·exact k1_OnState
 ·exact k3_OnState
 ·exact k5_OnState
def h_NetMove:List Hn:=[]
def t_NetMove (K:Int):List (Nat×Ctr):=[(126,zcm K),(156,zfr)]
theorem k_NetMove {K:Int} (hK:Kt K):check ⟨tb K,t_NetMove K,4,1,eqs⟩ Tryz.f158 c_NetMove [] h_NetMove=true:=by rcases hK with rfl | rfl | rfl <;> kernel_rfl
def h_SameImage:List Hn:=[.loop [] [⟨0,[(5,1)]⟩,⟨1,[(5,1)]⟩,⟨2097152,[(5,-1)]⟩,⟨0,[(0,1),(5,-1)]⟩] [] ⟨0,[(0,1),(5,-1)]⟩, .loop [] [⟨0,[(7,1)]⟩,⟨1,[(7,1)]⟩,⟨2097152,[(7,-1)]⟩,⟨0,[(1,1),(7,-1)]⟩] [] ⟨0,[(1,1),(7,-1)]⟩]
def t_SameImage:List (Nat×Ctr):=[]
theorem k_SameImage:check ⟨tb0,t_SameImage,4,1,eqs⟩ Tryz.f72 zir [] h_SameImage=true:=by kernel_rfl
def h_Restart:List Hn:=[]
def t_Restart (K:Int):List (Nat×Ctr):=[(8,zb4 K),(21,zbi K),(30,zdg K)]
theorem k_Restart {K:Int} (hK:Kt K):check ⟨tb K,t_Restart K,4,1,eqs⟩ Tryz.f133 (c_Restart K) [] h_Restart=true:=by rcases hK with rfl | rfl | rfl <;> kernel_rfl
def h_l3DrawLog:List Hn:=[]
def t_l3DrawLog:List (Nat×Ctr):=[(42,c_l1Below),(74,c_l1PickInt),(79,zd4),(139,zg3)]
theorem k_l3DrawLog:check ⟨tb0,t_l3DrawLog,4,4,eqs⟩ Tryz.f90 zg1 [] h_l3DrawLog=true:=by kernel_rfl
def h_l6All (K:Int):List Hn:=[.loop [] [⟨(K),[(30,-1)]⟩,⟨0,[(30,-1),(31,1)]⟩,⟨0,[(31,1)]⟩,⟨1,[(31,1)]⟩,⟨2097152,[(31,-1)]⟩,⟨0,[(1,1),(31,-1)]⟩] [] ⟨0,[(1,1),(31,-1)]⟩]
def t_l6All:List (Nat×Ctr):=[(71,zbt)]
theorem k1_l6All:check ⟨tb 1,t_l6All,4,2,eqs⟩ Tryz.f30 (zdg 1) [] (h_l6All 1)=true:=by kernel_rfl
theorem k3_l6All:check ⟨tb 3,t_l6All,4,2,eqs⟩ Tryz.f30 (zdg 3) [] (h_l6All 3)=true:=by kernel_rfl
theorem k5_l6All:check ⟨tb 5,t_l6All,4,2,eqs⟩ Tryz.f30 (zdg 5) [] (h_l6All 5)=true:=by kernel_rfl
theorem k_l6All {K:Int} (hK:Kt K):check ⟨tb K,t_l6All,4,2,eqs⟩ Tryz.f30 (zdg K) [] (h_l6All K)=true:=by
 rcases hK with rfl | rfl | rfl
 ·exact k1_l6All
 ·exact k3_l6All
 ·exact k5_l6All
def h_LogAt:List Hn:=[]
def t_LogAt:List (Nat×Ctr):=[(66,zem),(24,zbs)]
theorem k_LogAt:check ⟨tb0,t_LogAt,4,1,eqs⟩ Tryz.f68 c_LogAt [] h_LogAt=true:=by kernel_rfl
def h_l7Count:List Hn:=[.loop [] [⟨0,[(3,1)]⟩,⟨1,[(3,1)]⟩,⟨2097152,[(3,-1)]⟩,⟨0,[(0,1),(3,-1)]⟩] [] ⟨0,[(0,1),(3,-1)]⟩, .join [⟨0,[(6,1)]⟩,⟨1,[(6,-1)]⟩]]
def t_l7Count:List (Nat×Ctr):=[]
theorem k_l7Count:check ⟨tb0,t_l7Count,4,1,eqs⟩ Tryz.f202 c_l7Count [] h_l7Count=true:=by kernel_rfl
def h_Committed:List Hn:=[]
def t_Committed (K:Int):List (Nat×Ctr):=[(8,zb4 K),(67,zfd)]
theorem k_Committed {K:Int} (hK:Kt K):check ⟨tb K,t_Committed K,4,1,eqs⟩ Tryz.f197 (zii K) [] h_Committed=true:=by rcases hK with rfl | rfl | rfl <;> kernel_rfl
def h_l2Copy:List Hn:=[]
def t_l2Copy:List (Nat×Ctr):=[]
theorem k_l2Copy:check ⟨tb0,t_l2Copy,4,1,eqs⟩ Tryz.f116 zck [] h_l2Copy=true:=by kernel_rfl
def h_l6Live:List Hn:=[]
def t_l6Live:List (Nat×Ctr):=[]
theorem k_l6Live {K:Int} (hK:Kt K):check ⟨tb K,t_l6Live,4,1,eqs⟩ Tryz.f131 (zd1 K) [] h_l6Live=true:=by rcases hK with rfl | rfl | rfl <;> kernel_rfl
end Go.Proofs.YtckfjploafhenaaGreat.Ai
namespace Go.Proofs.YtckfjploafhenaaGreat.Ai
variable {K:Int} {Q n c:Nat} {A:Option Addr}
theorem q_l6Of (hK:Kt K):Kept (cx K Q A n c) 31 zda:=za0 (base0 hK) Tryz.func31 rfl k_l6Of trivial
theorem zew (hK:Kt K):Kept (cx K Q A n c) 32 zb6:=za0 (base0 hK) Tryz.func32 rfl k_l1In trivial
theorem zcp (hK:Kt K):Kept (cx K Q A n c) 33 zah:=za0 (base0 hK) Tryz.func33 rfl k_l1Whole ⟨(zew hK),trivial⟩
theorem zgu (hK:Kt K):Kept (cx K Q A n c) 112 zep:=za0 (base0 hK) Tryz.func112 rfl k_ImageOk ⟨(zew hK),(zcp hK),trivial⟩
theorem q_CmdOk (hK:Kt K):Kept (cx K Q A n c) 111 c_CmdOk:=za0 (base0 hK) Tryz.func111 rfl k_CmdOk ⟨(zcp hK),trivial⟩
theorem q_EntryOk (hK:Kt K):Kept (cx K Q A n c) 113 zh6:=za0 (base0 hK) Tryz.func113 rfl k_EntryOk ⟨(zew hK),(zcp hK),(q_CmdOk hK),trivial⟩
theorem zgf (hK:Kt K):Kept (cx K Q A n c) 66 zem:=za0 (base0 hK) Tryz.func66 rfl k_LogOk ⟨(zcp hK),(zgu hK),(q_EntryOk hK),trivial⟩
theorem zc2 (hK:Kt K):Kept (cx K Q A n c) 24 zbs:=za0 (base0 hK) Tryz.func24 rfl k_LogEnd ⟨(zgf hK),trivial⟩
theorem q_l6Log (hK:Kt K):Kept (cx K Q A n c) 34 zif:=za0 (base0 hK) Tryz.func34 rfl k_l6Log ⟨(zew hK),(zgf hK),(zc2 hK),trivial⟩
theorem q_l6VoteOk (hK:Kt K):Kept (cx K Q A n c) 35 zf6:=za0 (base0 hK) Tryz.func35 rfl k_l6VoteOk ⟨(zew hK),(zcp hK),(q_l6Log hK),trivial⟩
theorem q_SameImage (hK:Kt K):Kept (cx K Q A n c) 72 zir:=za0 (base0 hK) Tryz.func72 rfl k_SameImage trivial
theorem q_SameLog (hK:Kt K):Kept (cx K Q A n c) 36 c_SameLog:=za0 (base0 hK) Tryz.func36 rfl k_SameLog ⟨(q_SameImage hK),trivial⟩
theorem zc9 (hK:Kt K):Kept (cx K Q A n c) 8 (zb4 K):=za0 (baseK hK) Tryz.func8 rfl (k_ReplicaOk hK) ⟨(q_l6Of hK),(zew hK),(zcp hK),(q_l6Log hK),(q_l6VoteOk hK),(q_SameLog hK),trivial⟩
theorem q_l4Has (hK:Kt K):Kept (cx K Q A n c) 77 zcb:=za0 (base0 hK) Tryz.func77 rfl k_l4Has trivial
theorem zeu (hK:Kt K):Kept (cx K Q A n c) 44 zdq:=za0 (base0 hK) Tryz.func44 rfl k_l1Once ⟨(zba hK),trivial⟩
theorem zeg (hK:Kt K):Kept (cx K Q A n c) 78 zct:=za0 (base0 hK) Tryz.func78 rfl k_l2DrawCmd ⟨(zba hK),(zeu hK),trivial⟩
theorem q_l2DrawEntry (hK:Kt K):Kept (cx K Q A n c) 87 ze8:=za0 (base0 hK) Tryz.func87 rfl k_l2DrawEntry ⟨(zba hK),(zeg hK),trivial⟩
theorem zgm (hK:Kt K):Kept (cx K Q A n c) 135 zd9:=za0 (base0 hK) Tryz.func135 rfl k_l2DrawEntries ⟨(zba hK),(zeu hK),(q_l2DrawEntry hK),trivial⟩
theorem q_l3Among (hK:Kt K):Kept (cx K Q A n c) 114 zfa:=za0 (base0 hK) Tryz.func114 rfl k_l3Among ⟨(zew hK),(zgf hK),(zc2 hK),trivial⟩
theorem q_l2Copy (hK:Kt K):Kept (cx K Q A n c) 116 zck:=za0 (base0 hK) Tryz.func116 rfl k_l2Copy trivial
theorem q_SeatOf (hK:Kt K):Kept (cx K Q A n c) 70 c_SeatOf:=za0 (base0 hK) Tryz.func70 rfl k_SeatOf ⟨(zgu hK),trivial⟩
theorem zfn (hK:Kt K):Kept (cx K Q A n c) 26 zdi:=za0 (base0 hK) Tryz.func26 rfl k_l1Max trivial
theorem q_CellAt (hK:Kt K):Kept (cx K Q A n c) 153 c_CellAt:=za0 (base0 hK) Tryz.func153 rfl k_CellAt ⟨(zgu hK),trivial⟩
theorem q_l2Cells (hK:Kt K):Kept (cx K Q A n c) 154 zd5:=za0 (base0 hK) Tryz.func154 rfl k_l2Cells trivial
theorem q_RunCmd (hK:Kt K):Kept (cx K Q A n c) 117 c_RunCmd:=za0 (base0 hK) Tryz.func117 rfl k_RunCmd ⟨(zgu hK),(zfn hK),(q_CmdOk hK),(q_l2Copy hK),(q_CellAt hK),(q_l2Cells hK),trivial⟩
theorem q_l2Seats (hK:Kt K):Kept (cx K Q A n c) 118 zf8:=za0 (base0 hK) Tryz.func118 rfl k_l2Seats trivial
theorem q_RunEntry (hK:Kt K):Kept (cx K Q A n c) 69 zdh:=za0 (base0 hK) Tryz.func69 rfl k_RunEntry ⟨(zgu hK),(q_EntryOk hK),(q_l2Copy hK),(q_SeatOf hK),(q_RunCmd hK),(q_l2Seats hK),trivial⟩
theorem q_RunAll (hK:Kt K):Kept (cx K Q A n c) 115 zhy:=za0 (base0 hK) Tryz.func115 rfl k_RunAll ⟨(q_l2Copy hK),(q_RunEntry hK),trivial⟩
theorem q_LogImage (hK:Kt K):Kept (cx K Q A n c) 67 zfd:=za0 (base0 hK) Tryz.func67 rfl k_LogImage ⟨(q_l3Among hK),(q_RunAll hK),trivial⟩
theorem q_LogFold (hK:Kt K):Kept (cx K Q A n c) 136 c_LogFold:=za0 (base0 hK) Tryz.func136 rfl k_LogFold ⟨(q_LogImage hK),trivial⟩
theorem zg4 (hK:Kt K):Kept (cx K Q A n c) 79 zd4:=za0 (base0 hK) Tryz.func79 rfl k_l3DrawRight ⟨(zba hK),(zeu hK),(zgm hK),(q_LogFold hK),trivial⟩
theorem q_l4Set (hK:Kt K):Kept (cx K Q A n c) 80 c_l4Set:=za0 (base0 hK) Tryz.func80 rfl k_l4Set trivial
theorem q_l4DrawRight (hK:Kt K):Kept (cx K Q A n c) 41 ze2:=za0 (base0 hK) Tryz.func41 rfl k_l4DrawRight ⟨(zba hK),(q_l4Has hK),(zeg hK),(zg4 hK),(q_l4Set hK),trivial⟩
theorem q_GetNum (hK:Kt K):Kept (cx K Q A n c) 83 zfw:=za0 (base0 hK) Tryz.func83 rfl k_GetNum trivial
theorem q_Crc (hK:Kt K):Kept (cx K Q A n c) 137 c_Crc:=za0 (base0 hK) Tryz.func137 rfl k_Crc trivial
theorem q_Unframe (hK:Kt K):Kept (cx K Q A n c) 82 c_Unframe:=za0 (base0 hK) Tryz.func82 rfl k_Unframe ⟨(q_GetNum hK),(q_Crc hK),trivial⟩
theorem q_GetNums (hK:Kt K):Kept (cx K Q A n c) 84 c_GetNums:=za0 (base0 hK) Tryz.func84 rfl k_GetNums ⟨(zew hK),(q_GetNum hK),trivial⟩
theorem q_l4Rows (hK:Kt K):Kept (cx K Q A n c) 138 c_l4Rows:=za0 (base0 hK) Tryz.func138 rfl k_l4Rows ⟨(q_GetNum hK),(q_GetNums hK),trivial⟩
theorem q_UnpackLog (hK:Kt K):Kept (cx K Q A n c) 85 zia:=za0 (base0 hK) Tryz.func85 rfl k_UnpackLog ⟨(zgf hK),(q_GetNum hK),(q_l4Rows hK),trivial⟩
theorem q_l4In (hK:Kt K):Kept (cx K Q A n c) 86 zch:=za0 (base0 hK) Tryz.func86 rfl k_l4In trivial
theorem q_l4Num (hK:Kt K):Kept (cx K Q A n c) 110 zan:=za0 (base0 hK) Tryz.func110 rfl k_l4Num ⟨(zew hK),trivial⟩
theorem q_MsgFits (hK:Kt K):Kept (cx K Q A n c) 64 zgs:=za0 (base0 hK) Tryz.func64 rfl k_MsgFits ⟨(zew hK),(q_SameLog hK),(zgf hK),(zc2 hK),(q_l4Has hK),(q_l4In hK),(q_CmdOk hK),(q_l4Num hK),trivial⟩
theorem zih (hK:Kt K):Kept (cx K Q A n c) 43 zej:=za0 (base0 hK) Tryz.func43 rfl k_UnpackMsg ⟨(q_l4Has hK),(q_l4Set hK),(q_Unframe hK),(q_GetNum hK),(q_GetNums hK),(q_UnpackLog hK),(q_MsgFits hK),trivial⟩
theorem zcq (hK:Kt K):Kept (cx K Q A n c) 71 zbt:=za0 (base0 hK) Tryz.func71 rfl k_l3Copy ⟨(q_l2Copy hK),trivial⟩
theorem q_LogPut (hK:Kt K):Kept (cx K Q A n c) 88 c_LogPut:=za0 (base0 hK) Tryz.func88 rfl k_LogPut ⟨(zgf hK),(zc2 hK),(q_EntryOk hK),(zcq hK),trivial⟩
theorem q_l1Min (hK:Kt K):Kept (cx K Q A n c) 89 zgy:=za0 (base0 hK) Tryz.func89 rfl k_l1Min trivial
theorem q_l9Made (hK:Kt K):Kept (cx K Q A n c) 45 (zhq K):=za0 (baseK hK) Tryz.func45 rfl (k_l9Made hK) ⟨(zgf hK),(zc2 hK),(zba hK),(zeu hK),(q_l4Has hK),(zeg hK),(zg4 hK),(q_l4In hK),(zfn hK),(zcq hK),(q_l2DrawEntry hK),(q_LogPut hK),(q_l1Min hK),trivial⟩
theorem zer (hK:Kt K):Kept (cx K Q A n c) 74 c_l1PickInt:=za0 (base0 hK) Tryz.func74 rfl k_l1PickInt ⟨(zba hK),trivial⟩
theorem q_l2DrawRight (hK:Kt K):Kept (cx K Q A n c) 166 zfp:=za0 (base0 hK) Tryz.func166 rfl k_l2DrawRight ⟨(zeu hK),(zgm hK),(q_RunAll hK),trivial⟩
theorem q_l2DrawImage (hK:Kt K):Kept (cx K Q A n c) 139 zg3:=za0 (base0 hK) Tryz.func139 rfl k_l2DrawImage ⟨(zba hK),(zer hK),(q_l2DrawRight hK),trivial⟩
theorem q_l3DrawLog (hK:Kt K):Kept (cx K Q A n c) 90 zg1:=za0 (base0 hK) Tryz.func90 rfl k_l3DrawLog ⟨(zba hK),(zer hK),(zg4 hK),(q_l2DrawImage hK),trivial⟩
theorem q_l2DrawAny (hK:Kt K):Kept (cx K Q A n c) 91 zik:=za0 (base0 hK) Tryz.func91 rfl k_l2DrawAny ⟨(zba hK),(zer hK),(zeg hK),trivial⟩
theorem q_l4DrawMsg (hK:Kt K):Kept (cx K Q A n c) 46 zic:=za0 (base0 hK) Tryz.func46 rfl k_l4DrawMsg ⟨(q_l4DrawRight hK),(zba hK),(zer hK),(q_l3DrawLog hK),(q_l2DrawAny hK),trivial⟩
theorem q_l9Spoil (hK:Kt K):Kept (cx K Q A n c) 47 (zfk K):=za0 (baseK hK) Tryz.func47 rfl (k_l9Spoil hK) ⟨(zba hK),(zer hK),(q_l3DrawLog hK),trivial⟩
theorem q_NewReplica (hK:Kt K):Kept (cx K Q A n c) 119 (zgn K):=za0 (baseK hK) Tryz.func119 rfl (k_NewReplica hK) ⟨(zc9 hK),trivial⟩
theorem q_NewGroup (hK:Kt K):Kept (cx K Q A n c) 73 (zec K):=za0 (baseK hK) Tryz.func73 rfl (k_NewGroup hK) ⟨(q_l6Of hK),(q_NewReplica hK),trivial⟩
theorem zc5 (hK:Kt K):Kept (cx K Q A n c) 65 (zbp K):=za0 (baseK hK) Tryz.func65 rfl (k_PrimaryOf hK) ⟨(q_l6Of hK),(zcp hK),trivial⟩
theorem zdw (hK:Kt K):Kept (cx K Q A n c) 23 (zbq K):=za0 (baseK hK) Tryz.func23 rfl (k_l6Leads hK) ⟨(zc5 hK),trivial⟩
theorem q_l9Leader (hK:Kt K):Kept (cx K Q A n c) 120 zeb:=za0 (baseK hK) Tryz.func120 rfl (k_l9Leader hK) ⟨(zba hK),(zeu hK),(zdw hK),trivial⟩
theorem q_l9Soon (hK:Kt K):Kept (cx K Q A n c) 121 c_l9Soon:=za0 (base0 hK) Tryz.func121 rfl k_l9Soon ⟨(zba hK),(zeu hK),(q_l1Min hK),trivial⟩
theorem q_l9DrawGo (hK:Kt K):Kept (cx K Q A n c) 75 zea:=za0 (baseK hK) Tryz.func75 rfl (k_l9DrawGo hK) ⟨(zba hK),(zeg hK),(zfn hK),(q_l9Leader hK),(q_l9Soon hK),trivial⟩
theorem q_l5Flight (hK:Kt K):Kept (cx K Q A n c) 174 zhr:=za0 (baseK hK) Tryz.func174 rfl (k_l5Flight hK) ⟨(zew hK),trivial⟩
theorem q_NetOk (hK:Kt K):Kept (cx K Q A n c) 155 zh1:=za0 (baseK hK) Tryz.func155 rfl (k_NetOk hK) ⟨(zew hK),(zcp hK),(q_l5Flight hK),trivial⟩
theorem q_GroupOk (hK:Kt K):Kept (cx K Q A n c) 122 zfc:=za0 (baseK hK) Tryz.func122 rfl (k_GroupOk hK) ⟨(zc9 hK),(q_l6Of hK),(zew hK),(zcp hK),(q_NetOk hK),trivial⟩
theorem q_GoOk (hK:Kt K):Kept (cx K Q A n c) 123 c_GoOk:=za0 (base0 hK) Tryz.func123 rfl k_GoOk ⟨(zew hK),(zcp hK),(q_CmdOk hK),trivial⟩
theorem q_l5Copy (hK:Kt K):Kept (cx K Q A n c) 156 zfr:=za0 (baseK hK) Tryz.func156 rfl (k_l5Copy hK) trivial
theorem q_l6Copy (hK:Kt K):Kept (cx K Q A n c) 63 (ze5 K):=za0 (baseK hK) Tryz.func63 rfl (k_l6Copy hK) ⟨(zcq hK),trivial⟩
theorem q_l9Copy (hK:Kt K):Kept (cx K Q A n c) 124 zhd:=za0 (baseK hK) Tryz.func124 rfl (k_l9Copy hK) ⟨(q_l5Copy hK),(q_l6Copy hK),trivial⟩
theorem zgq (hK:Kt K):Kept (cx K Q A n c) 126 (zcm K):=za0 (baseK hK) Tryz.func126 rfl (k_NetTake hK) ⟨(q_NetOk hK),(q_l5Copy hK),trivial⟩
theorem q_NetSend (hK:Kt K):Kept (cx K Q A n c) 165 (c_NetSend K):=za0 (baseK hK) Tryz.func165 rfl (k_NetSend hK) ⟨(q_NetOk hK),(q_l5Copy hK),(q_l5Flight hK),trivial⟩
theorem q_NetDouble (hK:Kt K):Kept (cx K Q A n c) 157 zib:=za0 (baseK hK) Tryz.func157 rfl (k_NetDouble hK) ⟨(zgq hK),(q_NetSend hK),trivial⟩
theorem q_NetMove (hK:Kt K):Kept (cx K Q A n c) 158 c_NetMove:=za0 (baseK hK) Tryz.func158 rfl (k_NetMove hK) ⟨(zgq hK),(q_l5Copy hK),trivial⟩
theorem q_NetSpoil (hK:Kt K):Kept (cx K Q A n c) 159 c_NetSpoil:=za0 (baseK hK) Tryz.func159 rfl (k_NetSpoil hK) ⟨(zgq hK),(q_l5Copy hK),trivial⟩
theorem q_l9Net (hK:Kt K):Kept (cx K Q A n c) 125 c_l9Net:=za0 (baseK hK) Tryz.func125 rfl (k_l9Net hK) ⟨(zih hK),(zgq hK),(q_NetDouble hK),(q_NetMove hK),(q_NetSpoil hK),trivial⟩
theorem q_PutNum (hK:Kt K):Kept (cx K Q A n c) 186 c_PutNum:=za0 (base0 hK) Tryz.func186 rfl k_PutNum trivial
theorem q_PutNums (hK:Kt K):Kept (cx K Q A n c) 187 c_PutNums:=za0 (base0 hK) Tryz.func187 rfl k_PutNums ⟨(q_PutNum hK),trivial⟩
theorem q_PackLog (hK:Kt K):Kept (cx K Q A n c) 188 c_PackLog:=za0 (base0 hK) Tryz.func188 rfl k_PackLog ⟨(zgf hK),(q_PutNums hK),trivial⟩
theorem q_Frame (hK:Kt K):Kept (cx K Q A n c) 189 c_Frame:=za0 (base0 hK) Tryz.func189 rfl k_Frame ⟨(q_Crc hK),(q_PutNum hK),trivial⟩
theorem q_PackMsg (hK:Kt K):Kept (cx K Q A n c) 164 c_PackMsg:=za0 (base0 hK) Tryz.func164 rfl k_PackMsg ⟨(q_l4Has hK),(q_MsgFits hK),(q_PutNum hK),(q_PutNums hK),(q_PackLog hK),(q_Frame hK),trivial⟩
theorem q_l9Post (hK:Kt K):Kept (cx K Q A n c) 134 zg2:=za0 (baseK hK) Tryz.func134 rfl (k_l9Post hK) ⟨(q_PackMsg hK),(q_NetSend hK),trivial⟩
theorem zc7 (hK:Kt K):Kept (cx K Q A n c) 21 (zbi K):=za0 (baseK hK) Tryz.func21 rfl (k_l6Same hK) ⟨(zc9 hK),(q_l6Copy hK),trivial⟩
theorem q_l6All (hK:Kt K):Kept (cx K Q A n c) 30 (zdg K):=za0 (baseK hK) Tryz.func30 rfl (k_l6All hK) ⟨(zcq hK),trivial⟩
theorem q_LogAt (hK:Kt K):Kept (cx K Q A n c) 68 c_LogAt:=za0 (base0 hK) Tryz.func68 rfl k_LogAt ⟨(zgf hK),(zc2 hK),trivial⟩
theorem q_l6Prepare (hK:Kt K):Kept (cx K Q A n c) 162 (zfm K):=za0 (baseK hK) Tryz.func162 rfl (k_l6Prepare hK) ⟨(q_LogAt hK),trivial⟩
theorem zcg (hK:Kt K):Kept (cx K Q A n c) 22 (zbn K):=za0 (baseK hK) Tryz.func22 rfl (k_l6Hears hK) ⟨(zc9 hK),(q_MsgFits hK),trivial⟩
theorem q_Committed (hK:Kt K):Kept (cx K Q A n c) 197 (zii K):=za0 (baseK hK) Tryz.func197 rfl (k_Committed hK) ⟨(zc9 hK),(q_LogImage hK),trivial⟩
theorem q_LogFrom (hK:Kt K):Kept (cx K Q A n c) 198 c_LogFrom:=za0 (base0 hK) Tryz.func198 rfl k_LogFrom ⟨(q_l3Among hK),trivial⟩
theorem q_l6Put (hK:Kt K):Kept (cx K Q A n c) 199 (c_l6Put K):=za0 (baseK hK) Tryz.func199 rfl (k_l6Put hK) ⟨(q_LogPut hK),(q_LogFold hK),trivial⟩
theorem q_l6Answers (hK:Kt K):Kept (cx K Q A n c) 29 (zc6 K):=za0 (baseK hK) Tryz.func29 rfl (k_l6Answers hK) ⟨(q_LogImage hK),(q_LogAt hK),(q_SeatOf hK),(q_RunEntry hK),trivial⟩
theorem q_OnRequest (hK:Kt K):Kept (cx K Q A n c) 175 (zdf K):=za0 (baseK hK) Tryz.func175 rfl (k_OnRequest hK) ⟨(zc2 hK),(zdw hK),(zc7 hK),(q_l6All hK),(q_l6Prepare hK),(zcg hK),(q_SeatOf hK),(q_Committed hK),(q_LogFrom hK),(q_l6Put hK),(q_l6Answers hK),trivial⟩
theorem ze7 (hK:Kt K):Kept (cx K Q A n c) 131 (zd1 K):=za0 (baseK hK) Tryz.func131 rfl (k_l6Live hK) trivial
theorem q_l6Ask (hK:Kt K):Kept (cx K Q A n c) 200 (c_l6Ask K):=za0 (baseK hK) Tryz.func200 rfl (k_l6Ask hK) trivial
theorem q_OnPrepare (hK:Kt K):Kept (cx K Q A n c) 176 (zdd K):=za0 (baseK hK) Tryz.func176 rfl (k_OnPrepare hK) ⟨(zc2 hK),(zfn hK),(q_l1Min hK),(ze7 hK),(zdw hK),(zc7 hK),(zc5 hK),(zcg hK),(q_l6Put hK),(q_l6Ask hK),trivial⟩
theorem zi3 (hK:Kt K):Kept (cx K Q A n c) 25 zdp:=za0 (base0 hK) Tryz.func25 rfl k_l6Find trivial
theorem q_l6Vote (hK:Kt K):Kept (cx K Q A n c) 27 (zcs K):=za0 (baseK hK) Tryz.func27 rfl (k_l6Vote hK) trivial
theorem q_l6Half (hK:Kt K):Kept (cx K Q A n c) 28 (zg9 K):=za0 (baseK hK) Tryz.func28 rfl (k_l6Half hK) trivial
theorem q_OnOk (hK:Kt K):Kept (cx K Q A n c) 7 (c_OnOk K):=za0 (baseK hK) Tryz.func7 rfl (k_OnOk hK) ⟨(zc2 hK),(zfn hK),(zdw hK),(zc7 hK),(q_l6All hK),(zi3 hK),(zcg hK),(q_l6Answers hK),(q_l6Vote hK),(q_l6Half hK),trivial⟩
theorem q_OnCommit (hK:Kt K):Kept (cx K Q A n c) 177 (zee K):=za0 (baseK hK) Tryz.func177 rfl (k_OnCommit hK) ⟨(zc2 hK),(zfn hK),(q_l1Min hK),(ze7 hK),(zdw hK),(zc7 hK),(zc5 hK),(zcg hK),(q_l6Ask hK),trivial⟩
theorem q_l6Do (hK:Kt K):Kept (cx K Q A n c) 163 (c_l6Do K):=za0 (baseK hK) Tryz.func163 rfl (k_l6Do hK) ⟨(zcq hK),trivial⟩
theorem q_l7Count (hK:Kt K):Kept (cx K Q A n c) 202 c_l7Count:=za0 (base0 hK) Tryz.func202 rfl k_l7Count trivial
theorem q_l7Begin (hK:Kt K) (H:Hand K Q A n c):Kept (cx K Q A n c) 161 (zgk K):=za0 (baseK hK) Tryz.func161 rfl (k_l7Begin hK) ⟨(q_l6All hK),H.look,trivial⟩
theorem q_OnTurn (hK:Kt K) (H:Hand K Q A n c):Kept (cx K Q A n c) 178 (c_OnTurn K):=za0 (baseK hK) Tryz.func178 rfl (k_OnTurn hK) ⟨(ze7 hK),(zc7 hK),(q_l7Begin hK H),(zi3 hK),H.look,(zcg hK),(q_l6Vote hK),trivial⟩
theorem q_OnDo (hK:Kt K) (H:Hand K Q A n c):Kept (cx K Q A n c) 179 (c_OnDo K):=za0 (baseK hK) Tryz.func179 rfl (k_OnDo hK) ⟨(zcq hK),(ze7 hK),(zc7 hK),(q_l7Begin hK H),(zi3 hK),(zc5 hK),H.look,(zcg hK),(q_l6Vote hK),trivial⟩
theorem q_l7Take (hK:Kt K):Kept (cx K Q A n c) 201 (c_l7Take K):=za0 (baseK hK) Tryz.func201 rfl (k_l7Take hK) ⟨(zc2 hK),(zfn hK),(zcq hK),(q_l1Min hK),trivial⟩
theorem q_OnStart (hK:Kt K):Kept (cx K Q A n c) 180 (c_OnStart K):=za0 (baseK hK) Tryz.func180 rfl (k_OnStart hK) ⟨(zc2 hK),(ze7 hK),(zc7 hK),(zc5 hK),(zcg hK),(q_l7Take hK),trivial⟩
theorem q_OnAskBack (hK:Kt K):Kept (cx K Q A n c) 181 (zim K):=za0 (baseK hK) Tryz.func181 rfl (k_OnAskBack hK) ⟨(zcq hK),(zc7 hK),(zcg hK),trivial⟩
theorem q_OnBack (hK:Kt K):Kept (cx K Q A n c) 182 (zhb K):=za0 (baseK hK) Tryz.func182 rfl (k_OnBack hK) ⟨(zc2 hK),(zfn hK),(zcq hK),(zc7 hK),(zi3 hK),(zc5 hK),(zcg hK),(q_l6Vote hK),(q_l6Half hK),(q_l7Take hK),trivial⟩
theorem q_OnAskState (hK:Kt K):Kept (cx K Q A n c) 183 (zh2 K):=za0 (baseK hK) Tryz.func183 rfl (k_OnAskState hK) ⟨(zcq hK),(zc7 hK),(zcg hK),trivial⟩
theorem q_OnState (hK:Kt K):Kept (cx K Q A n c) 184 (zfe K):=za0 (baseK hK) Tryz.func184 rfl (k_OnState hK) ⟨(zc2 hK),(ze7 hK),(zdw hK),(zc7 hK),(zc5 hK),(zcg hK),(q_l7Take hK),trivial⟩
theorem q_OnMsg (hK:Kt K) (H:Hand K Q A n c):Kept (cx K Q A n c) 160 (c_OnMsg K):=za0 (baseK hK) Tryz.func160 rfl (k_OnMsg hK) ⟨(zc7 hK),(q_OnRequest hK),(q_OnPrepare hK),(q_OnOk hK),(q_OnCommit hK),(q_OnTurn hK H),(q_OnDo hK H),(q_OnStart hK),(q_OnAskBack hK),(q_OnBack hK),(q_OnAskState hK),(q_OnState hK),trivial⟩
theorem q_l9Hear (hK:Kt K) (H:Hand K Q A n c):Kept (cx K Q A n c) 127 c_l9Hear:=za0 (baseK hK) Tryz.func127 rfl (k_l9Hear hK) ⟨(q_l9Post hK),(q_OnMsg hK H),trivial⟩
theorem q_Turn (hK:Kt K) (H:Hand K Q A n c):Kept (cx K Q A n c) 128 (c_Turn K):=za0 (baseK hK) Tryz.func128 rfl (k_Turn hK) ⟨(zc9 hK),(ze7 hK),(zc7 hK),(q_l7Begin hK H),trivial⟩
theorem q_Resend (hK:Kt K):Kept (cx K Q A n c) 129 (zhg K):=za0 (baseK hK) Tryz.func129 rfl (k_Resend hK) ⟨(zc9 hK),(zc2 hK),(zdw hK),(q_l6All hK),(q_l6Prepare hK),(zi3 hK),(zc5 hK),(q_l6Do hK),trivial⟩
theorem q_l9Up (hK:Kt K):Kept (cx K Q A n c) 130 c_l9Up:=za0 (baseK hK) Tryz.func130 rfl (k_l9Up hK) ⟨(ze7 hK),trivial⟩
theorem q_Crash (hK:Kt K):Kept (cx K Q A n c) 132 (c_Crash K):=za0 (baseK hK) Tryz.func132 rfl (k_Crash hK) ⟨(zc9 hK),(zc7 hK),trivial⟩
theorem q_Restart (hK:Kt K):Kept (cx K Q A n c) 133 (c_Restart K):=za0 (baseK hK) Tryz.func133 rfl (k_Restart hK) ⟨(zc9 hK),(zc7 hK),(q_l6All hK),trivial⟩
theorem q_GroupDo (hK:Kt K) (H:Hand K Q A n c):Kept (cx K Q A n c) 76 (zfh K):=za0 (baseK hK) Tryz.func76 rfl (k_GroupDo hK) ⟨(zih hK),(q_GroupOk hK),(q_GoOk hK),(q_l9Copy hK),(q_l9Net hK),(zgq hK),(q_l9Hear hK H),(q_Turn hK H),(q_Resend hK),(q_l9Up hK),(ze7 hK),(q_Crash hK),(q_Restart hK),(q_l9Post hK),trivial⟩
end Go.Proofs.YtckfjploafhenaaGreat.Ai
