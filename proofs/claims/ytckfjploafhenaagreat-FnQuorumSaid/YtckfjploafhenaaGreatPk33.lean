/- Checks of the interpreter: functions against their contracts. Printed by a program. -/
import Derived.Test.YtckfjploafhenaaGreatPk14
set_option maxRecDepth 100000
set_option maxHeartbeats 16000000
set_option linter.unusedVariables false
set_option linter.unusedSimpArgs false
namespace Go.Proofs.YtckfjploafhenaaGreat.Ai
def h_PackLog:List Hn:=[.loop [] [⟨-2,[(5,1)]⟩,⟨100,[(5,-1)]⟩,⟨150,[(5,-1)]⟩,⟨600,[(5,-1)]⟩,⟨-2,[(5,1),(6,-1)]⟩,⟨2,[(5,-1),(6,2)]⟩,⟨2,[(5,-1),(6,3)]⟩,⟨2,[(5,-1),(6,5)]⟩,⟨0,[(6,1)]⟩,⟨1,[(6,1)]⟩,⟨2097152,[(6,-1)]⟩,⟨0,[(1,1),(6,-1)]⟩] [] ⟨0,[(1,1),(6,-1)]⟩, .loop [] [⟨-1,[(5,-1),(7,1)]⟩,⟨150,[(7,-1)]⟩,⟨600,[(7,-1)]⟩,⟨-1,[(5,-1),(7,1),(8,-1)]⟩,⟨1,[(5,1),(7,-1),(8,3)]⟩,⟨1,[(5,1),(7,-1),(8,5)]⟩,⟨0,[(8,1)]⟩,⟨1,[(8,1)]⟩,⟨2097152,[(8,-1)]⟩,⟨0,[(2,1),(8,-1)]⟩] [] ⟨0,[(2,1),(8,-1)]⟩, .loop [] [⟨-1,[(7,-1),(9,1)]⟩,⟨600,[(9,-1)]⟩,⟨-1,[(7,-1),(9,1),(10,-1)]⟩,⟨1,[(7,1),(9,-1),(10,5)]⟩,⟨0,[(10,1)]⟩,⟨1,[(10,1)]⟩,⟨2097152,[(10,-1)]⟩,⟨0,[(3,1),(10,-1)]⟩] [] ⟨0,[(3,1),(10,-1)]⟩]
def t_PackLog:List (Nat×Ctr):=[(66,zem),(187,c_PutNums)]
theorem k_PackLog:check ⟨tb0,t_PackLog,4,1,eqs⟩ Tryz.f188 c_PackLog [] h_PackLog=true:=by kernel_rfl
def zfx:List Hn:=[.join [⟨0,[(49,1)]⟩,⟨1048576,[(49,-1)]⟩,⟨0,[(50,1)]⟩,⟨1048576,[(50,-1)]⟩,⟨0,[(51,1)]⟩,⟨1048576,[(51,-1)]⟩]]
def zft (K:Int):List (Nat×Ctr):=[(24,zbs),(26,zdi),(89,zgy),(131,zd1 K),(23,zbq K),(21,zbi K),(65,zbp K),(22,zbn K),(199,c_l6Put K),(200,c_l6Ask K)]
theorem k1_OnPrepare:check ⟨tb 1,zft 1,4,1,eqs⟩ Tryz.f176 (zdd 1) [] zfx=true:=by kernel_rfl
theorem k3_OnPrepare:check ⟨tb 3,zft 3,4,1,eqs⟩ Tryz.f176 (zdd 3) [] zfx=true:=by kernel_rfl
theorem k5_OnPrepare:check ⟨tb 5,zft 5,4,1,eqs⟩ Tryz.f176 (zdd 5) [] zfx=true:=by kernel_rfl
theorem k_OnPrepare {K:Int} (hK:Kt K):check ⟨tb K,zft K,4,1,eqs⟩ Tryz.f176 (zdd K) [] zfx=true:=by
 rcases hK with rfl | rfl | rfl
 ·exact k1_OnPrepare
 ·exact k3_OnPrepare
 ·exact k5_OnPrepare
def zg5:List Hn:=[.loop [] [⟨0,[(21,1)]⟩,⟨1,[(21,1)]⟩,⟨2097152,[(21,-1)]⟩,⟨0,[(10,1),(21,-1)]⟩] [] ⟨0,[(10,1),(21,-1)]⟩, .join [⟨0,[(22,1)]⟩,⟨1,[(22,-1)]⟩]]
def zgb:List (Nat×Ctr):=[(31,zda),(32,zb6),(33,zah),(34,zif),(35,zf6),(36,c_SameLog)]
theorem k1_ReplicaOk:check ⟨tb 1,zgb,4,1,eqs⟩ Tryz.f8 (zb4 1) [] zg5=true:=by kernel_rfl
theorem k3_ReplicaOk:check ⟨tb 3,zgb,4,1,eqs⟩ Tryz.f8 (zb4 3) [] zg5=true:=by kernel_rfl
theorem k5_ReplicaOk:check ⟨tb 5,zgb,4,1,eqs⟩ Tryz.f8 (zb4 5) [] zg5=true:=by kernel_rfl
theorem k_ReplicaOk {K:Int} (hK:Kt K):check ⟨tb K,zgb,4,1,eqs⟩ Tryz.f8 (zb4 K) [] zg5=true:=by
 rcases hK with rfl | rfl | rfl
 ·exact k1_ReplicaOk
 ·exact k3_ReplicaOk
 ·exact k5_ReplicaOk
def h_OnStart:List Hn:=[]
def t_OnStart (K:Int):List (Nat×Ctr):=[(24,zbs),(131,zd1 K),(21,zbi K),(65,zbp K),(22,zbn K),(201,c_l7Take K)]
theorem k_OnStart {K:Int} (hK:Kt K):check ⟨tb K,t_OnStart K,4,1,eqs⟩ Tryz.f180 (c_OnStart K) [] h_OnStart=true:=by rcases hK with rfl | rfl | rfl <;> kernel_rfl
def h_l9Spoil:List Hn:=[.loop [(0,10)] [⟨0,[(10,-1),(14,1)]⟩] [] ⟨22,[(14,-1)]⟩, .join [⟨0,[(14,1)]⟩,⟨1,[(14,-1)]⟩,⟨0,[(15,1)]⟩,⟨1,[(15,-1)]⟩,⟨0,[(21,1)]⟩,⟨1048576,[(21,-1)]⟩,⟨0,[(22,1)]⟩,⟨1048576,[(22,-1)]⟩,⟨0,[(23,1)]⟩,⟨1048576,[(23,-1)]⟩,⟨0,[(24,1)]⟩,⟨1048576,[(24,-1)]⟩]]
def t_l9Spoil:List (Nat×Ctr):=[(42,c_l1Below),(74,c_l1PickInt),(90,zg1)]
theorem k1_l9Spoil:check ⟨tb 1,t_l9Spoil,4,1,eqs⟩ Tryz.f47 (zfk 1) [] h_l9Spoil=true:=by kernel_rfl
theorem k3_l9Spoil:check ⟨tb 3,t_l9Spoil,4,1,eqs⟩ Tryz.f47 (zfk 3) [] h_l9Spoil=true:=by kernel_rfl
theorem k5_l9Spoil:check ⟨tb 5,t_l9Spoil,4,1,eqs⟩ Tryz.f47 (zfk 5) [] h_l9Spoil=true:=by kernel_rfl
theorem k_l9Spoil {K:Int} (hK:Kt K):check ⟨tb K,t_l9Spoil,4,1,eqs⟩ Tryz.f47 (zfk K) [] h_l9Spoil=true:=by
 rcases hK with rfl | rfl | rfl
 ·exact k1_l9Spoil
 ·exact k3_l9Spoil
 ·exact k5_l9Spoil
def h_l4Rows:List Hn:=[]
def t_l4Rows:List (Nat×Ctr):=[(83,zfw),(84,c_GetNums)]
theorem k_l4Rows:check ⟨tb0,t_l4Rows,4,1,eqs⟩ Tryz.f138 c_l4Rows [] h_l4Rows=true:=by kernel_rfl
def h_OnAskBack:List Hn:=[]
def t_OnAskBack (K:Int):List (Nat×Ctr):=[(71,zbt),(21,zbi K),(22,zbn K)]
theorem k_OnAskBack {K:Int} (hK:Kt K):check ⟨tb K,t_OnAskBack K,4,1,eqs⟩ Tryz.f181 (zim K) [] h_OnAskBack=true:=by rcases hK with rfl | rfl | rfl <;> kernel_rfl
def h_Frame:List Hn:=[]
def t_Frame:List (Nat×Ctr):=[(137,c_Crc),(186,c_PutNum)]
theorem k_Frame:check ⟨tb0,t_Frame,4,1,eqs⟩ Tryz.f189 c_Frame [] h_Frame=true:=by kernel_rfl
def h_NetDouble:List Hn:=[]
def t_NetDouble (K:Int):List (Nat×Ctr):=[(126,zcm K),(165,c_NetSend K)]
theorem k_NetDouble {K:Int} (hK:Kt K):check ⟨tb K,t_NetDouble K,4,1,eqs⟩ Tryz.f157 zib [] h_NetDouble=true:=by rcases hK with rfl | rfl | rfl <;> kernel_rfl
def h_l6Find:List Hn:=[.loop [] [⟨0,[(3,1)]⟩,⟨0,[(3,-1)]⟩,⟨1,[(3,1)]⟩,⟨2097152,[(3,-1)]⟩,⟨0,[(3,-1),(4,1)]⟩,⟨0,[(4,1)]⟩,⟨1,[(4,1)]⟩,⟨2097152,[(4,-1)]⟩,⟨0,[(0,1),(4,-1)]⟩] [] ⟨0,[(0,1),(4,-1)]⟩]
def t_l6Find:List (Nat×Ctr):=[]
theorem k_l6Find:check ⟨tb0,t_l6Find,4,1,eqs⟩ Tryz.f25 zdp [] h_l6Find=true:=by kernel_rfl
def h_l6Prepare:List Hn:=[]
def t_l6Prepare:List (Nat×Ctr):=[(68,c_LogAt)]
theorem k_l6Prepare {K:Int} (hK:Kt K):check ⟨tb K,t_l6Prepare,4,1,eqs⟩ Tryz.f162 (zfm K) [] h_l6Prepare=true:=by rcases hK with rfl | rfl | rfl <;> kernel_rfl
def h_l6Do:List Hn:=[]
def t_l6Do:List (Nat×Ctr):=[(71,zbt)]
theorem k_l6Do {K:Int} (hK:Kt K):check ⟨tb K,t_l6Do,4,1,eqs⟩ Tryz.f163 (c_l6Do K) [] h_l6Do=true:=by rcases hK with rfl | rfl | rfl <;> kernel_rfl
def h_PrimaryOf:List Hn:=[]
def t_PrimaryOf:List (Nat×Ctr):=[(31,zda),(33,zah)]
theorem k_PrimaryOf {K:Int} (hK:Kt K):check ⟨tb K,t_PrimaryOf,4,1,eqs⟩ Tryz.f65 (zbp K) [] h_PrimaryOf=true:=by rcases hK with rfl | rfl | rfl <;> kernel_rfl
def h_l1PickInt:List Hn:=[]
def t_l1PickInt:List (Nat×Ctr):=[(42,c_l1Below)]
theorem k_l1PickInt:check ⟨tb0,t_l1PickInt,4,4,eqs⟩ Tryz.f74 c_l1PickInt [] h_l1PickInt=true:=by kernel_rfl
def h_l1Max:List Hn:=[]
def t_l1Max:List (Nat×Ctr):=[]
theorem k_l1Max:check ⟨tb0,t_l1Max,4,1,eqs⟩ Tryz.f26 zdi [] h_l1Max=true:=by kernel_rfl
end Go.Proofs.YtckfjploafhenaaGreat.Ai
namespace Go.Proofs.YtckfjploafhenaaGreat.Ai
def h_PackMsg:List Hn:=[.loop [] [⟨0,[(19,-1),(20,1)]⟩,⟨0,[(19,1),(20,-1),(21,50000)]⟩,⟨0,[(21,1)]⟩,⟨1,[(21,1)]⟩,⟨2097152,[(21,-1)]⟩,⟨0,[(18,1),(21,-1)]⟩] [] ⟨0,[(18,1),(21,-1)]⟩]
def t_PackMsg:List (Nat×Ctr):=[(77,zcb),(64,zgs),(186,c_PutNum),(187,c_PutNums),(188,c_PackLog),(189,c_Frame)]
theorem k_PackMsg:check ⟨tb0,t_PackMsg,4,20,eqs⟩ Tryz.f164 c_PackMsg [] h_PackMsg=true:=by kernel_rfl
def h_MsgFits:List Hn:=[]
def t_MsgFits:List (Nat×Ctr):=[(32,zb6),(36,c_SameLog),(66,zem),(24,zbs),(77,zcb),(86,zch),(111,c_CmdOk),(110,zan)]
theorem k_MsgFits:check ⟨tb0,t_MsgFits,4,1,eqs⟩ Tryz.f64 zgs [] h_MsgFits=true:=by kernel_rfl
def zhv:List Hn:=[.join [⟨0,[(7,1)]⟩,⟨1,[(7,-1)]⟩], .join [⟨0,[(8,1)]⟩,⟨1,[(8,-1)]⟩], .join [⟨0,[(9,1)]⟩,⟨1,[(9,-1)]⟩], .join [⟨0,[(10,1)]⟩,⟨1,[(10,-1)]⟩], .loop [] [⟨0,[(11,1)]⟩,⟨1,[(11,1)]⟩,⟨2097152,[(11,-1)]⟩,⟨0,[(0,1),(11,-1)]⟩] [] ⟨0,[(0,1),(11,-1)]⟩, .join [⟨0,[(7,1)]⟩,⟨1,[(7,-1)]⟩,⟨0,[(8,1)]⟩,⟨1,[(8,-1)]⟩,⟨0,[(9,1)]⟩,⟨1,[(9,-1)]⟩,⟨0,[(10,1)]⟩,⟨1,[(10,-1)]⟩,⟨0,[(11,1)]⟩,⟨1,[(11,-1)]⟩,⟨0,[(12,1)]⟩,⟨1,[(12,-1)]⟩,⟨0,[(13,1)]⟩,⟨1,[(13,-1)]⟩,⟨0,[(14,1)]⟩,⟨1,[(14,-1)]⟩,⟨0,[(15,1)]⟩,⟨1,[(15,-1)]⟩,⟨0,[(16,1)]⟩,⟨1,[(16,-1)]⟩]]
def zi1:List (Nat×Ctr):=[(42,c_l1Below),(78,zct),(26,zdi),(120,zeb),(121,c_l9Soon)]
theorem k1_l9DrawGo:check ⟨tb 1,zi1,4,1,eqs⟩ Tryz.f75 zea [] zhv=true:=by kernel_rfl
theorem k3_l9DrawGo:check ⟨tb 3,zi1,4,1,eqs⟩ Tryz.f75 zea [] zhv=true:=by kernel_rfl
theorem k5_l9DrawGo:check ⟨tb 5,zi1,4,1,eqs⟩ Tryz.f75 zea [] zhv=true:=by kernel_rfl
theorem k_l9DrawGo {K:Int} (hK:Kt K):check ⟨tb K,zi1,4,1,eqs⟩ Tryz.f75 zea [] zhv=true:=by
 rcases hK with rfl | rfl | rfl
 ·exact k1_l9DrawGo
 ·exact k3_l9DrawGo
 ·exact k5_l9DrawGo
def h_RunCmd:List Hn:=[.join []]
def t_RunCmd:List (Nat×Ctr):=[(112,zep),(26,zdi),(111,c_CmdOk),(116,zck),(153,c_CellAt),(154,zd5)]
theorem k_RunCmd:check ⟨tb0,t_RunCmd,4,1,eqs⟩ Tryz.f117 c_RunCmd [] h_RunCmd=true:=by kernel_rfl
def h_OnTurn:List Hn:=[]
def t_OnTurn (K:Int):List (Nat×Ctr):=[(131,zd1 K),(21,zbi K),(161,zgk K),(25,zdp),(185,zc1 K),(22,zbn K),(27,zcs K)]
theorem k_OnTurn {K:Int} (hK:Kt K):check ⟨tb K,t_OnTurn K,4,2,eqs⟩ Tryz.f178 (c_OnTurn K) [] h_OnTurn=true:=by rcases hK with rfl | rfl | rfl <;> kernel_rfl
def h_OnAskState:List Hn:=[]
def t_OnAskState (K:Int):List (Nat×Ctr):=[(71,zbt),(21,zbi K),(22,zbn K)]
theorem k_OnAskState {K:Int} (hK:Kt K):check ⟨tb K,t_OnAskState K,4,1,eqs⟩ Tryz.f183 (zh2 K) [] h_OnAskState=true:=by rcases hK with rfl | rfl | rfl <;> kernel_rfl
def h_LogOk:List Hn:=[.loop [] [⟨0,[(8,1)]⟩,⟨1,[(8,1)]⟩,⟨2097152,[(8,-1)]⟩,⟨0,[(3,1),(8,-1)]⟩] [] ⟨0,[(3,1),(8,-1)]⟩]
def t_LogOk:List (Nat×Ctr):=[(33,zah),(112,zep),(113,zh6)]
theorem k_LogOk:check ⟨tb0,t_LogOk,4,1,eqs⟩ Tryz.f66 zem [] h_LogOk=true:=by kernel_rfl
def h_l4Has:List Hn:=[.join [⟨0,[(1,1)]⟩,⟨1,[(1,-1)]⟩], .join [⟨0,[(2,1)]⟩,⟨1,[(2,-1)]⟩]]
def t_l4Has:List (Nat×Ctr):=[]
theorem k_l4Has:check ⟨tb0,t_l4Has,4,1,eqs⟩ Tryz.f77 zcb [] h_l4Has=true:=by kernel_rfl
def h_l7Begin:List Hn:=[]
def t_l7Begin (K:Int):List (Nat×Ctr):=[(30,zdg K),(185,zc1 K)]
theorem k_l7Begin {K:Int} (hK:Kt K):check ⟨tb K,t_l7Begin K,4,1,eqs⟩ Tryz.f161 (zgk K) [] h_l7Begin=true:=by rcases hK with rfl | rfl | rfl <;> kernel_rfl
def h_l2DrawEntries:List Hn:=[.loop [] [⟨60,[(3,-1)]⟩,⟨0,[(3,-1),(4,1)]⟩,⟨0,[(3,1),(4,-1)]⟩,⟨0,[(4,1)]⟩,⟨1,[(4,1)]⟩,⟨2097152,[(4,-1)]⟩,⟨60,[(4,-1)]⟩] [] ⟨60,[(4,-1)]⟩, .loop [] [⟨0,[(3,-1),(4,1)]⟩,⟨0,[(3,1),(4,-1)]⟩,⟨0,[(4,1)]⟩,⟨1,[(4,1)]⟩,⟨2097152,[(4,-1)]⟩,⟨0,[(1,1),(4,-1)]⟩] [] ⟨0,[(1,1),(4,-1)]⟩]
def t_l2DrawEntries:List (Nat×Ctr):=[(42,c_l1Below),(44,zdq),(87,ze8)]
theorem k_l2DrawEntries:check ⟨tb0,t_l2DrawEntries,4,2,eqs⟩ Tryz.f135 zd9 [] h_l2DrawEntries=true:=by kernel_rfl
def h_PutNums:List Hn:=[.loop [] [⟨0,[(1,-1),(2,10)]⟩,⟨0,[(2,1)]⟩,⟨1,[(2,1)]⟩,⟨2097152,[(2,-1)]⟩,⟨0,[(0,1),(2,-1)]⟩] [] ⟨0,[(0,1),(2,-1)]⟩]
def t_PutNums:List (Nat×Ctr):=[(186,c_PutNum)]
theorem k_PutNums:check ⟨tb0,t_PutNums,4,1,eqs⟩ Tryz.f187 c_PutNums [] h_PutNums=true:=by kernel_rfl
def h_l3Among:List Hn:=[]
def t_l3Among:List (Nat×Ctr):=[(32,zb6),(66,zem),(24,zbs)]
theorem k_l3Among:check ⟨tb0,t_l3Among,4,1,eqs⟩ Tryz.f114 zfa [] h_l3Among=true:=by kernel_rfl
def h_l6Of:List Hn:=[]
def t_l6Of:List (Nat×Ctr):=[]
theorem k_l6Of:check ⟨tb0,t_l6Of,4,1,eqs⟩ Tryz.f31 zda [] h_l6Of=true:=by kernel_rfl
def h_l6Same:List Hn:=[]
def t_l6Same (K:Int):List (Nat×Ctr):=[(8,zb4 K),(63,ze5 K)]
theorem k_l6Same {K:Int} (hK:Kt K):check ⟨tb K,t_l6Same K,4,1,eqs⟩ Tryz.f21 (zbi K) [] h_l6Same=true:=by rcases hK with rfl | rfl | rfl <;> kernel_rfl
def h_l1Min:List Hn:=[]
def t_l1Min:List (Nat×Ctr):=[]
theorem k_l1Min:check ⟨tb0,t_l1Min,4,1,eqs⟩ Tryz.f89 zgy [] h_l1Min=true:=by kernel_rfl
end Go.Proofs.YtckfjploafhenaaGreat.Ai
namespace Go.Proofs.YtckfjploafhenaaGreat.Ai
def h_GroupOk:List Hn:=[.loop [] [⟨0,[(8,1)]⟩,⟨1,[(8,1)]⟩,⟨2097152,[(8,-1)]⟩,⟨0,[(0,1),(8,-1)]⟩] [] ⟨0,[(0,1),(8,-1)]⟩, .loop [] [⟨0,[(10,1)]⟩,⟨1,[(10,1)]⟩,⟨2097152,[(10,-1)]⟩,⟨0,[(3,1),(10,-1)]⟩] [] ⟨0,[(3,1),(10,-1)]⟩, .loop [] [⟨0,[(12,1)]⟩,⟨1,[(12,1)]⟩,⟨2097152,[(12,-1)]⟩,⟨0,[(4,1),(12,-1)]⟩] [] ⟨0,[(4,1),(12,-1)]⟩]
def t_GroupOk (K:Int):List (Nat×Ctr):=[(8,zb4 K),(31,zda),(32,zb6),(33,zah),(155,zh1)]
theorem k1_GroupOk:check ⟨tb 1,t_GroupOk 1,4,1,eqs⟩ Tryz.f122 zfc [] h_GroupOk=true:=by kernel_rfl
theorem k3_GroupOk:check ⟨tb 3,t_GroupOk 3,4,1,eqs⟩ Tryz.f122 zfc [] h_GroupOk=true:=by kernel_rfl
theorem k5_GroupOk:check ⟨tb 5,t_GroupOk 5,4,1,eqs⟩ Tryz.f122 zfc [] h_GroupOk=true:=by kernel_rfl
theorem k_GroupOk {K:Int} (hK:Kt K):check ⟨tb K,t_GroupOk K,4,1,eqs⟩ Tryz.f122 zfc [] h_GroupOk=true:=by
 rcases hK with rfl | rfl | rfl
 ·exact k1_GroupOk
 ·exact k3_GroupOk
 ·exact k5_GroupOk
def zge:List Hn:=[.loop [] [⟨0,[(53,1)]⟩,⟨1,[(53,1)]⟩,⟨2097152,[(53,-1)]⟩,⟨0,[(51,1),(53,-1)]⟩] [] ⟨0,[(51,1),(53,-1)]⟩, .join [⟨0,[(78,1)]⟩,⟨1048576,[(78,-1)]⟩]]
def zfz (K:Int):List (Nat×Ctr):=[(24,zbs),(23,zbq K),(21,zbi K),(30,zdg K),(162,zfm K),(22,zbn K),(70,c_SeatOf),(197,zii K),(198,c_LogFrom),(199,c_l6Put K),(29,zc6 K)]
theorem k1_OnRequest:check ⟨tb 1,zfz 1,4,1,eqs⟩ Tryz.f175 (zdf 1) [] zge=true:=by kernel_rfl
theorem k3_OnRequest:check ⟨tb 3,zfz 3,4,1,eqs⟩ Tryz.f175 (zdf 3) [] zge=true:=by kernel_rfl
theorem k5_OnRequest:check ⟨tb 5,zfz 5,4,1,eqs⟩ Tryz.f175 (zdf 5) [] zge=true:=by kernel_rfl
theorem k_OnRequest {K:Int} (hK:Kt K):check ⟨tb K,zfz K,4,1,eqs⟩ Tryz.f175 (zdf K) [] zge=true:=by
 rcases hK with rfl | rfl | rfl
 ·exact k1_OnRequest
 ·exact k3_OnRequest
 ·exact k5_OnRequest
def h_OnDo:List Hn:=[]
def t_OnDo (K:Int):List (Nat×Ctr):=[(71,zbt),(131,zd1 K),(21,zbi K),(161,zgk K),(25,zdp),(65,zbp K),(185,zc1 K),(22,zbn K),(27,zcs K)]
theorem k_OnDo {K:Int} (hK:Kt K):check ⟨tb K,t_OnDo K,4,2,eqs⟩ Tryz.f179 (c_OnDo K) [] h_OnDo=true:=by rcases hK with rfl | rfl | rfl <;> kernel_rfl
def h_Unframe:List Hn:=[]
def t_Unframe:List (Nat×Ctr):=[(83,zfw),(137,c_Crc)]
theorem k_Unframe:check ⟨tb0,t_Unframe,4,1,eqs⟩ Tryz.f82 c_Unframe [] h_Unframe=true:=by kernel_rfl
def h_NetSpoil:List Hn:=[]
def t_NetSpoil (K:Int):List (Nat×Ctr):=[(126,zcm K),(156,zfr)]
theorem k_NetSpoil {K:Int} (hK:Kt K):check ⟨tb K,t_NetSpoil K,4,1,eqs⟩ Tryz.f159 c_NetSpoil [] h_NetSpoil=true:=by rcases hK with rfl | rfl | rfl <;> kernel_rfl
def h_NetSend:List Hn:=[]
def t_NetSend:List (Nat×Ctr):=[(155,zh1),(156,zfr),(174,zhr)]
theorem k_NetSend {K:Int} (hK:Kt K):check ⟨tb K,t_NetSend,4,1,eqs⟩ Tryz.f165 (c_NetSend K) [] h_NetSend=true:=by rcases hK with rfl | rfl | rfl <;> kernel_rfl
def h_l4Set:List Hn:=[.join []]
def t_l4Set:List (Nat×Ctr):=[]
theorem k_l4Set:check ⟨tb0,t_l4Set,4,1,eqs⟩ Tryz.f80 c_l4Set [] h_l4Set=true:=by kernel_rfl
def h_l6Hears:List Hn:=[]
def t_l6Hears (K:Int):List (Nat×Ctr):=[(8,zb4 K),(64,zgs)]
theorem k_l6Hears {K:Int} (hK:Kt K):check ⟨tb K,t_l6Hears K,4,1,eqs⟩ Tryz.f22 (zbn K) [] h_l6Hears=true:=by rcases hK with rfl | rfl | rfl <;> kernel_rfl
def h_l9Hear:List Hn:=[]
def t_l9Hear (K:Int):List (Nat×Ctr):=[(134,zg2),(160,c_OnMsg K)]
theorem k_l9Hear {K:Int} (hK:Kt K):check ⟨tb K,t_l9Hear K,4,1,eqs⟩ Tryz.f127 c_l9Hear [] h_l9Hear=true:=by rcases hK with rfl | rfl | rfl <;> kernel_rfl
def zi6:List Hn:=[.loop [(1,1)] [⟨0,[(2,1)]⟩,⟨1,[(2,1)]⟩,⟨2097152,[(2,-1)]⟩,⟨0,[(2,1),(3,-1)]⟩,⟨0,[(2,-1),(3,1)]⟩,⟨0,[(0,1),(2,-1)]⟩] [] ⟨0,[(0,1),(2,-1)]⟩]
def zhc (K:Int):List (Nat×Ctr):=[(31,zda),(119,zgn K)]
theorem k1_NewGroup:check ⟨tb 1,zhc 1,4,1,eqs⟩ Tryz.f73 (zec 1) [] zi6=true:=by kernel_rfl
theorem k3_NewGroup:check ⟨tb 3,zhc 3,4,1,eqs⟩ Tryz.f73 (zec 3) [] zi6=true:=by kernel_rfl
theorem k5_NewGroup:check ⟨tb 5,zhc 5,4,1,eqs⟩ Tryz.f73 (zec 5) [] zi6=true:=by kernel_rfl
theorem k_NewGroup {K:Int} (hK:Kt K):check ⟨tb K,zhc K,4,1,eqs⟩ Tryz.f73 (zec K) [] zi6=true:=by
 rcases hK with rfl | rfl | rfl
 ·exact k1_NewGroup
 ·exact k3_NewGroup
 ·exact k5_NewGroup
def h_l6Put:List Hn:=[]
def t_l6Put:List (Nat×Ctr):=[(88,c_LogPut),(136,c_LogFold)]
theorem k_l6Put {K:Int} (hK:Kt K):check ⟨tb K,t_l6Put,4,2,eqs⟩ Tryz.f199 (c_l6Put K) [] h_l6Put=true:=by rcases hK with rfl | rfl | rfl <;> kernel_rfl
def h_l6Log:List Hn:=[]
def t_l6Log:List (Nat×Ctr):=[(32,zb6),(66,zem),(24,zbs)]
theorem k_l6Log:check ⟨tb0,t_l6Log,4,1,eqs⟩ Tryz.f34 zif [] h_l6Log=true:=by kernel_rfl
def h_l5Flight:List Hn:=[]
def t_l5Flight:List (Nat×Ctr):=[(32,zb6)]
theorem k_l5Flight {K:Int} (hK:Kt K):check ⟨tb K,t_l5Flight,4,1,eqs⟩ Tryz.f174 zhr [] h_l5Flight=true:=by rcases hK with rfl | rfl | rfl <;> kernel_rfl
def h_l5Copy:List Hn:=[]
def t_l5Copy:List (Nat×Ctr):=[]
theorem k_l5Copy {K:Int} (hK:Kt K):check ⟨tb K,t_l5Copy,4,1,eqs⟩ Tryz.f156 zfr [] h_l5Copy=true:=by rcases hK with rfl | rfl | rfl <;> kernel_rfl
def h_l6Half:List Hn:=[]
def t_l6Half:List (Nat×Ctr):=[]
theorem k_l6Half {K:Int} (hK:Kt K):check ⟨tb K,t_l6Half,4,1,eqs⟩ Tryz.f28 (zg9 K) [] h_l6Half=true:=by rcases hK with rfl | rfl | rfl <;> kernel_rfl
end Go.Proofs.YtckfjploafhenaaGreat.Ai
namespace Go.Proofs.YtckfjploafhenaaGreat.Ai
def h_PutNum:List Hn:=[.unroll 10]
def t_PutNum:List (Nat×Ctr):=[]
theorem k_PutNum:check ⟨tb0,t_PutNum,2,20,eqs⟩ Tryz.f186 c_PutNum [0] h_PutNum=true:=by kernel_rfl
def h_OnBack (K:Int):List Hn:=[.join [⟨0,[(50,1)]⟩,⟨(K),[(50,-1)]⟩,⟨0,[(56,1)]⟩,⟨1048576,[(56,-1)]⟩,⟨0,[(57,1)]⟩,⟨1048576,[(57,-1)]⟩,⟨0,[(58,1)]⟩,⟨1048576,[(58,-1)]⟩,⟨0,[(59,1)]⟩,⟨1048576,[(59,-1)]⟩], .loop [] [⟨0,[(64,1)]⟩,⟨1,[(64,1)]⟩,⟨2097152,[(64,-1)]⟩,⟨0,[(59,1),(64,-1)]⟩] [] ⟨0,[(59,1),(64,-1)]⟩, .join [⟨0,[(68,1)]⟩,⟨1,[(68,-1)]⟩], .loop [] [⟨0,[(66,1)]⟩,⟨1,[(66,1)]⟩,⟨2097152,[(66,-1)]⟩,⟨0,[(59,1),(66,-1)]⟩] [] ⟨0,[(59,1),(66,-1)]⟩]
def t_OnBack (K:Int):List (Nat×Ctr):=[(24,zbs),(26,zdi),(71,zbt),(21,zbi K),(25,zdp),(65,zbp K),(22,zbn K),(27,zcs K),(28,zg9 K),(201,c_l7Take K)]
theorem k1_OnBack:check ⟨tb 1,t_OnBack 1,4,1,eqs⟩ Tryz.f182 (zhb 1) [] (h_OnBack 1)=true:=by kernel_rfl
theorem k3_OnBack:check ⟨tb 3,t_OnBack 3,4,1,eqs⟩ Tryz.f182 (zhb 3) [] (h_OnBack 3)=true:=by kernel_rfl
theorem k5_OnBack:check ⟨tb 5,t_OnBack 5,4,1,eqs⟩ Tryz.f182 (zhb 5) [] (h_OnBack 5)=true:=by kernel_rfl
theorem k_OnBack {K:Int} (hK:Kt K):check ⟨tb K,t_OnBack K,4,1,eqs⟩ Tryz.f182 (zhb K) [] (h_OnBack K)=true:=by
 rcases hK with rfl | rfl | rfl
 ·exact k1_OnBack
 ·exact k3_OnBack
 ·exact k5_OnBack
def h_OnMsg:List Hn:=[]
def t_OnMsg (K:Int):List (Nat×Ctr):=[(21,zbi K),(175,zdf K),(176,zdd K),(7,c_OnOk K),(177,zee K),(178,c_OnTurn K),(179,c_OnDo K),(180,c_OnStart K),(181,zim K),(182,zhb K),(183,zh2 K),(184,zfe K)]
theorem k_OnMsg {K:Int} (hK:Kt K):check ⟨tb K,t_OnMsg K,4,1,eqs⟩ Tryz.f160 (c_OnMsg K) [] h_OnMsg=true:=by rcases hK with rfl | rfl | rfl <;> kernel_rfl
def h_GoOk:List Hn:=[.join [⟨0,[(9,1)]⟩,⟨1,[(9,-1)]⟩]]
def t_GoOk:List (Nat×Ctr):=[(32,zb6),(33,zah),(111,c_CmdOk)]
theorem k_GoOk:check ⟨tb0,t_GoOk,4,1,eqs⟩ Tryz.f123 c_GoOk [] h_GoOk=true:=by kernel_rfl
def h_l4DrawMsg:List Hn:=[.join [⟨0,[(19,1)]⟩,⟨1,[(19,-1)]⟩,⟨0,[(20,1)]⟩,⟨1,[(20,-1)]⟩,⟨0,[(31,1)]⟩,⟨1048576,[(31,-1)]⟩,⟨0,[(32,1)]⟩,⟨1048576,[(32,-1)]⟩,⟨0,[(33,1)]⟩,⟨1048576,[(33,-1)]⟩]]
def t_l4DrawMsg:List (Nat×Ctr):=[(41,ze2),(42,c_l1Below),(74,c_l1PickInt),(90,zg1),(91,zik)]
theorem k_l4DrawMsg:check ⟨tb0,t_l4DrawMsg,4,1,eqs⟩ Tryz.f46 zic [] h_l4DrawMsg=true:=by kernel_rfl
def zhx:List Hn:=[.loop [] [⟨0,[(5,1)]⟩,⟨1,[(5,1)]⟩,⟨2097152,[(5,-1)]⟩,⟨0,[(5,-1),(6,1)]⟩,⟨0,[(6,1)]⟩,⟨1,[(6,1)]⟩,⟨2097152,[(6,-1)]⟩,⟨0,[(0,1),(6,-1)]⟩,⟨-1,[(0,1),(5,-1)]⟩] [] ⟨0,[(0,1),(6,-1)]⟩]
def zi4 (K:Int):List (Nat×Ctr):=[(42,c_l1Below),(44,zdq),(23,zbq K)]
theorem k1_l9Leader:check ⟨tb 1,zi4 1,4,2,eqs⟩ Tryz.f120 zeb [] zhx=true:=by kernel_rfl
theorem k3_l9Leader:check ⟨tb 3,zi4 3,4,2,eqs⟩ Tryz.f120 zeb [] zhx=true:=by kernel_rfl
theorem k5_l9Leader:check ⟨tb 5,zi4 5,4,2,eqs⟩ Tryz.f120 zeb [] zhx=true:=by kernel_rfl
theorem k_l9Leader {K:Int} (hK:Kt K):check ⟨tb K,zi4 K,4,2,eqs⟩ Tryz.f120 zeb [] zhx=true:=by
 rcases hK with rfl | rfl | rfl
 ·exact k1_l9Leader
 ·exact k3_l9Leader
 ·exact k5_l9Leader
def h_l6VoteOk:List Hn:=[.join [⟨0,[(11,1)]⟩,⟨1,[(11,-1)]⟩]]
def t_l6VoteOk:List (Nat×Ctr):=[(32,zb6),(33,zah),(34,zif)]
theorem k_l6VoteOk:check ⟨tb0,t_l6VoteOk,4,1,eqs⟩ Tryz.f35 zf6 [] h_l6VoteOk=true:=by kernel_rfl
def h_l9Copy:List Hn:=[.loop [(2,1)] [⟨0,[(7,1)]⟩,⟨1,[(7,1)]⟩,⟨2097152,[(7,-1)]⟩,⟨0,[(7,1),(8,-1)]⟩,⟨0,[(7,-1),(8,1)]⟩,⟨0,[(1,1),(7,-1)]⟩] [] ⟨0,[(1,1),(7,-1)]⟩]
def t_l9Copy (K:Int):List (Nat×Ctr):=[(156,zfr),(63,ze5 K)]
theorem k1_l9Copy:check ⟨tb 1,t_l9Copy 1,4,1,eqs⟩ Tryz.f124 zhd [] h_l9Copy=true:=by kernel_rfl
theorem k3_l9Copy:check ⟨tb 3,t_l9Copy 3,4,1,eqs⟩ Tryz.f124 zhd [] h_l9Copy=true:=by kernel_rfl
theorem k5_l9Copy:check ⟨tb 5,t_l9Copy 5,4,1,eqs⟩ Tryz.f124 zhd [] h_l9Copy=true:=by kernel_rfl
theorem k_l9Copy {K:Int} (hK:Kt K):check ⟨tb K,t_l9Copy K,4,1,eqs⟩ Tryz.f124 zhd [] h_l9Copy=true:=by
 rcases hK with rfl | rfl | rfl
 ·exact k1_l9Copy
 ·exact k3_l9Copy
 ·exact k5_l9Copy
def h_l2DrawAny:List Hn:=[]
def t_l2DrawAny:List (Nat×Ctr):=[(42,c_l1Below),(74,c_l1PickInt),(78,zct)]
theorem k_l2DrawAny:check ⟨tb0,t_l2DrawAny,4,4,eqs⟩ Tryz.f91 zik [] h_l2DrawAny=true:=by kernel_rfl
def h_CellAt:List Hn:=[.loop [] [⟨0,[(4,1)]⟩,⟨0,[(4,-1)]⟩,⟨1,[(4,1)]⟩,⟨2097152,[(4,-1)]⟩,⟨0,[(4,-1),(5,1)]⟩,⟨0,[(5,1)]⟩,⟨1,[(5,1)]⟩,⟨2097152,[(5,-1)]⟩,⟨0,[(0,1),(5,-1)]⟩] [] ⟨0,[(0,1),(5,-1)]⟩]
def t_CellAt:List (Nat×Ctr):=[(112,zep)]
theorem k_CellAt:check ⟨tb0,t_CellAt,4,1,eqs⟩ Tryz.f153 c_CellAt [] h_CellAt=true:=by kernel_rfl
def h_l3DrawRight:List Hn:=[]
def t_l3DrawRight:List (Nat×Ctr):=[(42,c_l1Below),(44,zdq),(135,zd9),(136,c_LogFold)]
theorem k_l3DrawRight:check ⟨tb0,t_l3DrawRight,4,2,eqs⟩ Tryz.f79 zd4 [] h_l3DrawRight=true:=by kernel_rfl
def h_l4In:List Hn:=[.loop [] [⟨0,[(3,1)]⟩,⟨1,[(3,1)]⟩,⟨2097152,[(3,-1)]⟩,⟨0,[(0,1),(3,-1)]⟩] [] ⟨0,[(0,1),(3,-1)]⟩]
def t_l4In:List (Nat×Ctr):=[]
theorem k_l4In:check ⟨tb0,t_l4In,4,1,eqs⟩ Tryz.f86 zch [] h_l4In=true:=by kernel_rfl
def h_l9Soon:List Hn:=[]
def t_l9Soon:List (Nat×Ctr):=[(42,c_l1Below),(44,zdq),(89,zgy)]
theorem k_l9Soon:check ⟨tb0,t_l9Soon,4,1,eqs⟩ Tryz.f121 c_l9Soon [] h_l9Soon=true:=by kernel_rfl
def h_l6Leads:List Hn:=[]
def t_l6Leads (K:Int):List (Nat×Ctr):=[(65,zbp K)]
theorem k_l6Leads {K:Int} (hK:Kt K):check ⟨tb K,t_l6Leads K,4,1,eqs⟩ Tryz.f23 (zbq K) [] h_l6Leads=true:=by rcases hK with rfl | rfl | rfl <;> kernel_rfl
def h_l1Once:List Hn:=[]
def t_l1Once:List (Nat×Ctr):=[(42,c_l1Below)]
theorem k_l1Once:check ⟨tb0,t_l1Once,4,1,eqs⟩ Tryz.f44 zdq [] h_l1Once=true:=by kernel_rfl
end Go.Proofs.YtckfjploafhenaaGreat.Ai
namespace Go.Proofs.YtckfjploafhenaaGreat.Ai
def h_RunAll:List Hn:=[.loop [(2,0),(2,1)] [⟨100,[(5,-1)]⟩,⟨0,[(5,-1),(6,1)]⟩,⟨0,[(5,1),(6,-1)]⟩,⟨0,[(6,1)]⟩,⟨1,[(6,1)]⟩,⟨2097152,[(6,-1)]⟩,⟨100,[(7,-1)]⟩,⟨100,[(8,-1)]⟩,⟨0,[(2,1),(6,-1)]⟩] [] ⟨0,[(2,1),(6,-1)]⟩]
def t_RunAll:List (Nat×Ctr):=[(116,zck),(69,zdh)]
theorem k_RunAll:check ⟨tb0,t_RunAll,4,2,eqs⟩ Tryz.f115 zhy [] h_RunAll=true:=by kernel_rfl
def h_UnpackMsg:List Hn:=[.loop [(2,0),(2,1),(2,2),(2,3),(2,4),(2,5),(2,6),(2,7),(2,8),(2,9),(2,10),(2,11),(2,12),(2,13),(2,14),(2,15),(2,16)] [⟨0,[(9,1)]⟩,⟨0,[(9,-1)]⟩,⟨1,[(9,1)]⟩,⟨2097152,[(9,-1)]⟩,⟨0,[(9,-1),(11,1)]⟩,⟨0,[(10,1)]⟩,⟨0,[(1,1),(10,-1)]⟩,⟨1,[(10,1)]⟩,⟨2097152,[(10,-1)]⟩,⟨0,[(11,1)]⟩,⟨1,[(11,1)]⟩,⟨2097152,[(11,-1)]⟩,⟨0,[(9,-1),(26,1)]⟩,⟨0,[(9,-1),(27,1)]⟩,⟨0,[(9,-1),(28,1)]⟩,⟨0,[(7,1),(11,-1)]⟩] [] ⟨0,[(7,1),(11,-1)]⟩]
def t_UnpackMsg:List (Nat×Ctr):=[(77,zcb),(80,c_l4Set),(82,c_Unframe),(83,zfw),(84,c_GetNums),(85,zia),(64,zgs)]
theorem k_UnpackMsg:check ⟨tb0,t_UnpackMsg,4,4,eqs⟩ Tryz.f43 zej [] h_UnpackMsg=true:=by kernel_rfl
def h_ImageOk:List Hn:=[.loop [] [⟨0,[(3,1)]⟩,⟨1,[(3,1)]⟩,⟨2097152,[(3,-1)]⟩,⟨0,[(0,1),(3,-1)]⟩] [] ⟨0,[(0,1),(3,-1)]⟩, .loop [] [⟨0,[(5,1)]⟩,⟨1,[(5,1)]⟩,⟨2097152,[(5,-1)]⟩,⟨0,[(1,1),(5,-1)]⟩] [] ⟨0,[(1,1),(5,-1)]⟩]
def t_ImageOk:List (Nat×Ctr):=[(32,zb6),(33,zah)]
theorem k_ImageOk:check ⟨tb0,t_ImageOk,4,1,eqs⟩ Tryz.f112 zep [] h_ImageOk=true:=by kernel_rfl
def h_l4DrawRight:List Hn:=[.loop [(1,0),(1,1),(1,2),(1,3),(1,4),(1,5),(1,6),(1,7),(1,8),(1,9),(1,10),(1,11),(1,12),(1,13),(1,14),(1,15),(1,16)] [⟨0,[(3,1)]⟩,⟨1,[(3,1)]⟩,⟨2097152,[(3,-1)]⟩,⟨0,[(2,1),(3,-1)]⟩] [] ⟨0,[(2,1),(3,-1)]⟩, .join [⟨0,[(21,1)]⟩,⟨255,[(21,-1)]⟩,⟨0,[(22,1)]⟩,⟨1,[(22,-1)]⟩,⟨0,[(23,1)]⟩,⟨1,[(23,-1)]⟩,⟨0,[(38,1)]⟩,⟨1048576,[(38,-1)]⟩,⟨0,[(39,1)]⟩,⟨1048576,[(39,-1)]⟩,⟨0,[(40,1)]⟩,⟨1048576,[(40,-1)]⟩]]
def t_l4DrawRight:List (Nat×Ctr):=[(42,c_l1Below),(77,zcb),(78,zct),(79,zd4),(80,c_l4Set)]
theorem k_l4DrawRight:check ⟨tb0,t_l4DrawRight,4,1,eqs⟩ Tryz.f41 ze2 [] h_l4DrawRight=true:=by kernel_rfl
def h_NetTake:List Hn:=[.loop [(3,1)] [⟨0,[(4,1)]⟩,⟨1,[(4,1)]⟩,⟨2097152,[(4,-1)]⟩,⟨0,[(4,1),(5,-1)]⟩,⟨0,[(1,1),(4,-1)]⟩] [([⟨0,[(2,1),(4,-1)]⟩],⟨0,[(4,-1),(5,1)]⟩),([⟨-1,[(2,-1),(4,1)]⟩],⟨1,[(4,-1),(5,1)]⟩)] ⟨0,[(1,1),(4,-1)]⟩]
def t_NetTake:List (Nat×Ctr):=[(155,zh1),(156,zfr)]
theorem k1_NetTake:check ⟨tb 1,t_NetTake,4,2,eqs⟩ Tryz.f126 (zcm 1) [] h_NetTake=true:=by kernel_rfl
theorem k3_NetTake:check ⟨tb 3,t_NetTake,4,2,eqs⟩ Tryz.f126 (zcm 3) [] h_NetTake=true:=by kernel_rfl
theorem k5_NetTake:check ⟨tb 5,t_NetTake,4,2,eqs⟩ Tryz.f126 (zcm 5) [] h_NetTake=true:=by kernel_rfl
theorem k_NetTake {K:Int} (hK:Kt K):check ⟨tb K,t_NetTake,4,2,eqs⟩ Tryz.f126 (zcm K) [] h_NetTake=true:=by
 rcases hK with rfl | rfl | rfl
 ·exact k1_NetTake
 ·exact k3_NetTake
 ·exact k5_NetTake
def h_GetNums:List Hn:=[.loop [] [⟨0,[(4,1)]⟩,⟨0,[(0,1),(4,-1)]⟩,⟨1,[(4,1)]⟩,⟨2097152,[(4,-1)]⟩,⟨0,[(5,1)]⟩,⟨0,[(5,-1)]⟩,⟨1,[(5,1)]⟩,⟨2097152,[(5,-1)]⟩,⟨0,[(5,-1),(8,1)]⟩,⟨0,[(5,-1),(7,1)]⟩,⟨0,[(7,-1),(8,1)]⟩,⟨0,[(7,1),(8,-1)]⟩,⟨0,[(8,1)]⟩,⟨1,[(8,1)]⟩,⟨2097152,[(8,-1)]⟩,⟨0,[(2,1),(8,-1)]⟩] [] ⟨0,[(2,1),(8,-1)]⟩]
def t_GetNums:List (Nat×Ctr):=[(32,zb6),(83,zfw)]
theorem k_GetNums:check ⟨tb0,t_GetNums,4,1,eqs⟩ Tryz.f84 c_GetNums [] h_GetNums=true:=by kernel_rfl
def h_l2DrawImage:List Hn:=[]
def t_l2DrawImage:List (Nat×Ctr):=[(42,c_l1Below),(74,c_l1PickInt),(166,zfp)]
theorem k_l2DrawImage:check ⟨tb0,t_l2DrawImage,4,4,eqs⟩ Tryz.f139 zg3 [] h_l2DrawImage=true:=by kernel_rfl
def h_Crc:List Hn:=[.loop [] [⟨0,[(2,1)]⟩,⟨1,[(2,1)]⟩,⟨2097152,[(2,-1)]⟩,⟨0,[(0,1),(2,-1)]⟩] [] ⟨0,[(0,1),(2,-1)]⟩, .loop [] [⟨0,[(6,1)]⟩,⟨1,[(6,1)]⟩,⟨2097152,[(6,-1)]⟩,⟨8,[(6,-1)]⟩] [] ⟨8,[(6,-1)]⟩, .join [⟨0,[(8,1)]⟩,⟨1,[(8,-1)]⟩,⟨0,[(10,1)]⟩,⟨1,[(10,-1)]⟩,⟨0,[(12,1)]⟩,⟨1,[(12,-1)]⟩]]
def t_Crc:List (Nat×Ctr):=[]
theorem k_Crc:check ⟨tb0,t_Crc,4,1,eqs⟩ Tryz.f137 c_Crc [] h_Crc=true:=by kernel_rfl
def h_CmdOk:List Hn:=[.join [⟨0,[(3,1)]⟩,⟨1,[(3,-1)]⟩], .join [⟨0,[(4,1)]⟩,⟨1,[(4,-1)]⟩]]
def t_CmdOk:List (Nat×Ctr):=[(33,zah)]
theorem k_CmdOk:check ⟨tb0,t_CmdOk,4,1,eqs⟩ Tryz.f111 c_CmdOk [] h_CmdOk=true:=by kernel_rfl
def h_LogImage:List Hn:=[]
def t_LogImage:List (Nat×Ctr):=[(114,zfa),(115,zhy)]
theorem k_LogImage:check ⟨tb0,t_LogImage,4,1,eqs⟩ Tryz.f67 zfd [] h_LogImage=true:=by kernel_rfl
def h_l9Up:List Hn:=[.loop [] [⟨0,[(6,1)]⟩,⟨1,[(6,1)]⟩,⟨2097152,[(6,-1)]⟩,⟨0,[(1,1),(6,-1)]⟩] [] ⟨0,[(1,1),(6,-1)]⟩, .join [⟨0,[(15,1)]⟩,⟨1048576,[(15,-1)]⟩,⟨0,[(16,1)]⟩,⟨1048576,[(16,-1)]⟩,⟨0,[(17,1)]⟩,⟨1048576,[(17,-1)]⟩,⟨0,[(18,1)]⟩,⟨1048576,[(18,-1)]⟩,⟨0,[(21,1)]⟩,⟨1,[(21,-1)]⟩]]
def t_l9Up (K:Int):List (Nat×Ctr):=[(131,zd1 K)]
theorem k1_l9Up:check ⟨tb 1,t_l9Up 1,4,1,eqs⟩ Tryz.f130 c_l9Up [] h_l9Up=true:=by kernel_rfl
theorem k3_l9Up:check ⟨tb 3,t_l9Up 3,4,1,eqs⟩ Tryz.f130 c_l9Up [] h_l9Up=true:=by kernel_rfl
theorem k5_l9Up:check ⟨tb 5,t_l9Up 5,4,1,eqs⟩ Tryz.f130 c_l9Up [] h_l9Up=true:=by kernel_rfl
theorem k_l9Up {K:Int} (hK:Kt K):check ⟨tb K,t_l9Up K,4,1,eqs⟩ Tryz.f130 c_l9Up [] h_l9Up=true:=by
 rcases hK with rfl | rfl | rfl
 ·exact k1_l9Up
 ·exact k3_l9Up
 ·exact k5_l9Up
def h_l6Vote:List Hn:=[.join [⟨0,[(23,1)]⟩,⟨1048576,[(23,-1)]⟩]]
def t_l6Vote:List (Nat×Ctr):=[]
theorem k1_l6Vote:check ⟨tb 1,t_l6Vote,4,1,eqs⟩ Tryz.f27 (zcs 1) [] h_l6Vote=true:=by kernel_rfl
theorem k3_l6Vote:check ⟨tb 3,t_l6Vote,4,1,eqs⟩ Tryz.f27 (zcs 3) [] h_l6Vote=true:=by kernel_rfl
theorem k5_l6Vote:check ⟨tb 5,t_l6Vote,4,1,eqs⟩ Tryz.f27 (zcs 5) [] h_l6Vote=true:=by kernel_rfl
theorem k_l6Vote {K:Int} (hK:Kt K):check ⟨tb K,t_l6Vote,4,1,eqs⟩ Tryz.f27 (zcs K) [] h_l6Vote=true:=by
 rcases hK with rfl | rfl | rfl
 ·exact k1_l6Vote
 ·exact k3_l6Vote
 ·exact k5_l6Vote
def h_l3Copy:List Hn:=[]
def t_l3Copy:List (Nat×Ctr):=[(116,zck)]
theorem k_l3Copy:check ⟨tb0,t_l3Copy,4,1,eqs⟩ Tryz.f71 zbt [] h_l3Copy=true:=by kernel_rfl
def h_l6Ask:List Hn:=[]
def t_l6Ask:List (Nat×Ctr):=[]
theorem k_l6Ask {K:Int} (hK:Kt K):check ⟨tb K,t_l6Ask,4,1,eqs⟩ Tryz.f200 (c_l6Ask K) [] h_l6Ask=true:=by rcases hK with rfl | rfl | rfl <;> kernel_rfl
def h_l1Whole:List Hn:=[]
def t_l1Whole:List (Nat×Ctr):=[(32,zb6)]
theorem k_l1Whole:check ⟨tb0,t_l1Whole,4,1,eqs⟩ Tryz.f33 zah [] h_l1Whole=true:=by kernel_rfl
end Go.Proofs.YtckfjploafhenaaGreat.Ai
