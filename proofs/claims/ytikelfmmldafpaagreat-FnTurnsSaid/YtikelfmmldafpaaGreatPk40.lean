/- Each function keeps its contract. Printed by a program. -/
import Derived.Test.YtikelfmmldafpaaGreatPk37
import Derived.Test.YtikelfmmldafpaaGreatPk38
import Derived.Test.YtikelfmmldafpaaGreatPk39
import Derived.Test.YtikelfmmldafpaaGreatPk35
namespace Go.Proofs.YtikelfmmldafpaaGreat.Ai
set_option linter.unusedVariables false
variable {K:Int} {Q n c:Nat} {A:Option Addr}
theorem q_l6Of (hK:K=1∨K=3∨K=5):Kept (cx K Q A n c) 20 c_l6Of:=kept_of_check (base0 hK) Tryz.func20 rfl k_l6Of trivial
theorem q_l1In (hK:K=1∨K=3∨K=5):Kept (cx K Q A n c) 21 c_l1In:=kept_of_check (base0 hK) Tryz.func21 rfl k_l1In trivial
theorem q_l1Whole (hK:K=1∨K=3∨K=5):Kept (cx K Q A n c) 22 c_l1Whole:=kept_of_check (base0 hK) Tryz.func22 rfl k_l1Whole ⟨(q_l1In hK),trivial⟩
theorem q_ImageOk (hK:K=1∨K=3∨K=5):Kept (cx K Q A n c) 54 c_ImageOk:=kept_of_check (base0 hK) Tryz.func54 rfl k_ImageOk ⟨(q_l1In hK),(q_l1Whole hK),trivial⟩
theorem q_CmdOk (hK:K=1∨K=3∨K=5):Kept (cx K Q A n c) 95 c_CmdOk:=kept_of_check (base0 hK) Tryz.func95 rfl k_CmdOk ⟨(q_l1Whole hK),trivial⟩
theorem q_EntryOk (hK:K=1∨K=3∨K=5):Kept (cx K Q A n c) 55 c_EntryOk:=kept_of_check (base0 hK) Tryz.func55 rfl k_EntryOk ⟨(q_l1In hK),(q_l1Whole hK),(q_CmdOk hK),trivial⟩
theorem q_LogOk (hK:K=1∨K=3∨K=5):Kept (cx K Q A n c) 26 c_LogOk:=kept_of_check (base0 hK) Tryz.func26 rfl k_LogOk ⟨(q_l1Whole hK),(q_ImageOk hK),(q_EntryOk hK),trivial⟩
theorem q_LogEnd (hK:K=1∨K=3∨K=5):Kept (cx K Q A n c) 9 c_LogEnd:=kept_of_check (base0 hK) Tryz.func9 rfl k_LogEnd ⟨(q_LogOk hK),trivial⟩
theorem q_l6Log (hK:K=1∨K=3∨K=5):Kept (cx K Q A n c) 23 c_l6Log:=kept_of_check (base0 hK) Tryz.func23 rfl k_l6Log ⟨(q_l1In hK),(q_LogOk hK),(q_LogEnd hK),trivial⟩
theorem q_l6VoteOk (hK:K=1∨K=3∨K=5):Kept (cx K Q A n c) 24 c_l6VoteOk:=kept_of_check (base0 hK) Tryz.func24 rfl k_l6VoteOk ⟨(q_l1In hK),(q_l1Whole hK),(q_l6Log hK),trivial⟩
theorem q_SameImage (hK:K=1∨K=3∨K=5):Kept (cx K Q A n c) 53 c_SameImage:=kept_of_check (base0 hK) Tryz.func53 rfl k_SameImage trivial
theorem q_SameLog (hK:K=1∨K=3∨K=5):Kept (cx K Q A n c) 25 c_SameLog:=kept_of_check (base0 hK) Tryz.func25 rfl k_SameLog ⟨(q_SameImage hK),trivial⟩
theorem q_ReplicaOk (hK:K=1∨K=3∨K=5):Kept (cx K Q A n c) 8 (c_ReplicaOk K):=kept_of_check (baseK hK) Tryz.func8 rfl (k_ReplicaOk hK) ⟨(q_l6Of hK),(q_l1In hK),(q_l1Whole hK),(q_l6Log hK),(q_l6VoteOk hK),(q_SameLog hK),trivial⟩
theorem q_l4Has (hK:K=1∨K=3∨K=5):Kept (cx K Q A n c) 107 c_l4Has:=kept_of_check (base0 hK) Tryz.func107 rfl k_l4Has trivial
theorem q_l1Once (hK:K=1∨K=3∨K=5):Kept (cx K Q A n c) 72 c_l1Once:=kept_of_check (base0 hK) Tryz.func72 rfl k_l1Once ⟨(q_l1Below hK),trivial⟩
theorem q_l2DrawCmd (hK:K=1∨K=3∨K=5):Kept (cx K Q A n c) 108 c_l2DrawCmd:=kept_of_check (base0 hK) Tryz.func108 rfl k_l2DrawCmd ⟨(q_l1Below hK),(q_l1Once hK),trivial⟩
theorem q_l2DrawEntry (hK:K=1∨K=3∨K=5):Kept (cx K Q A n c) 119 c_l2DrawEntry:=kept_of_check (base0 hK) Tryz.func119 rfl k_l2DrawEntry ⟨(q_l1Below hK),(q_l2DrawCmd hK),trivial⟩
theorem q_l2DrawEntries (hK:K=1∨K=3∨K=5):Kept (cx K Q A n c) 149 c_l2DrawEntries:=kept_of_check (base0 hK) Tryz.func149 rfl k_l2DrawEntries ⟨(q_l1Below hK),(q_l1Once hK),(q_l2DrawEntry hK),trivial⟩
theorem q_l3Among (hK:K=1∨K=3∨K=5):Kept (cx K Q A n c) 190 c_l3Among:=kept_of_check (base0 hK) Tryz.func190 rfl k_l3Among ⟨(q_l1In hK),(q_LogOk hK),(q_LogEnd hK),trivial⟩
theorem q_l2Copy (hK:K=1∨K=3∨K=5):Kept (cx K Q A n c) 132 c_l2Copy:=kept_of_check (base0 hK) Tryz.func132 rfl k_l2Copy trivial
theorem q_SeatOf (hK:K=1∨K=3∨K=5):Kept (cx K Q A n c) 199 c_SeatOf:=kept_of_check (base0 hK) Tryz.func199 rfl k_SeatOf ⟨(q_ImageOk hK),trivial⟩
theorem q_l1Max (hK:K=1∨K=3∨K=5):Kept (cx K Q A n c) 118 c_l1Max:=kept_of_check (base0 hK) Tryz.func118 rfl k_l1Max trivial
theorem q_CellAt (hK:K=1∨K=3∨K=5):Kept (cx K Q A n c) 218 c_CellAt:=kept_of_check (base0 hK) Tryz.func218 rfl k_CellAt ⟨(q_ImageOk hK),trivial⟩
theorem q_l2Cells (hK:K=1∨K=3∨K=5):Kept (cx K Q A n c) 219 c_l2Cells:=kept_of_check (base0 hK) Tryz.func219 rfl k_l2Cells trivial
theorem q_RunCmd (hK:K=1∨K=3∨K=5):Kept (cx K Q A n c) 211 c_RunCmd:=kept_of_check (base0 hK) Tryz.func211 rfl k_RunCmd ⟨(q_ImageOk hK),(q_l1Max hK),(q_CmdOk hK),(q_l2Copy hK),(q_CellAt hK),(q_l2Cells hK),trivial⟩
theorem q_l2Seats (hK:K=1∨K=3∨K=5):Kept (cx K Q A n c) 212 c_l2Seats:=kept_of_check (base0 hK) Tryz.func212 rfl k_l2Seats trivial
theorem q_RunEntry (hK:K=1∨K=3∨K=5):Kept (cx K Q A n c) 206 c_RunEntry:=kept_of_check (base0 hK) Tryz.func206 rfl k_RunEntry ⟨(q_ImageOk hK),(q_EntryOk hK),(q_l2Copy hK),(q_SeatOf hK),(q_RunCmd hK),(q_l2Seats hK),trivial⟩
theorem q_RunAll (hK:K=1∨K=3∨K=5):Kept (cx K Q A n c) 191 c_RunAll:=kept_of_check (base0 hK) Tryz.func191 rfl k_RunAll ⟨(q_l2Copy hK),(q_RunEntry hK),trivial⟩
theorem q_LogImage (hK:K=1∨K=3∨K=5):Kept (cx K Q A n c) 168 c_LogImage:=kept_of_check (base0 hK) Tryz.func168 rfl k_LogImage ⟨(q_l3Among hK),(q_RunAll hK),trivial⟩
theorem q_LogFold (hK:K=1∨K=3∨K=5):Kept (cx K Q A n c) 150 c_LogFold:=kept_of_check (base0 hK) Tryz.func150 rfl k_LogFold ⟨(q_LogImage hK),trivial⟩
theorem q_l3DrawRight (hK:K=1∨K=3∨K=5):Kept (cx K Q A n c) 109 c_l3DrawRight:=kept_of_check (base0 hK) Tryz.func109 rfl k_l3DrawRight ⟨(q_l1Below hK),(q_l1Once hK),(q_l2DrawEntries hK),(q_LogFold hK),trivial⟩
theorem q_l4Set (hK:K=1∨K=3∨K=5):Kept (cx K Q A n c) 110 c_l4Set:=kept_of_check (base0 hK) Tryz.func110 rfl k_l4Set trivial
theorem q_l4DrawRight (hK:K=1∨K=3∨K=5):Kept (cx K Q A n c) 69 c_l4DrawRight:=kept_of_check (base0 hK) Tryz.func69 rfl k_l4DrawRight ⟨(q_l1Below hK),(q_l4Has hK),(q_l2DrawCmd hK),(q_l3DrawRight hK),(q_l4Set hK),trivial⟩
theorem q_GetNum (hK:K=1∨K=3∨K=5):Kept (cx K Q A n c) 113 c_GetNum:=kept_of_check (base0 hK) Tryz.func113 rfl k_GetNum trivial
theorem q_Crc (hK:K=1∨K=3∨K=5):Kept (cx K Q A n c) 151 c_Crc:=kept_of_check (base0 hK) Tryz.func151 rfl k_Crc trivial
theorem q_Unframe (hK:K=1∨K=3∨K=5):Kept (cx K Q A n c) 112 c_Unframe:=kept_of_check (base0 hK) Tryz.func112 rfl k_Unframe ⟨(q_GetNum hK),(q_Crc hK),trivial⟩
theorem q_GetNums (hK:K=1∨K=3∨K=5):Kept (cx K Q A n c) 114 c_GetNums:=kept_of_check (base0 hK) Tryz.func114 rfl k_GetNums ⟨(q_l1In hK),(q_GetNum hK),trivial⟩
theorem q_l4Rows (hK:K=1∨K=3∨K=5):Kept (cx K Q A n c) 152 c_l4Rows:=kept_of_check (base0 hK) Tryz.func152 rfl k_l4Rows ⟨(q_GetNum hK),(q_GetNums hK),trivial⟩
theorem q_UnpackLog (hK:K=1∨K=3∨K=5):Kept (cx K Q A n c) 115 c_UnpackLog:=kept_of_check (base0 hK) Tryz.func115 rfl k_UnpackLog ⟨(q_LogOk hK),(q_GetNum hK),(q_l4Rows hK),trivial⟩
theorem q_l4In (hK:K=1∨K=3∨K=5):Kept (cx K Q A n c) 117 c_l4In:=kept_of_check (base0 hK) Tryz.func117 rfl k_l4In trivial
theorem q_l4Num (hK:K=1∨K=3∨K=5):Kept (cx K Q A n c) 153 c_l4Num:=kept_of_check (base0 hK) Tryz.func153 rfl k_l4Num ⟨(q_l1In hK),trivial⟩
theorem q_MsgFits (hK:K=1∨K=3∨K=5):Kept (cx K Q A n c) 116 c_MsgFits:=kept_of_check (base0 hK) Tryz.func116 rfl k_MsgFits ⟨(q_l1In hK),(q_SameLog hK),(q_LogOk hK),(q_LogEnd hK),(q_l4Has hK),(q_l4In hK),(q_CmdOk hK),(q_l4Num hK),trivial⟩
theorem q_UnpackMsg (hK:K=1∨K=3∨K=5):Kept (cx K Q A n c) 71 c_UnpackMsg:=kept_of_check (base0 hK) Tryz.func71 rfl k_UnpackMsg ⟨(q_l4Has hK),(q_l4Set hK),(q_Unframe hK),(q_GetNum hK),(q_GetNums hK),(q_UnpackLog hK),(q_MsgFits hK),trivial⟩
theorem q_l3Copy (hK:K=1∨K=3∨K=5):Kept (cx K Q A n c) 86 c_l3Copy:=kept_of_check (base0 hK) Tryz.func86 rfl k_l3Copy ⟨(q_l2Copy hK),trivial⟩
theorem q_LogPut (hK:K=1∨K=3∨K=5):Kept (cx K Q A n c) 120 c_LogPut:=kept_of_check (base0 hK) Tryz.func120 rfl k_LogPut ⟨(q_LogOk hK),(q_LogEnd hK),(q_EntryOk hK),(q_l3Copy hK),trivial⟩
theorem q_l1Min (hK:K=1∨K=3∨K=5):Kept (cx K Q A n c) 121 c_l1Min:=kept_of_check (base0 hK) Tryz.func121 rfl k_l1Min trivial
theorem q_l9Made (hK:K=1∨K=3∨K=5):Kept (cx K Q A n c) 73 (c_l9Made K):=kept_of_check (baseK hK) Tryz.func73 rfl (k_l9Made hK) ⟨(q_LogOk hK),(q_LogEnd hK),(q_l1Below hK),(q_l1Once hK),(q_l4Has hK),(q_l2DrawCmd hK),(q_l3DrawRight hK),(q_l4In hK),(q_l1Max hK),(q_l3Copy hK),(q_l2DrawEntry hK),(q_LogPut hK),(q_l1Min hK),trivial⟩
theorem q_l1PickInt (hK:K=1∨K=3∨K=5):Kept (cx K Q A n c) 104 c_l1PickInt:=kept_of_check (base0 hK) Tryz.func104 rfl k_l1PickInt ⟨(q_l1Below hK),trivial⟩
theorem q_l2DrawRight (hK:K=1∨K=3∨K=5):Kept (cx K Q A n c) 169 c_l2DrawRight:=kept_of_check (base0 hK) Tryz.func169 rfl k_l2DrawRight ⟨(q_l1Once hK),(q_l2DrawEntries hK),(q_RunAll hK),trivial⟩
theorem q_l2DrawImage (hK:K=1∨K=3∨K=5):Kept (cx K Q A n c) 154 c_l2DrawImage:=kept_of_check (base0 hK) Tryz.func154 rfl k_l2DrawImage ⟨(q_l1Below hK),(q_l1PickInt hK),(q_l2DrawRight hK),trivial⟩
theorem q_l3DrawLog (hK:K=1∨K=3∨K=5):Kept (cx K Q A n c) 122 c_l3DrawLog:=kept_of_check (base0 hK) Tryz.func122 rfl k_l3DrawLog ⟨(q_l1Below hK),(q_l1PickInt hK),(q_l3DrawRight hK),(q_l2DrawImage hK),trivial⟩
theorem q_l2DrawAny (hK:K=1∨K=3∨K=5):Kept (cx K Q A n c) 123 c_l2DrawAny:=kept_of_check (base0 hK) Tryz.func123 rfl k_l2DrawAny ⟨(q_l1Below hK),(q_l1PickInt hK),(q_l2DrawCmd hK),trivial⟩
theorem q_l4DrawMsg (hK:K=1∨K=3∨K=5):Kept (cx K Q A n c) 74 c_l4DrawMsg:=kept_of_check (base0 hK) Tryz.func74 rfl k_l4DrawMsg ⟨(q_l4DrawRight hK),(q_l1Below hK),(q_l1PickInt hK),(q_l3DrawLog hK),(q_l2DrawAny hK),trivial⟩
theorem q_l9Spoil (hK:K=1∨K=3∨K=5):Kept (cx K Q A n c) 75 (c_l9Spoil K):=kept_of_check (baseK hK) Tryz.func75 rfl (k_l9Spoil hK) ⟨(q_l1Below hK),(q_l1PickInt hK),(q_l3DrawLog hK),trivial⟩
theorem q_NewReplica (hK:K=1∨K=3∨K=5):Kept (cx K Q A n c) 135 (c_NewReplica K):=kept_of_check (baseK hK) Tryz.func135 rfl (k_NewReplica hK) ⟨(q_ReplicaOk hK),trivial⟩
theorem q_NewGroup (hK:K=1∨K=3∨K=5):Kept (cx K Q A n c) 103 (c_NewGroup K):=kept_of_check (baseK hK) Tryz.func103 rfl (k_NewGroup hK) ⟨(q_l6Of hK),(q_NewReplica hK),trivial⟩
theorem q_PrimaryOf (hK:K=1∨K=3∨K=5):Kept (cx K Q A n c) 93 (c_PrimaryOf K):=kept_of_check (baseK hK) Tryz.func93 rfl (k_PrimaryOf hK) ⟨(q_l6Of hK),(q_l1Whole hK),trivial⟩
theorem q_l6Leads (hK:K=1∨K=3∨K=5):Kept (cx K Q A n c) 92 (c_l6Leads K):=kept_of_check (baseK hK) Tryz.func92 rfl (k_l6Leads hK) ⟨(q_PrimaryOf hK),trivial⟩
theorem q_l9Leader (hK:K=1∨K=3∨K=5):Kept (cx K Q A n c) 136 c_l9Leader:=kept_of_check (baseK hK) Tryz.func136 rfl (k_l9Leader hK) ⟨(q_l1Below hK),(q_l1Once hK),(q_l6Leads hK),trivial⟩
theorem q_l9Soon (hK:K=1∨K=3∨K=5):Kept (cx K Q A n c) 137 c_l9Soon:=kept_of_check (base0 hK) Tryz.func137 rfl k_l9Soon ⟨(q_l1Below hK),(q_l1Once hK),(q_l1Min hK),trivial⟩
theorem q_l9DrawGo (hK:K=1∨K=3∨K=5):Kept (cx K Q A n c) 105 c_l9DrawGo:=kept_of_check (baseK hK) Tryz.func105 rfl (k_l9DrawGo hK) ⟨(q_l1Below hK),(q_l2DrawCmd hK),(q_l1Max hK),(q_l9Leader hK),(q_l9Soon hK),trivial⟩
theorem q_l5Flight (hK:K=1∨K=3∨K=5):Kept (cx K Q A n c) 173 c_l5Flight:=kept_of_check (baseK hK) Tryz.func173 rfl (k_l5Flight hK) ⟨(q_l1In hK),trivial⟩
theorem q_NetOk (hK:K=1∨K=3∨K=5):Kept (cx K Q A n c) 159 c_NetOk:=kept_of_check (baseK hK) Tryz.func159 rfl (k_NetOk hK) ⟨(q_l1In hK),(q_l1Whole hK),(q_l5Flight hK),trivial⟩
theorem q_GroupOk (hK:K=1∨K=3∨K=5):Kept (cx K Q A n c) 138 c_GroupOk:=kept_of_check (baseK hK) Tryz.func138 rfl (k_GroupOk hK) ⟨(q_ReplicaOk hK),(q_l6Of hK),(q_l1In hK),(q_l1Whole hK),(q_NetOk hK),trivial⟩
theorem q_GoOk (hK:K=1∨K=3∨K=5):Kept (cx K Q A n c) 139 c_GoOk:=kept_of_check (base0 hK) Tryz.func139 rfl k_GoOk ⟨(q_l1In hK),(q_l1Whole hK),(q_CmdOk hK),trivial⟩
theorem q_l5Copy (hK:K=1∨K=3∨K=5):Kept (cx K Q A n c) 160 c_l5Copy:=kept_of_check (baseK hK) Tryz.func160 rfl (k_l5Copy hK) trivial
theorem q_l6Copy (hK:K=1∨K=3∨K=5):Kept (cx K Q A n c) 50 (c_l6Copy K):=kept_of_check (baseK hK) Tryz.func50 rfl (k_l6Copy hK) ⟨(q_l3Copy hK),trivial⟩
theorem q_l9Copy (hK:K=1∨K=3∨K=5):Kept (cx K Q A n c) 140 c_l9Copy:=kept_of_check (baseK hK) Tryz.func140 rfl (k_l9Copy hK) ⟨(q_l5Copy hK),(q_l6Copy hK),trivial⟩
theorem q_NetTake (hK:K=1∨K=3∨K=5):Kept (cx K Q A n c) 142 (c_NetTake K):=kept_of_check (baseK hK) Tryz.func142 rfl (k_NetTake hK) ⟨(q_NetOk hK),(q_l5Copy hK),trivial⟩
theorem q_NetSend (hK:K=1∨K=3∨K=5):Kept (cx K Q A n c) 167 (c_NetSend K):=kept_of_check (baseK hK) Tryz.func167 rfl (k_NetSend hK) ⟨(q_NetOk hK),(q_l5Copy hK),(q_l5Flight hK),trivial⟩
theorem q_NetDouble (hK:K=1∨K=3∨K=5):Kept (cx K Q A n c) 161 c_NetDouble:=kept_of_check (baseK hK) Tryz.func161 rfl (k_NetDouble hK) ⟨(q_NetTake hK),(q_NetSend hK),trivial⟩
theorem q_NetMove (hK:K=1∨K=3∨K=5):Kept (cx K Q A n c) 162 c_NetMove:=kept_of_check (baseK hK) Tryz.func162 rfl (k_NetMove hK) ⟨(q_NetTake hK),(q_l5Copy hK),trivial⟩
theorem q_NetSpoil (hK:K=1∨K=3∨K=5):Kept (cx K Q A n c) 163 c_NetSpoil:=kept_of_check (baseK hK) Tryz.func163 rfl (k_NetSpoil hK) ⟨(q_NetTake hK),(q_l5Copy hK),trivial⟩
theorem q_l9Net (hK:K=1∨K=3∨K=5):Kept (cx K Q A n c) 141 c_l9Net:=kept_of_check (baseK hK) Tryz.func141 rfl (k_l9Net hK) ⟨(q_UnpackMsg hK),(q_NetTake hK),(q_NetDouble hK),(q_NetMove hK),(q_NetSpoil hK),trivial⟩
theorem q_PutNum (hK:K=1∨K=3∨K=5):Kept (cx K Q A n c) 186 c_PutNum:=kept_of_check (base0 hK) Tryz.func186 rfl k_PutNum trivial
theorem q_PutNums (hK:K=1∨K=3∨K=5):Kept (cx K Q A n c) 187 c_PutNums:=kept_of_check (base0 hK) Tryz.func187 rfl k_PutNums ⟨(q_PutNum hK),trivial⟩
theorem q_PackLog (hK:K=1∨K=3∨K=5):Kept (cx K Q A n c) 188 c_PackLog:=kept_of_check (base0 hK) Tryz.func188 rfl k_PackLog ⟨(q_LogOk hK),(q_PutNums hK),trivial⟩
theorem q_Frame (hK:K=1∨K=3∨K=5):Kept (cx K Q A n c) 189 c_Frame:=kept_of_check (base0 hK) Tryz.func189 rfl k_Frame ⟨(q_Crc hK),(q_PutNum hK),trivial⟩
theorem q_PackMsg (hK:K=1∨K=3∨K=5):Kept (cx K Q A n c) 166 c_PackMsg:=kept_of_check (base0 hK) Tryz.func166 rfl k_PackMsg ⟨(q_l4Has hK),(q_MsgFits hK),(q_PutNum hK),(q_PutNums hK),(q_PackLog hK),(q_Frame hK),trivial⟩
theorem q_l9Post (hK:K=1∨K=3∨K=5):Kept (cx K Q A n c) 148 c_l9Post:=kept_of_check (baseK hK) Tryz.func148 rfl (k_l9Post hK) ⟨(q_PackMsg hK),(q_NetSend hK),trivial⟩
theorem q_l6Same (hK:K=1∨K=3∨K=5):Kept (cx K Q A n c) 17 (c_l6Same K):=kept_of_check (baseK hK) Tryz.func17 rfl (k_l6Same hK) ⟨(q_ReplicaOk hK),(q_l6Copy hK),trivial⟩
theorem q_l6All (hK:K=1∨K=3∨K=5):Kept (cx K Q A n c) 51 (c_l6All K):=kept_of_check (baseK hK) Tryz.func51 rfl (k_l6All hK) ⟨(q_l3Copy hK),trivial⟩
theorem q_LogAt (hK:K=1∨K=3∨K=5):Kept (cx K Q A n c) 185 c_LogAt:=kept_of_check (base0 hK) Tryz.func185 rfl k_LogAt ⟨(q_LogOk hK),(q_LogEnd hK),trivial⟩
theorem q_l6Prepare (hK:K=1∨K=3∨K=5):Kept (cx K Q A n c) 165 (c_l6Prepare K):=kept_of_check (baseK hK) Tryz.func165 rfl (k_l6Prepare hK) ⟨(q_LogAt hK),trivial⟩
theorem q_l6Hears (hK:K=1∨K=3∨K=5):Kept (cx K Q A n c) 198 (c_l6Hears K):=kept_of_check (baseK hK) Tryz.func198 rfl (k_l6Hears hK) ⟨(q_ReplicaOk hK),(q_MsgFits hK),trivial⟩
theorem q_Committed (hK:K=1∨K=3∨K=5):Kept (cx K Q A n c) 200 (c_Committed K):=kept_of_check (baseK hK) Tryz.func200 rfl (k_Committed hK) ⟨(q_ReplicaOk hK),(q_LogImage hK),trivial⟩
theorem q_LogFrom (hK:K=1∨K=3∨K=5):Kept (cx K Q A n c) 201 c_LogFrom:=kept_of_check (base0 hK) Tryz.func201 rfl k_LogFrom ⟨(q_l3Among hK),trivial⟩
theorem q_l6Put (hK:K=1∨K=3∨K=5):Kept (cx K Q A n c) 202 (c_l6Put K):=kept_of_check (baseK hK) Tryz.func202 rfl (k_l6Put hK) ⟨(q_LogPut hK),(q_LogFold hK),trivial⟩
theorem q_l6Answers (hK:K=1∨K=3∨K=5):Kept (cx K Q A n c) 203 (c_l6Answers K):=kept_of_check (baseK hK) Tryz.func203 rfl (k_l6Answers hK) ⟨(q_LogImage hK),(q_LogAt hK),(q_SeatOf hK),(q_RunEntry hK),trivial⟩
theorem q_OnRequest (hK:K=1∨K=3∨K=5):Kept (cx K Q A n c) 174 (c_OnRequest K):=kept_of_check (baseK hK) Tryz.func174 rfl (k_OnRequest hK) ⟨(q_LogEnd hK),(q_l6Leads hK),(q_l6Same hK),(q_l6All hK),(q_l6Prepare hK),(q_l6Hears hK),(q_SeatOf hK),(q_Committed hK),(q_LogFrom hK),(q_l6Put hK),(q_l6Answers hK),trivial⟩
theorem q_l6Live (hK:K=1∨K=3∨K=5):Kept (cx K Q A n c) 18 (c_l6Live K):=kept_of_check (baseK hK) Tryz.func18 rfl (k_l6Live hK) trivial
theorem q_l6Ask (hK:K=1∨K=3∨K=5):Kept (cx K Q A n c) 204 (c_l6Ask K):=kept_of_check (baseK hK) Tryz.func204 rfl (k_l6Ask hK) trivial
theorem q_OnPrepare (hK:K=1∨K=3∨K=5):Kept (cx K Q A n c) 175 (c_OnPrepare K):=kept_of_check (baseK hK) Tryz.func175 rfl (k_OnPrepare hK) ⟨(q_LogEnd hK),(q_l1Max hK),(q_l1Min hK),(q_l6Live hK),(q_l6Leads hK),(q_l6Same hK),(q_PrimaryOf hK),(q_l6Hears hK),(q_l6Put hK),(q_l6Ask hK),trivial⟩
theorem q_l6Find (hK:K=1∨K=3∨K=5):Kept (cx K Q A n c) 89 c_l6Find:=kept_of_check (base0 hK) Tryz.func89 rfl k_l6Find trivial
theorem q_l6Vote (hK:K=1∨K=3∨K=5):Kept (cx K Q A n c) 91 (c_l6Vote K):=kept_of_check (baseK hK) Tryz.func91 rfl (k_l6Vote hK) trivial
theorem q_l6Half (hK:K=1∨K=3∨K=5):Kept (cx K Q A n c) 88 (c_l6Half K):=kept_of_check (baseK hK) Tryz.func88 rfl (k_l6Half hK) trivial
theorem q_OnOk (hK:K=1∨K=3∨K=5):Kept (cx K Q A n c) 176 (c_OnOk K):=kept_of_check (baseK hK) Tryz.func176 rfl (k_OnOk hK) ⟨(q_LogEnd hK),(q_l1Max hK),(q_l6Leads hK),(q_l6Same hK),(q_l6All hK),(q_l6Find hK),(q_l6Hears hK),(q_l6Answers hK),(q_l6Vote hK),(q_l6Half hK),trivial⟩
theorem q_OnCommit (hK:K=1∨K=3∨K=5):Kept (cx K Q A n c) 177 (c_OnCommit K):=kept_of_check (baseK hK) Tryz.func177 rfl (k_OnCommit hK) ⟨(q_LogEnd hK),(q_l1Max hK),(q_l1Min hK),(q_l6Live hK),(q_l6Leads hK),(q_l6Same hK),(q_PrimaryOf hK),(q_l6Hears hK),(q_l6Ask hK),trivial⟩
theorem q_l6Do (hK:K=1∨K=3∨K=5):Kept (cx K Q A n c) 90 (c_l6Do K):=kept_of_check (baseK hK) Tryz.func90 rfl (k_l6Do hK) ⟨(q_l3Copy hK),trivial⟩
theorem q_l7Count (hK:K=1∨K=3∨K=5):Kept (cx K Q A n c) 87 c_l7Count:=kept_of_check (base0 hK) Tryz.func87 rfl k_l7Count trivial
theorem q_l7Begin (hK:K=1∨K=3∨K=5) (H:Hand K Q A n c):Kept (cx K Q A n c) 19 (c_l7Begin K):=kept_of_check (baseK hK) Tryz.func19 rfl (k_l7Begin hK) ⟨(q_l6All hK),H.look,trivial⟩
theorem q_OnTurn (hK:K=1∨K=3∨K=5) (H:Hand K Q A n c):Kept (cx K Q A n c) 178 (c_OnTurn K):=kept_of_check (baseK hK) Tryz.func178 rfl (k_OnTurn hK) ⟨(q_l6Live hK),(q_l6Same hK),(q_l7Begin hK H),(q_l6Find hK),H.look,(q_l6Hears hK),(q_l6Vote hK),trivial⟩
theorem q_OnDo (hK:K=1∨K=3∨K=5) (H:Hand K Q A n c):Kept (cx K Q A n c) 179 (c_OnDo K):=kept_of_check (baseK hK) Tryz.func179 rfl (k_OnDo hK) ⟨(q_l3Copy hK),(q_l6Live hK),(q_l6Same hK),(q_l7Begin hK H),(q_l6Find hK),(q_PrimaryOf hK),H.look,(q_l6Hears hK),(q_l6Vote hK),trivial⟩
theorem q_l7Take (hK:K=1∨K=3∨K=5):Kept (cx K Q A n c) 205 (c_l7Take K):=kept_of_check (baseK hK) Tryz.func205 rfl (k_l7Take hK) ⟨(q_LogEnd hK),(q_l1Max hK),(q_l3Copy hK),(q_l1Min hK),trivial⟩
theorem q_OnStart (hK:K=1∨K=3∨K=5):Kept (cx K Q A n c) 180 (c_OnStart K):=kept_of_check (baseK hK) Tryz.func180 rfl (k_OnStart hK) ⟨(q_LogEnd hK),(q_l6Live hK),(q_l6Same hK),(q_PrimaryOf hK),(q_l6Hears hK),(q_l7Take hK),trivial⟩
theorem q_OnAskBack (hK:K=1∨K=3∨K=5):Kept (cx K Q A n c) 181 (c_OnAskBack K):=kept_of_check (baseK hK) Tryz.func181 rfl (k_OnAskBack hK) ⟨(q_l3Copy hK),(q_l6Same hK),(q_l6Hears hK),trivial⟩
theorem q_OnBack (hK:K=1∨K=3∨K=5):Kept (cx K Q A n c) 182 (c_OnBack K):=kept_of_check (baseK hK) Tryz.func182 rfl (k_OnBack hK) ⟨(q_LogEnd hK),(q_l1Max hK),(q_l3Copy hK),(q_l6Same hK),(q_l6Find hK),(q_PrimaryOf hK),(q_l6Hears hK),(q_l6Vote hK),(q_l6Half hK),(q_l7Take hK),trivial⟩
theorem q_OnAskState (hK:K=1∨K=3∨K=5):Kept (cx K Q A n c) 183 (c_OnAskState K):=kept_of_check (baseK hK) Tryz.func183 rfl (k_OnAskState hK) ⟨(q_l3Copy hK),(q_l6Same hK),(q_l6Hears hK),trivial⟩
theorem q_OnState (hK:K=1∨K=3∨K=5):Kept (cx K Q A n c) 184 (c_OnState K):=kept_of_check (baseK hK) Tryz.func184 rfl (k_OnState hK) ⟨(q_LogEnd hK),(q_l6Live hK),(q_l6Leads hK),(q_l6Same hK),(q_PrimaryOf hK),(q_l6Hears hK),(q_l7Take hK),trivial⟩
theorem q_OnMsg (hK:K=1∨K=3∨K=5) (H:Hand K Q A n c):Kept (cx K Q A n c) 164 (c_OnMsg K):=kept_of_check (baseK hK) Tryz.func164 rfl (k_OnMsg hK) ⟨(q_l6Same hK),(q_OnRequest hK),(q_OnPrepare hK),(q_OnOk hK),(q_OnCommit hK),(q_OnTurn hK H),(q_OnDo hK H),(q_OnStart hK),(q_OnAskBack hK),(q_OnBack hK),(q_OnAskState hK),(q_OnState hK),trivial⟩
theorem q_l9Hear (hK:K=1∨K=3∨K=5) (H:Hand K Q A n c):Kept (cx K Q A n c) 143 c_l9Hear:=kept_of_check (baseK hK) Tryz.func143 rfl (k_l9Hear hK) ⟨(q_l9Post hK),(q_OnMsg hK H),trivial⟩
theorem q_Turn (hK:K=1∨K=3∨K=5) (H:Hand K Q A n c):Kept (cx K Q A n c) 7 (c_Turn K):=kept_of_check (baseK hK) Tryz.func7 rfl (k_Turn hK) ⟨(q_ReplicaOk hK),(q_l6Live hK),(q_l6Same hK),(q_l7Begin hK H),trivial⟩
theorem q_Resend (hK:K=1∨K=3∨K=5):Kept (cx K Q A n c) 144 (c_Resend K):=kept_of_check (baseK hK) Tryz.func144 rfl (k_Resend hK) ⟨(q_ReplicaOk hK),(q_LogEnd hK),(q_l6Leads hK),(q_l6All hK),(q_l6Prepare hK),(q_l6Find hK),(q_PrimaryOf hK),(q_l6Do hK),trivial⟩
theorem q_l9Up (hK:K=1∨K=3∨K=5):Kept (cx K Q A n c) 145 c_l9Up:=kept_of_check (baseK hK) Tryz.func145 rfl (k_l9Up hK) ⟨(q_l6Live hK),trivial⟩
theorem q_Crash (hK:K=1∨K=3∨K=5):Kept (cx K Q A n c) 146 (c_Crash K):=kept_of_check (baseK hK) Tryz.func146 rfl (k_Crash hK) ⟨(q_ReplicaOk hK),(q_l6Same hK),trivial⟩
theorem q_Restart (hK:K=1∨K=3∨K=5):Kept (cx K Q A n c) 147 (c_Restart K):=kept_of_check (baseK hK) Tryz.func147 rfl (k_Restart hK) ⟨(q_ReplicaOk hK),(q_l6Same hK),(q_l6All hK),trivial⟩
theorem q_GroupDo (hK:K=1∨K=3∨K=5) (H:Hand K Q A n c):Kept (cx K Q A n c) 106 (c_GroupDo K):=kept_of_check (baseK hK) Tryz.func106 rfl (k_GroupDo hK) ⟨(q_UnpackMsg hK),(q_GroupOk hK),(q_GoOk hK),(q_l9Copy hK),(q_l9Net hK),(q_NetTake hK),(q_l9Hear hK H),(q_Turn hK H),(q_Resend hK),(q_l9Up hK),(q_l6Live hK),(q_Crash hK),(q_Restart hK),(q_l9Post hK),trivial⟩
end Go.Proofs.YtikelfmmldafpaaGreat.Ai
