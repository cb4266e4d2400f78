/-
  A part of a proof about the given program; what is proved is said where each theorem stands.
-/
import Derived.Test.YtiejbbcpihpgpaaGreatDoorShelf
set_option maxRecDepth 100000
set_option maxHeartbeats 2000000
namespace Go.Proofs.YtiejbbcpihpgpaaGreatDoor.Ab
open Go.Proofs
abbrev o1 (d:Dst) (p:AOp):cM:=⟨d,p,none,[]⟩
@[simp] theorem aXx (d:Dst) (p:AOp):o1 d p=⟨d,p,none,[]⟩:=id rfl
def aLO:aI:=.reg [o1 (.var 2) (.box (.var 0)),
 o1 (.var 3) (.box (.var 1)),
 o1 (.var 4) (.alloc [.d (.int .i64 0),.d (.int .i64 0),.d (.int .i64 0),.nil 1 7,.nil 0 6,.nil 0 2,.d (.int .i64 0),.d (.int .i64 0),.nil 0 3,.nil 0 2,.nil 1 2,.nil 0 4,.nil 2 3,.d (.int .i64 0),.d (.int .i64 0),.nil 1 6,.d (.int .i64 0),.d (.int .i64 0),.nil 0 7,.nil 0 1,.nil 0 1,.d (.int .i64 0)]),
 o1 (.var 5) (.alloc [.d (.int .i64 0),.d (.int .i64 0),.d (.str []),.d (.str []),.nil 0 1])] false
def aLN:aI:=.reg [o1 (.loc 49) (.load true 6 (.var 3)),
 o1 (.loc 50) (.call (.fn 105) [(.loc 49)] [.borrow]),
 o1 (.loc 48) (.mv (.loc 50)),
 o1 (.loc 51) (.ext (.loc 48) 0),
 o1 (.loc 52) (.ext (.loc 48) 1),
 o1 (.loc 6) (.mv (.loc 51)),
 o1 (.var 7) (.mv (.loc 52))] false
def aLM:aI:=.reg [o1 (.loc 53) (.fld 0 (.var 3)),
 o1 (.var 54) (.load false 1 (.loc 53))] false
def aLL:aI:=.reg [o1 (.loc 56) (.bin .int .eql (.var 54) (.const (.d (.int .i64 0)))),
 o1 (.var 55) (.mv (.loc 56))] false
def aLK:aI:=.reg [o1 (.loc 58) (.fld 2 (.var 3)),
 o1 (.loc 59) (.load false 1 (.loc 58)),
 o1 (.loc 60) (.fld 4 (.var 3)),
 o1 (.loc 61) (.load false 1 (.loc 60)),
 o1 (.loc 62) (.call (.fn 151) [(.loc 59),(.loc 61)] [.borrow,.borrow]),
 o1 (.loc 57) (.mv (.loc 62)),
 o1 (.loc 63) (.ext (.loc 57) 0),
 o1 (.loc 64) (.ext (.loc 57) 1),
 o1 (.var 8) (.alloc [.d (.str []),.nil 0 2]),
 o1 .none (.store 2 (.var 8) (.loc 63)),
 o1 (.var 9) (.mv (.loc 64))] false
def aLJ:aI:=.reg [o1 (.loc 65) (.mv (.var 9)),
 o1 (.loc 66) (.un .not (.loc 65)),
 o1 (.loc 67) (.split (.loc 66)),
 ⟨.loc 68,.fld 2 (.var 3),some ((.loc 67),false),[]⟩,
 ⟨.loc 69,.load false 1 (.loc 68),some ((.loc 67),false),[]⟩,
 ⟨.loc 70,.bin .str .eql (.loc 69) (.const (.d (.str [114,111,111,116]))),some ((.loc 67),false),[]⟩,
 o1 (.var 71) (.pick (.loc 67) (.const (.d (.bool true))) (.loc 70))] false
def aLI:aI:=.reg [o1 (.loc 72) (.load true 22 (.var 2)),
 o1 (.loc 73) (.call (.fn 78) [(.loc 72),(.const (.d (.int .i64 1)))] [.give,.borrow]),
 o1 (.loc 74) (.ext (.loc 73) 0),
 o1 (.loc 75) (.ext (.loc 73) 1),
 o1 .none (.store 22 (.var 4) (.loc 74)),
 o1 .none (.store 5 (.var 5) (.loc 75))] false
def aLH:aI:=.reg [o1 (.loc 76) (.fld 10 (.var 2)),
 o1 (.loc 77) (.load false 1 (.loc 76)),
 o1 (.loc 78) (.load true 2 (.var 8)),
 o1 (.loc 79) (.call (.fn 152) [(.loc 77),(.loc 78)] [.borrow,.borrow]),
 o1 (.var 10) (.mv (.loc 79))] false
def aLG:aI:=.reg [o1 (.loc 80) (.mv (.var 10)),
 o1 (.loc 81) (.len false (.loc 80)),
 o1 (.loc 82) (.bin .int .gtr (.loc 81) (.const (.d (.int .i64 50)))),
 o1 (.loc 83) (.split (.loc 82)),
 ⟨.loc 84,.mv (.var 10),some ((.loc 83),true),[]⟩,
 ⟨.loc 85,.len false (.loc 84),some ((.loc 83),true),[]⟩,
 ⟨.loc 86,.fld 10 (.var 2),some ((.loc 83),true),[]⟩,
 ⟨.loc 87,.load false 1 (.loc 86),some ((.loc 83),true),[]⟩,
 ⟨.loc 88,.len false (.loc 87),some ((.loc 83),true),[]⟩,
 ⟨.loc 89,.bin .int .gtr (.loc 85) (.loc 88),some ((.loc 83),true),[]⟩,
 o1 (.var 90) (.pick (.loc 83) (.loc 89) (.const (.d (.bool false))))] false
def aLF:aI:=.reg [o1 (.loc 91) (.load true 22 (.var 2)),
 o1 (.loc 92) (.call (.fn 78) [(.loc 91),(.const (.d (.int .i64 6)))] [.give,.borrow]),
 o1 (.loc 93) (.ext (.loc 92) 0),
 o1 (.loc 94) (.ext (.loc 92) 1),
 o1 .none (.store 22 (.var 4) (.loc 93)),
 o1 .none (.store 5 (.var 5) (.loc 94))] false
def aJ1:aI:=.reg [o1 (.loc 95) (.mv (.var 10)),
 o1 (.loc 96) (.fld 10 (.var 2)),
 o1 .none (.store 1 (.loc 96) (.loc 95))] false
def aJ0:aI:=.reg [o1 (.loc 97) (.load true 22 (.var 2)),
 o1 (.loc 98) (.mv (.var 10)),
 o1 (.loc 99) (.len false (.loc 98)),
 o1 (.loc 100) (.build [.d (.int .i64 0),.d (.int .i64 0),.d (.str []),.d (.str []),.nil 0 1] [(1,1,(.loc 99))]),
 o1 .none (.store 22 (.var 4) (.loc 97)),
 o1 .none (.store 5 (.var 5) (.loc 100))] false
def aJZ:aI:=.reg [o1 (.loc 102) (.bin .int .eql (.var 54) (.const (.d (.int .i64 1)))),
 o1 (.var 101) (.mv (.loc 102))] false
def aJY:aI:=.reg [o1 (.loc 103) (.load true 22 (.var 2)),
 o1 (.loc 104) (.load true 6 (.var 3)),
 o1 (.loc 105) (.call (.fn 153) [(.loc 103),(.loc 104)] [.give,.borrow]),
 o1 (.loc 106) (.ext (.loc 105) 0),
 o1 (.loc 107) (.ext (.loc 105) 1),
 o1 .none (.store 22 (.var 4) (.loc 106)),
 o1 .none (.store 5 (.var 5) (.loc 107))] false
def aJX:aI:=.reg [o1 (.loc 109) (.bin .int .eql (.var 54) (.const (.d (.int .i64 2)))),
 o1 (.var 108) (.mv (.loc 109))] false
def aJW:aI:=.reg [o1 (.loc 111) (.fld 0 (.var 2)),
 o1 (.loc 112) (.load true 10 (.loc 111)),
 o1 (.loc 113) (.fld 5 (.var 3)),
 o1 (.loc 114) (.load false 1 (.loc 113)),
 o1 (.loc 115) (.call (.fn 154) [(.loc 112),(.loc 114)] [.borrow,.borrow]),
 o1 (.loc 110) (.mv (.loc 115)),
 o1 (.loc 116) (.ext (.loc 110) 0),
 o1 (.loc 117) (.ext (.loc 110) 1),
 o1 (.var 11) (.alloc [.d (.int .i64 0),.d (.int .i64 0),.d (.int .i64 0),.nil 1 7,.nil 0 6,.nil 0 2,.d (.int .i64 0),.d (.int .i64 0),.nil 0 3,.nil 0 2]),
 o1 .none (.store 10 (.var 11) (.loc 116)),
 o1 (.var 12) (.mv (.loc 117))] false
def aJV:aI:=.reg [o1 (.loc 118) (.mv (.var 12)),
 o1 (.loc 119) (.len false (.loc 118)),
 o1 (.var 120) (.bin .int .eql (.loc 119) (.const (.d (.int .i64 0))))] false
def aJU:aI:=.reg [o1 (.loc 121) (.load true 22 (.var 2)),
 o1 (.loc 122) (.call (.fn 78) [(.loc 121),(.const (.d (.int .i64 4)))] [.give,.borrow]),
 o1 (.loc 123) (.ext (.loc 122) 0),
 o1 (.loc 124) (.ext (.loc 122) 1),
 o1 .none (.store 22 (.var 4) (.loc 123)),
 o1 .none (.store 5 (.var 5) (.loc 124))] false
def aJT:aI:=.reg [o1 (.loc 125) (.load true 10 (.var 11)),
 o1 (.loc 126) (.fld 0 (.var 2)),
 o1 .none (.store 10 (.loc 126) (.loc 125))] false
def aJS:aI:=.reg [o1 (.loc 127) (.load true 22 (.var 2)),
 o1 (.loc 128) (.mv (.var 12)),
 ⟨.loc 129,.call (.fn 155) [(.loc 128)] [.borrow],none,[1]⟩,
 ⟨.loc 130,.build [.d (.int .i64 0),.d (.int .i64 0),.d (.str []),.d (.str []),.nil 0 1] [(4,1,(.loc 129))],none,[2,1]⟩,
 ⟨.none,.store 22 (.var 4) (.loc 127),none,[2,1,0]⟩,
 ⟨.none,.store 5 (.var 5) (.loc 130),none,[3,4,2,1,0]⟩] true
def aJR:aI:=.reg [o1 (.loc 132) (.bin .int .eql (.var 54) (.const (.d (.int .i64 3)))),
 o1 (.var 131) (.mv (.loc 132))] false
def aJQ:aI:=.reg [o1 (.loc 134) (.fld 0 (.var 2)),
 o1 (.loc 135) (.fld 3 (.loc 134)),
 o1 (.loc 136) (.load true 1 (.loc 135)),
 o1 (.loc 137) (.fld 1 (.var 3)),
 o1 (.loc 138) (.load false 1 (.loc 137)),
 o1 (.loc 139) (.call (.fn 107) [(.loc 136),(.loc 138)] [.borrow,.borrow]),
 o1 (.loc 133) (.mv (.loc 139)),
 o1 (.loc 140) (.ext (.loc 133) 0),
 o1 (.loc 141) (.ext (.loc 133) 1),
 o1 (.var 13) (.alloc [.d (.int .i64 0),.d (.int .i64 0),.nil 0 1,.d (.int .i64 0),.d (.int .i64 0),.d (.int .i64 0),.d (.int .i64 0)]),
 o1 .none (.store 7 (.var 13) (.loc 140)),
 o1 (.loc 14) (.mv (.loc 141))] false
def aJP:aI:=.reg [o1 (.loc 143) (.fld 0 (.var 2)),
 o1 (.loc 144) (.fld 3 (.loc 143)),
 o1 (.loc 145) (.load true 1 (.loc 144)),
 o1 (.loc 146) (.fld 1 (.var 3)),
 o1 (.loc 147) (.load false 1 (.loc 146)),
 o1 (.loc 148) (.fld 0 (.var 2)),
 o1 (.loc 149) (.fld 0 (.loc 148)),
 o1 (.loc 150) (.load false 1 (.loc 149)),
 o1 (.loc 151) (.fld 5 (.var 3)),
 o1 (.loc 152) (.load false 1 (.loc 151)),
 o1 (.loc 153) (.call (.fn 156) [(.loc 145),(.loc 147),(.loc 150),(.loc 152)] [.borrow,.borrow,.borrow,.borrow]),
 o1 (.loc 142) (.mv (.loc 153)),
 o1 (.loc 154) (.ext (.loc 142) 0),
 o1 (.loc 155) (.ext (.loc 142) 1),
 o1 (.var 15) (.alloc [.nil 1 7]),
 o1 .none (.store 1 (.var 15) (.loc 154)),
 o1 (.var 16) (.mv (.loc 155))] false
def aJO:aI:=.reg [o1 (.loc 156) (.mv (.var 16)),
 o1 (.loc 157) (.bin .int .eql (.loc 156) (.const (.d (.int .i64 1)))),
 o1 (.loc 158) (.split (.loc 157)),
 ⟨.loc 159,.mv (.var 16),some ((.loc 158),false),[]⟩,
 ⟨.loc 160,.bin .int .eql (.loc 159) (.const (.d (.int .i64 4))),some ((.loc 158),false),[]⟩,
 o1 (.var 161) (.pick (.loc 158) (.const (.d (.bool true))) (.loc 160))] false
def aJN:aI:=.reg [o1 (.loc 162) (.load true 22 (.var 2)),
 o1 (.loc 163) (.call (.fn 78) [(.loc 162),(.const (.d (.int .i64 1)))] [.give,.borrow]),
 o1 (.loc 164) (.ext (.loc 163) 0),
 o1 (.loc 165) (.ext (.loc 163) 1),
 o1 .none (.store 22 (.var 4) (.loc 164)),
 o1 .none (.store 5 (.var 5) (.loc 165))] false
def aJM:aI:=.reg [o1 (.loc 166) (.mv (.var 16)),
 o1 (.var 167) (.bin .int .neq (.loc 166) (.const (.d (.int .i64 0))))] false
def aJL:aI:=.reg [o1 (.loc 168) (.load true 22 (.var 2)),
 o1 (.loc 169) (.call (.fn 78) [(.loc 168),(.const (.d (.int .i64 2)))] [.give,.borrow]),
 o1 (.loc 170) (.ext (.loc 169) 0),
 o1 (.loc 171) (.ext (.loc 169) 1),
 o1 .none (.store 22 (.var 4) (.loc 170)),
 o1 .none (.store 5 (.var 5) (.loc 171))] false
def aJK:aI:=.reg [o1 (.loc 172) (.fld 4 (.var 13)),
 o1 (.loc 173) (.load false 1 (.loc 172)),
 o1 (.var 174) (.bin .int .eql (.loc 173) (.const (.d (.int .i64 0))))] false
def aJJ:aI:=.reg [o1 (.loc 175) (.load true 22 (.var 2)),
 o1 (.loc 176) (.call (.fn 78) [(.loc 175),(.const (.d (.int .i64 3)))] [.give,.borrow]),
 o1 (.loc 177) (.ext (.loc 176) 0),
 o1 (.loc 178) (.ext (.loc 176) 1),
 o1 .none (.store 22 (.var 4) (.loc 177)),
 o1 .none (.store 5 (.var 5) (.loc 178))] false
def aJI:aI:=.reg [o1 (.loc 179) (.fld 0 (.var 2)),
 o1 (.loc 180) (.load true 10 (.loc 179)),
 o1 (.loc 181) (.call (.fn 109) [(.loc 180)] [.borrow]),
 o1 (.loc 182) (.fld 0 (.var 2)),
 o1 .none (.store 10 (.loc 182) (.loc 181))] false
def aJH:aI:=.reg [o1 (.loc 183) (.load true 1 (.var 15)),
 o1 (.loc 184) (.fld 0 (.var 2)),
 o1 (.loc 185) (.fld 3 (.loc 184)),
 o1 .none (.store 1 (.loc 185) (.loc 183))] false
def aJG:aI:=.reg [o1 (.loc 187) (.load true 1 (.var 15)),
 o1 (.loc 188) (.fld 1 (.var 3)),
 o1 (.loc 189) (.load false 1 (.loc 188)),
 o1 (.loc 190) (.call (.fn 107) [(.loc 187),(.loc 189)] [.borrow,.borrow]),
 o1 (.loc 186) (.mv (.loc 190)),
 o1 (.loc 191) (.ext (.loc 186) 0),
 o1 (.loc 192) (.ext (.loc 186) 1),
 o1 (.var 17) (.alloc [.d (.int .i64 0),.d (.int .i64 0),.nil 0 1,.d (.int .i64 0),.d (.int .i64 0),.d (.int .i64 0),.d (.int .i64 0)]),
 o1 .none (.store 7 (.var 17) (.loc 191)),
 o1 (.loc 18) (.mv (.loc 192))] false
def aJF:aI:=.reg [o1 (.loc 193) (.load true 22 (.var 2)),
 o1 (.loc 194) (.fld 4 (.var 17)),
 ⟨.loc 195,.load false 1 (.loc 194),none,[1]⟩,
 ⟨.loc 196,.build [.d (.int .i64 0),.d (.int .i64 0),.d (.str []),.d (.str []),.nil 0 1] [(1,1,(.loc 195))],none,[2,1]⟩,
 ⟨.none,.store 22 (.var 4) (.loc 193),none,[0]⟩,
 ⟨.none,.store 5 (.var 5) (.loc 196),none,[3,2,1,4,0]⟩] true
def aJE:aI:=.reg [o1 (.loc 198) (.bin .int .eql (.var 54) (.const (.d (.int .i64 4)))),
 o1 (.var 197) (.mv (.loc 198))] false
def aJD:aI:=.reg [o1 (.loc 200) (.fld 12 (.var 2)),
 o1 (.loc 201) (.load true 1 (.loc 200)),
 o1 (.loc 202) (.fld 3 (.var 3)),
 o1 (.loc 203) (.load false 1 (.loc 202)),
 o1 (.loc 204) (.fld 4 (.var 3)),
 o1 (.loc 205) (.load false 1 (.loc 204)),
 o1 (.loc 206) (.s2b (.loc 205)),
 o1 (.loc 207) (.fld 5 (.var 3)),
 o1 (.loc 208) (.load false 1 (.loc 207)),
 o1 (.loc 209) (.fld 0 (.var 2)),
 o1 (.loc 210) (.fld 0 (.loc 209)),
 o1 (.loc 211) (.load false 1 (.loc 210)),
 o1 (.loc 212) (.call (.fn 157) [(.loc 201),(.loc 203),(.loc 206),(.loc 208),(.loc 211)] [.borrow,.borrow,.borrow,.borrow,.borrow]),
 o1 (.loc 199) (.mv (.loc 212)),
 o1 (.loc 213) (.ext (.loc 199) 0),
 o1 (.loc 214) (.ext (.loc 199) 1),
 o1 (.loc 215) (.ext (.loc 199) 2),
 o1 (.var 19) (.alloc [.nil 2 3]),
 o1 .none (.store 1 (.var 19) (.loc 213)),
 o1 (.var 20) (.mv (.loc 214)),
 o1 (.var 21) (.mv (.loc 215))] false
def aJC:aI:=.reg [o1 (.var 216) (.mv (.var 20))] false
def aJB:aI:=.reg [o1 (.loc 218) (.bin .int .eql (.var 216) (.const (.d (.int .i64 1)))),
 o1 (.var 217) (.mv (.loc 218))] false
def aJA:aI:=.reg [o1 (.loc 219) (.load true 22 (.var 2)),
 o1 (.loc 220) (.call (.fn 78) [(.loc 219),(.const (.d (.int .i64 1)))] [.give,.borrow]),
 o1 (.loc 221) (.ext (.loc 220) 0),
 o1 (.loc 222) (.ext (.loc 220) 1),
 o1 .none (.store 22 (.var 4) (.loc 221)),
 o1 .none (.store 5 (.var 5) (.loc 222))] false
def aJz:aI:=.reg [o1 (.loc 224) (.bin .int .eql (.var 216) (.const (.d (.int .i64 5)))),
 o1 (.var 223) (.mv (.loc 224))] false
def aJy:aI:=.reg [o1 (.loc 225) (.load true 22 (.var 2)),
 o1 (.loc 226) (.call (.fn 78) [(.loc 225),(.const (.d (.int .i64 5)))] [.give,.borrow]),
 o1 (.loc 227) (.ext (.loc 226) 0),
 o1 (.loc 228) (.ext (.loc 226) 1),
 o1 .none (.store 22 (.var 4) (.loc 227)),
 o1 .none (.store 5 (.var 5) (.loc 228))] false
def aJx:aI:=.reg [o1 (.loc 230) (.bin .int .eql (.var 216) (.const (.d (.int .i64 6)))),
 o1 (.var 229) (.mv (.loc 230))] false
def aJw:aI:=.reg [o1 (.loc 231) (.load true 22 (.var 2)),
 o1 (.loc 232) (.call (.fn 78) [(.loc 231),(.const (.d (.int .i64 6)))] [.give,.borrow]),
 o1 (.loc 233) (.ext (.loc 232) 0),
 o1 (.loc 234) (.ext (.loc 232) 1),
 o1 .none (.store 22 (.var 4) (.loc 233)),
 o1 .none (.store 5 (.var 5) (.loc 234))] false
def aJv:aI:=.reg [o1 (.loc 235) (.load true 1 (.var 19)),
 o1 (.loc 236) (.fld 12 (.var 2)),
 o1 .none (.store 1 (.loc 236) (.loc 235))] false
def aJu:aI:=.reg [o1 (.loc 237) (.load true 22 (.var 2)),
 o1 (.loc 238) (.mv (.var 21)),
 o1 (.loc 239) (.build [.d (.int .i64 0),.d (.int .i64 0),.d (.str []),.d (.str []),.nil 0 1] [(1,1,(.loc 238))]),
 o1 .none (.store 22 (.var 4) (.loc 237)),
 o1 .none (.store 5 (.var 5) (.loc 239))] false
def aJt:aI:=.reg [o1 (.loc 241) (.bin .int .eql (.var 54) (.const (.d (.int .i64 5)))),
 o1 (.var 240) (.mv (.loc 241))] false
def aJs:aI:=.reg [o1 (.loc 243) (.fld 12 (.var 2)),
 o1 (.loc 244) (.load true 1 (.loc 243)),
 o1 (.loc 245) (.fld 3 (.var 3)),
 o1 (.loc 246) (.load false 1 (.loc 245)),
 o1 (.loc 247) (.fld 5 (.var 3)),
 o1 (.loc 248) (.load false 1 (.loc 247)),
 o1 (.loc 249) (.call (.fn 158) [(.loc 244),(.loc 246),(.loc 248)] [.borrow,.borrow,.borrow]),
 o1 (.loc 242) (.mv (.loc 249)),
 o1 (.loc 250) (.ext (.loc 242) 0),
 o1 (.loc 251) (.ext (.loc 242) 1),
 o1 (.loc 252) (.ext (.loc 242) 2),
 o1 (.var 22) (.mv (.loc 250)),
 o1 (.var 23) (.mv (.loc 251)),
 o1 (.var 24) (.mv (.loc 252))] false
def aJr:aI:=.reg [o1 (.loc 253) (.mv (.var 23)),
 o1 (.var 254) (.bin .int .neq (.loc 253) (.const (.d (.int .i64 0))))] false
def aJq:aI:=.reg [o1 (.loc 255) (.load true 22 (.var 2)),
 o1 (.loc 256) (.call (.fn 78) [(.loc 255),(.const (.d (.int .i64 4)))] [.give,.borrow]),
 o1 (.loc 257) (.ext (.loc 256) 0),
 o1 (.loc 258) (.ext (.loc 256) 1),
 o1 .none (.store 22 (.var 4) (.loc 257)),
 o1 .none (.store 5 (.var 5) (.loc 258))] false
def aJp:aI:=.reg [o1 (.loc 259) (.load true 22 (.var 2)),
 o1 (.loc 260) (.mv (.var 24)),
 o1 (.loc 261) (.mv (.var 22)),
 ⟨.loc 262,.b2s (.loc 261),none,[2]⟩,
 ⟨.loc 263,.build [.d (.int .i64 0),.d (.int .i64 0),.d (.str []),.d (.str []),.nil 0 1] [(1,1,(.loc 260)),(3,1,(.loc 262))],none,[1,3,2]⟩,
 ⟨.none,.store 22 (.var 4) (.loc 259),none,[0]⟩,
 ⟨.none,.store 5 (.var 5) (.loc 263),none,[4,1,3,2,5,0]⟩] true
def aJo:aI:=.reg [o1 (.loc 265) (.bin .int .eql (.var 54) (.const (.d (.int .i64 6)))),
 o1 (.var 264) (.mv (.loc 265))] false
def aJn:aI:=.reg [o1 (.loc 267) (.fld 12 (.var 2)),
 o1 (.loc 268) (.load true 1 (.loc 267)),
 o1 (.loc 269) (.fld 3 (.var 3)),
 o1 (.loc 270) (.load false 1 (.loc 269)),
 o1 (.loc 271) (.fld 5 (.var 3)),
 o1 (.loc 272) (.load false 1 (.loc 271)),
 o1 (.loc 273) (.lit 0 1 1 [.int .i64 0] [(0,(.loc 272))]),
 o1 (.loc 274) (.call (.fn 159) [(.loc 268),(.loc 270),(.loc 273)] [.borrow,.borrow,.give]),
 o1 (.loc 266) (.mv (.loc 274)),
 o1 (.loc 275) (.ext (.loc 266) 0),
 o1 (.loc 276) (.ext (.loc 266) 1),
 o1 (.var 25) (.alloc [.nil 2 3]),
 o1 .none (.store 1 (.var 25) (.loc 275)),
 o1 (.var 26) (.mv (.loc 276))] false
def aJm:aI:=.reg [o1 (.loc 277) (.mv (.var 26)),
 o1 (.var 278) (.bin .int .neq (.loc 277) (.const (.d (.int .i64 0))))] false
def aJl:aI:=.reg [o1 (.loc 279) (.load true 22 (.var 2)),
 o1 (.loc 280) (.call (.fn 78) [(.loc 279),(.const (.d (.int .i64 4)))] [.give,.borrow]),
 o1 (.loc 281) (.ext (.loc 280) 0),
 o1 (.loc 282) (.ext (.loc 280) 1),
 o1 .none (.store 22 (.var 4) (.loc 281)),
 o1 .none (.store 5 (.var 5) (.loc 282))] false
def aJk:aI:=.reg [o1 (.loc 283) (.load true 1 (.var 25)),
 o1 (.loc 284) (.fld 12 (.var 2)),
 o1 .none (.store 1 (.loc 284) (.loc 283))] false
def aJj:aI:=.reg [o1 (.loc 285) (.load true 22 (.var 2)),
 o1 (.loc 286) (.build [.d (.int .i64 0),.d (.int .i64 0),.d (.str []),.d (.str []),.nil 0 1] []),
 o1 .none (.store 22 (.var 4) (.loc 285)),
 o1 .none (.store 5 (.var 5) (.loc 286))] false
def aJi:aI:=.reg [o1 (.loc 288) (.bin .int .eql (.var 54) (.const (.d (.int .i64 7)))),
 o1 (.var 287) (.mv (.loc 288))] false
def aJh:aI:=.reg [o1 (.loc 290) (.fld 12 (.var 2)),
 o1 (.loc 291) (.load true 1 (.loc 290)),
 o1 (.loc 292) (.fld 3 (.var 3)),
 o1 (.loc 293) (.load false 1 (.loc 292)),
 o1 (.loc 294) (.call (.fn 160) [(.loc 291),(.loc 293)] [.borrow,.borrow]),
 o1 (.loc 289) (.mv (.loc 294)),
 o1 (.loc 295) (.ext (.loc 289) 0),
 o1 (.loc 296) (.ext (.loc 289) 1),
 o1 (.var 27) (.mv (.loc 295)),
 o1 (.var 28) (.mv (.loc 296))] false
def aJg:aI:=.reg [o1 (.loc 297) (.mv (.var 28)),
 o1 (.var 298) (.un .not (.loc 297))] false
def aJf:aI:=.reg [o1 (.loc 299) (.load true 22 (.var 2)),
 o1 (.loc 300) (.call (.fn 78) [(.loc 299),(.const (.d (.int .i64 1)))] [.give,.borrow]),
 o1 (.loc 301) (.ext (.loc 300) 0),
 o1 (.loc 302) (.ext (.loc 300) 1),
 o1 .none (.store 22 (.var 4) (.loc 301)),
 o1 .none (.store 5 (.var 5) (.loc 302))] false
def aJe:aI:=.reg [o1 (.loc 303) (.load true 22 (.var 2)),
 o1 (.loc 304) (.mv (.var 27)),
 o1 (.loc 305) (.build [.d (.int .i64 0),.d (.int .i64 0),.d (.str []),.d (.str []),.nil 0 1] [(4,1,(.loc 304))]),
 o1 .none (.store 22 (.var 4) (.loc 303)),
 o1 .none (.store 5 (.var 5) (.loc 305))] false
def aJd:aI:=.reg [o1 (.loc 307) (.bin .int .eql (.var 54) (.const (.d (.int .i64 8)))),
 o1 (.var 306) (.mv (.loc 307))] false
def aJc:aI:=.reg [o1 (.loc 308) (.fld 2 (.var 3)),
 o1 (.loc 309) (.load false 1 (.loc 308)),
 o1 (.loc 310) (.fld 4 (.var 3)),
 o1 (.loc 311) (.load false 1 (.loc 310)),
 o1 (.loc 312) (.fld 5 (.var 3)),
 o1 (.loc 313) (.load false 1 (.loc 312)),
 o1 (.loc 314) (.fld 5 (.var 3)),
 o1 (.loc 315) (.load false 1 (.loc 314)),
 o1 (.loc 316) (.bin .int .mul (.const (.d (.int .i64 4))) (.loc 315)),
 o1 (.loc 317) (.build [.d (.str []),.d (.str []),.d (.int .i64 0),.d (.int .i64 0)] [(0,1,(.loc 309)),(1,1,(.loc 311)),(2,1,(.loc 313)),(3,1,(.loc 316))]),
 o1 (.var 29) (.alloc [.d (.str []),.d (.str []),.d (.int .i64 0),.d (.int .i64 0)]),
 o1 .none (.store 4 (.var 29) (.loc 317))] false
def aJb:aI:=.reg [o1 (.loc 318) (.load true 4 (.var 29)),
 o1 (.loc 319) (.call (.fn 161) [(.loc 318)] [.borrow]),
 o1 (.var 320) (.un .not (.loc 319))] false
def aJa:aI:=.reg [o1 (.loc 321) (.load true 22 (.var 2)),
 o1 (.loc 322) (.call (.fn 78) [(.loc 321),(.const (.d (.int .i64 1)))] [.give,.borrow]),
 o1 (.loc 323) (.ext (.loc 322) 0),
 o1 (.loc 324) (.ext (.loc 322) 1),
 o1 .none (.store 22 (.var 4) (.loc 323)),
 o1 .none (.store 5 (.var 5) (.loc 324))] false
def aI9:aI:=.reg [o1 (.loc 325) (.fld 11 (.var 2)),
 o1 (.loc 326) (.load false 1 (.loc 325)),
 o1 (.loc 327) (.load true 4 (.var 29)),
 o1 (.loc 328) (.call (.fn 162) [(.loc 326),(.loc 327)] [.borrow,.borrow]),
 o1 (.var 30) (.mv (.loc 328))] false
def aI8:aI:=.reg [o1 (.loc 329) (.mv (.var 30)),
 o1 (.loc 330) (.len false (.loc 329)),
 o1 (.var 331) (.bin .int .gtr (.loc 330) (.const (.d (.int .i64 20))))] false
def aI7:aI:=.reg [o1 (.loc 332) (.load true 22 (.var 2)),
 o1 (.loc 333) (.call (.fn 78) [(.loc 332),(.const (.d (.int .i64 6)))] [.give,.borrow]),
 o1 (.loc 334) (.ext (.loc 333) 0),
 o1 (.loc 335) (.ext (.loc 333) 1),
 o1 .none (.store 22 (.var 4) (.loc 334)),
 o1 .none (.store 5 (.var 5) (.loc 335))] false
def aI6:aI:=.reg [o1 (.loc 336) (.mv (.var 30)),
 o1 (.loc 337) (.fld 11 (.var 2)),
 o1 .none (.store 1 (.loc 337) (.loc 336))] false
def aI5:aI:=.reg [o1 (.loc 338) (.load true 22 (.var 2)),
 o1 (.loc 339) (.build [.d (.int .i64 0),.d (.int .i64 0),.d (.str []),.d (.str []),.nil 0 1] []),
 o1 .none (.store 22 (.var 4) (.loc 338)),
 o1 .none (.store 5 (.var 5) (.loc 339))] false
def aI4:aI:=.reg [o1 (.loc 341) (.bin .int .eql (.var 54) (.const (.d (.int .i64 9)))),
 o1 (.var 340) (.mv (.loc 341))] false
def aI3:aI:=.reg [o1 (.var 31) (.mv (.const (.d (.int .i64 0))))] false
def aI2:aI:=.reg [o1 (.loc 342) (.mv (.var 31)),
 o1 (.loc 343) (.fld 11 (.var 2)),
 o1 (.loc 344) (.load false 1 (.loc 343)),
 o1 (.loc 345) (.len false (.loc 344)),
 o1 (.var 346) (.bin .int .lss (.loc 342) (.loc 345))] false
def aI1:aI:=.reg [o1 (.loc 349) (.fld 11 (.var 2)),
 ⟨.loc 350,.load false 1 (.loc 349),none,[0]⟩,
 o1 (.loc 351) (.mv (.var 31)),
 ⟨.loc 352,.idxA 4 (.loc 350) (.loc 351),none,[1,0,2]⟩,
 ⟨.loc 353,.fld 0 (.loc 352),none,[3,1,0,2]⟩,
 ⟨.loc 354,.load false 1 (.loc 353),none,[4,3,1,0,2]⟩,
 o1 (.loc 355) (.fld 2 (.var 3)),
 ⟨.loc 356,.load false 1 (.loc 355),none,[6]⟩,
 ⟨.var 357,.bin .str .eql (.loc 354) (.loc 356),none,[5,4,3,1,0,2,7,6]⟩] true
def aI0:aI:=.reg [o1 (.loc 359) (.fld 0 (.var 2)),
 ⟨.loc 360,.load true 10 (.loc 359),none,[0]⟩,
 o1 (.loc 361) (.fld 1 (.var 3)),
 ⟨.loc 362,.load false 1 (.loc 361),none,[2]⟩,
 o1 (.loc 363) (.fld 11 (.var 2)),
 ⟨.loc 364,.load false 1 (.loc 363),none,[4]⟩,
 o1 (.loc 365) (.mv (.var 31)),
 ⟨.loc 366,.idxA 4 (.loc 364) (.loc 365),none,[5,4,6]⟩,
 ⟨.loc 367,.load true 4 (.loc 366),none,[7,5,4,6]⟩,
 o1 (.loc 368) (.fld 21 (.var 2)),
 ⟨.loc 369,.load false 1 (.loc 368),none,[9]⟩,
 o1 (.loc 370) (.mv (.var 7)),
 ⟨.loc 371,.call (.fn 163) [(.loc 360),(.loc 362),(.loc 367),(.loc 369),(.loc 370)] [.borrow,.borrow,.borrow,.borrow,.borrow],none,[1,0,3,2,8,7,5,4,6,10,9,11]⟩,
 ⟨.loc 358,.mv (.loc 371),none,[12,1,0,3,2,8,7,5,4,6,10,9,11]⟩,
 ⟨.loc 372,.ext (.loc 358) 0,none,[13,12,1,0,3,2,8,7,5,4,6,10,9,11]⟩,
 ⟨.loc 373,.ext (.loc 358) 1,none,[13,12,1,0,3,2,8,7,5,4,6,10,9,11]⟩,
 ⟨.loc 374,.ext (.loc 358) 2,none,[13,12,1,0,3,2,8,7,5,4,6,10,9,11]⟩,
 ⟨.loc 375,.ext (.loc 358) 3,none,[13,12,1,0,3,2,8,7,5,4,6,10,9,11]⟩,
 o1 (.var 32) (.alloc [.d (.int .i64 0),.d (.int .i64 0),.d (.int .i64 0),.nil 1 7,.nil 0 6,.nil 0 2,.d (.int .i64 0),.d (.int .i64 0),.nil 0 3,.nil 0 2]),
 o1 (.var 33) (.alloc [.d (.str []),.d (.str [])]),
 ⟨.none,.store 10 (.var 32) (.loc 372),none,[14,13,12,1,0,3,2,8,7,5,4,6,10,9,11,18,19]⟩,
 ⟨.none,.store 2 (.var 33) (.loc 373),none,[15,20,14,13,12,1,0,3,2,8,7,5,4,6,10,9,11,18,19]⟩,
 ⟨.var 34,.mv (.loc 374),none,[16,21,15,20,14,13,12,1,0,3,2,8,7,5,4,6,10,9,11,18,19]⟩,
 ⟨.var 35,.mv (.loc 375),none,[17,22,16,21,15,20,14,13,12,1,0,3,2,8,7,5,4,6,10,9,11,18,19]⟩] true
def aIZ:aI:=.reg [o1 (.loc 376) (.mv (.var 35)),
 o1 (.var 377) (.bin .int .eql (.loc 376) (.const (.d (.int .i64 1))))] false
def aIY:aI:=.reg [o1 (.loc 378) (.load true 22 (.var 2)),
 o1 (.loc 379) (.call (.fn 78) [(.loc 378),(.const (.d (.int .i64 1)))] [.give,.borrow]),
 o1 (.loc 380) (.ext (.loc 379) 0),
 o1 (.loc 381) (.ext (.loc 379) 1),
 o1 .none (.store 22 (.var 4) (.loc 380)),
 o1 .none (.store 5 (.var 5) (.loc 381))] false
def aIX:aI:=.reg [o1 (.loc 382) (.load true 10 (.var 32)),
 o1 (.loc 383) (.fld 0 (.var 2)),
 o1 .none (.store 10 (.loc 383) (.loc 382))] false
def aIW:aI:=.reg [o1 (.loc 384) (.mv (.var 35)),
 o1 (.var 385) (.bin .int .eql (.loc 384) (.const (.d (.int .i64 2))))] false
def aIV:aI:=.reg [o1 (.loc 386) (.load true 22 (.var 2)),
 o1 (.loc 387) (.call (.fn 78) [(.loc 386),(.const (.d (.int .i64 5)))] [.give,.borrow]),
 o1 (.loc 388) (.ext (.loc 387) 0),
 o1 (.loc 389) (.ext (.loc 387) 1),
 o1 .none (.store 22 (.var 4) (.loc 388)),
 o1 .none (.store 5 (.var 5) (.loc 389))] false
def aIU:aI:=.reg [o1 (.loc 390) (.load true 22 (.var 2)),
 o1 (.loc 391) (.mv (.var 34)),
 o1 (.loc 392) (.fld 0 (.var 33)),
 ⟨.loc 393,.load false 1 (.loc 392),none,[2]⟩,
 o1 (.loc 394) (.fld 1 (.var 33)),
 ⟨.loc 395,.load false 1 (.loc 394),none,[4]⟩,
 ⟨.loc 396,.build [.d (.int .i64 0),.d (.int .i64 0),.d (.str []),.d (.str []),.nil 0 1] [(1,1,(.loc 391)),(2,1,(.loc 393)),(3,1,(.loc 395))],none,[1,3,2,5,4]⟩,
 ⟨.none,.store 22 (.var 4) (.loc 390),none,[0]⟩,
 ⟨.none,.store 5 (.var 5) (.loc 396),none,[6,1,3,2,5,4,7,0]⟩] true
def aIT:aI:=.reg [o1 (.loc 347) (.mv (.var 31)),
 o1 (.loc 348) (.bin .int .add (.loc 347) (.const (.d (.int .i64 1)))),
 o1 (.var 31) (.mv (.loc 348))] false
def aIS:aI:=(.seq (.seq aI2 (.cond (.var 346) .skip (.exit 2))) (.seq (.block 3 (.seq aI1 (.cond (.var 357) (.seq aI0 (.seq (.seq aIZ (.cond (.var 377) (.seq aIY .ret) .skip)) (.seq aIX (.seq (.seq aIW (.cond (.var 385) (.seq aIV .ret) .skip)) (.seq aIU .ret))))) .skip))) aIT))
def aIR:aI:=.reg [o1 (.loc 397) (.load true 22 (.var 2)),
 o1 (.loc 398) (.call (.fn 78) [(.loc 397),(.const (.d (.int .i64 4)))] [.give,.borrow]),
 o1 (.loc 399) (.ext (.loc 398) 0),
 o1 (.loc 400) (.ext (.loc 398) 1),
 o1 .none (.store 22 (.var 4) (.loc 399)),
 o1 .none (.store 5 (.var 5) (.loc 400))] false
def aIQ:aI:=.reg [o1 (.loc 402) (.bin .int .eql (.var 54) (.const (.d (.int .i64 10)))),
 o1 (.var 401) (.mv (.loc 402))] false
def aIP:aI:=.reg [o1 (.loc 404) (.fld 12 (.var 2)),
 o1 (.loc 405) (.load true 1 (.loc 404)),
 o1 (.loc 406) (.fld 3 (.var 3)),
 o1 (.loc 407) (.load false 1 (.loc 406)),
 o1 (.loc 408) (.call (.fn 158) [(.loc 405),(.loc 407),(.const (.d (.int .i64 0)))] [.borrow,.borrow,.borrow]),
 o1 (.loc 403) (.mv (.loc 408)),
 o1 (.loc 409) (.ext (.loc 403) 0),
 o1 (.loc 410) (.ext (.loc 403) 1),
 o1 (.loc 411) (.ext (.loc 403) 2),
 o1 (.var 36) (.mv (.loc 409)),
 o1 (.var 37) (.mv (.loc 410)),
 o1 (.loc 38) (.mv (.loc 411))] false
def aIO:aI:=.reg [o1 (.loc 412) (.mv (.var 37)),
 o1 (.var 413) (.bin .int .neq (.loc 412) (.const (.d (.int .i64 0))))] false
def aIN:aI:=.reg [o1 (.loc 414) (.load true 22 (.var 2)),
 o1 (.loc 415) (.call (.fn 78) [(.loc 414),(.const (.d (.int .i64 4)))] [.give,.borrow]),
 o1 (.loc 416) (.ext (.loc 415) 0),
 o1 (.loc 417) (.ext (.loc 415) 1),
 o1 .none (.store 22 (.var 4) (.loc 416)),
 o1 .none (.store 5 (.var 5) (.loc 417))] false
def aIM:aI:=.reg [o1 (.loc 419) (.fld 13 (.var 2)),
 o1 (.loc 420) (.load true 3 (.loc 419)),
 o1 (.loc 421) (.mv (.var 7)),
 o1 (.loc 422) (.mv (.var 36)),
 o1 (.loc 423) (.fld 0 (.var 2)),
 o1 (.loc 424) (.fld 0 (.loc 423)),
 o1 (.loc 425) (.load false 1 (.loc 424)),
 o1 (.loc 426) (.fld 5 (.var 3)),
 o1 (.loc 427) (.load false 1 (.loc 426)),
 o1 (.loc 428) (.call (.fn 164) [(.loc 420),(.loc 421),(.loc 422),(.loc 425),(.loc 427)] [.borrow,.borrow,.borrow,.borrow,.borrow]),
 o1 (.loc 418) (.mv (.loc 428)),
 o1 (.loc 429) (.ext (.loc 418) 0),
 o1 (.loc 430) (.ext (.loc 418) 1),
 o1 (.loc 431) (.ext (.loc 418) 2),
 o1 (.var 39) (.alloc [.d (.int .i64 0),.d (.int .i64 0),.nil 1 6]),
 o1 .none (.store 3 (.var 39) (.loc 429)),
 o1 (.var 40) (.mv (.loc 430)),
 o1 (.var 41) (.mv (.loc 431))] false
def aIL:aI:=.reg [o1 (.loc 432) (.mv (.var 41)),
 o1 (.var 433) (.bin .int .eql (.loc 432) (.const (.d (.int .i64 5))))] false
def aIK:aI:=.reg [o1 (.loc 434) (.load true 22 (.var 2)),
 o1 (.loc 435) (.call (.fn 78) [(.loc 434),(.const (.d (.int .i64 6)))] [.give,.borrow]),
 o1 (.loc 436) (.ext (.loc 435) 0),
 o1 (.loc 437) (.ext (.loc 435) 1),
 o1 .none (.store 22 (.var 4) (.loc 436)),
 o1 .none (.store 5 (.var 5) (.loc 437))] false
def aIJ:aI:=.reg [o1 (.loc 438) (.mv (.var 41)),
 o1 (.var 439) (.bin .int .neq (.loc 438) (.const (.d (.int .i64 0))))] false
def aII:aI:=.reg [o1 (.loc 440) (.load true 22 (.var 2)),
 o1 (.loc 441) (.call (.fn 78) [(.loc 440),(.const (.d (.int .i64 1)))] [.give,.borrow]),
 o1 (.loc 442) (.ext (.loc 441) 0),
 o1 (.loc 443) (.ext (.loc 441) 1),
 o1 .none (.store 22 (.var 4) (.loc 442)),
 o1 .none (.store 5 (.var 5) (.loc 443))] false
def aIH:aI:=.reg [o1 (.loc 444) (.load true 3 (.var 39)),
 o1 (.loc 445) (.fld 13 (.var 2)),
 o1 .none (.store 3 (.loc 445) (.loc 444))] false
def aIG:aI:=.reg [o1 (.loc 446) (.load true 22 (.var 2)),
 o1 (.loc 447) (.mv (.var 40)),
 o1 (.loc 448) (.build [.d (.int .i64 0),.d (.int .i64 0),.d (.str []),.d (.str []),.nil 0 1] [(1,1,(.loc 447))]),
 o1 .none (.store 22 (.var 4) (.loc 446)),
 o1 .none (.store 5 (.var 5) (.loc 448))] false
def aIF:aI:=.reg [o1 (.loc 450) (.bin .int .eql (.var 54) (.const (.d (.int .i64 11)))),
 o1 (.var 449) (.mv (.loc 450))] false
def aIE:aI:=.reg [o1 (.loc 452) (.fld 13 (.var 2)),
 o1 (.loc 453) (.load true 3 (.loc 452)),
 o1 (.loc 454) (.fld 5 (.var 3)),
 o1 (.loc 455) (.load false 1 (.loc 454)),
 o1 (.loc 456) (.fld 0 (.var 2)),
 o1 (.loc 457) (.fld 0 (.loc 456)),
 o1 (.loc 458) (.load false 1 (.loc 457)),
 o1 (.loc 459) (.call (.fn 165) [(.loc 453),(.loc 455),(.loc 458)] [.borrow,.borrow,.borrow]),
 o1 (.loc 451) (.mv (.loc 459)),
 o1 (.loc 460) (.ext (.loc 451) 0),
 o1 (.loc 461) (.ext (.loc 451) 1),
 o1 (.loc 462) (.ext (.loc 451) 2),
 o1 (.var 42) (.alloc [.d (.int .i64 0),.d (.int .i64 0),.nil 1 6]),
 o1 .none (.store 3 (.var 42) (.loc 460)),
 o1 (.var 43) (.mv (.loc 461)),
 o1 (.var 44) (.mv (.loc 462))] false
def aID:aI:=.reg [o1 (.loc 463) (.load true 3 (.var 42)),
 o1 (.loc 464) (.fld 13 (.var 2)),
 o1 .none (.store 3 (.loc 464) (.loc 463))] false
def aIC:aI:=.reg [o1 (.loc 465) (.mv (.var 44)),
 o1 (.var 466) (.bin .int .neq (.loc 465) (.const (.d (.int .i64 0))))] false
def aIB:aI:=.reg [o1 (.loc 467) (.load true 22 (.var 2)),
 o1 (.loc 468) (.call (.fn 78) [(.loc 467),(.const (.d (.int .i64 4)))] [.give,.borrow]),
 o1 (.loc 469) (.ext (.loc 468) 0),
 o1 (.loc 470) (.ext (.loc 468) 1),
 o1 .none (.store 22 (.var 4) (.loc 469)),
 o1 .none (.store 5 (.var 5) (.loc 470))] false
def aIA:aI:=.reg [o1 (.loc 471) (.load true 22 (.var 2)),
 o1 (.loc 472) (.mv (.var 43)),
 ⟨.loc 473,.b2s (.loc 472),none,[1]⟩,
 ⟨.loc 474,.build [.d (.int .i64 0),.d (.int .i64 0),.d (.str []),.d (.str []),.nil 0 1] [(3,1,(.loc 473))],none,[2,1]⟩,
 ⟨.none,.store 22 (.var 4) (.loc 471),none,[0]⟩,
 ⟨.none,.store 5 (.var 5) (.loc 474),none,[3,2,1,4,0]⟩] true
def aGh:aI:=.reg [o1 (.loc 476) (.bin .int .eql (.var 54) (.const (.d (.int .i64 12)))),
 o1 (.var 475) (.mv (.loc 476))] false
def aGg:aI:=.reg [o1 (.loc 477) (.fld 5 (.var 3)),
 o1 (.loc 478) (.load false 1 (.loc 477)),
 o1 (.loc 479) (.call (.fn 20) [(.loc 478),(.const (.d (.int .i64 0))),(.const (.d (.int .i64 1000000000)))] [.borrow,.borrow,.borrow]),
 o1 (.var 480) (.un .not (.loc 479))] false
def aGf:aI:=.reg [o1 (.loc 481) (.load true 22 (.var 2)),
 o1 (.loc 482) (.call (.fn 78) [(.loc 481),(.const (.d (.int .i64 1)))] [.give,.borrow]),
 o1 (.loc 483) (.ext (.loc 482) 0),
 o1 (.loc 484) (.ext (.loc 482) 1),
 o1 .none (.store 22 (.var 4) (.loc 483)),
 o1 .none (.store 5 (.var 5) (.loc 484))] false
def aGe:aI:=.reg [o1 (.loc 486) (.fld 0 (.var 2)),
 o1 (.loc 487) (.load true 10 (.loc 486)),
 o1 (.loc 488) (.fld 0 (.var 2)),
 o1 (.loc 489) (.fld 0 (.loc 488)),
 o1 (.loc 490) (.load false 1 (.loc 489)),
 o1 (.loc 491) (.fld 5 (.var 3)),
 o1 (.loc 492) (.load false 1 (.loc 491)),
 o1 (.loc 493) (.bin .int .add (.loc 490) (.loc 492)),
 o1 (.loc 494) (.call (.fn 166) [(.loc 487),(.loc 493)] [.borrow,.borrow]),
 o1 (.loc 485) (.mv (.loc 494)),
 o1 (.loc 495) (.ext (.loc 485) 0),
 o1 (.loc 496) (.ext (.loc 485) 1),
 o1 (.loc 497) (.ext (.loc 485) 2),
 o1 (.var 45) (.alloc [.d (.int .i64 0),.d (.int .i64 0),.d (.int .i64 0),.nil 1 7,.nil 0 6,.nil 0 2,.d (.int .i64 0),.d (.int .i64 0),.nil 0 3,.nil 0 2]),
 o1 (.var 46) (.alloc [.nil 0 1,.nil 0 1,.nil 0 1,.nil 0 1]),
 o1 .none (.store 10 (.var 45) (.loc 495)),
 o1 .none (.store 4 (.var 46) (.loc 496)),
 o1 (.var 47) (.mv (.loc 497))] false
def aGd:aI:=.reg [o1 (.loc 498) (.mv (.var 47)),
 o1 (.var 499) (.un .not (.loc 498))] false
def aGc:aI:=.reg [o1 (.loc 500) (.load true 22 (.var 2)),
 o1 (.loc 501) (.call (.fn 78) [(.loc 500),(.const (.d (.int .i64 1)))] [.give,.borrow]),
 o1 (.loc 502) (.ext (.loc 501) 0),
 o1 (.loc 503) (.ext (.loc 501) 1),
 o1 .none (.store 22 (.var 4) (.loc 502)),
 o1 .none (.store 5 (.var 5) (.loc 503))] false
def aGb:aI:=.reg [o1 (.loc 504) (.load true 10 (.var 45)),
 o1 (.loc 505) (.fld 0 (.var 2)),
 o1 .none (.store 10 (.loc 505) (.loc 504))] false
def aGa:aI:=.reg [o1 (.loc 507) (.fld 13 (.var 2)),
 o1 (.loc 508) (.load true 3 (.loc 507)),
 o1 (.loc 509) (.fld 0 (.var 45)),
 o1 (.loc 510) (.load false 1 (.loc 509)),
 o1 (.loc 511) (.call (.fn 167) [(.loc 508),(.loc 510)] [.borrow,.borrow]),
 o1 (.loc 506) (.mv (.loc 511)),
 o1 (.loc 512) (.ext (.loc 506) 0),
 o1 (.loc 513) (.ext (.loc 506) 1),
 o1 (.loc 514) (.fld 13 (.var 2)),
 o1 .none (.store 3 (.loc 514) (.loc 512))] false
def aF9:aI:=.reg [o1 (.loc 515) (.load true 22 (.var 2)),
 o1 (.loc 516) (.fld 1 (.var 46)),
 ⟨.loc 517,.load false 1 (.loc 516),none,[1]⟩,
 ⟨.loc 518,.len false (.loc 517),none,[2,1]⟩,
 o1 (.loc 519) (.fld 0 (.var 46)),
 ⟨.loc 520,.load false 1 (.loc 519),none,[4]⟩,
 ⟨.loc 521,.call (.fn 155) [(.loc 520)] [.borrow],none,[5,4]⟩,
 ⟨.loc 522,.build [.d (.int .i64 0),.d (.int .i64 0),.d (.str []),.d (.str []),.nil 0 1] [(1,1,(.loc 518)),(4,1,(.loc 521))],none,[3,2,1,6,5,4]⟩,
 ⟨.none,.store 22 (.var 4) (.loc 515),none,[6,5,4,0]⟩,
 ⟨.none,.store 5 (.var 5) (.loc 522),none,[7,3,2,1,8,6,5,4,0]⟩] true
def aF8:aI:=.reg [o1 (.loc 523) (.fld 5 (.var 3)),
 o1 (.loc 524) (.load false 1 (.loc 523)),
 o1 (.loc 525) (.call (.fn 20) [(.loc 524),(.const (.d (.int .i64 0))),(.const (.d (.int .i64 1000)))] [.borrow,.borrow,.borrow]),
 o1 (.var 526) (.un .not (.loc 525))] false
def aF7:aI:=.reg [o1 (.loc 527) (.load true 22 (.var 2)),
 o1 (.loc 528) (.call (.fn 78) [(.loc 527),(.const (.d (.int .i64 1)))] [.give,.borrow]),
 o1 (.loc 529) (.ext (.loc 528) 0),
 o1 (.loc 530) (.ext (.loc 528) 1),
 o1 .none (.store 22 (.var 4) (.loc 529)),
 o1 .none (.store 5 (.var 5) (.loc 530))] false
def aF6:aI:=.reg [o1 (.loc 531) (.fld 0 (.var 2)),
 o1 (.loc 532) (.load true 10 (.loc 531)),
 o1 (.loc 533) (.call (.fn 109) [(.loc 532)] [.borrow]),
 o1 (.loc 534) (.fld 0 (.var 2)),
 o1 .none (.store 10 (.loc 534) (.loc 533))] false
def aF5:aI:=.reg [o1 (.loc 535) (.fld 5 (.var 3)),
 o1 (.loc 536) (.load false 1 (.loc 535)),
 o1 (.loc 537) (.fld 0 (.var 2)),
 o1 (.loc 538) (.fld 5 (.loc 537)),
 o1 (.loc 539) (.fld 1 (.loc 538)),
 o1 .none (.store 1 (.loc 539) (.loc 536))] false
def aF4:aI:=.reg [o1 (.loc 540) (.load true 22 (.var 2)),
 o1 (.loc 541) (.build [.d (.int .i64 0),.d (.int .i64 0),.d (.str []),.d (.str []),.nil 0 1] []),
 o1 .none (.store 22 (.var 4) (.loc 540)),
 o1 .none (.store 5 (.var 5) (.loc 541))] false
def aHh:aI:=(.seq aLO (.seq aLN (.seq (.seq aLM (.block 0 (.seq aLL (.cond (.var 55) (.seq aLK (.seq (.seq aLJ (.cond (.var 71) (.seq aLI .ret) .skip)) (.seq aLH (.seq (.seq aLG (.cond (.var 90) (.seq aLF .ret) .skip)) (.seq aJ1 (.seq aJ0 .ret)))))) (.seq aJZ (.cond (.var 101) (.seq aJY .ret) (.seq aJX (.cond (.var 108) (.seq aJW (.seq (.seq aJV (.cond (.var 120) (.seq aJU .ret) .skip)) (.seq aJT (.seq aJS .ret)))) (.seq aJR (.cond (.var 131) (.seq aJQ (.seq aJP (.seq (.seq aJO (.cond (.var 161) (.seq aJN .ret) .skip)) (.seq (.seq aJM (.cond (.var 167) (.seq aJL .ret) .skip)) (.seq (.seq aJK (.cond (.var 174) (.seq aJJ .ret) .skip)) (.seq aJI (.seq aJH (.seq aJG (.seq aJF .ret))))))))) (.seq aJE (.cond (.var 197) (.seq aJD (.seq (.seq aJC (.block 1 (.seq aJB (.cond (.var 217) (.seq aJA .ret) (.seq aJz (.cond (.var 223) (.seq aJy .ret) (.seq aJx (.cond (.var 229) (.seq aJw .ret) .skip)))))))) (.seq aJv (.seq aJu .ret)))) (.seq aJt (.cond (.var 240) (.seq aJs (.seq (.seq aJr (.cond (.var 254) (.seq aJq .ret) .skip)) (.seq aJp .ret))) (.seq aJo (.cond (.var 264) (.seq aJn (.seq (.seq aJm (.cond (.var 278) (.seq aJl .ret) .skip)) (.seq aJk (.seq aJj .ret)))) (.seq aJi (.cond (.var 287) (.seq aJh (.seq (.seq aJg (.cond (.var 298) (.seq aJf .ret) .skip)) (.seq aJe .ret))) (.seq aJd (.cond (.var 306) (.seq aJc (.seq (.seq aJb (.cond (.var 320) (.seq aJa .ret) .skip)) (.seq aI9 (.seq (.seq aI8 (.cond (.var 331) (.seq aI7 .ret) .skip)) (.seq aI6 (.seq aI5 .ret)))))) (.seq aI4 (.cond (.var 340) (.seq (.seq aI3 (.block 2 (.loop [2,3,4,5,7,31] aIS))) (.seq aIR .ret)) (.seq aIQ (.cond (.var 401) (.seq aIP (.seq (.seq aIO (.cond (.var 413) (.seq aIN .ret) .skip)) (.seq aIM (.seq (.seq aIL (.cond (.var 433) (.seq aIK .ret) .skip)) (.seq (.seq aIJ (.cond (.var 439) (.seq aII .ret) .skip)) (.seq aIH (.seq aIG .ret))))))) (.seq aIF (.cond (.var 449) (.seq aIE (.seq aID (.seq (.seq aIC (.cond (.var 466) (.seq aIB .ret) .skip)) (.seq aIA .ret)))) (.seq aGh (.cond (.var 475) (.seq (.seq aGg (.cond (.var 480) (.seq aGf .ret) .skip)) (.seq aGe (.seq (.seq aGd (.cond (.var 499) (.seq aGc .ret) .skip)) (.seq aGb (.seq aGa (.seq aF9 .ret)))))) .skip)))))))))))))))))))))))))))) (.seq (.seq aF8 (.cond (.var 526) (.seq aF7 .ret) .skip)) (.seq aF6 (.seq aF5 (.seq aF4 .ret)))))))
theorem aPi:rS PP (Tryz.f112.ntmps,lK 0 [none,none]) [0,1,2,3,4,5,7,8,9,10,11,12,13,15,16,17,19,20,21,22,23,24,25,26,27,28,29,30,31,32,33,34,35,36,37,39,40,41,42,43,44,45,46,47,54,55,71,90,101,108,120,131,161,167,174,197,216,217,223,229,240,254,264,278,287,298,306,320,331,340,346,357,377,385,401,413,433,439,449,466,475,480,499,526] (Tryz.f112.body.getD .skip)=some aHh.erase:=by kernel_rfl
theorem gU {α:Type} {cs:List C} (nr:Nat) (R:α->Prop) (rc:α->List C) (oc:α->List (Option C)) (hn:∀ a,(rc a).length=nr) (hk:aMz PP [0,1,2,3,4,5,7,8,9,10,11,12,13,15,16,17,19,20,21,22,23,24,25,26,27,28,29,30,31,32,33,34,35,36,37,39,40,41,42,43,44,45,46,47,54,55,71,90,101,108,120,131,161,167,174,197,216,217,223,229,240,254,264,278,287,298,306,320,331,340,346,357,377,385,401,413,433,439,449,466,475,480,499,526] [none,none] [(.give,4,some (true,22)),(.give,5,some (true,5))] Tryz.f112 cs.length nr=true)
  (hW:Dt PP [0,1,2,3,4,5,7,8,9,10,11,12,13,15,16,17,19,20,21,22,23,24,25,26,27,28,29,30,31,32,33,34,35,36,37,39,40,41,42,43,44,45,46,47,54,55,71,90,101,108,120,131,161,167,174,197,216,217,223,229,240,254,264,278,287,298,306,320,331,340,346,357,377,385,401,413,433,439,449,466,475,480,499,526] (Tryz.f112.ntmps,lK 0 [none,none]) (aC PP GG) aHh (rR cs) (fun st=>∃ a,R a/\(Fin (aC PP GG) [(.give,4,some (true,22)),(.give,5,some (true,5))] [none,none] (rc a) (oc a) st)) (fun _ _=>False) (fun st=>∃ a,R a/\(Fin (aC PP GG) [(.give,4,some (true,22)),(.give,5,some (true,5))] [none,none] (rc a) (oc a) st))):∃ a,R a/\aC PP GG 112 cs (wC (rc a)) (oc a):=
 aVz Tryz.func112 nr R rc oc hn hk aPi hW
def aBY:aI:=.reg [o1 (.var 6) (.mv (.const (.nil 0 6)))] false
def aBX:aI:=.reg [o1 (.loc 18) (.lit 0 6 0 [.int .i64 0,.int .i64 0,.str [],.str [],.str [],.int .i64 0] []),
 o1 (.var 7) (.mv (.loc 18))] false
def aBW:aI:=.reg [o1 (.loc 19) (.mv (.var 1)),
 o1 (.loc 20) (.call (.fn 51) [(.loc 19)] [.borrow]),
 o1 (.var 8) (.alloc [.d (.int .i64 0),.d (.int .i64 0),.d (.int .i64 0),.nil 1 7,.nil 0 6,.nil 0 2,.d (.int .i64 0),.d (.int .i64 0),.nil 0 3,.nil 0 2,.nil 1 2,.nil 0 4,.nil 2 3,.d (.int .i64 0),.d (.int .i64 0),.nil 1 6,.d (.int .i64 0),.d (.int .i64 0),.nil 0 7,.nil 0 1,.nil 0 1,.d (.int .i64 0)]),
 o1 .none (.store 22 (.var 8) (.loc 20))] false
def aBV:aI:=.reg [o1 (.loc 21) (.lit 0 1 4 [.str []] [(0,(.const (.d (.str [97])))),(1,(.const (.d (.str [97,47,98])))),(2,(.const (.d (.str [98])))),(3,(.const (.d (.str [120,45,49,47,99]))))]),
 o1 (.var 9) (.mv (.loc 21))] false
def aBU:aI:=.reg [o1 (.var 10) (.mv (.const (.d (.int .i64 0))))] false
def aBT:aI:=.reg [o1 (.loc 22) (.mv (.var 10)),
 o1 (.loc 23) (.mv (.var 2)),
 o1 (.var 24) (.bin .int .lss (.loc 22) (.loc 23))] false
def aBS:aI:=.reg [o1 (.loc 27) (.mv (.var 0)),
 o1 (.loc 28) (.lit 0 1 23 [.int .i64 0] [(0,(.const (.d (.int .i64 0)))),(1,(.const (.d (.int .i64 1)))),(2,(.const (.d (.int .i64 1)))),(3,(.const (.d (.int .i64 2)))),(4,(.const (.d (.int .i64 3)))),(5,(.const (.d (.int .i64 4)))),(6,(.const (.d (.int .i64 4)))),(7,(.const (.d (.int .i64 4)))),(8,(.const (.d (.int .i64 5)))),(9,(.const (.d (.int .i64 5)))),(10,(.const (.d (.int .i64 6)))),(11,(.const (.d (.int .i64 7)))),(12,(.const (.d (.int .i64 8)))),(13,(.const (.d (.int .i64 9)))),(14,(.const (.d (.int .i64 9)))),(15,(.const (.d (.int .i64 9)))),(16,(.const (.d (.int .i64 10)))),(17,(.const (.d (.int .i64 11)))),(18,(.const (.d (.int .i64 12)))),(19,(.const (.d (.int .i64 12)))),(20,(.const (.d (.int .i64 13)))),(21,(.const (.d (.int .i64 14)))),(22,(.const (.d (.int .i64 15))))]),
 o1 (.loc 29) (.call (.fn 48) [(.loc 27),(.loc 28)] [.box 3,.give]),
 o1 (.loc 30) (.build [.d (.int .i64 0),.d (.int .i64 0),.d (.str []),.d (.str []),.d (.str []),.d (.int .i64 0)] [(0,1,(.loc 29)),(1,1,(.const (.d (.int .i64 1))))]),
 o1 (.var 11) (.alloc [.d (.int .i64 0),.d (.int .i64 0),.d (.str []),.d (.str []),.d (.str []),.d (.int .i64 0)]),
 o1 .none (.store 6 (.var 11) (.loc 30))] false
def aBR:aI:=.reg [o1 (.loc 31) (.fld 0 (.var 8)),
 o1 (.loc 32) (.fld 3 (.loc 31)),
 o1 (.loc 33) (.fld 0 (.loc 32)),
 o1 (.loc 34) (.load false 1 (.loc 33)),
 o1 (.loc 35) (.len false (.loc 34)),
 o1 (.var 12) (.mv (.loc 35))] false
def aBQ:aI:=.reg [o1 (.loc 36) (.mv (.var 12)),
 o1 (.loc 37) (.bin .int .gtr (.loc 36) (.const (.d (.int .i64 1)))),
 o1 (.loc 38) (.split (.loc 37)),
 ⟨.loc 39,.mv (.var 0),some ((.loc 38),true),[]⟩,
 ⟨.loc 40,.call (.fn 18) [(.loc 39),(.const (.d (.int .i64 2)))] [.box 3,.borrow],some ((.loc 38),true),[]⟩,
 o1 (.var 41) (.pick (.loc 38) (.loc 40) (.const (.d (.bool false))))] false
def aBP:aI:=.reg [o1 (.loc 42) (.fld 0 (.var 8)),
 ⟨.loc 43,.fld 3 (.loc 42),none,[0]⟩,
 ⟨.loc 44,.fld 0 (.loc 43),none,[1,0]⟩,
 ⟨.loc 45,.load false 1 (.loc 44),none,[2,1,0]⟩,
 o1 (.loc 46) (.mv (.var 0)),
 o1 (.loc 47) (.mv (.var 12)),
 ⟨.loc 48,.call (.fn 17) [(.loc 46),(.loc 47)] [.box 3,.borrow],none,[4,5]⟩,
 ⟨.loc 49,.idxA 7 (.loc 45) (.loc 48),none,[3,2,1,0,6,4,5]⟩,
 ⟨.loc 50,.fld 0 (.loc 49),none,[7,3,2,1,0,6,4,5]⟩,
 ⟨.loc 51,.load false 1 (.loc 50),none,[8,7,3,2,1,0,6,4,5]⟩,
 ⟨.loc 52,.fld 1 (.var 11),none,[9,8,7,3,2,1,0,6,4,5]⟩,
 ⟨.none,.store 1 (.loc 52) (.loc 51),none,[10,9,8,7,3,2,1,0,6,4,5]⟩] true
def aAY:aI:=.reg [o1 (.loc 53) (.fld 0 (.var 11)),
 o1 (.var 54) (.load false 1 (.loc 53))] false
def aAX:aI:=.reg [o1 (.loc 56) (.bin .int .eql (.var 54) (.const (.d (.int .i64 0)))),
 o1 (.var 55) (.mv (.loc 56))] false
def aAW:aI:=.reg [o1 (.loc 57) (.mv (.var 0)),
 o1 (.loc 58) (.lit 0 1 5 [.str []] [(0,(.const (.d (.str [100,101,118])))),(1,(.const (.d (.str [111,112,115])))),(2,(.const (.d (.str [119,101,98])))),(3,(.const (.d (.str [122,122])))),(4,(.const (.d (.str [114,111,111,116]))))]),
 o1 (.loc 59) (.call (.fn 19) [(.loc 57),(.loc 58)] [.box 3,.give]),
 o1 (.loc 60) (.fld 2 (.var 11)),
 o1 .none (.store 1 (.loc 60) (.loc 59))] false
def aAV:aI:=.reg [o1 (.loc 61) (.mv (.var 0)),
 o1 (.loc 62) (.call (.fn 52) [(.loc 61),(.const (.d (.int .i64 0)))] [.box 3,.borrow]),
 o1 (.var 13) (.alloc [.d (.str []),.nil 0 2]),
 o1 .none (.store 2 (.var 13) (.loc 62))] false
def aAU:aI:=.reg [o1 (.loc 63) (.lit 0 1 5 [.str []] [(0,(.const (.d (.str [100,98,47,42])))),(1,(.const (.d (.str [107,118,47,42])))),(2,(.const (.d (.str [107,118,47,43])))),(3,(.const (.d (.str [107,118,47,97,47,42])))),(4,(.const (.d (.str [115,121,115,47,42]))))]),
 o1 (.var 14) (.mv (.loc 63))] false
def aAT:aI:=.reg [o1 (.var 15) (.mv (.const (.d (.int .i64 0))))] false
def aAS:aI:=.reg [o1 (.loc 64) (.mv (.var 15)),
 o1 (.loc 65) (.mv (.var 14)),
 o1 (.loc 66) (.len false (.loc 65)),
 o1 (.var 67) (.bin .int .lss (.loc 64) (.loc 66))] false
def aAR:aI:=.reg [o1 (.loc 70) (.mv (.var 0)),
 o1 (.var 71) (.call (.fn 18) [(.loc 70),(.const (.d (.int .i64 2)))] [.box 3,.borrow])] false
def aAQ:aI:=.reg [o1 (.loc 72) (.fld 1 (.var 13)),
 ⟨.loc 73,.load false 1 (.loc 72),none,[0]⟩,
 o1 (.loc 74) (.mv (.var 14)),
 o1 (.loc 75) (.mv (.var 15)),
 ⟨.loc 76,.idxA 1 (.loc 74) (.loc 75),none,[2,3]⟩,
 ⟨.loc 77,.load false 1 (.loc 76),none,[4,2,3]⟩,
 o1 (.loc 78) (.mv (.var 0)),
 ⟨.loc 79,.call (.fn 53) [(.loc 78)] [.box 3],none,[6]⟩,
 ⟨.loc 80,.build [.d (.str []),.d (.int .i64 0)] [(0,1,(.loc 77)),(1,1,(.loc 79))],none,[5,4,2,3,7,6]⟩,
 ⟨.loc 81,.lit 0 2 1 [.str [],.int .i64 0] [(0,(.loc 80))],none,[8,5,4,2,3,7,6]⟩,
 ⟨.loc 82,.app 2 24 (.loc 73) (.loc 81),none,[1,0,9,8,5,4,2,3,7,6]⟩,
 ⟨.loc 83,.fld 1 (.var 13),none,[10,1,0,9,8,5,4,2,3,7,6]⟩,
 ⟨.none,.store 1 (.loc 83) (.loc 82),none,[11,10,1,0,9,8,5,4,2,3,7,6]⟩] true
def aAP:aI:=.reg [o1 (.loc 68) (.mv (.var 15)),
 o1 (.loc 69) (.bin .int .add (.loc 68) (.const (.d (.int .i64 1)))),
 o1 (.var 15) (.mv (.loc 69))] false
def aAO:aI:=(.seq (.seq aAS (.cond (.var 67) .skip (.exit 3))) (.seq (.block 4 (.seq aAR (.cond (.var 71) aAQ .skip))) aAP))
def aAN:aI:=.reg [o1 (.loc 85) (.load true 2 (.var 13)),
 o1 (.loc 86) (.call (.fn 54) [(.loc 85)] [.borrow]),
 o1 (.loc 84) (.mv (.loc 86)),
 o1 (.loc 87) (.ext (.loc 84) 0),
 o1 (.loc 88) (.ext (.loc 84) 1),
 o1 (.loc 89) (.fld 4 (.var 11)),
 o1 .none (.store 1 (.loc 89) (.loc 87))] false
def aAM:aI:=.reg [o1 (.loc 91) (.bin .int .eql (.var 54) (.const (.d (.int .i64 1)))),
 o1 (.var 90) (.mv (.loc 91))] false
def aAL:aI:=.reg [o1 (.loc 92) (.mv (.var 0)),
 o1 (.loc 93) (.lit 0 1 8 [.str []] [(0,(.const (.d (.str [100,101,118])))),(1,(.const (.d (.str [100,101,118,44,111,112,115])))),(2,(.const (.d (.str [111,112,115,44,119,101,98])))),(3,(.const (.d (.str [114,111,111,116])))),(4,(.const (.d (.str [])))),(5,(.const (.d (.str [100,101,118,44,114,111,111,116])))),(6,(.const (.d (.str [119,101,98])))),(7,(.const (.d (.str [111,112,115,44,100,101,118]))))]),
 o1 (.loc 94) (.call (.fn 19) [(.loc 92),(.loc 93)] [.box 3,.give]),
 o1 (.loc 95) (.fld 4 (.var 11)),
 o1 .none (.store 1 (.loc 95) (.loc 94))] false
def aAK:aI:=.reg [o1 (.loc 96) (.mv (.var 0)),
 o1 (.loc 97) (.mv (.var 0)),
 o1 (.loc 98) (.call (.fn 17) [(.loc 97),(.const (.d (.int .i64 30)))] [.box 3,.borrow]),
 o1 (.loc 99) (.bin .int .add (.const (.d (.int .i64 1))) (.loc 98)),
 o1 (.loc 100) (.mv (.var 0)),
 o1 (.loc 101) (.call (.fn 17) [(.loc 100),(.const (.d (.int .i64 30)))] [.box 3,.borrow]),
 o1 (.loc 102) (.bin .int .add (.const (.d (.int .i64 1))) (.loc 101)),
 o1 (.loc 103) (.lit 0 1 3 [.int .i64 0] [(0,(.const (.d (.int .i64 0)))),(1,(.loc 99)),(2,(.loc 102))]),
 o1 (.loc 104) (.call (.fn 48) [(.loc 96),(.loc 103)] [.box 3,.give]),
 o1 (.loc 105) (.fld 5 (.var 11)),
 o1 .none (.store 1 (.loc 105) (.loc 104))] false
def aAJ:aI:=.reg [o1 (.loc 107) (.bin .int .eql (.var 54) (.const (.d (.int .i64 2)))),
 o1 (.var 106) (.mv (.loc 107))] false
def aAI:aI:=.reg [o1 (.loc 108) (.mv (.var 0)),
 o1 (.loc 109) (.fld 0 (.var 8)),
 o1 (.loc 110) (.fld 3 (.loc 109)),
 o1 (.loc 111) (.load true 1 (.loc 110)),
 o1 (.loc 112) (.call (.fn 55) [(.loc 108),(.loc 111)] [.box 3,.lend]),
 o1 (.loc 113) (.fld 5 (.var 11)),
 o1 .none (.store 1 (.loc 113) (.loc 112))] false
def aAH:aI:=.reg [o1 (.loc 114) (.fld 5 (.var 11)),
 o1 (.loc 115) (.load false 1 (.loc 114)),
 o1 (.loc 116) (.bin .int .eql (.loc 115) (.const (.d (.int .i64 1)))),
 o1 (.loc 117) (.split (.loc 116)),
 ⟨.loc 118,.mv (.var 0),some ((.loc 117),true),[]⟩,
 ⟨.loc 119,.call (.fn 18) [(.loc 118),(.const (.d (.int .i64 8)))] [.box 3,.borrow],some ((.loc 117),true),[]⟩,
 ⟨.loc 120,.un .not (.loc 119),some ((.loc 117),true),[]⟩,
 o1 (.var 121) (.pick (.loc 117) (.loc 120) (.const (.d (.bool false))))] false
def aAG:aI:=.reg [o1 (.loc 122) (.fld 5 (.var 11)),
 o1 .none (.store 1 (.loc 122) (.const (.d (.int .i64 0))))] false
def aAF:aI:=.reg [o1 (.loc 124) (.bin .int .eql (.var 54) (.const (.d (.int .i64 3)))),
 o1 (.var 123) (.mv (.loc 124))] false
def aAE:aI:=.reg [o1 (.loc 125) (.mv (.var 0)),
 o1 (.loc 126) (.call (.fn 17) [(.loc 125),(.const (.d (.int .i64 30)))] [.box 3,.borrow]),
 o1 (.loc 127) (.fld 5 (.var 11)),
 o1 .none (.store 1 (.loc 127) (.loc 126))] false
def aAD:aI:=.reg [o1 (.loc 129) (.bin .int .eql (.var 54) (.const (.d (.int .i64 4)))),
 o1 (.var 128) (.mv (.loc 129))] false
def aAC:aI:=.reg [o1 (.loc 130) (.mv (.var 0)),
 o1 (.loc 131) (.mv (.var 9)),
 o1 (.loc 132) (.call (.fn 19) [(.loc 130),(.loc 131)] [.box 3,.give]),
 o1 (.loc 133) (.fld 3 (.var 11)),
 o1 .none (.store 1 (.loc 133) (.loc 132))] false
def aAB:aI:=.reg [o1 (.loc 134) (.mv (.var 0)),
 o1 (.loc 135) (.mv (.var 0)),
 o1 (.loc 136) (.call (.fn 17) [(.loc 135),(.const (.d (.int .i64 6)))] [.box 3,.borrow]),
 o1 (.loc 137) (.call (.fn 29) [(.loc 134),(.loc 136)] [.box 3,.borrow]),
 o1 (.loc 138) (.b2s (.loc 137)),
 o1 (.loc 139) (.fld 4 (.var 11)),
 o1 .none (.store 1 (.loc 139) (.loc 138))] false
def aAA:aI:=.reg [o1 (.loc 140) (.mv (.var 0)),
 o1 (.loc 141) (.lit 0 1 4 [.int .i64 0] [(0,(.const (.d (.int .i64 (-1))))),(1,(.const (.d (.int .i64 (-1))))),(2,(.const (.d (.int .i64 0)))),(3,(.const (.d (.int .i64 1))))]),
 o1 (.loc 142) (.call (.fn 48) [(.loc 140),(.loc 141)] [.box 3,.give]),
 o1 (.loc 143) (.fld 5 (.var 11)),
 o1 .none (.store 1 (.loc 143) (.loc 142))] false
def aAz:aI:=.reg [o1 (.loc 145) (.bin .int .eql (.var 54) (.const (.d (.int .i64 5)))),
 o1 (.var 144) (.mv (.loc 145))] false
def aAy:aI:=.reg [o1 (.loc 146) (.bin .int .eql (.var 54) (.const (.d (.int .i64 6)))),
 o1 (.var 144) (.mv (.loc 146))] false
def aAx:aI:=.reg [o1 (.loc 147) (.mv (.var 0)),
 o1 (.loc 148) (.mv (.var 9)),
 o1 (.loc 149) (.call (.fn 19) [(.loc 147),(.loc 148)] [.box 3,.give]),
 o1 (.loc 150) (.fld 3 (.var 11)),
 o1 .none (.store 1 (.loc 150) (.loc 149))] false
def aAw:aI:=.reg [o1 (.loc 151) (.mv (.var 0)),
 o1 (.loc 152) (.lit 0 1 4 [.int .i64 0] [(0,(.const (.d (.int .i64 0)))),(1,(.const (.d (.int .i64 0)))),(2,(.const (.d (.int .i64 1)))),(3,(.const (.d (.int .i64 2))))]),
 o1 (.loc 153) (.call (.fn 48) [(.loc 151),(.loc 152)] [.box 3,.give]),
 o1 (.loc 154) (.fld 5 (.var 11)),
 o1 .none (.store 1 (.loc 154) (.loc 153))] false
def aAv:aI:=.reg [o1 (.loc 156) (.bin .int .eql (.var 54) (.const (.d (.int .i64 7)))),
 o1 (.var 155) (.mv (.loc 156))] false
def aAu:aI:=.reg [o1 (.loc 157) (.mv (.var 0)),
 o1 (.loc 158) (.lit 0 1 4 [.str []] [(0,(.const (.d (.str [])))),(1,(.const (.d (.str [97])))),(2,(.const (.d (.str [120,45,49])))),(3,(.const (.d (.str [97,47,42]))))]),
 o1 (.loc 159) (.call (.fn 19) [(.loc 157),(.loc 158)] [.box 3,.give]),
 o1 (.loc 160) (.fld 3 (.var 11)),
 o1 .none (.store 1 (.loc 160) (.loc 159))] false
def aAt:aI:=.reg [o1 (.loc 162) (.bin .int .eql (.var 54) (.const (.d (.int .i64 8)))),
 o1 (.var 161) (.mv (.loc 162))] false
def aAs:aI:=.reg [o1 (.loc 163) (.mv (.var 0)),
 o1 (.loc 164) (.lit 0 1 2 [.str []] [(0,(.const (.d (.str [100,98])))),(1,(.const (.d (.str [119,101,98]))))]),
 o1 (.loc 165) (.call (.fn 19) [(.loc 163),(.loc 164)] [.box 3,.give]),
 o1 (.loc 166) (.fld 2 (.var 11)),
 o1 .none (.store 1 (.loc 166) (.loc 165))] false
def aAr:aI:=.reg [o1 (.loc 167) (.mv (.var 0)),
 o1 (.loc 168) (.lit 0 1 4 [.str []] [(0,(.const (.d (.str [117])))),(1,(.const (.d (.str [115,118,99])))),(2,(.const (.d (.str [])))),(3,(.const (.d (.str [116,111,111,108,111,110,103,112,114,101,102,105,120]))))]),
 o1 (.loc 169) (.call (.fn 19) [(.loc 167),(.loc 168)] [.box 3,.give]),
 o1 (.loc 170) (.fld 4 (.var 11)),
 o1 .none (.store 1 (.loc 170) (.loc 169))] false
def aAq:aI:=.reg [o1 (.loc 171) (.mv (.var 0)),
 o1 (.loc 172) (.call (.fn 17) [(.loc 171),(.const (.d (.int .i64 20)))] [.box 3,.borrow]),
 o1 (.loc 173) (.bin .int .add (.const (.d (.int .i64 1))) (.loc 172)),
 o1 (.loc 174) (.fld 5 (.var 11)),
 o1 .none (.store 1 (.loc 174) (.loc 173))] false
def aAp:aI:=.reg [o1 (.loc 176) (.bin .int .eql (.var 54) (.const (.d (.int .i64 9)))),
 o1 (.var 175) (.mv (.loc 176))] false
def aAo:aI:=.reg [o1 (.loc 177) (.mv (.var 0)),
 o1 (.loc 178) (.lit 0 1 3 [.str []] [(0,(.const (.d (.str [100,98])))),(1,(.const (.d (.str [100,98])))),(2,(.const (.d (.str [119,101,98]))))]),
 o1 (.loc 179) (.call (.fn 19) [(.loc 177),(.loc 178)] [.box 3,.give]),
 o1 (.loc 180) (.fld 2 (.var 11)),
 o1 .none (.store 1 (.loc 180) (.loc 179))] false
def aAn:aI:=.reg [o1 (.loc 182) (.bin .int .eql (.var 54) (.const (.d (.int .i64 10)))),
 o1 (.var 181) (.mv (.loc 182))] false
def aAm:aI:=.reg [o1 (.loc 183) (.mv (.var 0)),
 o1 (.loc 184) (.mv (.var 9)),
 o1 (.loc 185) (.call (.fn 19) [(.loc 183),(.loc 184)] [.box 3,.give]),
 o1 (.loc 186) (.fld 3 (.var 11)),
 o1 .none (.store 1 (.loc 186) (.loc 185))] false
def aAl:aI:=.reg [o1 (.loc 187) (.mv (.var 0)),
 o1 (.loc 188) (.call (.fn 17) [(.loc 187),(.const (.d (.int .i64 30)))] [.box 3,.borrow]),
 o1 (.loc 189) (.fld 5 (.var 11)),
 o1 .none (.store 1 (.loc 189) (.loc 188))] false
def aAk:aI:=.reg [o1 (.loc 191) (.bin .int .eql (.var 54) (.const (.d (.int .i64 11)))),
 o1 (.var 190) (.mv (.loc 191))] false
def aAj:aI:=.reg [o1 (.loc 192) (.mv (.var 0)),
 o1 (.loc 193) (.fld 13 (.var 8)),
 o1 (.loc 194) (.load true 3 (.loc 193)),
 o1 (.loc 195) (.call (.fn 56) [(.loc 192),(.loc 194)] [.box 3,.lend]),
 o1 (.loc 196) (.fld 5 (.var 11)),
 o1 .none (.store 1 (.loc 196) (.loc 195))] false
def aAi:aI:=.reg [o1 (.loc 198) (.bin .int .eql (.var 54) (.const (.d (.int .i64 12)))),
 o1 (.var 197) (.mv (.loc 198))] false
def aAh:aI:=.reg [o1 (.loc 199) (.mv (.var 0)),
 o1 (.loc 200) (.call (.fn 17) [(.loc 199),(.const (.d (.int .i64 12)))] [.box 3,.borrow]),
 o1 (.loc 201) (.fld 5 (.var 11)),
 o1 .none (.store 1 (.loc 201) (.loc 200))] false
def aAg:aI:=.reg [o1 (.loc 203) (.bin .int .eql (.var 54) (.const (.d (.int .i64 13)))),
 o1 (.var 202) (.mv (.loc 203))] false
def aAf:aI:=.reg [o1 (.loc 204) (.mv (.var 0)),
 o1 (.loc 205) (.lit 0 1 5 [.int .i64 0] [(0,(.const (.d (.int .i64 0)))),(1,(.const (.d (.int .i64 0)))),(2,(.const (.d (.int .i64 1)))),(3,(.const (.d (.int .i64 3)))),(4,(.const (.d (.int .i64 12))))]),
 o1 (.loc 206) (.call (.fn 48) [(.loc 204),(.loc 205)] [.box 3,.give]),
 o1 (.loc 207) (.fld 5 (.var 11)),
 o1 .none (.store 1 (.loc 207) (.loc 206))] false
def aAe:aI:=.reg [o1 (.loc 209) (.bin .int .eql (.var 54) (.const (.d (.int .i64 15)))),
 o1 (.var 208) (.mv (.loc 209))] false
def aAd:aI:=.reg [o1 (.loc 210) (.mv (.var 0)),
 o1 (.loc 211) (.fld 19 (.var 8)),
 o1 (.loc 212) (.fld 1 (.loc 211)),
 o1 (.loc 213) (.load false 1 (.loc 212)),
 o1 (.loc 214) (.len false (.loc 213)),
 o1 (.loc 215) (.bin .int .add (.const (.d (.int .i64 1))) (.loc 214)),
 o1 (.loc 216) (.call (.fn 17) [(.loc 210),(.loc 215)] [.box 3,.borrow]),
 o1 (.loc 217) (.fld 5 (.var 11)),
 o1 .none (.store 1 (.loc 217) (.loc 216))] false
def aAc:aI:=.reg [o1 (.loc 218) (.mv (.var 0)),
 o1 (.var 219) (.call (.fn 18) [(.loc 218),(.const (.d (.int .i64 40)))] [.box 3,.borrow])] false
def aAb:aI:=.reg [o1 (.loc 220) (.mv (.var 0)),
 o1 (.var 221) (.call (.fn 17) [(.loc 220),(.const (.d (.int .i64 5)))] [.box 3,.borrow])] false
def aAa:aI:=.reg [o1 (.loc 223) (.bin .int .eql (.var 221) (.const (.d (.int .i64 0)))),
 o1 (.var 222) (.mv (.loc 223))] false
def zZ:aI:=.reg [o1 (.loc 224) (.mv (.var 0)),
 o1 (.loc 225) (.lit 0 1 2 [.int .i64 0] [(0,(.const (.d (.int .i64 (-1))))),(1,(.const (.d (.int .i64 16))))]),
 o1 (.loc 226) (.call (.fn 48) [(.loc 224),(.loc 225)] [.box 3,.give]),
 o1 (.loc 227) (.fld 0 (.var 11)),
 o1 .none (.store 1 (.loc 227) (.loc 226))] false
def zY:aI:=.reg [o1 (.loc 229) (.bin .int .eql (.var 221) (.const (.d (.int .i64 1)))),
 o1 (.var 228) (.mv (.loc 229))] false
def zX:aI:=.reg [o1 (.loc 230) (.mv (.var 0)),
 o1 (.loc 231) (.lit 0 1 4 [.int .i64 0] [(0,(.const (.d (.int .i64 0)))),(1,(.const (.d (.int .i64 (-1))))),(2,(.const (.d (.int .i64 99)))),(3,(.const (.d (.int .i64 1099511627777))))]),
 o1 (.loc 232) (.call (.fn 48) [(.loc 230),(.loc 231)] [.box 3,.give]),
 o1 (.loc 233) (.fld 1 (.var 11)),
 o1 .none (.store 1 (.loc 233) (.loc 232))] false
def zW:aI:=.reg [o1 (.loc 235) (.bin .int .eql (.var 221) (.const (.d (.int .i64 2)))),
 o1 (.var 234) (.mv (.loc 235))] false
def zV:aI:=.reg [o1 (.loc 236) (.mv (.var 0)),
 o1 (.loc 237) (.lit 0 1 4 [.int .i64 0] [(0,(.const (.d (.int .i64 (-1))))),(1,(.const (.d (.int .i64 1000000001)))),(2,(.const (.d (.int .i64 1099511627776)))),(3,(.const (.d (.int .i64 9223372036854775807))))]),
 o1 (.loc 238) (.call (.fn 48) [(.loc 236),(.loc 237)] [.box 3,.give]),
 o1 (.loc 239) (.fld 5 (.var 11)),
 o1 .none (.store 1 (.loc 239) (.loc 238))] false
def zU:aI:=.reg [o1 (.loc 241) (.bin .int .eql (.var 221) (.const (.d (.int .i64 3)))),
 o1 (.var 240) (.mv (.loc 241))] false
def zT:aI:=.reg [o1 (.loc 242) (.mv (.var 0)),
 o1 (.loc 243) (.call (.fn 57) [(.loc 242)] [.box 3]),
 o1 (.loc 244) (.fld 3 (.var 11)),
 o1 .none (.store 1 (.loc 244) (.loc 243))] false
def zQ:aI:=.reg [o1 (.loc 246) (.bin .int .eql (.var 221) (.const (.d (.int .i64 4)))),
 o1 (.var 245) (.mv (.loc 246))] false
def zP:aI:=.reg [o1 (.loc 247) (.mv (.var 0)),
 o1 (.loc 248) (.mv (.var 0)),
 o1 (.loc 249) (.call (.fn 17) [(.loc 248),(.const (.d (.int .i64 2)))] [.box 3,.borrow]),
 o1 (.loc 250) (.bin .int .add (.const (.d (.int .i64 300))) (.loc 249)),
 o1 (.loc 251) (.call (.fn 29) [(.loc 247),(.loc 250)] [.box 3,.borrow]),
 o1 (.loc 252) (.b2s (.loc 251)),
 o1 (.loc 253) (.fld 4 (.var 11)),
 o1 .none (.store 1 (.loc 253) (.loc 252))] false
def zO:aI:=.reg [o1 (.loc 254) (.mv (.var 7)),
 o1 (.loc 255) (.load true 6 (.var 11)),
 o1 (.loc 256) (.lit 0 6 1 [.int .i64 0,.int .i64 0,.str [],.str [],.str [],.int .i64 0] [(0,(.loc 255))]),
 o1 (.loc 257) (.app 6 72 (.loc 254) (.loc 256)),
 o1 (.var 7) (.mv (.loc 257))] false
def zN:aI:=.reg [o1 (.loc 259) (.load true 22 (.var 8)),
 o1 (.loc 260) (.load true 6 (.var 11)),
 o1 (.loc 261) (.call (.fn 58) [(.loc 259),(.loc 260)] [.give,.borrow]),
 o1 (.loc 258) (.mv (.loc 261)),
 o1 (.loc 262) (.ext (.loc 258) 0),
 o1 (.loc 263) (.ext (.loc 258) 1),
 o1 (.var 16) (.alloc [.d (.int .i64 0),.d (.int .i64 0),.d (.int .i64 0),.nil 1 7,.nil 0 6,.nil 0 2,.d (.int .i64 0),.d (.int .i64 0),.nil 0 3,.nil 0 2,.nil 1 2,.nil 0 4,.nil 2 3,.d (.int .i64 0),.d (.int .i64 0),.nil 1 6,.d (.int .i64 0),.d (.int .i64 0),.nil 0 7,.nil 0 1,.nil 0 1,.d (.int .i64 0)]),
 o1 (.loc 17) (.alloc [.d (.int .i64 0),.d (.int .i64 0),.d (.str []),.d (.str []),.nil 0 1]),
 o1 .none (.store 22 (.var 16) (.loc 262)),
 o1 .none (.store 5 (.loc 17) (.loc 263))] false
def zM:aI:=.reg [o1 (.loc 264) (.load true 22 (.var 16)),
 o1 .none (.store 22 (.var 8) (.loc 264))] false
def zL:aI:=.reg [o1 (.loc 25) (.mv (.var 10)),
 o1 (.loc 26) (.bin .int .add (.loc 25) (.const (.d (.int .i64 1)))),
 o1 (.var 10) (.mv (.loc 26))] false
def zK:aI:=(.seq (.seq aBT (.cond (.var 24) .skip (.exit 0))) (.seq (.block 1 (.seq aBS (.seq (.seq aBR (.seq aBQ (.cond (.var 41) aBP .skip))) (.seq (.seq aAY (.block 2 (.seq aAX (.cond (.var 55) (.seq aAW (.seq aAV (.seq aAU (.seq (.seq aAT (.block 3 (.loop [0,2,7,8,9,10,11,13,14,15] aAO))) aAN)))) (.seq aAM (.cond (.var 90) (.seq aAL aAK) (.seq aAJ (.cond (.var 106) (.seq aAI (.seq aAH (.cond (.var 121) aAG .skip))) (.seq aAF (.cond (.var 123) aAE (.seq aAD (.cond (.var 128) (.seq aAC (.seq aAB aAA)) (.seq (.seq aAz (.cond (.var 144) .skip aAy)) (.cond (.var 144) (.seq aAx aAw) (.seq aAv (.cond (.var 155) aAu (.seq aAt (.cond (.var 161) (.seq aAs (.seq aAr aAq)) (.seq aAp (.cond (.var 175) aAo (.seq aAn (.cond (.var 181) (.seq aAm aAl) (.seq aAk (.cond (.var 190) aAj (.seq aAi (.cond (.var 197) aAh (.seq aAg (.cond (.var 202) aAf (.seq aAe (.cond (.var 208) aAd .skip)))))))))))))))))))))))))))))) (.seq (.seq aAc (.cond (.var 219) (.seq aAb (.block 5 (.seq aAa (.cond (.var 222) zZ (.seq zY (.cond (.var 228) zX (.seq zW (.cond (.var 234) zV (.seq zU (.cond (.var 240) zT (.seq zQ (.cond (.var 245) zP .skip)))))))))))) .skip)) (.seq zO (.seq zN zM))))))) zL))
def zJ:aI:=.reg [o1 (.loc 265) (.mv (.var 7)),
 o1 (.var 6) (.mv (.loc 265))] false
def vO:aI:=(.seq aBY (.seq aBX (.seq aBW (.seq aBV (.seq (.seq aBU (.block 0 (.loop [0,2,7,8,9,10] zK))) (.seq zJ .ret))))))
theorem aDI:rS PP (Tryz.f33.ntmps,lK 0 [some (.box 3),none,none]) [0,1,2,6,7,8,9,10,11,12,13,14,15,16,24,41,54,55,67,71,90,106,121,123,128,144,155,161,175,181,190,197,202,208,219,221,222,228,234,240,245] (Tryz.f33.body.getD .skip)=some vO.erase:=by kernel_rfl
theorem aCF {α:Type} {cs:List C} (nr:Nat) (R:α->Prop) (rc:α->List C) (oc:α->List (Option C)) (hn:∀ a,(rc a).length=nr) (hk:aMz PP [0,1,2,6,7,8,9,10,11,12,13,14,15,16,24,41,54,55,67,71,90,106,121,123,128,144,155,161,175,181,190,197,202,208,219,221,222,228,234,240,245] [some (.box 3),none,none] [(.give,6,none)] Tryz.f33 cs.length nr=true)
  (hW:Dt PP [0,1,2,6,7,8,9,10,11,12,13,14,15,16,24,41,54,55,67,71,90,106,121,123,128,144,155,161,175,181,190,197,202,208,219,221,222,228,234,240,245] (Tryz.f33.ntmps,lK 0 [some (.box 3),none,none]) (aC PP GG) vO (rR cs) (fun st=>∃ a,R a/\(Fin (aC PP GG) [(.give,6,none)] [some (.box 3),none,none] (rc a) (oc a) st)) (fun _ _=>False) (fun st=>∃ a,R a/\(Fin (aC PP GG) [(.give,6,none)] [some (.box 3),none,none] (rc a) (oc a) st))):∃ a,R a/\aC PP GG 33 cs (wC (rc a)) (oc a):=
 aVz Tryz.func33 nr R rc oc hn hk aDI hW
end Go.Proofs.YtiejbbcpihpgpaaGreatDoor.Ab
