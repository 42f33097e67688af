/- Texts of the law TopCyclesCard, part 11. No conditions. -/
import Derived.Test.YtgibbaadjbohdaaDoorPTopCyclesCard10
import Derived.Test.YtgibbaadjbohdaaDoorRows
import Derived.FnData
set_option linter.unusedSimpArgs false
set_option linter.unusedVariables false
/- The functions' bodies, translated. Written by a program; no conditions. -/
namespace Go.Proofs.YtgibbaadjbohdaaDoor
open Go.RowKit Lift

def ctop_TopCycles : ACode :=
 (.seq
 (.region false [oo 3 (.box (.tmp 0)),
 oo 4 (.box (.tmp 1)),
 oo 6 (.mv (.const (.bool false)))] [])
 (.seq
 (.seq
 (.region false [oo 29 (.fad 4 (.tmp 3)),
 oo 30 (.load1 (.tmp 29)),
 oo 31 (.len_ (.tmp 30)),
 oo 32 (.bin .gtr (.tmp 31) (kI 100)),
 oo 33 (.mv (.tmp 32)),
 og 34 33 false (.fad 0 (.tmp 3)) [],
 og 35 33 false (.fad 0 (.tmp 34)) [],
 og 36 33 false (.load1 (.tmp 35)) [],
 og 37 33 false (.len_ (.tmp 36)) [],
 og 38 33 false (.bin .gtr (.tmp 37) (kI 12)) [],
 oo 39 (.pick (.tmp 33) (.const (.bool true)) (.tmp 38)),
 oo 40 (.mv (.tmp 39)),
 og 41 40 false (.fad 0 (.tmp 3)) [],
 og 42 40 false (.fad 1 (.tmp 41)) [],
 og 43 40 false (.load1 (.tmp 42)) [],
 og 44 40 false (.len_ (.tmp 43)) [],
 og 45 40 false (.bin .gtr (.tmp 44) (kI 40)) [],
 oo 46 (.pick (.tmp 40) (.const (.bool true)) (.tmp 45)),
 oo 47 (.mv (.tmp 46)),
 og 48 47 false (.fad 0 (.tmp 3)) [],
 og 49 47 false (.fad 3 (.tmp 48)) [],
 og 50 47 false (.load1 (.tmp 49)) [],
 og 51 47 false (.len_ (.tmp 50)) [],
 og 52 47 false (.bin .gtr (.tmp 51) (kI 12)) [],
 oo 53 (.pick (.tmp 47) (.const (.bool true)) (.tmp 52)),
 oo 54 (.mv (.tmp 53)),
 og 55 54 false (.fad 7 (.tmp 4)) [],
 og 56 54 false (.load1 (.tmp 55)) [],
 og 57 54 false (.len_ (.tmp 56)) [],
 og 58 54 false (.bin .gtr (.tmp 57) (kI 60)) [],
 oo 59 (.pick (.tmp 54) (.const (.bool true)) (.tmp 58)),
 oo 60 (.mv (.tmp 59)),
 og 61 60 false (.fad 0 (.tmp 4)) [],
 og 62 60 false (.fad 1 (.tmp 61)) [],
 og 63 60 false (.fad 0 (.tmp 62)) [],
 og 64 60 false (.load1 (.tmp 63)) [],
 og 65 60 false (.len_ (.tmp 64)) [],
 og 66 60 false (.bin .gtr (.tmp 65) (kI 20)) [],
 oo 67 (.pick (.tmp 60) (.const (.bool true)) (.tmp 66)),
 oo 68 (.mv (.tmp 67)),
 og 69 68 false (.fad 0 (.tmp 4)) [],
 og 70 68 false (.fad 1 (.tmp 69)) [],
 og 71 68 false (.fad 1 (.tmp 70)) [],
 og 72 68 false (.load1 (.tmp 71)) [],
 og 73 68 false (.len_ (.tmp 72)) [],
 og 74 68 false (.bin .gtr (.tmp 73) (kI 20)) [],
 oo 75 (.pick (.tmp 68) (.const (.bool true)) (.tmp 74))] [29,30,31,32,33,34,35,36,37,38,39,40,41,42,43,44,45,46,47,48,49,50,51,52,53,54,55,56,57,58,59,60,61,62,63,64,65,66,67,68,69,70,71,72,73,74])
 (.cond (.tmp 75)
 (.seq
 (.region false [oo 76 (.call (.func 4) []),
 oo 6 (.mv (.tmp 76))] [76])
 .ret)
 .skip))
 (.seq
 (.region true [oo 78 (.fad 0 (.tmp 4)),
 oa 79 (.loadN 5 (.tmp 78)) [0],
 oo 80 (.fad 5 (.tmp 4)),
 oa 81 (.loadN 2 (.tmp 80)) [2],
 oo 82 (.buildSl 2 0 [] []),
 oo 83 (.fad 7 (.tmp 4)),
 oa 84 (.load1 (.tmp 83)) [5],
 oa 85 (.app 2 16 (.tmp 82) (.tmp 84)) [4,6,5],
 oa 86 (.call (.func 5) [(.tmp 79), (.tmp 81), (.tmp 85)]) [1,0,3,2,7,4,6,5],
 oa 77 (.mv (.tmp 86)) [8,1,0,3,2,7,4,6,5],
 oa 87 (.ext (.tmp 77) 0) [9,8,1,0,3,2,7,4,6,5],
 oa 88 (.ext (.tmp 77) 1) [9,8,1,0,3,2,7,4,6,5],
 oa 89 (.ext (.tmp 77) 2) [9,8,1,0,3,2,7,4,6,5],
 oo 7 (.mem [(.val (.int .i64 0)), (.val (.int .i64 0)), (.val (.int .i64 0)), (.val (.int .i64 0)), (.val (.bool false))]),
 ⟨none, .store 5 (.tmp 7) (.tmp 87), none, [13,10,9,8,1,0,3,2,7,4,6,5]⟩,
 oa 8 (.mv (.tmp 88)) [11,9,8,1,0,3,2,7,4,6,5,14,13,10],
 oa 9 (.mv (.tmp 89)) [12,9,8,1,0,3,2,7,4,6,5,15,11,14,13,10]] [78,79,80,81,82,83,84,85,86,77,87,88,89,8])
 (.seq
 (.seq
 (.region false [oo 90 (.mv (.tmp 9)),
 oo 91 (.bin .neq (.tmp 90) (kI 0))] [90])
 (.cond (.tmp 91)
 (.seq
 (.region false [oo 92 (.call (.func 4) []),
 oo 6 (.mv (.tmp 92))] [92])
 .ret)
 .skip))
 (.seq
 (.region false [oo 10 (.mv (kI 0))] [])
 (.seq
 (.seq
 (.region false [oo 11 (.mv (kI 0))] [])
 (.block 0
 (.loop
 (.seq
 (.seq
 (.region false [oo 93 (.mv (.tmp 11)),
 oo 94 (.fad 7 (.tmp 4)),
 oo 95 (.load1 (.tmp 94)),
 oo 96 (.len_ (.tmp 95)),
 oo 97 (.bin .lss (.tmp 93) (.tmp 96))] [93,94,95,96])
 (.cond (.tmp 97)
 .skip
 (.exit 0)))
 (.seq
 (.block 1
 (.seq
 (.region false [oo 100 (.fad 7 (.tmp 4)),
 oo 101 (.load1 (.tmp 100)),
 oo 102 (.mv (.tmp 11)),
 oo 103 (.iadS 2 (.tmp 101) (.tmp 102)),
 oo 104 (.fad 0 (.tmp 103)),
 oo 105 (.load1 (.tmp 104)),
 oo 106 (.bin .eql (.tmp 105) (kI 5))] [100,101,102,103,104,105])
 (.cond (.tmp 106)
 (.region false [oo 107 (.mv (.tmp 10)),
 oo 108 (.bin .add (.tmp 107) (kI 1)),
 oo 10 (.mv (.tmp 108))] [107,108])
 .skip)))
 (.region false [oo 98 (.mv (.tmp 11)),
 oo 99 (.bin .add (.tmp 98) (kI 1)),
 oo 11 (.mv (.tmp 99))] [98,99]))))))
 (.seq
 (.seq
 (.region false [oo 109 (.fad 3 (.tmp 7)),
 oo 110 (.load1 (.tmp 109)),
 oo 111 (.mv (.tmp 10)),
 oo 112 (.bin .neq (.tmp 110) (.tmp 111))] [109,110,111])
 (.cond (.tmp 112)
 (.seq
 (.region false [oo 6 (.mv (.const (.bool false)))] [])
 .ret)
 .skip))
 (.seq
 (.region false [oo 113 (.buildSl 4 0 [] []),
 oo 114 (.fad 4 (.tmp 3)),
 oo 115 (.load1 (.tmp 114)),
 oo 116 (.app 4 32 (.tmp 113) (.tmp 115)),
 oo 117 (.mv (.tmp 2)),
 oo 118 (.mv (.tmp 10)),
 oo 119 (.build [(.val (.int .i64 0)), (.val (.int .i64 0)), (.val (.int .i64 0)), (.val (.int .i64 0))] [(0,1, (kI 1)), (1,1, (.tmp 117)), (3,1, (.tmp 118))]),
 oo 120 (.buildSl 4 1 [(.val (.int .i64 0)), (.val (.int .i64 0)), (.val (.int .i64 0)), (.val (.int .i64 0))] [(0,4, (.tmp 119))]),
 oo 121 (.app 4 32 (.tmp 116) (.tmp 120)),
 oo 12 (.mv (.tmp 121))] [113,114,115,116,117,118,119,120,121])
 (.seq
 (.region false [oo 123 (.fad 0 (.tmp 3)),
 oo 124 (.loadN 4 (.tmp 123)),
 oo 125 (.mv (.tmp 12)),
 oo 126 (.call (.func 6) [(.tmp 124), (.tmp 125)]),
 oo 122 (.mv (.tmp 126)),
 oo 127 (.ext (.tmp 122) 0),
 oo 128 (.ext (.tmp 122) 1),
 oo 13 (.mv (.tmp 127)),
 oo 14 (.mv (.tmp 128))] [123,124,125,126,122,127,128,13])
 (.seq
 (.seq
 (.region false [oo 129 (.mv (.tmp 14)),
 oo 130 (.bin .neq (.tmp 129) (kI 0))] [129])
 (.cond (.tmp 130)
 (.seq
 (.region false [oo 131 (.call (.func 4) []),
 oo 6 (.mv (.tmp 131))] [131])
 .ret)
 .skip))
 (.seq
 (.region false [oo 133 (.fad 0 (.tmp 3)),
 oo 134 (.loadN 4 (.tmp 133)),
 oo 135 (.mv (.tmp 12)),
 oo 136 (.call (.func 7) [(.tmp 134), (.tmp 135)]),
 oo 132 (.mv (.tmp 136)),
 oo 137 (.ext (.tmp 132) 0),
 oo 138 (.ext (.tmp 132) 1),
 oo 15 (.mv (.tmp 137)),
 oo 16 (.mv (.tmp 138))] [133,134,135,136,132,137,138])
 (.seq
 (.region true [oo 140 (.fad 0 (.tmp 3)),
 oa 141 (.loadN 4 (.tmp 140)) [0],
 oo 142 (.buildSl 4 0 [] []),
 oo 143 (.fad 4 (.tmp 3)),
 oa 144 (.load1 (.tmp 143)) [3],
 oa 145 (.app 4 32 (.tmp 142) (.tmp 144)) [2,4,3],
 oa 146 (.call (.func 8) [(.tmp 141), (.tmp 145)]) [1,0,5,2,4,3],
 oa 139 (.mv (.tmp 146)) [6,1,0,5,2,4,3],
 oa 147 (.ext (.tmp 139) 0) [7,6,1,0,5,2,4,3],
 oa 148 (.ext (.tmp 139) 1) [7,6,1,0,5,2,4,3],
 oa 17 (.mv (.tmp 147)) [8,7,6,1,0,5,2,4,3],
 oa 18 (.mv (.tmp 148)) [9,7,6,1,0,5,2,4,3,10,8]] [140,141,142,143,144,145,146,139,147,148])
 (.seq
 (.region false [oo 150 (.fad 0 (.tmp 3)),
 oo 151 (.loadN 4 (.tmp 150)),
 oo 152 (.mv (.tmp 12)),
 oo 153 (.call (.func 8) [(.tmp 151), (.tmp 152)]),
 oo 149 (.mv (.tmp 153)),
 oo 154 (.ext (.tmp 149) 0),
 oo 155 (.ext (.tmp 149) 1),
 oo 19 (.mv (.tmp 154)),
 oo 20 (.mv (.tmp 155))] [150,151,152,153,149,154,155])
 (.seq
 (.seq
 (.region false [oo 156 (.mv (.tmp 16)),
 oo 157 (.bin .neq (.tmp 156) (kI 0)),
 oo 158 (.mv (.tmp 157)),
 og 159 158 false (.mv (.tmp 18)) [],
 og 160 158 false (.bin .neq (.tmp 159) (kI 0)) [],
 oo 161 (.pick (.tmp 158) (.const (.bool true)) (.tmp 160)),
 oo 162 (.mv (.tmp 161)),
 og 163 162 false (.mv (.tmp 20)) [],
 og 164 162 false (.bin .neq (.tmp 163) (kI 0)) [],
 oo 165 (.pick (.tmp 162) (.const (.bool true)) (.tmp 164)),
 oo 166 (.mv (.tmp 165)),
 og 167 166 false (.mv (.tmp 15)) [],
 og 168 166 false (.len_ (.tmp 167)) [],
 og 169 166 false (.fad 0 (.tmp 3)) [],
 og 170 166 false (.fad 1 (.tmp 169)) [],
 og 171 166 false (.load1 (.tmp 170)) [],
 og 172 166 false (.len_ (.tmp 171)) [],
 og 173 166 false (.bin .neq (.tmp 168) (.tmp 172)) [],
 oo 174 (.pick (.tmp 166) (.const (.bool true)) (.tmp 173)),
 oo 175 (.mv (.tmp 174)),
 og 176 175 false (.mv (.tmp 17)) [],
 og 177 175 false (.len_ (.tmp 176)) [],
 og 178 175 false (.mv (.tmp 15)) [],
 og 179 175 false (.len_ (.tmp 178)) [],
 og 180 175 false (.bin .neq (.tmp 177) (.tmp 179)) [],
 oo 181 (.pick (.tmp 175) (.const (.bool true)) (.tmp 180)),
 oo 182 (.mv (.tmp 181)),
 og 183 182 false (.mv (.tmp 19)) [],
 og 184 182 false (.len_ (.tmp 183)) [],
 og 185 182 false (.mv (.tmp 15)) [],
 og 186 182 false (.len_ (.tmp 185)) [],
 og 187 182 false (.bin .neq (.tmp 184) (.tmp 186)) [],
 oo 188 (.pick (.tmp 182) (.const (.bool true)) (.tmp 187))] [156,157,158,159,160,161,162,163,164,165,166,167,168,169,170,171,172,173,174,175,176,177,178,179,180,181,182,183,184,185,186,187])
 (.cond (.tmp 188)
 (.seq
 (.region false [oo 6 (.mv (.const (.bool false)))] [])
 .ret)
 .skip))
 (.seq
 (.seq
 (.region false [oo 21 (.mv (kI 0))] [])
 (.block 2
 (.loop
 (.seq
 (.seq
 (.region false [oo 189 (.mv (.tmp 21)),
 oo 190 (.mv (.tmp 15)),
 oo 191 (.len_ (.tmp 190)),
 oo 192 (.bin .lss (.tmp 189) (.tmp 191))] [189,190,191])
 (.cond (.tmp 192)
 .skip
 (.exit 2)))
 (.seq
 (.block 3
 (.seq
 (.region false [oo 22 (.mv (kI 0))] [])
 (.seq
 (.seq
 (.region false [oo 195 (.mv (.tmp 15)),
 oo 196 (.mv (.tmp 21)),
 oo 197 (.iadS 2 (.tmp 195) (.tmp 196)),
 oo 198 (.iadA 2 1 (.tmp 197) (kI 0)),
 oo 199 (.load1 (.tmp 198)),
 oo 200 (.mv (.tmp 2)),
 oo 201 (.bin .eql (.tmp 199) (.tmp 200))] [195,196,197,198,199,200])
 (.cond (.tmp 201)
 (.region false [oo 202 (.mv (.tmp 10)),
 oo 22 (.mv (.tmp 202))] [202])
 .skip))
 (.seq
 (.region true [oo 204 (.fad 0 (.tmp 3)),
 oa 205 (.loadN 4 (.tmp 204)) [0],
 oo 206 (.buildSl 4 0 [] []),
 oo 207 (.fad 4 (.tmp 3)),
 oa 208 (.load1 (.tmp 207)) [3],
 oa 209 (.app 4 32 (.tmp 206) (.tmp 208)) [2,4,3],
 oo 210 (.mv (.tmp 21)),
 oa 211 (.call (.func 9) [(.tmp 205), (.tmp 209), (.tmp 210)]) [1,0,5,2,4,3,6],
 oa 203 (.mv (.tmp 211)) [7,1,0,5,2,4,3,6],
 oa 212 (.ext (.tmp 203) 0) [8,7,1,0,5,2,4,3,6],
 oa 213 (.ext (.tmp 203) 1) [8,7,1,0,5,2,4,3,6],
 oa 214 (.ext (.tmp 203) 2) [8,7,1,0,5,2,4,3,6],
 oa 23 (.mv (.tmp 212)) [9,8,7,1,0,5,2,4,3,6],
 oa 24 (.mv (.tmp 213)) [10,8,7,1,0,5,2,4,3,6,12,9],
 oa 25 (.mv (.tmp 214)) [11,8,7,1,0,5,2,4,3,6,13,10,12,9]] [204,205,206,207,208,209,210,211,203,212,213,214,23])
 (.seq
 (.region false [oo 216 (.fad 0 (.tmp 3)),
 oo 217 (.loadN 4 (.tmp 216)),
 oo 218 (.mv (.tmp 12)),
 oo 219 (.mv (.tmp 21)),
 oo 220 (.call (.func 9) [(.tmp 217), (.tmp 218), (.tmp 219)]),
 oo 215 (.mv (.tmp 220)),
 oo 221 (.ext (.tmp 215) 0),
 oo 222 (.ext (.tmp 215) 1),
 oo 223 (.ext (.tmp 215) 2),
 oo 26 (.mv (.tmp 221)),
 oo 27 (.mv (.tmp 222)),
 oo 28 (.mv (.tmp 223))] [216,217,218,219,220,215,221,222,223,26])
 (.seq
 (.region true [oo 224 (.mv (.tmp 25)),
 oa 225 (.bin .neq (.tmp 224) (kI 0)) [0],
 oa 226 (.mv (.tmp 225)) [1,0],
 og 227 226 false (.mv (.tmp 28)) [2,1,0],
 og 228 226 false (.bin .neq (.tmp 227) (kI 0)) [3,2,1,0],
 oa 229 (.pick (.tmp 226) (.const (.bool true)) (.tmp 228)) [2,1,0,4,3],
 oa 230 (.mv (.tmp 229)) [5,2,1,0,4,3],
 og 231 230 false (.mv (.tmp 19)) [6,5,2,1,0,4,3],
 og 232 230 false (.mv (.tmp 21)) [6,5,2,1,0,4,3],
 og 233 230 false (.iadS 2 (.tmp 231) (.tmp 232)) [7,6,5,2,1,0,4,3,8],
 og 234 230 false (.iadA 2 1 (.tmp 233) (kI 0)) [9,7,6,5,2,1,0,4,3,8],
 og 235 230 false (.load1 (.tmp 234)) [10,9,7,6,5,2,1,0,4,3,8],
 og 236 230 false (.mv (.tmp 17)) [6,5,2,1,0,4,3],
 og 237 230 false (.mv (.tmp 21)) [6,5,2,1,0,4,3],
 og 238 230 false (.iadS 2 (.tmp 236) (.tmp 237)) [12,6,5,2,1,0,4,3,13],
 og 239 230 false (.iadA 2 1 (.tmp 238) (kI 0)) [14,12,6,5,2,1,0,4,3,13],
 og 240 230 false (.load1 (.tmp 239)) [15,14,12,6,5,2,1,0,4,3,13],
 og 241 230 false (.bin .neq (.tmp 235) (.tmp 240)) [11,10,9,7,6,5,2,1,0,4,3,8,16,15,14,12,13],
 oa 242 (.pick (.tmp 230) (.const (.bool true)) (.tmp 241)) [6,5,2,1,0,4,3,17,11,10,9,7,8,16,15,14,12,13],
 oa 243 (.mv (.tmp 242)) [18,6,5,2,1,0,4,3,17,11,10,9,7,8,16,15,14,12,13],
 og 244 243 false (.mv (.tmp 19)) [19,18,6,5,2,1,0,4,3,17,11,10,9,7,8,16,15,14,12,13],
 og 245 243 false (.mv (.tmp 21)) [19,18,6,5,2,1,0,4,3,17,11,10,9,7,8,16,15,14,12,13],
 og 246 243 false (.iadS 2 (.tmp 244) (.tmp 245)) [20,19,18,6,5,2,1,0,4,3,17,11,10,9,7,8,16,15,14,12,13,21],
 og 247 243 false (.iadA 2 1 (.tmp 246) (kI 1)) [22,20,19,18,6,5,2,1,0,4,3,17,11,10,9,7,8,16,15,14,12,13,21],
 og 248 243 false (.load1 (.tmp 247)) [23,22,20,19,18,6,5,2,1,0,4,3,17,11,10,9,7,8,16,15,14,12,13,21],
 og 249 243 false (.mv (.tmp 17)) [19,18,6,5,2,1,0,4,3,17,11,10,9,7,8,16,15,14,12,13],
 og 250 243 false (.mv (.tmp 21)) [19,18,6,5,2,1,0,4,3,17,11,10,9,7,8,16,15,14,12,13],
 og 251 243 false (.iadS 2 (.tmp 249) (.tmp 250)) [25,19,18,6,5,2,1,0,4,3,17,11,10,9,7,8,16,15,14,12,13,26],
 og 252 243 false (.iadA 2 1 (.tmp 251) (kI 1)) [27,25,19,18,6,5,2,1,0,4,3,17,11,10,9,7,8,16,15,14,12,13,26],
 og 253 243 false (.load1 (.tmp 252)) [28,27,25,19,18,6,5,2,1,0,4,3,17,11,10,9,7,8,16,15,14,12,13,26],
 og 254 243 false (.mv (.tmp 22)) [19,18,6,5,2,1,0,4,3,17,11,10,9,7,8,16,15,14,12,13],
 og 255 243 false (.bin .add (.tmp 253) (.tmp 254)) [29,28,27,25,19,18,6,5,2,1,0,4,3,17,11,10,9,7,8,16,15,14,12,13,26,30],
 og 256 243 false (.bin .neq (.tmp 248) (.tmp 255)) [24,23,22,20,19,18,6,5,2,1,0,4,3,17,11,10,9,7,8,16,15,14,12,13,21,31,29,28,27,25,26,30],
 oa 257 (.pick (.tmp 243) (.const (.bool true)) (.tmp 256)) [19,18,6,5,2,1,0,4,3,17,11,10,9,7,8,16,15,14,12,13,32,24,23,22,20,21,31,29,28,27,25,26,30],
 oa 258 (.mv (.tmp 257)) [33,19,18,6,5,2,1,0,4,3,17,11,10,9,7,8,16,15,14,12,13,32,24,23,22,20,21,31,29,28,27,25,26,30],
 og 259 258 false (.mv (.tmp 24)) [34,33,19,18,6,5,2,1,0,4,3,17,11,10,9,7,8,16,15,14,12,13,32,24,23,22,20,21,31,29,28,27,25,26,30],
 og 260 258 false (.mv (.tmp 27)) [34,33,19,18,6,5,2,1,0,4,3,17,11,10,9,7,8,16,15,14,12,13,32,24,23,22,20,21,31,29,28,27,25,26,30],
 og 261 258 false (.bin .sub (.tmp 259) (.tmp 260)) [35,34,33,19,18,6,5,2,1,0,4,3,17,11,10,9,7,8,16,15,14,12,13,32,24,23,22,20,21,31,29,28,27,25,26,30,36],
 og 262 258 false (.mv (.tmp 22)) [34,33,19,18,6,5,2,1,0,4,3,17,11,10,9,7,8,16,15,14,12,13,32,24,23,22,20,21,31,29,28,27,25,26,30],
 og 263 258 false (.bin .neq (.tmp 261) (.tmp 262)) [37,35,34,33,19,18,6,5,2,1,0,4,3,17,11,10,9,7,8,16,15,14,12,13,32,24,23,22,20,21,31,29,28,27,25,26,30,36,38],
 oa 264 (.pick (.tmp 258) (.const (.bool true)) (.tmp 263)) [34,33,19,18,6,5,2,1,0,4,3,17,11,10,9,7,8,16,15,14,12,13,32,24,23,22,20,21,31,29,28,27,25,26,30,39,37,35,36,38]] [224,225,226,227,228,229,230,231,232,233,234,235,236,237,238,239,240,241,242,243,244,245,246,247,248,249,250,251,252,253,254,255,256,257,258,259,260,261,262,263])
 (.cond (.tmp 264)
 (.seq
 (.region false [oo 6 (.mv (.const (.bool false)))] [])
 .ret)
 .skip)))))))
 (.region false [oo 193 (.mv (.tmp 21)),
 oo 194 (.bin .add (.tmp 193) (kI 1)),
 oo 21 (.mv (.tmp 194))] [193,194]))))))
 (.seq
 (.region false [oo 265 (.call (.func 4) []),
 oo 6 (.mv (.tmp 265))] [265])
 .ret))))))))))))))))
set_option maxRecDepth 100000 in
theorem ktop_TopCycles : IsCode Tryd.prog 3 266 ctop_TopCycles [.tmp 6] :=
 ⟨Tryd.f3, _, [264,201,192,188,130,112,106,97,91,75,0,1,3,4,9,11,10,7,2,12,14,16,18,20,15,17,19,21,25,28,22,24,27,6], Tryd.func3, rfl, by decide, rfl, by kernel_rfl, by kernel_rfl⟩
end Go.Proofs.YtgibbaadjbohdaaDoor
/- A weaker state within a region that draws its order. No conditions. -/
namespace Go.Proofs.YtgibbaadjbohdaaDoor.Lift
open Go Go.RowKit

theorem wpAny_cut {P : Program} {ops : Array Oper} {base : Nat} {C : Ctx} {K fuel2 : Nat} {L0 : Array Bool} {R : FSt → Prop} {Q' : Exit → Act → World → Prop} (hd : ∀ o ∈ ops, ∀ d, o.dst = some d → d < C.n) (hpl : ∀ o ∈ ops, ∀ c, o.op ≠ .defer c)
    (hR : ∀ s a w β Z, RelS C β Z s a w → FreeB base (fun j => L0.getD j false = true) β → R s → wpAnyIn (Fw C.r) 0 P .any ops Q' fuel2 L0 a w) : ∀ (m : Nat) (listed : Array Bool) (s : FSt) (log : Log) (a : Act) (w : World) (β : Bet) (Z : Blk), listed.size = ops.size →
    RelS C β Z s a w → FreeB base (fun j => listed.getD j false = true) β → aUpTo P ops base K L0 R m listed s log → wpAnyIn (Fw C.r) 0 P .any ops Q' (m + fuel2) listed a w := by
  intro m
  induction m with
  | zero =>
    intro listed s log a w β Z hl h hf ha
    obtain ⟨rfl, h1, h2, h3⟩ := ha
    rw [Nat.zero_add]
    exact hR _ _ _ _ _ h hf h3
  | succ m ih =>
    intro listed s log a w β Z hl h hf ha
    obtain ⟨h1, ⟨j0, h2⟩, h3⟩ := ha
    rw [show m + 1 + fuel2 = (m + fuel2) + 1 by omega]
    refine ⟨fun h0 => (by rw [h0] at h2; cases h2), fun i hi => ?_⟩
    obtain ⟨hun, o, ho, _⟩ := mem_ready.1 hi
    obtain ⟨s', log', hst, hK⟩ := h3 i hi o ho
    have hlt : i < listed.size := by rw [hl]; exact (Array.getElem?_eq_some_iff.1 ho).1
    refine stepA_wpOp (done' := fun j => (listed.setIfInBounds i true).getD j false = true) ho h hd hpl hf ?_ (fun j hj => getD_set_true hj) (by simp [hlt]) hst fun β' Z' a' w' hr hf' => ih _ _ _ _ _ β' Z' (by simp [hl]) hr hf' hK
    simp [hlt] at hun ⊢
    exact hun
theorem aw_region_cutD {rd : Rd} {P : Program} {n : Nat} {pre : List Nat} {Q : AExit → St → Prop} {s : St} (ops1 : List AOper) (o2 : AOper) (ops2 : List AOper) {drop : List Nat}
    (hg1 : (List.range ops1.length).all (fun i => o2.anc.contains i) = true) (hg2 : ops2.all (fun o => o.anc.contains ops1.length) = true)
    (h : ARun P true s.nx (fun s' => ∃ s0, Wk pre ⟨s'.env, s'.hp, s.nx + 8 * ops1.length⟩ s0 ∧ 8 * ops1.length ≤ s0.nx ∧ ARun P true (s0.nx - 8 * ops1.length) (fun s2 => Q .norm ⟨dropE s2.env drop, s2.hp, s0.nx + 8 * (ops2.length + 1)⟩) (o2 :: ops2) ops1.length s0 []) ops1 0 s []) :
    AWb rd P n pre (.region true (ops1 ++ o2 :: ops2) drop) Q s := fun code keep hc C a w hn hp hd hr => by
  cases code with
  | region id oa draw =>
    simp only [compCode] at hc
    split at hc
    · rename_i al hal
      split at hc
      · rename_i hcond
        cases hc
        obtain ⟨β, Z, hR0, hβ⟩ := hr
        simp only [if_true] at hal
        obtain ⟨hm1, hlexB⟩ := hcond.resolve_left (by simp)
        obtain ⟨ans, hans0⟩ : ∃ ans, ancGo oa.toList [] = ans := ⟨_, rfl⟩
        have hans : ∀ i j, j ∈ (ans[i]?).getD [] → Anc .any oa i j := hans0 ▸ ancGo_sound oa.toList [] (by simp) (by simp)
        rw [hans0] at hal
        obtain ⟨hd', hlen⟩ := compOps_dst _ _ _ hal
        have hpl := compOps_plain _ _ _ hal
        obtain ⟨l1, l2, hl, e1, e2, e3, e4⟩ := compOps_app _ _ _ _ hal
        rw [Nat.zero_add] at e4
        have hdo : ∀ o ∈ oa, ∀ d, o.dst = some d → d < C.n := fun o ho d hdd => hn ▸ hd' o (by simpa using ho) d hdd
        have hplo : ∀ o ∈ oa, ∀ c, o.op ≠ .defer c := fun o ho => hpl o (by simpa using ho)
        have hsz : oa.size = l1.length + l2.length := by have := congrArg List.length hl; simpa using this
        have hl2 : l2.length = ops2.length + 1 := by simpa using e2
        have hget : ∀ j, oa[j]? = (l1 ++ l2)[j]? := fun j => by rw [← hl, Array.getElem?_toList]
        have hKlt : l1.length < oa.size := by omega
        have hancK : o2.anc = (ans[ops1.length]?).getD [] := by
          have := compOps_anc _ _ _ hal ops1.length (by simp)
          simpa using this
        have hanc : ∀ i, i < l1.length → Anc .any oa l1.length i := fun i hi => by
          refine hans _ _ ?_
          rw [e1, ← hancK]
          have := List.all_eq_true.1 hg1 i (by simp; omega)
          simpa using this
        have hdesc : ∀ j, l1.length < j → j < oa.size → Anc .any oa j l1.length := fun j hj hjs => by
          obtain ⟨m, rfl⟩ : ∃ m, j = l1.length + (m + 1) := ⟨j - l1.length - 1, by omega⟩
          have hm : m < ops2.length := by omega
          have h1 := compOps_anc _ _ _ hal (ops1.length + (m + 1)) (by simp; omega)
          rw [List.getElem_append_right (by omega)] at h1
          simp only [Nat.add_sub_cancel_left, List.getElem_cons_succ, Nat.zero_add] at h1
          refine hans _ _ ?_
          rw [e1, ← h1]
          have := List.all_eq_true.1 hg2 _ (List.getElem_mem hm)
          simpa using this
        have hlex : Region.lexFrom .any oa oa.size 0 (firstL oa.size 0) = true := by
          simp only [Region.lexB, Bool.and_eq_true] at hlexB
          rw [firstL_zero]; simpa using hlexB.2
        have hR : RelS C β Z s.F a { w with drawn := w.drawn + 1 } := by
          have h := hR0
          have f : Fr (fun _ => False) w { w with drawn := w.drawn + 1 } := Fr.drawn _ _ _
          exact ⟨h.size, ⟨h.defers.1, fun d hd => (h.defers.2 d hd).mono f (fun _ _ h => h.elim) (fun _ _ h => h)⟩, fun t => (h.env t).mono f (fun _ _ h => h.elim) (Ext.refl β) (fun _ _ h => h), fun g c hc => (h.objs g c hc).mono f (fun _ _ h => h.elim) (fun _ _ h => h) (Ext.refl β) (fun h => h) (fun _ _ => Iff.rfl), h.inj,
            h.fr.trans f (fun _ _ h => h.elim), h.z0, h.old, h.orig, h.ext, h.zlt⟩
        refine wpIn_region_any hm1 ?_
        have hup := wpAny_cut (P := P) (ops := oa) (base := s.nx) (C := C) (K := l1.length) (fuel2 := l2.length) (L0 := firstL oa.size l1.length) (Q' := PostQ C Q) hdo hplo ?_ l1.length (firstL oa.size 0) s.F (fun _ _ => False) a { w with drawn := w.drawn + 1 } β Z (firstL_size _ _) hR (fun g hg hn => absurd (hβ g hg) hn)
          (aUpTo_lex hanc hdesc hKlt l1 0 s.F _ (by simp) (lex_at hlex 0 (by omega)).1 (fun j hj => by rw [Nat.zero_add, hget, List.getElem?_append_left hj]) (by simpa using hlex) (arun_lex hans l1 ops1 0 s [] _ e3 (fun j ef hf => hf.elim) h))
        · rw [firstL_zero, ← hsz] at hup; exact hup
        rintro fs a1 w1 β1 Z1 hR1 hF ⟨s1, rfl, _, s0, hwk, hge, hrun⟩
        obtain ⟨β0, Z0, hR2, hβ0⟩ := hwk C a1 w1 hp ⟨β1, Z1, hR1, fun g hg => by
          cases hb : β1 g with
          | none => rfl
          | some B =>
            simp only at hg
            obtain ⟨j, hj, h1, h2⟩ := hF g (by omega) (by rw [hb]; simp)
            rw [firstL_get] at hj
            split at hj
            · have := of_decide_eq_true hj; omega
            · cases hj⟩
        refine wpAny_of_aAny (P := P) (ops := oa) (dr := true) (base := s0.nx - 8 * ops1.length) (C := C) (Q' := PostQ C Q) hdo hplo
          (Q := fun fs => ∃ s3 : St, fs = s3.F ∧ s3.nx = s0.nx ∧ Q .norm ⟨dropE s3.env _, s3.hp, s0.nx + 8 * (ops2.length + 1)⟩) ?_ l2.length (firstL oa.size l1.length) _ (fun _ _ => False) _ _ β0 Z0 (firstL_size _ _) hR2 (fun g' hg' hn0 => by
            by_cases hgn : s0.nx ≤ g'
            · exact absurd (hβ0 g' hgn) hn0
            · refine ⟨(g' - (s0.nx - 8 * ops1.length)) / 8, ?_, ?_, ?_⟩
              · show (firstL _ _).getD _ _ = true; rw [firstL_get, if_pos (by omega)]; exact decide_eq_true (by omega)
              · omega
              · omega)
          (aAny_lex rfl l2 l1.length _ _ _ (lex_at hlex l1.length (by omega)).1 (fun j => by rw [hget, List.getElem?_append_right (by omega)]; simp)
            (by have := (lex_at hlex l1.length (by omega)).2; rwa [show oa.size - l1.length = l2.length by omega] at this)
            (arun_lex hans l2 (o2 :: ops2) l1.length s0 [] _ (by rw [e1]; exact e4) (fun j ef hf => hf.elim) (by rw [e1]; exact hrun)))
        rintro fs a4 w5 β4 Z4 hR5 hF5 ⟨s3, rfl, _, hQ⟩
        refine ⟨_, hQ, β4, Z4, ⟨hR5.size, hR5.defers, fun t => ?_, hR5.objs, hR5.inj, hR5.fr, hR5.z0, hR5.old, hR5.orig, hR5.ext, hR5.zlt⟩, fun g' hg' => ?_⟩
        · show Rep w5 β4 Z4 _ (eget (dropE s3.env _) t)
          rcases get_drop s3.env _ t with h1 | h1
          · rw [h1]; exact hR5.env t
          · rw [h1]; exact .bot _
        · cases hb : β4 g' with
          | none => rfl
          | some B =>
            simp only at hg'
            obtain ⟨j, hj, h1, h2⟩ := hF5 g' (by omega) (by rw [hb]; simp)
            omega
      · cases hc
    · cases hc
  | seq a b => simp only [compCode] at hc; split at hc <;> cases hc
  | cond c a b => simp only [compCode] at hc; split at hc <;> cases hc
  | block id a => simp [compCode] at hc
  | loop a => simp [compCode] at hc
  | rangeFunc x1 x2 x3 x4 => simp only [compCode] at hc; repeat' (first | (cases hc; done) | split at hc)
  | _ => cases hc
end Go.Proofs.YtgibbaadjbohdaaDoor.Lift
/- The law of a hoist's cycles (views last). No conditions. -/
namespace Go.Proofs.YtgibbaadjbohdaaDoor
open Go Go.RowKit Lift

theorem in_cells {S : Nat → Prop} {l : List D} (h : l.all inF = true) : ∀ d ∈ l, In S d := fun d hd => inF_in (List.all_eq_true.1 h d hd)
theorem vw_sps {H : Heap} {V : List Nat} {g n : Nat} (l : Bx) (hg : g ∈ V) (hc : H g = some (scells l)) (hn : l.length = n) : Vw H V (.vec g n 2) (.list (sps l)) := by
  subst hn
  exact .vec g _ 2 (scells l) (sps l) hg hc (by rw [scells_len]; omega) (sps_two l) (sps_len l) (by rw [sc_tk2]; exact sps_flat l) (scells_in l)
theorem flatT3 (a b c : Value) : Flat (.tup [.val a, .val b, .val c]) := .tup _ (by intro d hd; simp at hd; rcases hd with rfl | rfl | rfl <;> exact .val _)
theorem flatHg (a b c d e f g : Value) : Flat (.tup [.agg [.val a, .val b, .val c, .val d, .val e], .val f, .val g]) := .tup _ (by
  intro x hx; simp at hx
  rcases hx with rfl | rfl | rfl
  · exact .agg _ (by intro y hy; simp at hy; rcases hy with rfl | rfl | rfl | rfl | rfl <;> exact .val _)
  · exact .val _
  · exact .val _)
theorem gatherC (r : Reg) (W : List W4) (m c : Int) (h : oE r (W ++ [⟨1, m, 0, c⟩]) = 0) : ∀ i, i < r.ps.length → ∃ (p q : Prt) (S T : Hg), T.rg = S.rg ∧ Flew S T m c p q ∧
    (sps (evL (fun p => (p.h, p.c)) r W))[i]? = some [dI p.h, dI p.c] ∧ (sps (evL (fun p => (p.m, p.pl)) r (W ++ [⟨1, m, 0, c⟩])))[i]? = some [dI q.m, dI q.pl] ∧ (sps (evL (fun p => (p.h, p.c)) r (W ++ [⟨1, m, 0, c⟩])))[i]? = some [dI q.h, dI q.c] ∧
    lhE r W i = 0 ∧ lhE r (W ++ [⟨1, m, 0, c⟩]) i = 0 ∧ lhC r W i = (if 0 > lfC S p then 0 else lfC S p) ∧ lhC r (W ++ [⟨1, m, 0, c⟩]) i = (if 0 > lfC T q then 0 else lfC T q) := by
  intro i hi
  have hW := oE_app h
  obtain ⟨_, e1, e2, hf⟩ := flew r W m c h
  obtain ⟨p, hp⟩ := nthI (l := (opS r W W.length).pts) (k := i) (by rw [opS_len]; exact hi)
  obtain ⟨q, hq, hF⟩ := hf i p hp
  have hlen : (W ++ [(⟨1, m, 0, c⟩ : W4)]).length = W.length + 1 := by simp
  have hq' : (opS r (W ++ [⟨1, m, 0, c⟩]) (W ++ [(⟨1, m, 0, c⟩ : W4)]).length).pts[i]? = some q := by rw [hlen]; exact hq
  obtain ⟨v1, _, _⟩ := oE_ok hW
  have hps := (valid_ok v1).ps
  have pB : ∀ S : Hg, S.pts.length = r.ps.length → partB S i = true := fun S hS => by
    unfold partB wI
    rw [hS, w64_in (by omega) (by omega)]
    simp; omega
  have ti : ((i : Nat) : Int).toNat = i := by omega
  have E1 : lhE r W i = 0 := by unfold lhE; rw [if_pos hW, if_pos (pB _ (opS_len r W W.length))]
  have E2 : lhE r (W ++ [⟨1, m, 0, c⟩]) i = 0 := by unfold lhE; rw [if_pos h, if_pos (pB _ (opS_len r _ _))]
  refine ⟨p, q, _, _, e1, hF, evL_nth hW hp, evL_nth (f := fun p => (p.m, p.pl)) h hq', evL_nth h hq', E1, E2, ?_, ?_⟩
  · unfold lhC
    rw [if_pos E1, ti, show prtAt (opS r W W.length) i = p by unfold prtAt; rw [hp]; rfl]
  · unfold lhC
    rw [if_pos E2, ti, hlen, show prtAt (opS r (W ++ [⟨1, m, 0, c⟩]) (W.length + 1)) i = q by unfold prtAt; rw [hq]; rfl]
set_option maxRecDepth 100000 in
set_option maxHeartbeats 16000000 in
theorem lawCycles_ac (r : Reg) (W : List W4) (h : Hst) (wd : Int × Int) (l : Bx) (m : Int) (hS : HSm h) :
    AC Tryd.prog 3 [.agg [.list (kds r.ks), .list (p0s r.ps), dI r.ms, .list (ods r.os), .list (wkL W)], .agg [dI h.cable, .list (ints h.xs), .list (ints h.ys), .list (rows h.vs), dI h.charge, dI wd.1, dI wd.2, .list (sps l)], dI m] [] [] (dB true) := by
  refine ktop_TopCycles.ac (n0 := 0) (by simp) ⟨.agg _ (in_cells rfl), .agg _ (in_cells rfl), .val _, trivial⟩ trivial rfl ?_
  unfold ctop_TopCycles
  cases qw : decide ((W.length : Int) > 100) with
  | true =>
    (repeat' (first | (with_reducible first | refine thenQ_n ?_ | refine blockQ_n ?_ | refine thenQ_e ?_ | refine blockQ_t ?_ | refine blockQ_f (by decide) ?_) | apply aw_seq | apply aw_skip | apply aw_exit | apply aw_ret | apply aw_block | apply aw_condT rfl | apply aw_condF rfl | ((first | refine aw_hide fun K hK => aw_region ?_ | refine acall0 (measures_ac) ?_ | refine ago_if (by omega) ?_ | skip); simp (disch := first | exact okY | omega) only [ZU, Nat.reduceAdd, Nat.reduceMul, dI, AOpRun, aexec, D.isBot, ↓eget_h, or_self, ↓reduceIte, D.cells, Nat.reduceBEq, run1, wkL_len, isSh, abin, qw, ARun_some, AG_tf, dB]) | subst hK))
    all_goals (refine end_q [] [] ?_ ?_ <;> repeat' (first | exact trivial | exact vr_val _))
  | false =>
  cases qk : decide ((r.ks.length : Int) > 12) with
  | true =>
    (repeat' (first | (with_reducible first | refine thenQ_n ?_ | refine blockQ_n ?_ | refine thenQ_e ?_ | refine blockQ_t ?_ | refine blockQ_f (by decide) ?_) | apply aw_seq | apply aw_skip | apply aw_exit | apply aw_ret | apply aw_block | apply aw_condT rfl | apply aw_condF rfl | ((first | refine aw_hide fun K hK => aw_region ?_ | refine acall0 (measures_ac) ?_ | refine ago_if (by omega) ?_ | skip); simp (disch := first | exact okY | omega) only [ZU, Nat.reduceAdd, Nat.reduceMul, dI, AOpRun, aexec, D.isBot, ↓eget_h, or_self, ↓reduceIte, D.cells, Nat.reduceBEq, run1, wkL_len, isSh, abin, qw, ARun_some, AG_ff, kds_len, qk, AG_tf, dB]) | subst hK))
    all_goals (refine end_q [] [] ?_ ?_ <;> repeat' (first | exact trivial | exact vr_val _))
  | false =>
  cases qp : decide ((r.ps.length : Int) > 40) with
  | true =>
    (repeat' (first | (with_reducible first | refine thenQ_n ?_ | refine blockQ_n ?_ | refine thenQ_e ?_ | refine blockQ_t ?_ | refine blockQ_f (by decide) ?_) | apply aw_seq | apply aw_skip | apply aw_exit | apply aw_ret | apply aw_block | apply aw_condT rfl | apply aw_condF rfl | ((first | refine aw_hide fun K hK => aw_region ?_ | refine acall0 (measures_ac) ?_ | refine ago_if (by omega) ?_ | skip); simp (disch := first | exact okY | omega) only [ZU, Nat.reduceAdd, Nat.reduceMul, dI, AOpRun, aexec, D.isBot, ↓eget_h, or_self, ↓reduceIte, D.cells, Nat.reduceBEq, run1, wkL_len, isSh, abin, qw, ARun_some, AG_ff, kds_len, qk, p0s_len, qp, AG_tf, dB]) | subst hK))
    all_goals (refine end_q [] [] ?_ ?_ <;> repeat' (first | exact trivial | exact vr_val _))
  | false =>
  cases qo : decide ((r.os.length : Int) > 12) with
  | true =>
    (repeat' (first | (with_reducible first | refine thenQ_n ?_ | refine blockQ_n ?_ | refine thenQ_e ?_ | refine blockQ_t ?_ | refine blockQ_f (by decide) ?_) | apply aw_seq | apply aw_skip | apply aw_exit | apply aw_ret | apply aw_block | apply aw_condT rfl | apply aw_condF rfl | ((first | refine aw_hide fun K hK => aw_region ?_ | refine acall0 (measures_ac) ?_ | refine ago_if (by omega) ?_ | skip); simp (disch := first | exact okY | omega) only [ZU, Nat.reduceAdd, Nat.reduceMul, dI, AOpRun, aexec, D.isBot, ↓eget_h, or_self, ↓reduceIte, D.cells, Nat.reduceBEq, run1, wkL_len, isSh, abin, qw, ARun_some, AG_ff, kds_len, qk, p0s_len, qp, ods_len, qo, AG_tf, dB]) | subst hK))
    all_goals (refine end_q [] [] ?_ ?_ <;> repeat' (first | exact trivial | exact vr_val _))
  | false =>
  cases ql : decide ((l.length : Int) > 60) with
  | true =>
    (repeat' (first | (with_reducible first | refine thenQ_n ?_ | refine blockQ_n ?_ | refine thenQ_e ?_ | refine blockQ_t ?_ | refine blockQ_f (by decide) ?_) | apply aw_seq | apply aw_skip | apply aw_exit | apply aw_ret | apply aw_block | apply aw_condT rfl | apply aw_condF rfl | ((first | refine aw_hide fun K hK => aw_region ?_ | refine acall0 (measures_ac) ?_ | refine ago_if (by omega) ?_ | skip); simp (disch := first | exact okY | omega) only [ZU, Nat.reduceAdd, Nat.reduceMul, dI, AOpRun, aexec, D.isBot, ↓eget_h, or_self, ↓reduceIte, D.cells, Nat.reduceBEq, run1, wkL_len, isSh, abin, qw, ARun_some, AG_ff, kds_len, qk, p0s_len, qp, ods_len, qo, ↓hget_h, sps_len, ql, AG_tf, dB]) | subst hK))
    all_goals (refine end_q [] [] ?_ ?_ <;> repeat' (first | exact trivial | exact vr_val _))
  | false =>
  cases qx : decide ((h.xs.length : Int) > 20) with
  | true =>
    (repeat' (first | (with_reducible first | refine thenQ_n ?_ | refine blockQ_n ?_ | refine thenQ_e ?_ | refine blockQ_t ?_ | refine blockQ_f (by decide) ?_) | apply aw_seq | apply aw_skip | apply aw_exit | apply aw_ret | apply aw_block | apply aw_condT rfl | apply aw_condF rfl | ((first | refine aw_hide fun K hK => aw_region ?_ | refine acall0 (measures_ac) ?_ | refine ago_if (by omega) ?_ | skip); simp (disch := first | exact okY | omega) only [ZU, Nat.reduceAdd, Nat.reduceMul, dI, AOpRun, aexec, D.isBot, ↓eget_h, or_self, ↓reduceIte, D.cells, Nat.reduceBEq, run1, wkL_len, isSh, abin, qw, ARun_some, AG_ff, kds_len, qk, p0s_len, qp, ods_len, qo, ↓hget_h, sps_len, ql, ints_len, qx, AG_tf, dB]) | subst hK))
    all_goals (refine end_q [] [] ?_ ?_ <;> repeat' (first | exact trivial | exact vr_val _))
  | false =>
  cases qy : decide ((h.ys.length : Int) > 20) with
  | true =>
    (repeat' (first | (with_reducible first | refine thenQ_n ?_ | refine blockQ_n ?_ | refine thenQ_e ?_ | refine blockQ_t ?_ | refine blockQ_f (by decide) ?_) | apply aw_seq | apply aw_skip | apply aw_exit | apply aw_ret | apply aw_block | apply aw_condT rfl | apply aw_condF rfl | ((first | refine aw_hide fun K hK => aw_region ?_ | refine acall0 (measures_ac) ?_ | refine ago_if (by omega) ?_ | skip); simp (disch := first | exact okY | omega) only [ZU, Nat.reduceAdd, Nat.reduceMul, dI, AOpRun, aexec, D.isBot, ↓eget_h, or_self, ↓reduceIte, D.cells, Nat.reduceBEq, run1, wkL_len, isSh, abin, qw, ARun_some, AG_ff, kds_len, qk, p0s_len, qp, ods_len, qo, ↓hget_h, sps_len, ql, ints_len, qx, qy, dB]) | subst hK))
    all_goals (refine end_q [] [] ?_ ?_ <;> repeat' (first | exact trivial | exact vr_val _))
  | false =>
  have nW := of_decide_eq_false qw
  have nl := of_decide_eq_false ql
  have np0 := of_decide_eq_false qp
  have hc0 := shaul_ac h wd l hS
  have hcy := hau_cyc (h := h) (wd := wd) (l := l)
  unfold hoD hoC spD hgC at hc0
  generalize hauE h wd l = E at *
  generalize hauK h wd l = K at *
  generalize hauN h wd l = N at *
  have tk := sc_tk2 l
  (iterate 5 (try (first | apply aw_seq | ((first | apply aw_skip | apply aw_exit); with_reducible repeat' (first | refine thenQ_n ?_ | refine blockQ_n ?_ | refine thenQ_e ?_ | refine blockQ_t ?_ | refine blockQ_f (by decide) ?_)) | apply aw_ret | apply aw_block | apply aw_condT rfl | apply aw_condF rfl | ((first | refine aw_hide fun K hK => aw_region ?_ | refine ago_if (by omega) ?_ | skip); simp (disch := first | exact okY | omega) only [ZU, Nat.reduceAdd, Nat.reduceMul, dI, AOpRun, aexec, D.isBot, ↓eget_h, or_self, ↓reduceIte, D.cells, Nat.reduceBEq]) | (subst hK; with_reducible repeat' (first | refine thenQ_n ?_ | refine blockQ_n ?_ | refine thenQ_e ?_ | refine blockQ_t ?_ | refine blockQ_f (by decide) ?_)))))
  refine aw_region ?_
  simp (disch := first | exact okY | omega) only [ZU, dB, Nat.reduceAdd, Nat.reduceMul, AOpRun, aexec, Nat.reduceBEq, ↓eget_h, run1, wkL_len, isSh, ↓reduceIte, abin, qw, ARun_some, AG_ff, kds_len, qk, p0s_len, qp, ods_len, qo, ↓hget_h, sps_len, ql, ints_len, qx, qy]
  refine aw_condF rfl (aw_skip ?_)
  refine aw_wk (s' := ⟨[(2, dI m), (3, .ptr 0 0), (4, .ptr 8 0)], [(0, [.list (kds r.ks), .list (p0s r.ps), dI r.ms, .list (ods r.os), .list (wkL W)]), (8, [dI h.cable, .list (ints h.xs), .list (ints h.ys), .list (rows h.vs), dI h.charge, dI wd.1, dI wd.2, .list (sps l)])], 1000⟩) ?_ ?_
  · unfold dI
    refine wk_q [] [(0, 0), (8, 8)] ?_ ?_ <;> repeat' (first | exact trivial | exact vr_val _ | exact vr_list _ | exact vr_ptr _ _ _ rfl | refine And.intro ⟨_, rfl, .inl ⟨_, rfl, by decide, ?_⟩⟩ ?_ | apply And.intro)
  unfold dI dB at hc0
  cases qE : (E != 0)
  case true =>
    (repeat' (first | (with_reducible first | refine thenQ_n ?_ | refine blockQ_n ?_ | refine thenQ_e ?_ | refine blockQ_t ?_ | refine blockQ_f (by decide) ?_) | apply aw_seq | apply aw_skip | apply aw_exit | apply aw_ret | apply aw_block | apply aw_condT rfl | apply aw_condF rfl | ((first | refine aw_hide fun K hK => aw_region ?_ | refine acall (hc0) [1056] ⟨.refl _, .refl _, vw_sps l (by simp) rfl rfl, trivial⟩ (.inr (flatHg _ _ _ _ _ _ _)) (by simp only [List.mem_cons, List.not_mem_nil, or_false, forall_eq_or_imp, forall_eq]; first | exact ⟨_, rfl⟩ | exact ⟨⟨_, rfl⟩, ⟨_, rfl⟩⟩) (by kernel_rfl) ?_ | refine acall0 (measures_ac) ?_ | refine ago_if (by omega) ?_ | skip); simp (disch := first | exact okY | omega) only [ZU, Nat.reduceAdd, Nat.reduceMul, dI, AOpRun, aexec, Nat.reduceBEq, ↓eget_h, ↓hget_h, Nat.reduceLeDiff, ↓reduceIte, List.drop, List.take, fillD, run1, base, Nat.zero_le, elems, sps_all, sps_len, sps_flat, scells_leaf, and_true, ups, hdel_c, hdel_n, opt1, D.isBot, D.cells, List.all, D.leaf, splice, isSh, abin, qE, dB]) | subst hK))
    all_goals (refine end_q [] [] ?_ ?_ <;> repeat' (first | exact trivial | exact vr_val _))
  obtain rfl : E = 0 := by simpa using qE
  have hcy := hcy rfl
  (repeat' (first | (with_reducible first | refine thenQ_n ?_ | refine blockQ_n ?_ | refine thenQ_e ?_ | refine blockQ_t ?_ | refine blockQ_f (by decide) ?_) | apply aw_seq | apply aw_skip | apply aw_exit | apply aw_ret | apply aw_block | apply aw_condT rfl | apply aw_condF rfl | ((first | refine aw_hide fun K hK => aw_region ?_ | refine acall (hc0) [1056] ⟨.refl _, .refl _, vw_sps l (by simp) rfl rfl, trivial⟩ (.inr (flatHg _ _ _ _ _ _ _)) (by simp only [List.mem_cons, List.not_mem_nil, or_false, forall_eq_or_imp, forall_eq]; first | exact ⟨_, rfl⟩ | exact ⟨⟨_, rfl⟩, ⟨_, rfl⟩⟩) (by kernel_rfl) ?_ | refine ago_if (by omega) ?_ | skip); simp (disch := first | exact okY | omega) only [ZU, Nat.reduceAdd, Nat.reduceMul, dI, AOpRun, aexec, Nat.reduceBEq, ↓eget_h, ↓hget_h, Nat.reduceLeDiff, ↓reduceIte, List.drop, List.take, fillD, run1, base, Nat.zero_le, elems, sps_all, sps_len, sps_flat, scells_leaf, and_true, ups, hdel_c, hdel_n, opt1, D.isBot, D.cells, List.all, D.leaf, splice, isSh, abin, bne_self_eq_false]) | subst hK))
  clear hc0
  refine aw_loop (fun i : Nat => ⟨[(2, dI m), (3, .ptr 0 0), (4, .ptr 8 0), (7, .ptr 16 0), (10, dI (cntU l i)), (11, dI i)], [(0, [.list (kds r.ks), .list (p0s r.ps), dI r.ms, .list (ods r.os), .list (wkL W)]), (8, [dI h.cable, .list (ints h.xs), .list (ints h.ys), .list (rows h.vs), dI h.charge, dI wd.1, dI wd.2, .list (sps l)]), (16, [dI K.len, dI K.wt, dI K.since, dI K.cyc, dB K.cut])], 2000⟩) (fun i => i ≤ l.length) (fun i => l.length - i) ⟨0, by omega, ?_⟩ ?_
  · unfold dI dB
    refine wk_q [] [(0, 0), (8, 8), (16, 1104)] ?_ ?_ <;> repeat' (first | exact trivial | exact vr_val _ | exact vr_list _ | exact vr_ptr _ _ _ rfl | refine And.intro ⟨_, rfl, .inl ⟨_, rfl, by decide, ?_⟩⟩ ?_ | apply And.intro)
  intro i hi
  have cb := cntU_bd l i
  by_cases hi2 : i < l.length
  case pos =>
    have g1 := sps_gd l i hi2
    have ga := sps_all l
    have ii : (i : Int) < (l.length : Int) := by omega
    have es : cntU l (i + 1) = cntU l i + (if lo l i = 5 then 1 else 0) := rfl
    generalize lo l i = x at *
    generalize hT : cntU l (i + 1) = T at *
    generalize cntU l i = C at *
    cases q5 : (x == 5)
    case false =>
      rw [if_neg (by simpa using q5), Int.add_zero] at es
      (repeat' (first | (with_reducible first | refine thenQ_n ?_ | refine blockQ_n ?_ | refine thenQ_e ?_ | refine blockQ_t ?_ | refine blockQ_f (by decide) ?_) | apply aw_seq | apply aw_skip | apply aw_exit | apply aw_ret | apply aw_block | apply aw_condT rfl | apply aw_condF rfl | ((first | refine aw_hide fun K hK => aw_region ?_ | refine ago_if (by omega) ?_ | skip); simp (disch := first | exact okY | omega) only [ZU, Nat.reduceAdd, Nat.reduceMul, dI, dB, AOpRun, aexec, Nat.reduceBEq, ↓eget_h, run1, ↓hget_h, sps_len, isSh, ↓reduceIte, abin, ii, ga, opt1, g1, List.drop, q5, fits]) | subst hK))
      refine ⟨i + 1, by omega, by omega, ?_⟩
      rw [hT, es]
      refine wk_q [] [(0, 0), (8, 8), (16, 16)] ?_ ?_ <;> repeat' (first | exact trivial | exact vr_val _ | exact vr_list _ | exact vr_ptr _ _ _ rfl | refine And.intro ⟨_, rfl, .inl ⟨_, rfl, by decide, ?_⟩⟩ ?_ | apply And.intro)
    rw [if_pos (by simpa using q5)] at es
    (repeat' (first | (with_reducible first | refine thenQ_n ?_ | refine blockQ_n ?_ | refine thenQ_e ?_ | refine blockQ_t ?_ | refine blockQ_f (by decide) ?_) | apply aw_seq | apply aw_skip | apply aw_exit | apply aw_ret | apply aw_block | apply aw_condT rfl | apply aw_condF rfl | ((first | refine aw_hide fun K hK => aw_region ?_ | refine ago_if (by omega) ?_ | skip); simp (disch := first | exact okY | omega) only [ZU, Nat.reduceAdd, Nat.reduceMul, dI, dB, AOpRun, aexec, Nat.reduceBEq, ↓eget_h, run1, ↓hget_h, sps_len, isSh, ↓reduceIte, abin, ii, ga, opt1, g1, List.drop, q5, fits]) | subst hK))
    refine ⟨i + 1, by omega, by omega, ?_⟩
    rw [hT, es]
    refine wk_q [] [(0, 0), (8, 8), (16, 16)] ?_ ?_ <;> repeat' (first | exact trivial | exact vr_val _ | exact vr_list _ | exact vr_ptr _ _ _ rfl | refine And.intro ⟨_, rfl, .inl ⟨_, rfl, by decide, ?_⟩⟩ ?_ | apply And.intro)
  obtain rfl : i = l.length := by omega
  rw [hcy]
  generalize cntU l l.length = c at *
  have hAl : (W ++ [(⟨1, m, 0, c⟩ : W4)]).length = W.length + 1 := by simp
  have k1 := pCheck_ac r (W ++ [⟨1, m, 0, c⟩]) (by omega)
  have k2 := pWhere_ac r (W ++ [⟨1, m, 0, c⟩]) (by omega)
  have k3 := pUsed_ac r W (by omega)
  have k4 := pUsed_ac r (W ++ [⟨1, m, 0, c⟩]) (by omega)
  have k5 := fun i : Int => pLeft_ac r W i (by omega)
  have k6 := fun i : Int => pLeft_ac r (W ++ [⟨1, m, 0, c⟩]) i (by omega)
  have gg := gatherC r W m c
  unfold regD regC at k1 k2 k3 k4 k5 k6
  have hle : W.length * 4 ≤ (wkF W).length := by rw [wkF_len]; omega
  have ap : wkF W ++ [.val (.int .i64 1), .val (.int .i64 m), .val (.int .i64 0), .val (.int .i64 c)] = wkF (W ++ [⟨1, m, 0, c⟩]) := by simp [wkF, w4C, dI]
  have bc : (c != c) = false := bne_self_eq_false _
  (iterate 12 (try (first | apply aw_seq | ((first | apply aw_skip | apply aw_exit); with_reducible repeat' (first | refine thenQ_n ?_ | refine blockQ_n ?_ | refine thenQ_e ?_ | refine blockQ_t ?_ | refine blockQ_f (by decide) ?_)) | apply aw_ret | apply aw_block | apply aw_condT rfl | apply aw_condF rfl | ((first | refine aw_hide fun K hK => aw_region ?_ | refine ago_if (by omega) ?_ | skip); simp (disch := first | exact okY | omega) only [ZU, Nat.reduceAdd, Nat.reduceMul, dI, dB, AOpRun, aexec, Nat.reduceBEq, ↓eget_h, run1, ↓hget_h, sps_len, isSh, ↓reduceIte, abin, Int.lt_irrefl, decide_false, bne_self_eq_false]) | (subst hK; with_reducible repeat' (first | refine thenQ_n ?_ | refine blockQ_n ?_ | refine thenQ_e ?_ | refine blockQ_t ?_ | refine blockQ_f (by decide) ?_)))))
  refine aw_wk (s' := ⟨[(2, dI m), (3, .ptr 0 0), (10, dI c)], [(0, [.list (kds r.ks), .list (p0s r.ps), dI r.ms, .list (ods r.os), .list (wkL W)])], 4000⟩) ?_ ?_
  · unfold dI
    refine wk_q [] [(0, 0)] ?_ ?_ <;> repeat' (first | exact trivial | exact vr_val _ | exact vr_list _ | exact vr_ptr _ _ _ rfl | refine And.intro ⟨_, rfl, .inl ⟨_, rfl, by decide, ?_⟩⟩ ?_ | apply And.intro)
  refine aw_seq (aw_region ?_)
  simp (disch := first | exact okY | omega) only [ZU, Nat.reduceAdd, Nat.reduceMul, dI, AOpRun, aexec, Nat.reduceBEq, ↓reduceIte, fillD, ↓eget_h, run1, base, ↓hget_h, Nat.zero_le, List.take, elems, wkL_all, wkL_len, wkL_flat, wkF_leaf, and_true, ups]
  refine ago_if (by omega) ?_
  simp (disch := first | exact okY | omega) only [ZU, Nat.reduceAdd, Nat.reduceBEq, hdel_c, hdel_n, AOpRun, aexec, ↓eget_h, fillD, D.isBot, D.cells, ne_eq, not_true_eq_false, Nat.reduceGT, or_self, ↓reduceIte, splice, List.take, List.drop, Nat.reduceMul, base, ↓hget_h, hle, wkF_take, elems, Nat.reduceLeDiff, List.all, D.leaf, and_true, ups, ap]
  refine ago_if (by omega) ?_
  simp (disch := first | exact okY | omega) only [ZU, Nat.reduceAdd, Nat.reduceBEq, hdel_c, hdel_n, AOpRun, aexec, ↓eget_h]
  refine aw_wk (s' := ⟨[(2, dI m), (3, .ptr 0 0), (10, dI c), (12, .list (wkL (W ++ [⟨1, m, 0, c⟩])))], [(0, [.list (kds r.ks), .list (p0s r.ps), dI r.ms, .list (ods r.os), .list (wkL W)])], 4400⟩) ?_ ?_
  · unfold dI
    refine wk_q [4064] [(0, 0)] ?_ ?_ <;> repeat' (first | exact trivial | exact vr_val _ | exact vr_list _ | exact vr_ptr _ _ _ rfl | refine vr_fl _ _ _ _ _ (by decide) rfl ?_ ?_ ?_ ?_ | refine And.intro ⟨_, rfl, .inl ⟨_, rfl, by decide, ?_⟩⟩ ?_ | apply And.intro)
    all_goals first | exact wkL_four _ | (rw [wkL_len, hAl]) | (rw [← hAl, wkF_take]; exact wkL_flat _) | exact wkL_flat _ | exact wkF_in _
  clear ap
  refine aw_seq (aw_region ?_)
  simp (disch := first | exact okY | omega) only [ZU, Nat.reduceAdd, Nat.reduceMul, dI, AOpRun, aexec, Nat.reduceBEq, ↓eget_h, Nat.reduceLeDiff, ↓reduceIte, List.drop, List.take]
  refine acall0 k1 ?_
  simp (disch := first | exact okY | omega) only [ZU, Nat.reduceAdd, dI, Nat.reduceBEq, AOpRun, aexec, ↓eget_h, opt1]
  generalize hEA : oE r (W ++ [⟨1, m, 0, c⟩]) = eA at *
  cases qA : (eA != 0)
  case true =>
    (repeat' (first | (with_reducible first | refine thenQ_n ?_ | refine blockQ_n ?_ | refine thenQ_e ?_ | refine blockQ_t ?_ | refine blockQ_f (by decide) ?_) | apply aw_seq | apply aw_skip | apply aw_exit | apply aw_ret | apply aw_block | apply aw_condT rfl | apply aw_condF rfl | ((first | refine aw_hide fun K hK => aw_region ?_ | refine acall0 (measures_ac) ?_ | refine ago_if (by omega) ?_ | skip); simp (disch := first | exact okY | omega) only [ZU, Nat.reduceAdd, Nat.reduceMul, AOpRun, aexec, Nat.reduceBEq, ↓eget_h, isSh, ↓reduceIte, abin, qA, dB]) | subst hK))
    all_goals (refine end_q [] [] ?_ ?_ <;> repeat' (first | exact trivial | exact vr_val _))
  obtain rfl : eA = 0 := by simpa using qA
  have gg := gg rfl
  have hEW := oE_app hEA
  rw [hEW] at k3
  have l1 := evL_len (fun p => (p.h, p.c)) hEW
  have l2 := evL_len (fun p => (p.m, p.pl)) hEA
  have l3 := evL_len (fun p => (p.h, p.c)) hEA
  generalize evL (fun p => (p.h, p.c)) r W = L1 at *
  generalize evL (fun p => (p.m, p.pl)) r (W ++ [⟨1, m, 0, c⟩]) = L2 at *
  generalize evL (fun p => (p.h, p.c)) r (W ++ [⟨1, m, 0, c⟩]) = L3 at *
  have hcb : 0 ≤ c ∧ c ≤ 100 := (flew r W m c hEA).1
  have n40 : r.ps.length ≤ 40 := by omega
  clear hEA hEW k1
  generalize hnp : r.ps.length = np at *
  refine aw_seq (aw_seq (aw_region ?_))
  simp (disch := first | exact okY | omega) only [ZU, Nat.reduceAdd, Nat.reduceMul, AOpRun, aexec, Nat.reduceBEq, ↓eget_h, isSh, ↓reduceIte, abin, bne_self_eq_false]
  refine aw_condF rfl (aw_skip ?_)
  refine aw_seq (aw_region ?_)
  simp (disch := first | exact okY | omega) only [ZU, Nat.reduceAdd, Nat.reduceMul, AOpRun, aexec, Nat.reduceBEq, ↓eget_h, Nat.reduceLeDiff, ↓reduceIte, List.drop, List.take]
  refine acall0 k2 ?_
  simp (disch := first | exact okY | omega) only [ZU, Nat.reduceAdd, dI, Nat.reduceBEq, AOpRun, aexec, ↓eget_h, opt1]
  refine aw_wk (s' := ⟨[(2, dI m), (3, .ptr 0 0), (10, dI c), (12, .list (wkL (W ++ [⟨1, m, 0, c⟩]))), (15, .list (sps L2)), (16, dI 0)], [(0, [.list (kds r.ks), .list (p0s r.ps), dI r.ms, .list (ods r.os), .list (wkL W)])], 6000⟩) ?_ ?_
  · unfold dI
    refine wk_q [] [(0, 0)] ?_ ?_ <;> repeat' (first | exact trivial | exact vr_val _ | exact vr_list _ | exact vr_ptr _ _ _ rfl | refine And.intro ⟨_, rfl, .inl ⟨_, rfl, by decide, ?_⟩⟩ ?_ | apply And.intro)
  refine aw_seq (aw_region_cutD [⟨some 140, .fad 0 (.tmp 3), none, []⟩,
     ⟨some 141, .loadN 4 (.tmp 140), none, [0]⟩,
     ⟨some 142, .buildSl 4 0 [] [], none, []⟩,
     ⟨some 143, .fad 4 (.tmp 3), none, []⟩,
     ⟨some 144, .load1 (.tmp 143), none, [3]⟩,
     ⟨some 145, .app 4 32 (.tmp 142) (.tmp 144), none, [2, 4, 3]⟩] ⟨some 146, .call (.func 8) [(.tmp 141), (.tmp 145)], none, [1, 0, 5, 2, 4, 3]⟩
     [⟨some 139, .mv (.tmp 146), none, [6, 1, 0, 5, 2, 4, 3]⟩,
     ⟨some 147, .ext (.tmp 139) 0, none, [7, 6, 1, 0, 5, 2, 4, 3]⟩,
     ⟨some 148, .ext (.tmp 139) 1, none, [7, 6, 1, 0, 5, 2, 4, 3]⟩,
     ⟨some 17, .mv (.tmp 147), none, [8, 7, 6, 1, 0, 5, 2, 4, 3]⟩,
     ⟨some 18, .mv (.tmp 148), none, [9, 7, 6, 1, 0, 5, 2, 4, 3, 10, 8]⟩] (by decide) (by decide) ?_)
  simp (disch := first | exact okY | omega) only [ZU, Nat.reduceAdd, Nat.reduceMul, AOpRun, dI, aexec, Nat.reduceBEq, ↓eget_h, Nat.reduceLeDiff, ↓reduceIte, List.drop, List.take, fillD, run1, base, ↓hget_h, Nat.zero_le, elems, wkL_all, wkL_len, wkL_flat, wkF_leaf, and_true, ups]
  refine ago_if (by omega) ?_
  simp (disch := first | exact okY | omega) only [ZU, Nat.reduceAdd, Nat.reduceBEq, hdel_c, hdel_n]
  refine ⟨⟨[(2, dI m), (3, .ptr 0 0), (10, dI c), (12, .list (wkL (W ++ [⟨1, m, 0, c⟩]))), (15, .list (sps L2)), (16, dI 0), (141, .agg [.list (kds r.ks), .list (p0s r.ps), dI r.ms, .list (ods r.os)]), (145, .list (wkL W))], [(0, [.list (kds r.ks), .list (p0s r.ps), dI r.ms, .list (ods r.os), .list (wkL W)])], 6200⟩, ?_, (show 48 ≤ 6200 by decide), ?_⟩
  · unfold dI
    refine wk_q [6040] [(0, 0)] ?_ ?_ <;> repeat' (first | exact trivial | exact vr_val _ | exact vr_list _ | exact vr_ptr _ _ _ rfl | apply vr_agg | refine vr_fl _ _ _ _ _ (by decide) rfl ?_ ?_ ?_ ?_ | refine And.intro ⟨_, rfl, .inl ⟨_, rfl, by decide, ?_⟩⟩ ?_ | apply And.intro)
    all_goals first | exact wkL_four _ | exact wkL_len _ | (rw [wkF_take]; exact wkL_flat _) | exact wkL_flat _ | exact wkF_in _
  simp (disch := first | exact okY | omega) only [ZU, Nat.reduceSub, Nat.reduceAdd, dI, Nat.reduceBEq, ↓eget_h]
  refine acall0 k3 ?_
  simp (disch := first | exact okY | omega) only [ZU, Nat.reduceAdd, dI, Nat.reduceBEq, AOpRun, aexec, ↓eget_h, opt1]
  refine aw_wk (s' := ⟨[(2, dI m), (3, .ptr 0 0), (10, dI c), (12, .list (wkL (W ++ [⟨1, m, 0, c⟩]))), (15, .list (sps L2)), (16, dI 0), (17, .list (sps L1)), (18, dI 0)], [(0, [.list (kds r.ks), .list (p0s r.ps), dI r.ms, .list (ods r.os), .list (wkL W)])], 7000⟩) ?_ ?_
  · unfold dI
    refine wk_q [] [(0, 0)] ?_ ?_ <;> repeat' (first | exact trivial | exact vr_val _ | exact vr_list _ | exact vr_ptr _ _ _ rfl | refine And.intro ⟨_, rfl, .inl ⟨_, rfl, by decide, ?_⟩⟩ ?_ | apply And.intro)
  (repeat' (first | (with_reducible first | refine thenQ_n ?_ | refine blockQ_n ?_ | refine thenQ_e ?_ | refine blockQ_t ?_ | refine blockQ_f (by decide) ?_) | apply aw_seq | apply aw_skip | apply aw_exit | apply aw_ret | apply aw_block | apply aw_condT rfl | apply aw_condF rfl | ((first | refine aw_hide fun K hK => aw_region ?_ | refine acall0 (k4) ?_ | refine ago_if (by omega) ?_ | skip); simp (disch := first | exact okY | omega) only [ZU, Nat.reduceAdd, Nat.reduceMul, dI, AOpRun, aexec, Nat.reduceBEq, ↓eget_h, Nat.reduceLeDiff, ↓reduceIte, List.drop, List.take, opt1, isSh, abin, bne_self_eq_false, ARun_some, AG_ff, sps_len, l2, run1, p0s_len, hnp, l1, l3]) | subst hK))
  clear k2 k3 k4
  refine aw_loop (fun i : Nat => ⟨[(2, dI m), (3, .ptr 0 0), (10, dI c), (12, .list (wkL (W ++ [⟨1, m, 0, c⟩]))), (15, .list (sps L2)), (17, .list (sps L1)), (19, .list (sps L3)), (21, dI i)], [(0, [.list (kds r.ks), .list (p0s r.ps), dI r.ms, .list (ods r.os), .list (wkL W)])], 9000⟩) (fun i => i ≤ np) (fun i => np - i) ⟨0, by omega, ?_⟩ ?_
  · unfold dI
    refine wk_q [] [(0, 0)] ?_ ?_ <;> repeat' (first | exact trivial | exact vr_val _ | exact vr_list _ | exact vr_ptr _ _ _ rfl | refine And.intro ⟨_, rfl, .inl ⟨_, rfl, by decide, ?_⟩⟩ ?_ | apply And.intro)
  intro i hi
  by_cases hi2 : i < np
  case neg =>
    obtain rfl : i = np := by omega
    (repeat' (first | (with_reducible first | refine thenQ_n ?_ | refine blockQ_n ?_ | refine thenQ_e ?_ | refine blockQ_t ?_ | refine blockQ_f (by decide) ?_) | apply aw_seq | apply aw_skip | apply aw_exit | apply aw_ret | apply aw_block | apply aw_condT rfl | apply aw_condF rfl | ((first | refine aw_hide fun K hK => aw_region ?_ | refine acall0 (measures_ac) ?_ | refine ago_if (by omega) ?_ | skip); simp (disch := first | exact okY | omega) only [ZU, Nat.reduceAdd, Nat.reduceMul, dI, AOpRun, aexec, Nat.reduceBEq, ↓eget_h, sps_len, l2, isSh, ↓reduceIte, abin, Int.lt_irrefl, decide_false, dB]) | subst hK))
    all_goals (refine end_q [] [] ?_ ?_ <;> repeat' (first | exact trivial | exact vr_val _))
  obtain ⟨p, qq, S, T, hrg, hF, g1, g2, g3, z1, z2, z3, z4⟩ := gg i hi2
  have dl := left_less hrg hcb hF
  have hq1 := hF.eh
  have hq2 := hF.ec
  have hq3 := hF.mm
  have c5 := k5 i
  have c6 := k6 i
  rw [z1, z3] at c5
  rw [z2, z4] at c6
  clear hF hrg gg k5 k6 z1 z2 z3 z4
  generalize (if 0 > lfC S p then 0 else lfC S p) = X at *
  generalize (if 0 > lfC T qq then 0 else lfC T qq) = Y at *
  generalize lhH r W i = X2 at *
  generalize lhH r (W ++ [⟨1, m, 0, c⟩]) i = Y2 at *
  generalize p.h = ph at *
  generalize p.c = pc at *
  generalize p.m = pm at *
  generalize qq.h = qh at *
  generalize qq.c = qc at *
  generalize qq.m = qm at *
  generalize qq.pl = ql at *
  subst hq1; subst hq3
  have s1 := sps_all L1
  have s2 := sps_all L2
  have s3 := sps_all L3
  have ii : (i : Int) < (np : Int) := by omega
  unfold dI at g1 g2 g3
  unfold w64 at hq2 dl
  unfold dI at c5 c6
  cases hm : (qm == m)
  case false =>
    have hm' : ¬ qm = m := by simpa using hm
    rw [if_neg hm'] at hq2 dl
    subst hq2
    (repeat' (first | (with_reducible first | refine thenQ_n ?_ | refine blockQ_n ?_ | refine thenQ_e ?_ | refine blockQ_t ?_ | refine blockQ_f (by decide) ?_) | apply aw_seq | apply aw_skip | apply aw_exit | apply aw_ret | apply aw_block | apply aw_condT rfl | apply aw_condF rfl | ((first | refine aw_hide fun K hK => aw_region ?_ | refine acall0 (c6) ?_ | refine acall (c5) [9136] ⟨.refl _, vw_wk W (by simp) rfl rfl, .refl _, trivial⟩ (.inr (flatT3 _ _ _)) (by simp only [List.mem_cons, List.not_mem_nil, or_false, forall_eq_or_imp, forall_eq]; first | exact ⟨_, rfl⟩ | exact ⟨⟨_, rfl⟩, ⟨_, rfl⟩⟩) (by kernel_rfl) ?_ | refine ago_if (by omega) ?_ | skip); simp (disch := first | exact okY | omega) only [ZU, Nat.reduceAdd, Nat.reduceMul, dI, AOpRun, aexec, Nat.reduceBEq, ↓eget_h, sps_len, l2, isSh, ↓reduceIte, abin, ii, Nat.mul_one, s2, opt1, g2, Int.le_refl, cast_lit, Int.reduceLT, Int.toNat_zero, List.drop, run1, hm, Nat.add_zero, Nat.reduceLeDiff, List.take, fillD, base, ↓hget_h, Nat.zero_le, elems, wkL_all, wkL_len, wkL_flat, wkF_leaf, and_true, ups, hdel_c, hdel_n, bne_self_eq_false, ARun_some, AG_ff, s3, g3, s1, g1, Int.reduceLE, Int.reduceToNat, dl, fits]) | subst hK))
    refine ⟨i + 1, by omega, by omega, ?_⟩
    refine wk_q [] [(0, 0)] ?_ ?_ <;> repeat' (first | exact trivial | exact vr_val _ | exact vr_list _ | exact vr_ptr _ _ _ rfl | refine And.intro ⟨_, rfl, .inl ⟨_, rfl, by decide, ?_⟩⟩ ?_ | apply And.intro)
  have hm' : qm = m := by simpa using hm
  rw [if_pos hm'] at hq2 dl
  subst hq2
  (repeat' (first | (with_reducible first | refine thenQ_n ?_ | refine blockQ_n ?_ | refine thenQ_e ?_ | refine blockQ_t ?_ | refine blockQ_f (by decide) ?_) | apply aw_seq | apply aw_skip | apply aw_exit | apply aw_ret | apply aw_block | apply aw_condT rfl | apply aw_condF rfl | ((first | refine aw_hide fun K hK => aw_region ?_ | refine acall0 (c6) ?_ | refine acall (c5) [9152] ⟨.refl _, vw_wk W (by simp) rfl rfl, .refl _, trivial⟩ (.inr (flatT3 _ _ _)) (by simp only [List.mem_cons, List.not_mem_nil, or_false, forall_eq_or_imp, forall_eq]; first | exact ⟨_, rfl⟩ | exact ⟨⟨_, rfl⟩, ⟨_, rfl⟩⟩) (by kernel_rfl) ?_ | refine ago_if (by omega) ?_ | skip); simp (disch := first | exact okY | omega) only [ZU, Nat.reduceAdd, Nat.reduceMul, dI, AOpRun, aexec, Nat.reduceBEq, ↓eget_h, sps_len, l2, isSh, ↓reduceIte, abin, ii, Nat.mul_one, s2, opt1, g2, Int.le_refl, cast_lit, Int.reduceLT, Int.toNat_zero, List.drop, run1, hm, Nat.add_zero, Nat.reduceLeDiff, List.take, fillD, base, ↓hget_h, Nat.zero_le, elems, wkL_all, wkL_len, wkL_flat, wkF_leaf, and_true, ups, hdel_c, hdel_n, bne_self_eq_false, ARun_some, AG_ff, s3, g3, s1, g1, Int.reduceLE, Int.reduceToNat, dl, fits]) | subst hK))
  refine ⟨i + 1, by omega, by omega, ?_⟩
  refine wk_q [] [(0, 0)] ?_ ?_ <;> repeat' (first | exact trivial | exact vr_val _ | exact vr_list _ | exact vr_ptr _ _ _ rfl | refine And.intro ⟨_, rfl, .inl ⟨_, rfl, by decide, ?_⟩⟩ ?_ | apply And.intro)
end Go.Proofs.YtgibbaadjbohdaaDoor
/- What the package variables hold, out of the row's condition. No conditions. -/
namespace Go.Proofs.YtgibbaadjbohdaaDoor
open Go Go.RowKit Lift

section
variable {P : Program} {w : World} {b : Nat} {sp : Nat → Bool} {hd : Bool}
theorem int_trod {H : Type} {enc : TypeId × Value → H} {fuel : Nat} {e : TypeId} {l : List Value} {x : Int} {p : List MemPlace} (he : P.underlying e = some (.int .i64)) (h : DataW.trod enc P w b sp hd fuel e l = some (.lit (.int .i64 x), p)) : l = [.int .i64 x] := by
  cases fuel with
  | zero => simp [DataW.trod] at h
  | succ n =>
    unfold DataW.trod at h
    rw [he] at h
    rcases l with _ | ⟨v, _ | ⟨v2, r⟩⟩
    · simp at h
    · cases v <;> simp at h
      obtain ⟨⟨rfl, _⟩, h1, _⟩ := h
      subst h1; rfl
    · simp at h
theorem spot_trod {H : Type} {enc : TypeId × Value → H} {fuel : Nat} {t e : TypeId} {l : List Value} {x y : Int} {p : List MemPlace} (ht : P.underlying t = some (.array 2 e)) (he : P.underlying e = some (.int .i64)) (hc : P.cellsOf e = 1) (hct : P.cellsOf t = 2)
    (h : DataW.trod enc P w b sp hd fuel t l = some (.agg [.lit (.int .i64 x), .lit (.int .i64 y)], p)) : l = [.int .i64 x, .int .i64 y] := by
  cases fuel with
  | zero => simp [DataW.trod] at h
  | succ n =>
    unfold DataW.trod at h
    rw [ht] at h
    simp only [hct, hc] at h
    split at h
    · rename_i hl
      rcases l with _ | ⟨v, _ | ⟨v2, _ | ⟨v3, r⟩⟩⟩
      · simp at hl
      · simp at hl
      · have e2 : List.range 2 = [0, 1] := rfl
        rw [e2] at h
        simp only [List.mapM_cons, List.mapM_nil, Nat.zero_mul, Nat.one_mul, List.drop_zero, List.drop_succ_cons, List.take_succ_cons, List.take_zero, Option.pure_def, Option.bind_eq_bind] at h
        cases h1 : DataW.trod enc P w b sp hd n e [v] with
        | none => rw [h1] at h; simp at h
        | some a =>
          cases h2 : DataW.trod enc P w b sp hd n e [v2] with
          | none => rw [h1, h2] at h; simp at h
          | some c =>
            rw [h1, h2] at h
            simp at h
            obtain ⟨⟨q1, q2⟩, _⟩ := h
            obtain ⟨a1, a2⟩ := a
            obtain ⟨c1, c2⟩ := c
            simp only at q1 q2
            subst q1; subst q2
            rw [List.cons.inj (int_trod he h1) |>.1, List.cons.inj (int_trod he h2) |>.1]
      · simp at hl
    · cases h
end
theorem spot_cells {P : Program} {w : World} {n : String} {g : Nat} {t e : TypeId} {x y : Int} {r : List (String × DataW Unit)} {ps : List MemPlace} (hn : P.globalNamed n = some g) (ht0 : (P.globals[g]?).map (·.type) = some t) (ht : P.underlying t = some (.array 2 e)) (he : P.underlying e = some (.int .i64)) (hc : P.cellsOf e = 1) (hct : P.cellsOf t = 2)
    (h : DataW.LaidVars P w ((n, .agg [.lit (.int .i64 x), .lit (.int .i64 y)]) :: r) ps) : (w.cell? ⟨g, 0, none⟩ = some (.int .i64 x) ∧ w.cell? ⟨g, 1, none⟩ = some (.int .i64 y)) ∧ ∃ q, DataW.LaidVars P w r q := by
  obtain ⟨g', t', cs, fuel, p, q, h1, h2, h3, h4, h5, _⟩ := h
  obtain rfl := Option.some.inj (hn.symm.trans h1)
  obtain rfl := Option.some.inj (ht0.symm.trans h2)
  have hl := spot_trod ht he hc hct h4
  refine ⟨⟨?_, ?_⟩, q, h5⟩
  · rw [World.var?_cell hn h3 0]
    have : cs[0]? = cs.toList[0]? := by simp
    rw [this, hl]; rfl
  · rw [World.var?_cell hn h3 1]
    have : cs[1]? = cs.toList[1]? := by simp
    rw [this, hl]; rfl
theorem gl_of {w : World} (h0 : w.cell? ⟨0, 0, none⟩ = some (.int .i64 (-1)) ∧ w.cell? ⟨0, 1, none⟩ = some (.int .i64 (-1))) (h1 : w.cell? ⟨1, 0, none⟩ = some (.int .i64 (-2)) ∧ w.cell? ⟨1, 1, none⟩ = some (.int .i64 (-2))) : ∀ g, Rep w (fun _ => none) (fun _ => False) (.pointer (some ⟨g, 0, none⟩)) (GL g) := by
  have lt : ∀ {b : Nat} {v : Value}, w.cell? ⟨b, 0, none⟩ = some v → b < w.heap.size := fun {b v} h => by
    rcases Nat.lt_or_ge b w.heap.size with h2 | h2
    · exact h2
    · simp [World.cell?, Array.getElem?_eq_none h2] at h
  intro g
  match g with
  | 0 =>
    refine .at_ 0 0 _ (fun _ => .int .i64 (-1)) (fun h => h) (lt h0.1) (fun j hj => ?_) (fun j hj => ?_)
    · simp at hj
      rcases (by omega : j = 0 ∨ j = 1) with rfl | rfl
      · exact h0.1
      · exact h0.2
    · simp at hj
      rcases (by omega : j = 0 ∨ j = 1) with rfl | rfl <;> exact .val _
  | 1 =>
    refine .at_ 1 0 _ (fun _ => .int .i64 (-2)) (fun h => h) (lt h1.1) (fun j hj => ?_) (fun j hj => ?_)
    · simp at hj
      rcases (by omega : j = 0 ∨ j = 1) with rfl | rfl
      · exact h1.1
      · exact h1.2
    · simp at hj
      rcases (by omega : j = 0 ∨ j = 1) with rfl | rfl <;> exact .val _
  | g + 2 => exact .val _
end Go.Proofs.YtgibbaadjbohdaaDoor
/- Arguments that came in: what their cells are. No conditions. -/
namespace Go.Proofs.YtgibbaadjbohdaaDoor
open Go.RowKit Lift

theorem in_ints {l : List (List D)} (h : ∀ x ∈ l, CfL [.int] x) : ∃ xs, l = ints xs ∧ ∀ x ∈ xs, -9223372036854775808 ≤ x ∧ x ≤ 9223372036854775807 := by
  induction l with
  | nil => exact ⟨[], rfl, by simp⟩
  | cons x l ih =>
    obtain ⟨xs, rfl, hx⟩ := ih fun y hy => h y (List.mem_cons_of_mem _ hy)
    have h0 := h x (List.mem_cons_self ..)
    cases h0 with
    | int n ss ds h1 h2 h3 =>
      cases h3
      exact ⟨n :: xs, rfl, fun y hy => by
        rcases List.mem_cons.1 hy with rfl | hy
        · exact ⟨h1, h2⟩
        · exact hx y hy⟩
theorem in_rows {l : List (List D)} (h : ∀ x ∈ l, CfL [.sl [.int]] x) : ∃ vs, l = rows vs ∧ ∀ r ∈ vs, r.length ≤ maxLen := by
  induction l with
  | nil => exact ⟨[], rfl, by simp⟩
  | cons x l ih =>
    obtain ⟨vs, rfl, hx⟩ := ih fun y hy => h y (List.mem_cons_of_mem _ hy)
    have h0 := h x (List.mem_cons_self ..)
    cases h0 with
    | sl e k ss ds h1 h2 h3 =>
      cases h3
      obtain ⟨xs, rfl, _⟩ := in_ints h2
      exact ⟨xs :: vs, rfl, fun y hy => by
        rcases List.mem_cons.1 hy with rfl | hy
        · simpa [ints] using h1
        · exact hx y hy⟩
theorem in_2 {ds : List D} (h : CfL [.int, .int] ds) : ∃ a b : Int, ds = [dI a, dI b] ∧ (-9223372036854775808 ≤ a ∧ a ≤ 9223372036854775807) ∧ -9223372036854775808 ≤ b ∧ b ≤ 9223372036854775807 := by
  cases h with
  | int a ss ds h1 h2 h =>
    cases h with
    | int b ss ds h3 h4 h => cases h; exact ⟨a, b, rfl, ⟨h1, h2⟩, h3, h4⟩
end Go.Proofs.YtgibbaadjbohdaaDoor
/- Bits that fields use, and what is packed, in numbers. No conditions. -/
namespace Go.Proofs.YtgibbaadjbohdaaDoor
open Go.RowKit Lift

def fAt (l : Lay) (k : Nat) : Fl := l.fl[k]?.getD fl0
/-! ### packing -/
def canF (f : Fl) (n : Int) : Prop := if f.sgn = true then -(2 ^ (f.size.toNat - 1)) ≤ n ∧ n ≤ 2 ^ (f.size.toNat - 1) - 1 else 0 ≤ n ∧ n ≤ 2 ^ f.size.toNat - 1
instance (f : Fl) (n : Int) : Decidable (canF f n) := by unfold canF; infer_instance
def packOk (s : Int) (f : Fl) (n : Int) : Prop := if inSub f s then canF f n else n = 0
instance (s : Int) (f : Fl) (n : Int) : Decidable (packOk s f n) := by unfold packOk; infer_instance
def fmod (f : Fl) (n : Int) : Nat := (n % 2 ^ f.size.toNat).toNat
def fvN (f : Fl) (n : Int) : Nat := fmod f n * 2 ^ f.bit.toNat
def rAt (r : List Int) (k : Nat) : Int := r[k]?.getD 0
def pkW (s : Int) (l : Lay) (r : List Int) (w : Int) : Nat → Nat
  | 0 => 0
  | k + 1 => if inSub (fAt l k) s ∧ (fAt l k).word = w then pkW s l r w k ||| fvN (fAt l k) (rAt r k) else pkW s l r w k
def pk (s : Int) (l : Lay) (r : List Int) (k : Nat) : List Int := (List.range l.words.toNat).map fun (w : Nat) => if w = 0 then (sync l)[s.toNat]?.getD 0 else ((pkW s l r (w : Int) k : Nat) : Int)
end Go.Proofs.YtgibbaadjbohdaaDoor
/- record: the check of a layout. No conditions. -/
namespace Go.Proofs.YtgibbaadjbohdaaDoor
open Go.RowKit Lift

structure LayIn (l : Lay) : Prop where
  nf : l.fl.length ≤ maxLen
  sz : ∀ k, k < l.fl.length → (fAt l k).size ≤ 9223372036854775807
end Go.Proofs.YtgibbaadjbohdaaDoor
/- States with fewer names. No conditions. -/
namespace Go.Proofs.YtgibbaadjbohdaaDoor.Lift
open Go Go.RowKit

def EL (n : Nat) (env : Env) : Env → Prop
  | [] => True
  | x :: r => x.2 = eget env x.1 ∧ In (· < n) x.2 ∧ EL n env r
theorem EL.get {n : Nat} {env : Env} : ∀ {e : Env}, EL n env e → ∀ t, eget e t = .bot ∨ (eget e t = eget env t ∧ In (· < n) (eget e t))
  | [], _, t => .inl rfl
  | (k, d) :: r, h, t => by
    rw [get_cons]
    split
    · rename_i hk; subst hk; exact .inr ⟨h.1, h.2.1⟩
    · exact EL.get h.2.2 t
end Go.Proofs.YtgibbaadjbohdaaDoor.Lift
namespace Go.Proofs.YtgibbaadjbohdaaDoor
open Go.RowKit Lift

structure FrIn (frs : List (List Int)) : Prop where
  n : frs.length ≤ maxLen
  m : ∀ k, (frm frs k).length ≤ maxLen
end Go.Proofs.YtgibbaadjbohdaaDoor
/- A safety case, in numbers. No conditions. -/
namespace Go.Proofs.YtgibbaadjbohdaaDoor
open Go.RowKit Lift

structure Clm where
  needs : List Int
  proofs : List Int
  any : Bool
structure Cas where
  cl : List Clm
  pf : List (Int × Int)
def cl0 : Clm := ⟨[], [], false⟩
def Asc (l : List Int) (b : Int) : Prop := ∀ i, i < l.length → 0 ≤ l[i]?.getD 0 ∧ l[i]?.getD 0 < b ∧ (0 < i → l[i - 1]?.getD 0 < l[i]?.getD 0)
def pfOk (a : Int × Int) : Prop := 0 ≤ a.1 ∧ a.1 ≤ a.2 ∧ a.2 ≤ 2000
instance (a : Int × Int) : Decidable (pfOk a) := inferInstanceAs (Decidable (_ ∧ _))
def clAt (c : Cas) (i : Nat) : Clm := c.cl[i]?.getD cl0
def pfAt (c : Cas) (i : Nat) : Int × Int := c.pf[i]?.getD (0, 0)
structure CasOk (c : Cas) : Prop where
  n1 : c.cl.length ≤ 16
  n2 : c.pf.length ≤ 12
  asc : ∀ i, i < c.cl.length → Asc (clAt c i).needs i ∧ Asc (clAt c i).proofs c.pf.length
  pf : ∀ i, i < c.pf.length → pfOk (pfAt c i)
end Go.Proofs.YtgibbaadjbohdaaDoor
/- record: what a case must be, in all. No conditions. -/
namespace Go.Proofs.YtgibbaadjbohdaaDoor
open Go Go.RowKit Lift

instance (l : List Int) (b : Int) : Decidable (Asc l b) := inferInstanceAs (Decidable (∀ i, i < l.length → _))
structure CasIn (c : Cas) : Prop where
  n1 : c.cl.length ≤ maxLen
  n2 : c.pf.length ≤ maxLen
  l1 : ∀ i, (clAt c i).needs.length ≤ 1000000
  l2 : ∀ i, (clAt c i).proofs.length ≤ 1000000
end Go.Proofs.YtgibbaadjbohdaaDoor
/- Arguments that came in: layouts, frames, cases. No conditions. -/
namespace Go.Proofs.YtgibbaadjbohdaaDoor
open Go.RowKit Lift

theorem inc_int {ss : List Sh} {ds : List D} (h : CfL (.int :: ss) ds) : ∃ (a : Int) (r : List D), ds = dI a :: r ∧ CfL ss r ∧ -9223372036854775808 ≤ a ∧ a ≤ 9223372036854775807 := by
  cases h with
  | int a ss ds h1 h2 h3 => exact ⟨a, ds, rfl, h3, h1, h2⟩
theorem inc_bool {ss : List Sh} {ds : List D} (h : CfL (.bool :: ss) ds) : ∃ (a : Bool) (r : List D), ds = dB a :: r ∧ CfL ss r := by
  cases h with
  | bool a ss ds h3 => exact ⟨a, ds, rfl, h3⟩
theorem inc_sl {e ss : List Sh} {ds : List D} (h : CfL (.sl e :: ss) ds) : ∃ (l : List (List D)) (r : List D), ds = .list l :: r ∧ CfL ss r ∧ l.length ≤ maxLen ∧ ∀ x ∈ l, CfL e x := by
  cases h with
  | sl e l ss ds h1 h2 h3 => exact ⟨l, ds, rfl, h3, h1, h2⟩
theorem inc_nil {ds : List D} (h : CfL [] ds) : ds = [] := by cases h; rfl
end Go.Proofs.YtgibbaadjbohdaaDoor
/- Arguments that came in: registers and works. No conditions. -/
namespace Go.Proofs.YtgibbaadjbohdaaDoor
open Go.RowKit Lift

theorem in_map {α : Type} (f : α → List D) (ss : List Sh) (hf : ∀ x, CfL ss x → ∃ a, x = f a) {l : List (List D)} (h : ∀ x ∈ l, CfL ss x) : ∃ k : List α, l = k.map f := by
  induction l with
  | nil => exact ⟨[], rfl⟩
  | cons x l ih =>
    obtain ⟨k, rfl⟩ := ih fun y hy => h y (List.mem_cons_of_mem _ hy)
    obtain ⟨a, rfl⟩ := hf x (h x (List.mem_cons_self ..))
    exact ⟨a :: k, rfl⟩
theorem in_kd {x : List D} (h : CfL [.int, .int, .int] x) : ∃ a, x = kdC a := by
  obtain ⟨a1, _, rfl, e1, _, _⟩ := inc_int h
  obtain ⟨a2, _, rfl, e2, _, _⟩ := inc_int e1
  obtain ⟨a3, _, rfl, e3, _, _⟩ := inc_int e2
  obtain rfl := inc_nil e3
  exact ⟨⟨a1, a2, a3⟩, rfl⟩
theorem in_p0 {x : List D} (h : CfL [.int, .int, .int, .bool] x) : ∃ a, x = p0C a := by
  obtain ⟨a1, _, rfl, e1, _, _⟩ := inc_int h
  obtain ⟨a2, _, rfl, e2, _, _⟩ := inc_int e1
  obtain ⟨a3, _, rfl, e3, _, _⟩ := inc_int e2
  obtain ⟨a4, _, rfl, e4⟩ := inc_bool e3
  obtain rfl := inc_nil e4
  exact ⟨⟨a1, a2, a3, a4⟩, rfl⟩
theorem in_od {x : List D} (h : CfL [.int, .int] x) : ∃ a, x = odC a := by
  obtain ⟨a1, _, rfl, e1, _, _⟩ := inc_int h
  obtain ⟨a2, _, rfl, e2, _, _⟩ := inc_int e1
  obtain rfl := inc_nil e2
  exact ⟨(a1, a2), rfl⟩
theorem in_w4 {x : List D} (h : CfL [.int, .int, .int, .int] x) : ∃ a, x = w4C a := by
  obtain ⟨a1, _, rfl, e1, _, _⟩ := inc_int h
  obtain ⟨a2, _, rfl, e2, _, _⟩ := inc_int e1
  obtain ⟨a3, _, rfl, e3, _, _⟩ := inc_int e2
  obtain ⟨a4, _, rfl, e4, _, _⟩ := inc_int e3
  obtain rfl := inc_nil e4
  exact ⟨⟨a1, a2, a3, a4⟩, rfl⟩
theorem in_reg {ss : List Sh} {ds : List D} (h : CfL (.sl [.int, .int, .int] :: .sl [.int, .int, .int, .bool] :: .int :: .sl [.int, .int] :: .sl [.int, .int, .int, .int] :: ss) ds) : ∃ (r : Reg) (W : List W4) (t : List D), ds = .list (kds r.ks) :: .list (p0s r.ps) :: dI r.ms :: .list (ods r.os) :: .list (wkL W) :: t ∧ CfL ss t := by
  obtain ⟨l1, _, rfl, e1, _, h1⟩ := inc_sl h
  obtain ⟨l2, _, rfl, e2, _, h2⟩ := inc_sl e1
  obtain ⟨ms, _, rfl, e3, _, _⟩ := inc_int e2
  obtain ⟨l4, _, rfl, e4, _, h4⟩ := inc_sl e3
  obtain ⟨l5, t, rfl, e5, _, h5⟩ := inc_sl e4
  obtain ⟨ks, rfl⟩ := in_map kdC _ (fun x => in_kd) h1
  obtain ⟨ps, rfl⟩ := in_map p0C _ (fun x => in_p0) h2
  obtain ⟨os, rfl⟩ := in_map odC _ (fun x => in_od) h4
  obtain ⟨W, rfl⟩ := in_map w4C _ (fun x => in_w4) h5
  exact ⟨⟨ks, ps, ms, os⟩, W, t, rfl, e5⟩
theorem in_hang {ds : List D} (h : CfL [.sl [.int, .int, .int], .sl [.int, .int, .int, .bool], .int, .sl [.int, .int], .sl [.int, .int, .int, .int]] ds) : ∃ (r : Reg) (W : List W4), ds = [.list (kds r.ks), .list (p0s r.ps), dI r.ms, .list (ods r.os), .list (wkL W)] := by
  obtain ⟨r, W, t, rfl, h1⟩ := in_reg h
  obtain rfl := inc_nil h1
  exact ⟨r, W, rfl⟩
end Go.Proofs.YtgibbaadjbohdaaDoor
/- A vibration, its check and its average, in numbers. No conditions. -/
namespace Go.Proofs.YtgibbaadjbohdaaDoor
open Go.RowKit Lift

def iat (l : List Int) (k : Nat) : Int := l[k]?.getD 0
def allI (l : List Int) (a b : Int) : Bool := l.all fun x => wI x a b
structure VibOk (s m : List Int) : Prop where
  sl : s.length ≤ 400
  sb : ∀ k, k < s.length → -100 ≤ iat s k ∧ iat s k ≤ 100
  ml : 2 ≤ m.length
  mh : m.length ≤ 9
  mb : ∀ k, k < m.length → 0 ≤ iat m k ∧ iat m k ≤ (s.length : Int) - 1
  mr : ∀ k, k + 1 < m.length → iat m k < iat m (k + 1)
end Go.Proofs.YtgibbaadjbohdaaDoor
/- rotor: the limits of a table. No conditions. -/
namespace Go.Proofs.YtgibbaadjbohdaaDoor
open Go.RowKit Lift

structure Tb where
  x : List Int
  y : List Int
  v : List (List Int)
def TbSm (t : Tb) : Prop := t.x.length ≤ 15 ∧ t.y.length ≤ 15 ∧ t.v.length ≤ 15 ∧ ∀ r ∈ t.v, r.length ≤ 15
theorem TbSm.sz {t : Tb} (h : TbSm t) : TSz t.x t.y t.v := ⟨by have := h.1; omega, by have := h.2.1; omega, by have := h.2.2.1; omega, fun r hr => by have := h.2.2.2 r hr; omega⟩
theorem TbSm.row {t : Tb} (h : TbSm t) (k : Nat) : (t.v[k]?.getD []).length ≤ 15 := by
  by_cases hk : k < t.v.length
  · rw [List.getElem?_eq_getElem hk]; exact h.2.2.2 _ (List.getElem_mem hk)
  · rw [List.getElem?_eq_none (by omega)]; simp
def limB (t : Tb) (lo hi : Int) : Bool := decide (tabErr t.x t.y t.v = 0) && t.v.all fun r => allI r lo hi
end Go.Proofs.YtgibbaadjbohdaaDoor
/- rotor: Check. No conditions. -/
namespace Go.Proofs.YtgibbaadjbohdaaDoor
open Go.RowKit Lift

structure Rot where
  a : Tb
  b : Tb
  c : Tb
  d : Tb
  e : Tb
  f : Tb
  g : Tb
  h : Tb
  cl : Int
  bu : Int
def tbK (r : Rot) : Nat → Tb
  | 0 => r.a
  | 1 => r.b
  | 2 => r.c
  | 3 => r.d
  | 4 => r.e
  | 5 => r.f
  | 6 => r.g
  | _ => r.h
def loK (k : Nat) : Int := if k = 7 then 1 else 0
def hiK (k : Nat) : Int := if k = 1 then 100 else if k = 0 ∨ k = 2 ∨ k = 3 then 100000 else 10000
structure RotOk (r : Rot) : Prop where
  lim : ∀ k, k < 8 → limB (tbK r k) (loK k) (hiK k) = true
  ex : r.f.x = r.g.x
  ey : r.f.y = r.g.y
  cl : wI r.cl 1 1000 = true
  bu : wI r.bu 1 1000 = true
  le : ∀ i, i < r.f.v.length → ∀ k, k < (r.f.v[i]?.getD []).length → iat (r.f.v[i]?.getD []) k ≤ iat (r.g.v[i]?.getD []) k
end Go.Proofs.YtgibbaadjbohdaaDoor
/- rotor: check, Level, Flow; route: Burn. No conditions. -/
namespace Go.Proofs.YtgibbaadjbohdaaDoor
open Go.RowKit Lift

structure Air where
  w : Int × Int
  t : Int × Int
  h : Int × Int
  d : Int × Int
end Go.Proofs.YtgibbaadjbohdaaDoor
/- The margin of power, in numbers: with less weights it is not less. No conditions. -/
namespace Go.Proofs.YtgibbaadjbohdaaDoor

open Lift
structure MgOk (r : Rot) (a : Air) (s : Int × Int) : Prop where
  ah : boundR r.a.x r.a.y r.a.v a.w a.t = (bnd r.a.x r.a.y r.a.v a.w a.t, 0)
  ag : boundR r.b.x r.b.y r.b.v s a.d = (bnd r.b.x r.b.y r.b.v s a.d, 0)
  ap : boundR r.d.x r.d.y r.d.v a.t a.h = (bnd r.d.x r.d.y r.d.v a.t a.h, 0)
  h : OnT r.a.x r.a.y r.a.v a.w a.t
  g : OnT r.b.x r.b.y r.b.v s a.d
  p : OnT r.d.x r.d.y r.d.v a.t a.h
  bh : 0 ≤ (bnd r.a.x r.a.y r.a.v a.w a.t).1 ∧ (bnd r.a.x r.a.y r.a.v a.w a.t).1 ≤ (bnd r.a.x r.a.y r.a.v a.w a.t).2 ∧ (bnd r.a.x r.a.y r.a.v a.w a.t).2 ≤ 100000
  bg : 0 ≤ (bnd r.b.x r.b.y r.b.v s a.d).1 ∧ (bnd r.b.x r.b.y r.b.v s a.d).1 ≤ (bnd r.b.x r.b.y r.b.v s a.d).2 ∧ (bnd r.b.x r.b.y r.b.v s a.d).2 ≤ 100
  bp : 0 ≤ (bnd r.d.x r.d.y r.d.v a.t a.h).1 ∧ (bnd r.d.x r.d.y r.d.v a.t a.h).1 ≤ (bnd r.d.x r.d.y r.d.v a.t a.h).2 ∧ (bnd r.d.x r.d.y r.d.v a.t a.h).2 ≤ 100000
end Go.Proofs.YtgibbaadjbohdaaDoor
/- rotor: Margin (views last). No conditions. -/
namespace Go.Proofs.YtgibbaadjbohdaaDoor
open Go.RowKit Lift

structure Lk where
  t : Tb
  x : Int × Int
  y : Int × Int
instance : Inhabited Lk := ⟨⟨⟨[], [], []⟩, (0, 0), (0, 0)⟩⟩
end Go.Proofs.YtgibbaadjbohdaaDoor
/- TopSlung: the load on the hook (views last). No conditions. -/
namespace Go.Proofs.YtgibbaadjbohdaaDoor
open Go.RowKit Lift

def hgiC (h : Hst) (wd : Int × Int) (l : Bx) : List D := [dI h.cable, .list (ints h.xs), .list (ints h.ys), .list (rows h.vs), dI h.charge, dI wd.1, dI wd.2, .list (sps l)]
end Go.Proofs.YtgibbaadjbohdaaDoor
/- Heads of what came in. No conditions. -/
namespace Go.Proofs.YtgibbaadjbohdaaDoor
open Go.RowKit Lift

theorem fin_int {ss : List Sh} {ds : List D} (h : CfL (.int :: ss) ds) : ∃ (a : Int) (r : List D), ds = dI a :: r ∧ CfL ss r := by
  cases h with
  | int a ss ds h1 h2 h3 => exact ⟨a, ds, rfl, h3⟩
theorem fin_sl {e ss : List Sh} {ds : List D} (h : CfL (.sl e :: ss) ds) : ∃ (l : List (List D)) (r : List D), ds = .list l :: r ∧ CfL ss r ∧ l.length ≤ maxLen ∧ ∀ x ∈ l, CfL e x := by
  cases h with
  | sl e l ss ds h1 h2 h3 => exact ⟨l, ds, rfl, h3, h1, h2⟩
end Go.Proofs.YtgibbaadjbohdaaDoor
/- Boxes that came in. No conditions. -/
namespace Go.Proofs.YtgibbaadjbohdaaDoor
open Go.RowKit Lift Go.ChangeShapes Go.WideShapes Go.ChangeAt Go.Joins

theorem notagg_int {P : Program} {w : World} {r : Reach} {b0 : Nat} {t : TypeId} {k : IntKind} {v : Value} (ht : P.underlying t = some (.int k)) (hv : Value.okWide P w r b0 t v) : ∀ cs, v ≠ .agg cs := by
  rintro cs rfl
  simp [Value.okWide, Cell.okWide, Cell.ok, ht] at hv
theorem in_sps {l : List (List D)} (h : ∀ x ∈ l, CfL [.int, .int] x) : ∃ b, l = sps b ∧ ∀ x ∈ b, (-9223372036854775808 ≤ x.1 ∧ x.1 ≤ 9223372036854775807) ∧ -9223372036854775808 ≤ x.2 ∧ x.2 ≤ 9223372036854775807 := by
  induction l with
  | nil => exact ⟨[], rfl, by simp⟩
  | cons x l ih =>
    obtain ⟨b, rfl, hb⟩ := ih fun y hy => h y (List.mem_cons_of_mem _ hy)
    obtain ⟨u, v, rfl, hu, hv⟩ := in_2 (h x (List.mem_cons_self ..))
    exact ⟨(u, v) :: b, rfl, fun y hy => by
      rcases List.mem_cons.1 hy with rfl | hy
      · exact ⟨hu, hv⟩
      · exact hb y hy⟩
end Go.Proofs.YtgibbaadjbohdaaDoor
/- Arguments that came in: a hover and a hoisting. No conditions. -/
namespace Go.Proofs.YtgibbaadjbohdaaDoor
open Go.RowKit Lift

theorem in_hoi {ds : List D} (h : CfL [.int, .sl [.int], .sl [.int], .sl [.sl [.int]], .int, .int, .int, .sl [.int, .int]] ds) : ∃ (h : Hst) (wd : Int × Int) (l : Bx), ds = hgiC h wd l ∧ HSm h := by
  obtain ⟨ca, _, rfl, e1⟩ := fin_int h
  obtain ⟨l1, _, rfl, e2, n1, h1⟩ := fin_sl e1
  obtain ⟨l2, _, rfl, e3, n2, h2⟩ := fin_sl e2
  obtain ⟨l3, _, rfl, e4, n3, h3⟩ := fin_sl e3
  obtain ⟨ch, _, rfl, e5⟩ := fin_int e4
  obtain ⟨w1, _, rfl, e6⟩ := fin_int e5
  obtain ⟨w2, _, rfl, e7⟩ := fin_int e6
  obtain ⟨l4, _, rfl, e8, n4, h4⟩ := fin_sl e7
  cases e8
  obtain ⟨xs, rfl, hx⟩ := in_ints h1
  obtain ⟨ys, rfl, hy⟩ := in_ints h2
  obtain ⟨vs, rfl, hr⟩ := in_rows h3
  obtain ⟨l, rfl, _⟩ := in_sps h4
  exact ⟨⟨ca, xs, ys, vs, ch⟩, (w1, w2), l, rfl, ⟨by simpa [ints] using n1, by simpa [ints] using n2, by simpa [rows] using n3, hr⟩, hx, hy⟩
end Go.Proofs.YtgibbaadjbohdaaDoor
