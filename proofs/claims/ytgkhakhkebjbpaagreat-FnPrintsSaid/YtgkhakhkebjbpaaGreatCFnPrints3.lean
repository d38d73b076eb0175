/- What the code computes, and what it means: part 3 of the proof of FnPrints. No condition of its own. -/
import Derived.Test.YtgkhakhkebjbpaaGreatProg
import Derived.Test.YtgkhakhkebjbpaaGreatCFnPrints2
namespace Go.Proofs.YtgkhakhkebjbpaaGreatEv
open Go Go.Proofs
def q (d : Nat) (o : O) : AO := ⟨some d, none, o⟩
def c2 : AF := ⟨0,1,[],(.ops [q 0 (.call 1 [])])⟩
theorem k2 : cF Tryz.prog Tryz.f2 = some c2 := by kernel_rfl
def c3 : AF := ⟨1,156,[(2,none)],(.seq (.ops [q 2 (.mv (.c (.v (.bool false))))]) (.seq (.seq (.ops [q 26 (.mv (.t 0)),q 27 (.call 6 [(.t 26)])]) (.cond (.t 27) (.seq (.ops [q 2 (.mv (.c (.v (.bool true))))]) .ret) .skip)) (.seq (.ops [q 29 (.mv (.t 0)),q 30 (.call 7 [(.t 29)]),q 28 (.mv (.t 30)),q 31 (.ext (.t 28) 0),q 32 (.ext (.t 28) 1),q 3 (.al [(.v (.int .i64 0)),(.v (.int .i64 0)),(.v (.int .i64 0)),(.v (.int .i64 0)),(.nil 0)]),⟨none,none,.st (.t 3) (.t 31) 5⟩,q 4 (.mv (.t 32))]) (.seq (.ops [q 34 (.ld (.t 3) 5),q 35 (.mv (.t 4)),q 36 (.call 8 [(.t 34),(.t 35)]),q 33 (.mv (.t 36)),q 37 (.ext (.t 33) 0),q 38 (.ext (.t 33) 1),q 5 (.al [(.v (.int .i64 0)),(.v (.int .i64 0)),(.v (.int .i64 0)),(.v (.int .i64 0)),(.nil 0)]),⟨none,none,.st (.t 5) (.t 37) 5⟩,q 6 (.mv (.t 38))]) (.seq (.ops [q 40 (.ld (.t 3) 5),q 41 (.mv (.t 4)),q 42 (.call 9 [(.t 40),(.t 41)]),q 39 (.mv (.t 42)),q 43 (.ext (.t 39) 0),q 44 (.ext (.t 39) 1),q 7 (.al [(.v (.int .i64 0)),(.v (.int .i64 0)),(.v (.int .i64 0)),(.v (.int .i64 0)),(.nil 0)]),⟨none,none,.st (.t 7) (.t 43) 5⟩,q 8 (.mv (.t 44))]) (.seq (.ops [q 46 (.ld (.t 3) 5),q 47 (.mv (.t 4)),q 48 (.call 10 [(.t 46),(.t 47)]),q 45 (.mv (.t 48)),q 49 (.ext (.t 45) 0),q 50 (.ext (.t 45) 1),q 9 (.mv (.t 49)),q 10 (.mv (.t 50))]) (.seq (.ops [q 52 (.ld (.t 3) 5),q 53 (.mv (.t 4)),q 54 (.call 11 [(.t 52),(.t 53)]),q 51 (.mv (.t 54)),q 55 (.ext (.t 51) 0),q 56 (.ext (.t 51) 1),q 11 (.mv (.t 55)),q 12 (.mv (.t 56))]) (.seq (.ops [q 58 (.mv (.t 0)),q 59 (.call 12 [(.t 58)]),q 57 (.mv (.t 59)),q 60 (.ext (.t 57) 0),q 61 (.ext (.t 57) 1),q 13 (.al [(.v (.int .i64 0)),(.v (.int .i64 0)),(.v (.int .i64 0)),(.v (.int .i64 0)),(.nil 0)]),q 14 (.al [(.v (.int .i64 0)),(.v (.int .i64 0)),(.v (.int .i64 0)),(.v (.int .i64 0)),(.nil 0)]),⟨none,none,.st (.t 13) (.t 60) 5⟩,⟨none,none,.st (.t 14) (.t 61) 5⟩]) (.seq (.ops [q 63 (.ld (.t 13) 5),q 64 (.ld (.t 14) 5),q 65 (.call 13 [(.t 63),(.t 64)]),q 62 (.mv (.t 65)),q 66 (.ext (.t 62) 0),q 67 (.ext (.t 62) 1),q 15 (.al [(.v (.int .i64 0)),(.v (.int .i64 0))]),⟨none,none,.st (.t 15) (.t 66) 2⟩,q 16 (.mv (.t 67))]) (.seq (.ops [q 69 (.ld (.t 13) 5),q 70 (.ld (.t 14) 5),q 71 (.call 14 [(.t 69),(.t 70)]),q 68 (.mv (.t 71)),q 72 (.ext (.t 68) 0),q 73 (.ext (.t 68) 1),q 17 (.al [(.v (.int .i64 0)),(.v (.int .i64 0))]),⟨none,none,.st (.t 17) (.t 72) 2⟩,q 18 (.mv (.t 73))]) (.seq (.seq (.ops [q 74 (.mv (.t 6)),q 75 (.mv (.t 8)),q 76 (.bin .neq (.t 74) (.t 75)),q 77 (.mv (.t 76)),⟨(some 78),(some (77,false)),.ld (.t 5) 5⟩,⟨(some 79),(some (77,false)),.ld (.t 7) 5⟩,⟨(some 80),(some (77,false)),.call 15 [(.t 78),(.t 79)]⟩,⟨(some 81),(some (77,false)),.un .not (.t 80)⟩,q 82 (.pick (.t 77) (.c (.v (.bool true))) (.t 81)),q 83 (.mv (.t 82)),⟨(some 84),(some (83,false)),.mv (.t 10)⟩,⟨(some 85),(some (83,false)),.mv (.t 12)⟩,⟨(some 86),(some (83,false)),.bin .neq (.t 84) (.t 85)⟩,q 87 (.pick (.t 83) (.c (.v (.bool true))) (.t 86)),q 88 (.mv (.t 87)),⟨(some 89),(some (88,false)),.mv (.t 9)⟩,⟨(some 90),(some (88,false)),.mv (.t 11)⟩,⟨(some 91),(some (88,false)),.bin .neq (.t 89) (.t 90)⟩,q 92 (.pick (.t 88) (.c (.v (.bool true))) (.t 91)),q 93 (.mv (.t 92)),⟨(some 94),(some (93,false)),.mv (.t 16)⟩,⟨(some 95),(some (93,false)),.mv (.t 18)⟩,⟨(some 96),(some (93,false)),.bin .neq (.t 94) (.t 95)⟩,q 97 (.pick (.t 93) (.c (.v (.bool true))) (.t 96)),q 98 (.mv (.t 97)),⟨(some 99),(some (98,false)),.ld (.t 15) 2⟩,⟨(some 100),(some (98,false)),.ld (.t 17) 2⟩,⟨(some 101),(some (98,false)),.eq true 2 [1,1] (.t 99) (.t 100)⟩,q 102 (.pick (.t 98) (.c (.v (.bool true))) (.t 101)),q 103 (.mv (.t 102)),⟨(some 104),(some (103,false)),.mv (.t 10)⟩,⟨(some 105),(some (103,false)),.mv (.t 6)⟩,⟨(some 106),(some (103,false)),.bin .neq (.t 104) (.t 105)⟩,q 107 (.pick (.t 103) (.c (.v (.bool true))) (.t 106))]) (.cond (.t 107) (.seq (.ops [q 2 (.mv (.c (.v (.bool false))))]) .ret) .skip)) (.seq (.seq (.ops [q 108 (.mv (.t 16)),q 109 (.bin .eql (.t 108) (.c (.v (.int .i64 0))))]) (.cond (.t 109) (.seq (.ops [q 111 (.ld (.t 13) 5),q 112 (.bld [(.v (.int .i64 0)),(.v (.int .i64 0)),(.v (.int .i64 0)),(.v (.int .i64 0))] [(0,1,(.c (.v (.int .i64 1)))),(3,1,(.c (.v (.int .i64 1))))]),q 113 (.ld (.t 15) 2),q 114 (.bld [(.v (.int .i64 0)),(.v (.int .i64 0)),(.v (.int .i64 0)),(.v (.int .i64 0)),(.v (.int .i64 0)),(.v (.int .i64 0))] [(0,4,(.t 112)),(4,2,(.t 113))]),q 115 (.call 16 [(.t 111),(.t 114)]),q 110 (.mv (.t 115)),q 116 (.ext (.t 110) 0),q 117 (.ext (.t 110) 1),q 19 (.al [(.v (.int .i64 0)),(.v (.int .i64 0)),(.v (.int .i64 0)),(.v (.int .i64 0)),(.nil 0)]),⟨none,none,.st (.t 19) (.t 116) 5⟩,q 20 (.mv (.t 117))]) (.seq (.ops [q 118 (.mv (.t 20)),q 119 (.bin .neq (.t 118) (.c (.v (.int .i64 0)))),q 120 (.mv (.t 119)),⟨(some 121),(some (120,false)),.ld (.t 19) 5⟩,⟨(some 122),(some (120,false)),.ld (.t 14) 5⟩,⟨(some 123),(some (120,false)),.call 15 [(.t 121),(.t 122)]⟩,⟨(some 124),(some (120,false)),.un .not (.t 123)⟩,q 125 (.pick (.t 120) (.c (.v (.bool true))) (.t 124))]) (.cond (.t 125) (.seq (.ops [q 2 (.mv (.c (.v (.bool false))))]) .ret) .skip))) .skip)) (.seq (.seq (.ops [q 126 (.mv (.t 6)),q 127 (.bin .neq (.t 126) (.c (.v (.int .i64 0))))]) (.cond (.t 127) (.seq (.ops [q 2 (.mv (.c (.v (.bool true))))]) .ret) .skip)) (.seq (.ops [q 128 (.mk 2 39 16 (.ag [(.int .i64 0),(.int .i64 0)]) (.c (.v (.int .i64 9))) (.c (.v (.int .i64 9)))),q 21 (.mv (.t 128))]) (.seq (.ops [q 130 (.ld (.t 3) 5),q 131 (.mv (.t 21)),q 132 (.call 8 [(.t 130),(.t 131)]),q 129 (.mv (.t 132)),q 133 (.ext (.t 129) 0),q 134 (.ext (.t 129) 1),q 22 (.al [(.v (.int .i64 0)),(.v (.int .i64 0)),(.v (.int .i64 0)),(.v (.int .i64 0)),(.nil 0)]),⟨none,none,.st (.t 22) (.t 133) 5⟩,q 23 (.mv (.t 134))]) (.seq (.ops [q 136 (.ld (.t 3) 5),q 137 (.mv (.t 21)),q 138 (.call 10 [(.t 136),(.t 137)]),q 135 (.mv (.t 138)),q 139 (.ext (.t 135) 0),q 140 (.ext (.t 135) 1),q 24 (.mv (.t 139)),q 25 (.mv (.t 140))]) (.seq (.ops [q 141 (.mv (.t 23)),q 142 (.bin .eql (.t 141) (.c (.v (.int .i64 0)))),q 143 (.mv (.t 142)),⟨(some 144),(some (143,true)),.ld (.t 22) 5⟩,⟨(some 145),(some (143,true)),.ld (.t 3) 5⟩,⟨(some 146),(some (143,true)),.call 15 [(.t 144),(.t 145)]⟩,q 147 (.pick (.t 143) (.t 146) (.c (.v (.bool false)))),q 148 (.mv (.t 147)),⟨(some 149),(some (148,true)),.mv (.t 25)⟩,⟨(some 150),(some (148,true)),.bin .eql (.t 149) (.c (.v (.int .i64 0)))⟩,q 151 (.pick (.t 148) (.t 150) (.c (.v (.bool false)))),q 152 (.mv (.t 151)),⟨(some 153),(some (152,true)),.mv (.t 24)⟩,⟨(some 154),(some (152,true)),.bin .eql (.t 153) (.c (.v (.int .i64 0)))⟩,q 155 (.pick (.t 152) (.t 154) (.c (.v (.bool false)))),q 2 (.mv (.t 155))]) .ret)))))))))))))))))⟩
theorem k3 : cF Tryz.prog Tryz.f3 = some c3 := by kernel_rfl
def c4 : AF := ⟨1,235,[(2,none)],(.seq (.ops [q 2 (.mv (.c (.v (.bool false))))]) (.seq (.seq (.ops [q 35 (.mv (.t 0)),q 36 (.call 6 [(.t 35)])]) (.cond (.t 36) (.seq (.ops [q 2 (.mv (.c (.v (.bool true))))]) .ret) .skip)) (.seq (.ops [q 38 (.mv (.t 0)),q 39 (.call 17 [(.t 38)]),q 37 (.mv (.t 39)),q 40 (.ext (.t 37) 0),q 41 (.ext (.t 37) 1),q 3 (.al [(.v (.int .i64 0)),(.v (.int .i64 0)),(.v (.int .i64 0)),(.v (.int .i64 0)),(.nil 0)]),⟨none,none,.st (.t 3) (.t 40) 5⟩,q 4 (.mv (.t 41))]) (.seq (.ops [q 43 (.ld (.t 3) 5),q 44 (.mv (.t 4)),q 45 (.call 18 [(.t 43),(.t 44)]),q 42 (.mv (.t 45)),q 46 (.ext (.t 42) 0),q 47 (.ext (.t 42) 1),q 5 (.mv (.t 46)),q 6 (.mv (.t 47))]) (.seq (.ops [q 49 (.ld (.t 3) 5),q 50 (.mv (.t 4)),q 51 (.call 19 [(.t 49),(.t 50)]),q 48 (.mv (.t 51)),q 52 (.ext (.t 48) 0),q 53 (.ext (.t 48) 1),q 7 (.mv (.t 52)),q 8 (.mv (.t 53))]) (.seq (.ops [q 55 (.ld (.t 3) 5),q 56 (.call 20 [(.t 55)]),q 54 (.mv (.t 56)),q 57 (.ext (.t 54) 0),q 58 (.ext (.t 54) 1),q 59 (.ext (.t 54) 2),q 9 (.mv (.t 57)),q 10 (.mv (.t 58)),q 11 (.mv (.t 59))]) (.seq (.ops [q 61 (.ld (.t 3) 5),q 62 (.call 21 [(.t 61)]),q 60 (.mv (.t 62)),q 63 (.ext (.t 60) 0),q 64 (.ext (.t 60) 1),q 65 (.ext (.t 60) 2),q 12 (.mv (.t 63)),q 13 (.mv (.t 64)),q 14 (.mv (.t 65))]) (.seq (.ops [q 67 (.ld (.t 3) 5),q 68 (.call 22 [(.t 67)]),q 66 (.mv (.t 68)),q 69 (.ext (.t 66) 0),q 70 (.ext (.t 66) 1),q 15 (.mv (.t 69)),q 16 (.mv (.t 70))]) (.seq (.ops [q 72 (.ld (.t 3) 5),q 73 (.call 23 [(.t 72)]),q 71 (.mv (.t 73)),q 74 (.ext (.t 71) 0),q 75 (.ext (.t 71) 1),q 17 (.mv (.t 74)),q 18 (.mv (.t 75))]) (.seq (.ops [q 77 (.mv (.t 0)),q 78 (.call 24 [(.t 77)]),q 76 (.mv (.t 78)),q 79 (.ext (.t 76) 0),q 80 (.ext (.t 76) 1),q 19 (.al [(.v (.int .i64 0)),(.v (.int .i64 0)),(.v (.int .i64 0)),(.v (.int .i64 0)),(.nil 0)]),⟨none,none,.st (.t 19) (.t 79) 5⟩,q 20 (.mv (.t 80))]) (.seq (.ops [q 82 (.ld (.t 19) 5),q 83 (.mv (.t 20)),q 84 (.call 25 [(.t 82),(.t 83)]),q 81 (.mv (.t 84)),q 85 (.ext (.t 81) 0),q 86 (.ext (.t 81) 1),q 21 (.mv (.t 85)),q 22 (.mv (.t 86))]) (.seq (.ops [q 88 (.ld (.t 19) 5),q 89 (.mv (.t 20)),q 90 (.call 26 [(.t 88),(.t 89)]),q 87 (.mv (.t 90)),q 91 (.ext (.t 87) 0),q 92 (.ext (.t 87) 1),q 23 (.mv (.t 91)),q 24 (.mv (.t 92))]) (.seq (.seq (.ops [q 93 (.mv (.t 6)),q 94 (.mv (.t 8)),q 95 (.bin .neq (.t 93) (.t 94)),q 96 (.mv (.t 95)),⟨(some 97),(some (96,false)),.mv (.t 5)⟩,⟨(some 98),(some (96,false)),.mv (.t 7)⟩,⟨(some 99),(some (96,false)),.bin .neq (.t 97) (.t 98)⟩,q 100 (.pick (.t 96) (.c (.v (.bool true))) (.t 99)),q 101 (.mv (.t 100)),⟨(some 102),(some (101,false)),.mv (.t 11)⟩,⟨(some 103),(some (101,false)),.mv (.t 14)⟩,⟨(some 104),(some (101,false)),.bin .neq (.t 102) (.t 103)⟩,q 105 (.pick (.t 101) (.c (.v (.bool true))) (.t 104)),q 106 (.mv (.t 105)),⟨(some 107),(some (106,false)),.mv (.t 9)⟩,⟨(some 108),(some (106,false)),.mv (.t 12)⟩,⟨(some 109),(some (106,false)),.bin .neq (.t 107) (.t 108)⟩,q 110 (.pick (.t 106) (.c (.v (.bool true))) (.t 109)),q 111 (.mv (.t 110)),⟨(some 112),(some (111,false)),.mv (.t 10)⟩,⟨(some 113),(some (111,false)),.mv (.t 13)⟩,⟨(some 114),(some (111,false)),.bin .neq (.t 112) (.t 113)⟩,q 115 (.pick (.t 111) (.c (.v (.bool true))) (.t 114)),q 116 (.mv (.t 115)),⟨(some 117),(some (116,false)),.mv (.t 16)⟩,⟨(some 118),(some (116,false)),.mv (.t 18)⟩,⟨(some 119),(some (116,false)),.bin .neq (.t 117) (.t 118)⟩,q 120 (.pick (.t 116) (.c (.v (.bool true))) (.t 119)),q 121 (.mv (.t 120)),⟨(some 122),(some (121,false)),.mv (.t 15)⟩,⟨(some 123),(some (121,false)),.mv (.t 17)⟩,⟨(some 124),(some (121,false)),.bin .neq (.t 122) (.t 123)⟩,q 125 (.pick (.t 121) (.c (.v (.bool true))) (.t 124)),q 126 (.mv (.t 125)),⟨(some 127),(some (126,false)),.mv (.t 22)⟩,⟨(some 128),(some (126,false)),.mv (.t 24)⟩,⟨(some 129),(some (126,false)),.bin .neq (.t 127) (.t 128)⟩,q 130 (.pick (.t 126) (.c (.v (.bool true))) (.t 129)),q 131 (.mv (.t 130)),⟨(some 132),(some (131,false)),.mv (.t 21)⟩,⟨(some 133),(some (131,false)),.mv (.t 23)⟩,⟨(some 134),(some (131,false)),.bin .neq (.t 132) (.t 133)⟩,q 135 (.pick (.t 131) (.c (.v (.bool true))) (.t 134)),q 136 (.mv (.t 135)),⟨(some 137),(some (136,false)),.mv (.t 11)⟩,⟨(some 138),(some (136,false)),.mv (.t 16)⟩,⟨(some 139),(some (136,false)),.bin .neq (.t 137) (.t 138)⟩,q 140 (.pick (.t 136) (.c (.v (.bool true))) (.t 139))]) (.cond (.t 140) (.seq (.ops [q 2 (.mv (.c (.v (.bool false))))]) .ret) .skip)) (.seq (.seq (.ops [q 141 (.mv (.t 22)),q 142 (.bin .eql (.t 141) (.c (.v (.int .i64 0))))]) (.cond (.t 142) (.seq (.ops [q 144 (.ld (.t 19) 5),q 145 (.call 22 [(.t 144)]),q 143 (.mv (.t 145)),q 146 (.ext (.t 143) 0),q 147 (.ext (.t 143) 1),q 25 (.mv (.t 146)),q 26 (.mv (.t 147))]) (.seq (.ops [q 148 (.mv (.t 26)),q 149 (.bin .neq (.t 148) (.c (.v (.int .i64 0)))),q 150 (.mv (.t 149)),⟨(some 151),(some (150,false)),.mv (.t 25)⟩,⟨(some 152),(some (150,false)),.mv (.t 21)⟩,⟨(some 153),(some (150,false)),.bin .mul (.t 151) (.t 152)⟩,⟨(some 154),(some (150,false)),.mv (.t 20)⟩,⟨(some 155),(some (150,false)),.bin .neq (.t 153) (.t 154)⟩,q 156 (.pick (.t 150) (.c (.v (.bool true))) (.t 155))]) (.cond (.t 156) (.seq (.ops [q 2 (.mv (.c (.v (.bool false))))]) .ret) .skip))) .skip)) (.seq (.seq (.ops [q 157 (.mv (.t 16)),q 158 (.bin .neq (.t 157) (.c (.v (.int .i64 0))))]) (.cond (.t 158) (.seq (.ops [q 2 (.mv (.c (.v (.bool true))))]) .ret) .skip)) (.seq (.ops [q 160 (.ld (.t 3) 5),q 161 (.call 27 [(.t 160)]),q 159 (.mv (.t 161)),q 162 (.ext (.t 159) 0),q 163 (.ext (.t 159) 1),q 27 (.al [(.v (.int .i64 0)),(.v (.int .i64 0)),(.v (.int .i64 0))]),⟨none,none,.st (.t 27) (.t 162) 3⟩,q 28 (.mv (.t 163))]) (.seq (.ops [q 165 (.ld (.t 27) 3),q 166 (.mv (.t 15)),q 167 (.bld [(.v (.int .i64 0)),(.v (.int .i64 0))] [(1,1,(.t 166))]),q 168 (.call 28 [(.t 165),(.t 167)]),q 164 (.mv (.t 168)),q 169 (.ext (.t 164) 0),q 170 (.ext (.t 164) 1),q 29 (.mv (.t 169)),q 30 (.mv (.t 170))]) (.seq (.ops [q 172 (.ld (.t 27) 3),q 173 (.mv (.t 9)),q 174 (.mv (.t 10)),q 175 (.un .neg (.t 174)),q 176 (.bld [(.v (.int .i64 0)),(.v (.int .i64 0))] [(0,1,(.t 173)),(1,1,(.t 175))]),q 177 (.call 28 [(.t 172),(.t 176)]),q 171 (.mv (.t 177)),q 178 (.ext (.t 171) 0),q 179 (.ext (.t 171) 1),q 31 (.mv (.t 178)),q 32 (.mv (.t 179))]) (.seq (.seq (.ops [q 180 (.mv (.t 28)),q 181 (.bin .neq (.t 180) (.c (.v (.int .i64 0)))),q 182 (.mv (.t 181)),⟨(some 183),(some (182,false)),.mv (.t 30)⟩,⟨(some 184),(some (182,false)),.bin .neq (.t 183) (.c (.v (.int .i64 0)))⟩,q 185 (.pick (.t 182) (.c (.v (.bool true))) (.t 184)),q 186 (.mv (.t 185)),⟨(some 187),(some (186,false)),.mv (.t 29)⟩,⟨(some 188),(some (186,false)),.un .not (.t 187)⟩,q 189 (.pick (.t 186) (.c (.v (.bool true))) (.t 188)),q 190 (.mv (.t 189)),⟨(some 191),(some (190,false)),.mv (.t 32)⟩,⟨(some 192),(some (190,false)),.bin .neq (.t 191) (.c (.v (.int .i64 0)))⟩,q 193 (.pick (.t 190) (.c (.v (.bool true))) (.t 192)),q 194 (.mv (.t 193)),⟨(some 195),(some (194,false)),.mv (.t 31)⟩,⟨(some 196),(some (194,false)),.un .not (.t 195)⟩,q 197 (.pick (.t 194) (.c (.v (.bool true))) (.t 196))]) (.cond (.t 197) (.seq (.ops [q 2 (.mv (.c (.v (.bool false))))]) .ret) .skip)) (.seq (.seq (.ops [q 198 (.mv (.t 6)),q 199 (.bin .eql (.t 198) (.c (.v (.int .i64 4))))]) (.cond (.t 199) (.seq (.ops [q 200 (.mv (.t 4)),q 201 (.mv (.t 9)),q 202 (.bin .rem (.t 200) (.t 201)),q 203 (.bin .neq (.t 202) (.c (.v (.int .i64 0)))),q 2 (.mv (.t 203))]) .ret) .skip)) (.seq (.seq (.ops [q 204 (.mv (.t 6)),q 205 (.bin .neq (.t 204) (.c (.v (.int .i64 0))))]) (.cond (.t 205) (.seq (.ops [q 2 (.mv (.c (.v (.bool true))))]) .ret) .skip)) (.seq (.ops [q 207 (.ld (.t 27) 3),q 208 (.mv (.t 4)),q 209 (.mv (.t 5)),q 210 (.un .neg (.t 209)),q 211 (.bld [(.v (.int .i64 0)),(.v (.int .i64 0))] [(0,1,(.t 208)),(1,1,(.t 210))]),q 212 (.call 28 [(.t 207),(.t 211)]),q 206 (.mv (.t 212)),q 213 (.ext (.t 206) 0),q 214 (.ext (.t 206) 1),q 33 (.mv (.t 213)),q 34 (.mv (.t 214))]) (.seq (.ops [q 215 (.mv (.t 34)),q 216 (.bin .eql (.t 215) (.c (.v (.int .i64 0)))),q 217 (.mv (.t 216)),⟨(some 218),(some (217,true)),.mv (.t 33)⟩,q 219 (.pick (.t 217) (.t 218) (.c (.v (.bool false)))),q 220 (.mv (.t 219)),⟨(some 221),(some (220,true)),.mv (.t 5)⟩,⟨(some 222),(some (220,true)),.bin .geq (.t 221) (.c (.v (.int .i64 0)))⟩,q 223 (.pick (.t 220) (.t 222) (.c (.v (.bool false)))),q 224 (.mv (.t 223)),⟨(some 225),(some (224,true)),.mv (.t 5)⟩,⟨(some 226),(some (224,true)),.mv (.t 15)⟩,⟨(some 227),(some (224,true)),.bin .lss (.t 225) (.t 226)⟩,q 228 (.pick (.t 224) (.t 227) (.c (.v (.bool false)))),q 229 (.mv (.t 228)),⟨(some 230),(some (229,true)),.mv (.t 4)⟩,⟨(some 231),(some (229,true)),.mv (.t 9)⟩,⟨(some 232),(some (229,true)),.bin .rem (.t 230) (.t 231)⟩,⟨(some 233),(some (229,true)),.bin .eql (.t 232) (.c (.v (.int .i64 0)))⟩,q 234 (.pick (.t 229) (.t 233) (.c (.v (.bool false)))),q 2 (.mv (.t 234))]) .ret)))))))))))))))))))))))⟩
theorem k4 : cF Tryz.prog Tryz.f4 = some c4 := by kernel_rfl
def c5 : AF := ⟨1,342,[(2,none)],(.seq (.ops [q 2 (.mv (.c (.v (.bool false))))]) (.seq (.seq (.ops [q 41 (.mv (.t 0)),q 42 (.call 6 [(.t 41)])]) (.cond (.t 42) (.seq (.ops [q 2 (.mv (.c (.v (.bool true))))]) .ret) .skip)) (.seq (.ops [q 44 (.mv (.t 0)),q 45 (.call 29 [(.t 44)]),q 43 (.mv (.t 45)),q 46 (.ext (.t 43) 0),q 47 (.ext (.t 43) 1),q 48 (.ext (.t 43) 2),q 49 (.ext (.t 43) 3),q 3 (.al [(.v (.int .i64 0)),(.v (.int .i64 0)),(.v (.int .i64 0)),(.v (.int .i64 0)),(.nil 0)]),⟨none,none,.st (.t 3) (.t 46) 5⟩,q 4 (.mv (.t 47)),q 5 (.mv (.t 48)),q 6 (.mv (.t 49))]) (.seq (.ops [q 51 (.ld (.t 3) 5),q 52 (.mv (.t 4)),q 53 (.mv (.t 5)),q 54 (.mv (.t 6)),q 55 (.call 30 [(.t 51),(.t 52),(.t 53),(.t 54)]),q 50 (.mv (.t 55)),q 56 (.ext (.t 50) 0),q 57 (.ext (.t 50) 1),q 7 (.mv (.t 56)),q 8 (.mv (.t 57))]) (.seq (.ops [q 59 (.ld (.t 3) 5),q 60 (.mv (.t 4)),q 61 (.mv (.t 5)),q 62 (.mv (.t 6)),q 63 (.call 31 [(.t 59),(.t 60),(.t 61),(.t 62)]),q 58 (.mv (.t 63)),q 64 (.ext (.t 58) 0),q 65 (.ext (.t 58) 1),q 9 (.mv (.t 64)),q 10 (.mv (.t 65))]) (.seq (.ops [q 67 (.ld (.t 3) 5),q 68 (.mv (.t 4)),q 69 (.mv (.t 5)),q 70 (.mv (.t 6)),q 71 (.call 32 [(.t 67),(.t 68),(.t 69),(.t 70)]),q 66 (.mv (.t 71)),q 72 (.ext (.t 66) 0),q 73 (.ext (.t 66) 1),q 11 (.mv (.t 72)),q 12 (.mv (.t 73))]) (.seq (.ops [q 75 (.ld (.t 3) 5),q 76 (.mv (.t 4)),q 77 (.mv (.t 5)),q 78 (.mv (.t 6)),q 79 (.call 33 [(.t 75),(.t 76),(.t 77),(.t 78)]),q 74 (.mv (.t 79)),q 80 (.ext (.t 74) 0),q 81 (.ext (.t 74) 1),q 13 (.mv (.t 80)),q 14 (.mv (.t 81))]) (.seq (.ops [q 83 (.ld (.t 3) 5),q 84 (.mv (.t 4)),q 85 (.mv (.t 5)),q 86 (.mv (.t 6)),q 87 (.call 34 [(.t 83),(.t 84),(.t 85),(.t 86)]),q 82 (.mv (.t 87)),q 88 (.ext (.t 82) 0),q 89 (.ext (.t 82) 1),q 15 (.mv (.t 88)),q 16 (.mv (.t 89))]) (.seq (.ops [q 91 (.ld (.t 3) 5),q 92 (.mv (.t 4)),q 93 (.mv (.t 5)),q 94 (.mv (.t 6)),q 95 (.call 35 [(.t 91),(.t 92),(.t 93),(.t 94)]),q 90 (.mv (.t 95)),q 96 (.ext (.t 90) 0),q 97 (.ext (.t 90) 1),q 17 (.mv (.t 96)),q 18 (.mv (.t 97))]) (.seq (.ops [q 99 (.mv (.t 0)),q 100 (.call 36 [(.t 99)]),q 98 (.mv (.t 100)),q 101 (.ext (.t 98) 0),q 102 (.ext (.t 98) 1),q 103 (.ext (.t 98) 2),q 104 (.ext (.t 98) 3),q 19 (.al [(.v (.int .i64 0)),(.v (.int .i64 0)),(.v (.int .i64 0)),(.v (.int .i64 0)),(.nil 0)]),⟨none,none,.st (.t 19) (.t 101) 5⟩,q 20 (.mv (.t 102)),q 21 (.mv (.t 103)),q 22 (.mv (.t 104))]) (.seq (.ops [q 106 (.ld (.t 19) 5),q 107 (.mv (.t 20)),q 108 (.mv (.t 21)),q 109 (.mv (.t 22)),q 110 (.call 37 [(.t 106),(.t 107),(.t 108),(.t 109)]),q 105 (.mv (.t 110)),q 111 (.ext (.t 105) 0),q 112 (.ext (.t 105) 1),q 23 (.mv (.t 111)),q 24 (.mv (.t 112))]) (.seq (.ops [q 114 (.ld (.t 19) 5),q 115 (.mv (.t 20)),q 116 (.mv (.t 21)),q 117 (.mv (.t 22)),q 118 (.call 38 [(.t 114),(.t 115),(.t 116),(.t 117)]),q 113 (.mv (.t 118)),q 119 (.ext (.t 113) 0),q 120 (.ext (.t 113) 1),q 25 (.mv (.t 119)),q 26 (.mv (.t 120))]) (.seq (.seq (.ops [q 121 (.mv (.t 8)),q 122 (.mv (.t 10)),q 123 (.bin .neq (.t 121) (.t 122)),q 124 (.mv (.t 123)),⟨(some 125),(some (124,false)),.mv (.t 7)⟩,⟨(some 126),(some (124,false)),.mv (.t 9)⟩,⟨(some 127),(some (124,false)),.call 39 [(.t 125),(.t 126)]⟩,⟨(some 128),(some (124,false)),.un .not (.t 127)⟩,q 129 (.pick (.t 124) (.c (.v (.bool true))) (.t 128)),q 130 (.mv (.t 129)),⟨(some 131),(some (130,false)),.mv (.t 12)⟩,⟨(some 132),(some (130,false)),.mv (.t 14)⟩,⟨(some 133),(some (130,false)),.bin .neq (.t 131) (.t 132)⟩,q 134 (.pick (.t 130) (.c (.v (.bool true))) (.t 133)),q 135 (.mv (.t 134)),⟨(some 136),(some (135,false)),.mv (.t 11)⟩,⟨(some 137),(some (135,false)),.mv (.t 13)⟩,⟨(some 138),(some (135,false)),.bin .neq (.t 136) (.t 137)⟩,q 139 (.pick (.t 135) (.c (.v (.bool true))) (.t 138)),q 140 (.mv (.t 139)),⟨(some 141),(some (140,false)),.mv (.t 16)⟩,⟨(some 142),(some (140,false)),.mv (.t 18)⟩,⟨(some 143),(some (140,false)),.bin .neq (.t 141) (.t 142)⟩,q 144 (.pick (.t 140) (.c (.v (.bool true))) (.t 143)),q 145 (.mv (.t 144)),⟨(some 146),(some (145,false)),.mv (.t 15)⟩,⟨(some 147),(some (145,false)),.mv (.t 17)⟩,⟨(some 148),(some (145,false)),.bin .neq (.t 146) (.t 147)⟩,q 149 (.pick (.t 145) (.c (.v (.bool true))) (.t 148)),q 150 (.mv (.t 149)),⟨(some 151),(some (150,false)),.mv (.t 24)⟩,⟨(some 152),(some (150,false)),.mv (.t 26)⟩,⟨(some 153),(some (150,false)),.bin .neq (.t 151) (.t 152)⟩,q 154 (.pick (.t 150) (.c (.v (.bool true))) (.t 153)),q 155 (.mv (.t 154)),⟨(some 156),(some (155,false)),.mv (.t 23)⟩,⟨(some 157),(some (155,false)),.mv (.t 25)⟩,⟨(some 158),(some (155,false)),.bin .neq (.t 156) (.t 157)⟩,q 159 (.pick (.t 155) (.c (.v (.bool true))) (.t 158)),q 160 (.mv (.t 159)),⟨(some 161),(some (160,false)),.mv (.t 12)⟩,⟨(some 162),(some (160,false)),.mv (.t 8)⟩,⟨(some 163),(some (160,false)),.bin .neq (.t 161) (.t 162)⟩,q 164 (.pick (.t 160) (.c (.v (.bool true))) (.t 163)),q 165 (.mv (.t 164)),⟨(some 166),(some (165,false)),.mv (.t 16)⟩,⟨(some 167),(some (165,false)),.mv (.t 8)⟩,⟨(some 168),(some (165,false)),.bin .neq (.t 166) (.t 167)⟩,q 169 (.pick (.t 165) (.c (.v (.bool true))) (.t 168))]) (.cond (.t 169) (.seq (.ops [q 2 (.mv (.c (.v (.bool false))))]) .ret) .skip)) (.seq (.seq (.ops [q 170 (.mv (.t 24)),q 171 (.bin .eql (.t 170) (.c (.v (.int .i64 0)))),q 172 (.mv (.t 171)),⟨(some 173),(some (172,true)),.mv (.t 23)⟩,⟨(some 174),(some (172,true)),.bin .gtr (.t 173) (.c (.v (.int .i64 0)))⟩,q 175 (.pick (.t 172) (.t 174) (.c (.v (.bool false))))]) (.cond (.t 175) (.seq (.ops [q 177 (.ld (.t 19) 5),q 178 (.mv (.t 20)),q 179 (.mv (.t 21)),q 180 (.mv (.t 23)),q 181 (.call 32 [(.t 177),(.t 178),(.t 179),(.t 180)]),q 176 (.mv (.t 181)),q 182 (.ext (.t 176) 0),q 183 (.ext (.t 176) 1),q 27 (.mv (.t 182)),q 28 (.mv (.t 183))]) (.seq (.ops [q 184 (.mv (.t 28)),q 185 (.bin .neq (.t 184) (.c (.v (.int .i64 0)))),q 186 (.mv (.t 185)),⟨(some 187),(some (186,false)),.mv (.t 27)⟩,⟨(some 188),(some (186,false)),.mv (.t 22)⟩,⟨(some 189),(some (186,false)),.bin .gtr (.t 187) (.t 188)⟩,q 190 (.pick (.t 186) (.c (.v (.bool true))) (.t 189))]) (.cond (.t 190) (.seq (.ops [q 2 (.mv (.c (.v (.bool false))))]) .ret) .skip))) .skip)) (.seq (.seq (.ops [q 191 (.mv (.t 24)),q 192 (.bin .eql (.t 191) (.c (.v (.int .i64 0)))),q 193 (.mv (.t 192)),⟨(some 194),(some (193,true)),.mv (.t 23)⟩,⟨(some 195),(some (193,true)),.bin .lss (.t 194) (.c (.v (.int .i64 100)))⟩,q 196 (.pick (.t 193) (.t 195) (.c (.v (.bool false))))]) (.cond (.t 196) (.seq (.ops [q 198 (.ld (.t 19) 5),q 199 (.mv (.t 20)),q 200 (.mv (.t 21)),q 201 (.mv (.t 23)),q 202 (.bin .add (.t 201) (.c (.v (.int .i64 1)))),q 203 (.call 32 [(.t 198),(.t 199),(.t 200),(.t 202)]),q 197 (.mv (.t 203)),q 204 (.ext (.t 197) 0),q 205 (.ext (.t 197) 1),q 29 (.mv (.t 204)),q 30 (.mv (.t 205))]) (.seq (.ops [q 206 (.mv (.t 30)),q 207 (.bin .eql (.t 206) (.c (.v (.int .i64 0)))),q 208 (.mv (.t 207)),⟨(some 209),(some (208,true)),.mv (.t 29)⟩,⟨(some 210),(some (208,true)),.mv (.t 22)⟩,⟨(some 211),(some (208,true)),.bin .leq (.t 209) (.t 210)⟩,q 212 (.pick (.t 208) (.t 211) (.c (.v (.bool false))))]) (.cond (.t 212) (.seq (.ops [q 2 (.mv (.c (.v (.bool false))))]) .ret) .skip))) .skip)) (.seq (.seq (.ops [q 213 (.mv (.t 8)),q 214 (.bin .neq (.t 213) (.c (.v (.int .i64 0))))]) (.cond (.t 214) (.seq (.ops [q 2 (.mv (.c (.v (.bool true))))]) .ret) .skip)) (.seq (.ops [q 216 (.ld (.t 3) 5),q 217 (.call 22 [(.t 216)]),q 215 (.mv (.t 217)),q 218 (.ext (.t 215) 0),q 219 (.ext (.t 215) 1),q 31 (.mv (.t 218)),q 32 (.mv (.t 219))]) (.seq (.ops [q 220 (.mv (.t 0)),q 221 (.call 40 [(.t 220),(.c (.v (.int .u64 2401)))]),q 33 (.mv (.t 221))]) (.seq (.seq (.ops [q 34 (.mv (.c (.v (.int .i64 0))))]) (.block 0 (.loop (.seq (.seq (.ops [q 222 (.mv (.t 34)),q 223 (.mv (.t 6)),q 224 (.bin .lss (.t 222) (.t 223))]) (.cond (.t 224) .skip (.exit 0))) (.seq (.block 1 (.seq (.seq (.reg [0,1,3,7,7,31,63,7,7,263,903,1927,7,8071,16383,32767,65535,65535,262143,524287,65535,65535,2162687,7405567,15794175,65535,66125823,65535,267452415,536870911,1073741823,2147483647] [q 227 (.mv (.t 34)),q 228 (.bin .gtr (.t 227) (.c (.v (.int .i64 0)))),q 229 (.mv (.t 228)),⟨(some 230),(some (229,true)),.mv (.t 7)⟩,⟨(some 231),(some (229,true)),.mv (.t 34)⟩,⟨(some 232),(some (229,true)),.ia (.t 230) (.t 231) 0⟩,⟨(some 233),(some (229,true)),.ld (.t 232) 0⟩,⟨(some 234),(some (229,true)),.mv (.t 7)⟩,⟨(some 235),(some (229,true)),.mv (.t 34)⟩,⟨(some 236),(some (229,true)),.bin .sub (.t 235) (.c (.v (.int .i64 1)))⟩,⟨(some 237),(some (229,true)),.ia (.t 234) (.t 236) 0⟩,⟨(some 238),(some (229,true)),.ld (.t 237) 0⟩,⟨(some 239),(some (229,true)),.mv (.t 5)⟩,⟨(some 240),(some (229,true)),.bin .add (.t 238) (.t 239)⟩,⟨(some 241),(some (229,true)),.bin .lss (.t 233) (.t 240)⟩,⟨(some 242),(some (229,true)),.mv (.t 241)⟩,⟨(some 243),(some (242,false)),.mv (.t 7)⟩,⟨(some 244),(some (242,false)),.mv (.t 34)⟩,⟨(some 245),(some (242,false)),.ia (.t 243) (.t 244) 0⟩,⟨(some 246),(some (242,false)),.ld (.t 245) 0⟩,⟨(some 247),(some (242,false)),.mv (.t 7)⟩,⟨(some 248),(some (242,false)),.mv (.t 34)⟩,⟨(some 249),(some (242,false)),.bin .sub (.t 248) (.c (.v (.int .i64 1)))⟩,⟨(some 250),(some (242,false)),.ia (.t 247) (.t 249) 0⟩,⟨(some 251),(some (242,false)),.ld (.t 250) 0⟩,⟨(some 252),(some (242,false)),.mv (.t 5)⟩,⟨(some 253),(some (242,false)),.bin .add (.t 251) (.t 252)⟩,⟨(some 254),(some (242,false)),.mv (.t 31)⟩,⟨(some 255),(some (242,false)),.bin .add (.t 253) (.t 254)⟩,⟨(some 256),(some (242,false)),.bin .geq (.t 246) (.t 255)⟩,⟨(some 257),(some (229,true)),.pick (.t 242) (.c (.v (.bool true))) (.t 256)⟩,q 258 (.pick (.t 229) (.t 257) (.c (.v (.bool false))))]) (.cond (.t 258) (.seq (.ops [q 2 (.mv (.c (.v (.bool false))))]) .ret) .skip)) (.seq (.ops [q 259 (.mv (.t 33)),q 260 (.mv (.t 4)),q 261 (.call 41 [(.t 259),(.t 260)]),q 262 (.mv (.t 33)),q 263 (.mv (.t 5)),q 264 (.call 41 [(.t 262),(.t 263)]),q 35 (.mv (.t 261)),q 36 (.mv (.t 264))]) (.seq (.seq (.ops [q 265 (.mv (.t 34)),q 266 (.mv (.t 4)),q 267 (.bin .mul (.t 265) (.t 266)),q 268 (.mv (.t 35)),q 269 (.bin .add (.t 267) (.t 268)),q 270 (.bin .gtr (.t 269) (.c (.v (.int .i64 1000)))),q 271 (.mv (.t 270)),⟨(some 272),(some (271,false)),.mv (.t 7)⟩,⟨(some 273),(some (271,false)),.mv (.t 34)⟩,⟨(some 274),(some (271,false)),.ia (.t 272) (.t 273) 0⟩,⟨(some 275),(some (271,false)),.ld (.t 274) 0⟩,⟨(some 276),(some (271,false)),.mv (.t 36)⟩,⟨(some 277),(some (271,false)),.bin .add (.t 275) (.t 276)⟩,⟨(some 278),(some (271,false)),.bin .gtr (.t 277) (.c (.v (.int .i64 1000)))⟩,q 279 (.pick (.t 271) (.c (.v (.bool true))) (.t 278))]) (.cond (.t 279) (.exit 1) .skip)) (.seq (.reg [0,0,0,0,12,28,0,124,254,511,1023,2047,2047,4095,16383] [q 281 (.ld (.t 3) 5),q 282 (.mv (.t 35)),q 283 (.mv (.t 7)),q 284 (.mv (.t 34)),q 285 (.ia (.t 283) (.t 284) 0),q 286 (.ld (.t 285) 0),q 287 (.mv (.t 36)),q 288 (.bin .add (.t 286) (.t 287)),q 289 (.bld [(.v (.int .i64 0)),(.v (.int .i64 0))] [(0,1,(.t 282)),(1,1,(.t 288))]),q 290 (.call 42 [(.t 281),(.t 289)]),q 280 (.mv (.t 290)),q 291 (.ext (.t 280) 0),q 292 (.ext (.t 280) 1),q 37 (.mv (.t 291)),q 38 (.mv (.t 292))]) (.seq (.ops [q 294 (.ld (.t 3) 5),q 295 (.mv (.t 34)),q 296 (.mv (.t 4)),q 297 (.bin .mul (.t 295) (.t 296)),q 298 (.mv (.t 35)),q 299 (.bin .add (.t 297) (.t 298)),q 300 (.mv (.t 36)),q 301 (.bld [(.v (.int .i64 0)),(.v (.int .i64 0))] [(0,1,(.t 299)),(1,1,(.t 300))]),q 302 (.call 42 [(.t 294),(.t 301)]),q 293 (.mv (.t 302)),q 303 (.ext (.t 293) 0),q 304 (.ext (.t 293) 1),q 39 (.mv (.t 303)),q 40 (.mv (.t 304))]) (.seq (.ops [q 305 (.mv (.t 38)),q 306 (.bin .neq (.t 305) (.c (.v (.int .i64 0)))),q 307 (.mv (.t 306)),⟨(some 308),(some (307,false)),.mv (.t 40)⟩,⟨(some 309),(some (307,false)),.bin .neq (.t 308) (.c (.v (.int .i64 0)))⟩,q 310 (.pick (.t 307) (.c (.v (.bool true))) (.t 309)),q 311 (.mv (.t 310)),⟨(some 312),(some (311,false)),.mv (.t 37)⟩,⟨(some 313),(some (311,false)),.mv (.t 39)⟩,⟨(some 314),(some (311,false)),.bin .neq (.t 312) (.t 313)⟩,q 315 (.pick (.t 311) (.c (.v (.bool true))) (.t 314))]) (.cond (.t 315) (.seq (.ops [q 2 (.mv (.c (.v (.bool false))))]) .ret) .skip)))))))) (.ops [q 225 (.mv (.t 34)),q 226 (.bin .add (.t 225) (.c (.v (.int .i64 1)))),q 34 (.mv (.t 226))])))))) (.seq (.ops [q 316 (.mv (.t 32)),q 317 (.bin .eql (.t 316) (.c (.v (.int .i64 0)))),q 318 (.mv (.t 317)),⟨(some 319),(some (318,true)),.mv (.t 11)⟩,⟨(some 320),(some (318,true)),.mv (.t 7)⟩,⟨(some 321),(some (318,true)),.mv (.t 6)⟩,⟨(some 322),(some (318,true)),.bin .sub (.t 321) (.c (.v (.int .i64 1)))⟩,⟨(some 323),(some (318,true)),.ia (.t 320) (.t 322) 0⟩,⟨(some 324),(some (318,true)),.ld (.t 323) 0⟩,⟨(some 325),(some (318,true)),.mv (.t 5)⟩,⟨(some 326),(some (318,true)),.bin .add (.t 324) (.t 325)⟩,⟨(some 327),(some (318,true)),.bin .eql (.t 319) (.t 326)⟩,q 328 (.pick (.t 318) (.t 327) (.c (.v (.bool false)))),q 329 (.mv (.t 328)),⟨(some 330),(some (329,true)),.mv (.t 15)⟩,⟨(some 331),(some (329,true)),.mv (.t 11)⟩,⟨(some 332),(some (329,true)),.mv (.t 6)⟩,⟨(some 333),(some (329,true)),.mv (.t 5)⟩,⟨(some 334),(some (329,true)),.bin .mul (.t 332) (.t 333)⟩,⟨(some 335),(some (329,true)),.bin .sub (.t 331) (.t 334)⟩,⟨(some 336),(some (329,true)),.bin .eql (.t 330) (.t 335)⟩,q 337 (.pick (.t 329) (.t 336) (.c (.v (.bool false)))),q 338 (.mv (.t 337)),⟨(some 339),(some (338,true)),.mv (.t 15)⟩,⟨(some 340),(some (338,true)),.bin .geq (.t 339) (.c (.v (.int .i64 0)))⟩,q 341 (.pick (.t 338) (.t 340) (.c (.v (.bool false)))),q 2 (.mv (.t 341))]) .ret))))))))))))))))))))⟩
theorem k5 : cF Tryz.prog Tryz.f5 = some c5 := by kernel_rfl
def c6 : AF := ⟨1,6,[(2,none)],(.seq (.ops [q 2 (.mv (.c (.v (.bool false))))]) (.seq (.ops [q 3 (.mv (.t 0)),q 4 (.len false (.t 3)),q 5 (.bin .gtr (.t 4) (.c (.v (.int .i64 4096)))),q 2 (.mv (.t 5))]) .ret))⟩
theorem k6 : cF Tryz.prog Tryz.f6 = some c6 := by kernel_rfl
def c7 : AF := ⟨1,11,[(2,(some 5)),(3,none)],(.seq (.ops [q 2 (.al [(.v (.int .i64 0)),(.v (.int .i64 0)),(.v (.int .i64 0)),(.v (.int .i64 0)),(.nil 0)]),q 3 (.mv (.c (.nil 2)))]) (.seq (.ops [q 5 (.mv (.t 0)),q 6 (.call 43 [(.t 5)]),q 4 (.mv (.t 6))]) (.seq (.ops [q 7 (.mv (.t 4)),q 8 (.call 44 [(.t 7)]),q 9 (.mv (.t 4)),q 10 (.call 45 [(.t 9)]),⟨none,none,.st (.t 2) (.t 8) 5⟩,q 3 (.mv (.t 10))]) .ret)))⟩
theorem k7 : cF Tryz.prog Tryz.f7 = some c7 := by kernel_rfl
def c8 : AF := ⟨2,17,[(4,(some 5)),(5,none)],(.seq (.ops [q 2 (.box (.t 0)),q 4 (.al [(.v (.int .i64 0)),(.v (.int .i64 0)),(.v (.int .i64 0)),(.v (.int .i64 0)),(.nil 0)]),q 5 (.mv (.c (.v (.int .i64 0))))]) (.seq (.seq (.ops [q 6 (.ld (.t 2) 5),q 7 (.call 46 [(.t 6)]),q 8 (.un .not (.t 7))]) (.cond (.t 8) (.seq (.ops [q 9 (.bld [(.v (.int .i64 0)),(.v (.int .i64 0)),(.v (.int .i64 0)),(.v (.int .i64 0)),(.nil 0)] []),⟨none,none,.st (.t 4) (.t 9) 5⟩,q 5 (.mv (.c (.v (.int .i64 1))))]) .ret) .skip)) (.seq (.seq (.ops [q 10 (.mv (.t 1)),q 11 (.call 47 [(.t 10)]),q 12 (.un .not (.t 11))]) (.cond (.t 12) (.seq (.ops [q 13 (.bld [(.v (.int .i64 0)),(.v (.int .i64 0)),(.v (.int .i64 0)),(.v (.int .i64 0)),(.nil 0)] []),⟨none,none,.st (.t 4) (.t 13) 5⟩,q 5 (.mv (.c (.v (.int .i64 2))))]) .ret) .skip)) (.seq (.ops [q 14 (.ld (.t 2) 5),q 15 (.mv (.t 1)),q 16 (.call 48 [(.t 14),(.t 15)]),⟨none,none,.st (.t 4) (.t 16) 5⟩,q 5 (.mv (.c (.v (.int .i64 0))))]) .ret))))⟩
theorem k8 : cF Tryz.prog Tryz.f8 = some c8 := by kernel_rfl
def c9 : AF := ⟨2,18,[(4,(some 5)),(5,none)],(.seq (.ops [q 2 (.box (.t 0)),q 4 (.al [(.v (.int .i64 0)),(.v (.int .i64 0)),(.v (.int .i64 0)),(.v (.int .i64 0)),(.nil 0)]),q 5 (.mv (.c (.v (.int .i64 0))))]) (.seq (.reg [0,0,2,7,15] [q 7 (.ld (.t 2) 5),q 8 (.mv (.t 1)),q 9 (.call 50 [(.t 8)]),q 10 (.call 49 [(.t 7),(.t 9)]),q 6 (.mv (.t 10))]) (.seq (.seq (.ops [q 11 (.mv (.t 6)),q 12 (.bin .neq (.t 11) (.c (.v (.int .i64 0))))]) (.cond (.t 12) (.seq (.ops [q 13 (.bld [(.v (.int .i64 0)),(.v (.int .i64 0)),(.v (.int .i64 0)),(.v (.int .i64 0)),(.nil 0)] []),q 14 (.mv (.t 6)),⟨none,none,.st (.t 4) (.t 13) 5⟩,q 5 (.mv (.t 14))]) .ret) .skip)) (.seq (.ops [q 15 (.ld (.t 2) 5),q 16 (.mv (.t 1)),q 17 (.call 51 [(.t 15),(.t 16)]),⟨none,none,.st (.t 4) (.t 17) 5⟩,q 5 (.mv (.c (.v (.int .i64 0))))]) .ret))))⟩
theorem k9 : cF Tryz.prog Tryz.f9 = some c9 := by kernel_rfl
def c10 : AF := ⟨2,40,[(4,none),(5,none)],(.seq (.ops [q 2 (.box (.t 0)),q 4 (.mv (.c (.v (.int .i64 0)))),q 5 (.mv (.c (.v (.int .i64 0))))]) (.seq (.ops [q 12 (.ld (.t 2) 5),q 13 (.mv (.t 1)),q 14 (.call 8 [(.t 12),(.t 13)]),q 11 (.mv (.t 14)),q 15 (.ext (.t 11) 0),q 16 (.ext (.t 11) 1),q 6 (.al [(.v (.int .i64 0)),(.v (.int .i64 0)),(.v (.int .i64 0)),(.v (.int .i64 0)),(.nil 0)]),⟨none,none,.st (.t 6) (.t 15) 5⟩,q 7 (.mv (.t 16))]) (.seq (.ops [q 8 (.mv (.c (.v (.int .i64 0))))]) (.seq (.seq (.ops [q 17 (.fa (.t 6) 4),q 18 (.ld (.t 17) 0),q 19 (.len false (.t 18)),q 20 (.mv (.c (.v (.int .i64 0))))]) (.block 0 (.loop (.seq (.ops [q 21 (.bin .lss (.t 20) (.t 19))]) (.seq (.cond (.t 21) .skip (.exit 0)) (.seq (.block 1 (.seq (.ops [q 22 (.mv (.t 20)),q 23 (.ia (.t 18) (.t 20) 0),q 24 (.ld (.t 23) 0),q 9 (.mv (.t 22)),q 10 (.mv (.t 24))]) (.seq (.ops [q 25 (.mv (.t 10)),q 26 (.bin .eql (.t 25) (.c (.v (.int .i64 0)))),q 27 (.mv (.t 26)),⟨(some 28),(some (27,true)),.fa (.t 2) 4⟩,⟨(some 29),(some (27,true)),.ld (.t 28) 0⟩,⟨(some 30),(some (27,true)),.mv (.t 9)⟩,⟨(some 31),(some (27,true)),.ia (.t 29) (.t 30) 0⟩,⟨(some 32),(some (27,true)),.ld (.t 31) 0⟩,⟨(some 33),(some (27,true)),.bin .neq (.t 32) (.c (.v (.int .i64 0)))⟩,q 34 (.pick (.t 27) (.t 33) (.c (.v (.bool false))))]) (.cond (.t 34) (.ops [q 35 (.mv (.t 8)),q 36 (.bin .add (.t 35) (.c (.v (.int .i64 1)))),q 8 (.mv (.t 36))]) .skip)))) (.ops [q 37 (.bin .add (.t 20) (.c (.v (.int .i64 1)))),q 20 (.mv (.t 37))]))))))) (.seq (.ops [q 38 (.mv (.t 8)),q 39 (.mv (.t 7)),q 4 (.mv (.t 38)),q 5 (.mv (.t 39))]) .ret)))))⟩
theorem k10 : cF Tryz.prog Tryz.f10 = some c10 := by kernel_rfl
def c11 : AF := ⟨2,44,[(4,none),(5,none)],(.seq (.ops [q 2 (.box (.t 0)),q 4 (.mv (.c (.v (.int .i64 0)))),q 5 (.mv (.c (.v (.int .i64 0))))]) (.seq (.reg [0,0,2,7,15] [q 10 (.ld (.t 2) 5),q 11 (.mv (.t 1)),q 12 (.call 50 [(.t 11)]),q 13 (.call 49 [(.t 10),(.t 12)]),q 6 (.mv (.t 13))]) (.seq (.seq (.ops [q 14 (.mv (.t 6)),q 15 (.bin .neq (.t 14) (.c (.v (.int .i64 0))))]) (.cond (.t 15) (.seq (.ops [q 16 (.mv (.t 6)),q 4 (.mv (.c (.v (.int .i64 0)))),q 5 (.mv (.t 16))]) .ret) .skip)) (.seq (.ops [q 17 (.ld (.t 2) 5),q 18 (.mv (.t 1)),q 19 (.call 51 [(.t 17),(.t 18)]),q 7 (.al [(.v (.int .i64 0)),(.v (.int .i64 0)),(.v (.int .i64 0)),(.v (.int .i64 0)),(.nil 0)]),⟨none,none,.st (.t 7) (.t 19) 5⟩]) (.seq (.ops [q 8 (.mv (.c (.v (.int .i64 0))))]) (.seq (.seq (.ops [q 9 (.mv (.c (.v (.int .i64 0))))]) (.block 0 (.loop (.seq (.seq (.ops [q 20 (.mv (.t 9)),q 21 (.fa (.t 2) 4),q 22 (.ld (.t 21) 0),q 23 (.len false (.t 22)),q 24 (.bin .lss (.t 20) (.t 23))]) (.cond (.t 24) .skip (.exit 0))) (.seq (.block 1 (.seq (.ops [q 27 (.fa (.t 2) 4),q 28 (.ld (.t 27) 0),q 29 (.mv (.t 9)),q 30 (.ia (.t 28) (.t 29) 0),q 31 (.ld (.t 30) 0),q 32 (.bin .gtr (.t 31) (.c (.v (.int .i64 0)))),q 33 (.mv (.t 32)),⟨(some 34),(some (33,true)),.fa (.t 7) 4⟩,⟨(some 35),(some (33,true)),.ld (.t 34) 0⟩,⟨(some 36),(some (33,true)),.mv (.t 9)⟩,⟨(some 37),(some (33,true)),.ia (.t 35) (.t 36) 0⟩,⟨(some 38),(some (33,true)),.ld (.t 37) 0⟩,⟨(some 39),(some (33,true)),.bin .eql (.t 38) (.c (.v (.int .i64 0)))⟩,q 40 (.pick (.t 33) (.t 39) (.c (.v (.bool false))))]) (.cond (.t 40) (.ops [q 41 (.mv (.t 8)),q 42 (.bin .add (.t 41) (.c (.v (.int .i64 1)))),q 8 (.mv (.t 42))]) .skip))) (.ops [q 25 (.mv (.t 9)),q 26 (.bin .add (.t 25) (.c (.v (.int .i64 1)))),q 9 (.mv (.t 26))])))))) (.seq (.ops [q 43 (.mv (.t 8)),q 4 (.mv (.t 43)),q 5 (.mv (.c (.v (.int .i64 0))))]) .ret)))))))⟩
theorem k11 : cF Tryz.prog Tryz.f11 = some c11 := by kernel_rfl
def c12 : AF := ⟨1,43,[(2,(some 5)),(3,(some 5))],(.seq (.ops [q 2 (.al [(.v (.int .i64 0)),(.v (.int .i64 0)),(.v (.int .i64 0)),(.v (.int .i64 0)),(.nil 0)]),q 3 (.al [(.v (.int .i64 0)),(.v (.int .i64 0)),(.v (.int .i64 0)),(.v (.int .i64 0)),(.nil 0)])]) (.seq (.ops [q 7 (.mv (.t 0)),q 8 (.call 43 [(.t 7)]),q 4 (.mv (.t 8))]) (.seq (.ops [q 9 (.mv (.t 4)),q 10 (.call 44 [(.t 9)]),q 5 (.al [(.v (.int .i64 0)),(.v (.int .i64 0)),(.v (.int .i64 0)),(.v (.int .i64 0)),(.nil 0)]),⟨none,none,.st (.t 5) (.t 10) 5⟩]) (.seq (.seq (.ops [q 11 (.ld (.t 5) 5),q 12 (.call 52 [(.t 11)]),q 13 (.un .not (.t 12)),q 14 (.mv (.t 13)),⟨(some 15),(some (14,false)),.mv (.t 4)⟩,⟨(some 16),(some (14,false)),.call 53 [(.t 15),(.c (.v (.int .i64 6)))]⟩,⟨(some 17),(some (14,false)),.bin .eql (.t 16) (.c (.v (.int .i64 0)))⟩,q 18 (.pick (.t 14) (.c (.v (.bool true))) (.t 17))]) (.cond (.t 18) (.seq (.reg [0,0,2,7,15] [q 19 (.ld (.t 5) 5),q 20 (.mv (.t 4)),q 21 (.call 44 [(.t 20)]),⟨none,none,.st (.t 2) (.t 19) 5⟩,⟨none,none,.st (.t 3) (.t 21) 5⟩]) .ret) .skip)) (.seq (.reg [0,0,0,6,14,0,46,110,254,510,1023,0,4095] [q 22 (.ld (.t 5) 5),q 23 (.call 55 []),q 24 (.mv (.t 4)),q 25 (.call 53 [(.t 24),(.c (.v (.int .i64 9)))]),q 26 (.bin .sub (.t 25) (.c (.v (.int .i64 4)))),q 27 (.mv (.t 4)),q 28 (.call 53 [(.t 27),(.c (.v (.int .i64 9)))]),q 29 (.bin .sub (.t 28) (.c (.v (.int .i64 4)))),q 30 (.bld [(.v (.int .i64 0)),(.v (.int .i64 0))] [(0,1,(.t 26)),(1,1,(.t 29))]),q 31 (.bld [(.v (.int .i64 0)),(.v (.int .i64 0)),(.v (.int .i64 0)),(.v (.int .i64 0)),(.v (.int .i64 0)),(.v (.int .i64 0))] [(0,4,(.t 23)),(4,2,(.t 30))]),q 32 (.call 54 [(.t 22),(.t 31)]),q 6 (.al [(.v (.int .i64 0)),(.v (.int .i64 0)),(.v (.int .i64 0)),(.v (.int .i64 0)),(.nil 0)]),⟨none,none,.st (.t 6) (.t 32) 5⟩]) (.seq (.seq (.ops [q 33 (.mv (.t 4)),q 34 (.call 53 [(.t 33),(.c (.v (.int .i64 5)))]),q 35 (.bin .eql (.t 34) (.c (.v (.int .i64 0))))]) (.cond (.t 35) (.reg [0,1,0,4,15,31] [q 36 (.fa (.t 6) 4),q 37 (.ld (.t 36) 0),q 38 (.mv (.t 4)),q 39 (.call 53 [(.t 38),(.c (.v (.int .i64 3)))]),q 40 (.ia (.t 37) (.c (.v (.int .i64 0))) 0),⟨none,none,.st (.t 40) (.t 39) 0⟩]) .skip)) (.seq (.reg [0,0,1,7] [q 41 (.ld (.t 5) 5),q 42 (.ld (.t 6) 5),⟨none,none,.st (.t 2) (.t 41) 5⟩,⟨none,none,.st (.t 3) (.t 42) 5⟩]) .ret)))))))⟩
theorem k12 : cF Tryz.prog Tryz.f12 = some c12 := by kernel_rfl
def c13 : AF := ⟨2,42,[(4,(some 2)),(5,none)],(.seq (.ops [q 2 (.box (.t 0)),q 3 (.box (.t 1)),q 4 (.al [(.v (.int .i64 0)),(.v (.int .i64 0))]),q 5 (.mv (.c (.v (.int .i64 0))))]) (.seq (.seq (.ops [q 8 (.ld (.t 2) 5),q 9 (.call 46 [(.t 8)]),q 10 (.un .not (.t 9)),q 11 (.mv (.t 10)),⟨(some 12),(some (11,false)),.ld (.t 3) 5⟩,⟨(some 13),(some (11,false)),.call 46 [(.t 12)]⟩,⟨(some 14),(some (11,false)),.un .not (.t 13)⟩,q 15 (.pick (.t 11) (.c (.v (.bool true))) (.t 14))]) (.cond (.t 15) (.seq (.ops [q 16 (.bld [(.v (.int .i64 0)),(.v (.int .i64 0))] []),⟨none,none,.st (.t 4) (.t 16) 2⟩,q 5 (.mv (.c (.v (.int .i64 1))))]) .ret) .skip)) (.seq (.seq (.ops [q 17 (.ld (.t 2) 5),q 18 (.ld (.t 3) 5),q 19 (.call 56 [(.t 17),(.t 18)]),q 20 (.un .not (.t 19))]) (.cond (.t 20) (.seq (.ops [q 21 (.bld [(.v (.int .i64 0)),(.v (.int .i64 0))] []),⟨none,none,.st (.t 4) (.t 21) 2⟩,q 5 (.mv (.c (.v (.int .i64 2))))]) .ret) .skip)) (.seq (.seq (.ops [q 22 (.fa (.t 2) 1),q 23 (.ld (.t 22) 3),q 24 (.call 57 [(.t 23)]),q 25 (.len false (.t 24)),q 26 (.mv (.c (.v (.int .i64 0))))]) (.block 0 (.loop (.seq (.ops [q 27 (.bin .lss (.t 26) (.t 25))]) (.seq (.cond (.t 27) .skip (.exit 0)) (.seq (.block 1 (.seq (.ops [q 28 (.ia (.t 24) (.t 26) 2),q 29 (.ld (.t 28) 2),q 7 (.al [(.v (.int .i64 0)),(.v (.int .i64 0))]),⟨none,none,.st (.t 7) (.t 29) 2⟩]) (.seq (.reg [0,0,0,6,15,31,0,64,255] [q 30 (.ld (.t 2) 5),q 31 (.call 60 []),q 32 (.ld (.t 7) 2),q 33 (.bld [(.v (.int .i64 0)),(.v (.int .i64 0)),(.v (.int .i64 0)),(.v (.int .i64 0)),(.v (.int .i64 0)),(.v (.int .i64 0))] [(0,4,(.t 31)),(4,2,(.t 32))]),q 34 (.call 59 [(.t 30),(.t 33)]),q 35 (.fld (.t 34) 4 0),q 36 (.fa (.t 3) 4),q 37 (.ld (.t 36) 0),q 38 (.call 58 [(.t 35),(.t 37)])]) (.cond (.t 38) (.seq (.ops [q 39 (.ld (.t 7) 2),⟨none,none,.st (.t 4) (.t 39) 2⟩,q 5 (.mv (.c (.v (.int .i64 0))))]) .ret) .skip)))) (.ops [q 40 (.bin .add (.t 26) (.c (.v (.int .i64 1)))),q 26 (.mv (.t 40))]))))))) (.seq (.ops [q 41 (.bld [(.v (.int .i64 0)),(.v (.int .i64 0))] []),⟨none,none,.st (.t 4) (.t 41) 2⟩,q 5 (.mv (.c (.v (.int .i64 4))))]) .ret)))))⟩
theorem k13 : cF Tryz.prog Tryz.f13 = some c13 := by kernel_rfl
def c14 : AF := ⟨2,56,[(4,(some 2)),(5,none)],(.seq (.ops [q 2 (.box (.t 0)),q 3 (.box (.t 1)),q 4 (.al [(.v (.int .i64 0)),(.v (.int .i64 0))]),q 5 (.mv (.c (.v (.int .i64 0))))]) (.seq (.block 0 (.seq (.ops [q 9 (.ld (.t 2) 5),q 10 (.call 52 [(.t 9)]),q 11 (.un .not (.t 10)),q 12 (.mv (.t 11)),⟨(some 13),(some (12,false)),.ld (.t 3) 5⟩,⟨(some 14),(some (12,false)),.call 52 [(.t 13)]⟩,⟨(some 15),(some (12,false)),.un .not (.t 14)⟩,q 16 (.pick (.t 12) (.c (.v (.bool true))) (.t 15)),q 8 (.mv (.t 16))]) (.cond (.t 8) (.seq (.ops [q 17 (.bld [(.v (.int .i64 0)),(.v (.int .i64 0))] []),⟨none,none,.st (.t 4) (.t 17) 2⟩,q 5 (.mv (.c (.v (.int .i64 1))))]) .ret) (.seq (.ops [q 19 (.fa (.t 2) 0),q 20 (.ld (.t 19) 0),q 21 (.fa (.t 3) 0),q 22 (.ld (.t 21) 0),q 23 (.bin .neq (.t 20) (.t 22)),q 24 (.mv (.t 23)),⟨(some 25),(some (24,false)),.fa (.t 2) 1⟩,⟨(some 26),(some (24,false)),.ld (.t 25) 3⟩,⟨(some 27),(some (24,false)),.fa (.t 3) 1⟩,⟨(some 28),(some (24,false)),.ld (.t 27) 3⟩,⟨(some 29),(some (24,false)),.eq true 3 [1,1,1] (.t 26) (.t 28)⟩,q 30 (.pick (.t 24) (.c (.v (.bool true))) (.t 29)),q 18 (.mv (.t 30))]) (.cond (.t 18) (.seq (.ops [q 31 (.bld [(.v (.int .i64 0)),(.v (.int .i64 0))] []),⟨none,none,.st (.t 4) (.t 31) 2⟩,q 5 (.mv (.c (.v (.int .i64 2))))]) .ret) .skip))))) (.seq (.ops [q 32 (.fa (.t 2) 1),q 33 (.ld (.t 32) 3),q 34 (.call 61 [(.t 33)]),q 6 (.mv (.t 34))]) (.seq (.seq (.ops [q 7 (.mv (.c (.v (.int .i64 0))))]) (.block 1 (.loop (.seq (.seq (.ops [q 35 (.mv (.t 7)),q 36 (.mv (.t 6)),q 37 (.len false (.t 36)),q 38 (.bin .lss (.t 35) (.t 37))]) (.cond (.t 38) .skip (.exit 1))) (.seq (.block 2 (.seq (.reg [0,0,0,0,12,28,62,127,0,511] [q 41 (.ld (.t 2) 5),q 42 (.call 55 []),q 43 (.mv (.t 6)),q 44 (.mv (.t 7)),q 45 (.ia (.t 43) (.t 44) 2),q 46 (.ld (.t 45) 2),q 47 (.bld [(.v (.int .i64 0)),(.v (.int .i64 0)),(.v (.int .i64 0)),(.v (.int .i64 0)),(.v (.int .i64 0)),(.v (.int .i64 0))] [(0,4,(.t 42)),(4,2,(.t 46))]),q 48 (.call 54 [(.t 41),(.t 47)]),q 49 (.ld (.t 3) 5),q 50 (.call 62 [(.t 48),(.t 49)])]) (.cond (.t 50) (.seq (.ops [q 51 (.mv (.t 6)),q 52 (.mv (.t 7)),q 53 (.ia (.t 51) (.t 52) 2),q 54 (.ld (.t 53) 2),⟨none,none,.st (.t 4) (.t 54) 2⟩,q 5 (.mv (.c (.v (.int .i64 0))))]) .ret) .skip))) (.ops [q 39 (.mv (.t 7)),q 40 (.bin .add (.t 39) (.c (.v (.int .i64 1)))),q 7 (.mv (.t 40))])))))) (.seq (.ops [q 55 (.bld [(.v (.int .i64 0)),(.v (.int .i64 0))] []),⟨none,none,.st (.t 4) (.t 55) 2⟩,q 5 (.mv (.c (.v (.int .i64 4))))]) .ret)))))⟩
theorem k14 : cF Tryz.prog Tryz.f14 = some c14 := by kernel_rfl
def c15 : AF := ⟨2,24,[(4,none)],(.seq (.ops [q 2 (.box (.t 0)),q 3 (.box (.t 1)),q 4 (.mv (.c (.v (.bool false))))]) (.seq (.ops [q 5 (.fa (.t 2) 0),q 6 (.ld (.t 5) 0),q 7 (.fa (.t 3) 0),q 8 (.ld (.t 7) 0),q 9 (.bin .eql (.t 6) (.t 8)),q 10 (.mv (.t 9)),⟨(some 11),(some (10,true)),.fa (.t 2) 1⟩,⟨(some 12),(some (10,true)),.ld (.t 11) 3⟩,⟨(some 13),(some (10,true)),.fa (.t 3) 1⟩,⟨(some 14),(some (10,true)),.ld (.t 13) 3⟩,⟨(some 15),(some (10,true)),.eq false 3 [1,1,1] (.t 12) (.t 14)⟩,q 16 (.pick (.t 10) (.t 15) (.c (.v (.bool false)))),q 17 (.mv (.t 16)),⟨(some 18),(some (17,true)),.fa (.t 2) 4⟩,⟨(some 19),(some (17,true)),.ld (.t 18) 0⟩,⟨(some 20),(some (17,true)),.fa (.t 3) 4⟩,⟨(some 21),(some (17,true)),.ld (.t 20) 0⟩,⟨(some 22),(some (17,true)),.call 39 [(.t 19),(.t 21)]⟩,q 23 (.pick (.t 17) (.t 22) (.c (.v (.bool false)))),q 4 (.mv (.t 23))]) .ret))⟩
theorem k15 : cF Tryz.prog Tryz.f15 = some c15 := by kernel_rfl
def c16 : AF := ⟨2,26,[(4,(some 5)),(5,none)],(.seq (.ops [q 2 (.box (.t 0)),q 3 (.box (.t 1)),q 4 (.al [(.v (.int .i64 0)),(.v (.int .i64 0)),(.v (.int .i64 0)),(.v (.int .i64 0)),(.nil 0)]),q 5 (.mv (.c (.v (.int .i64 0))))]) (.seq (.seq (.ops [q 6 (.ld (.t 2) 5),q 7 (.call 46 [(.t 6)]),q 8 (.un .not (.t 7))]) (.cond (.t 8) (.seq (.ops [q 9 (.bld [(.v (.int .i64 0)),(.v (.int .i64 0)),(.v (.int .i64 0)),(.v (.int .i64 0)),(.nil 0)] []),⟨none,none,.st (.t 4) (.t 9) 5⟩,q 5 (.mv (.c (.v (.int .i64 1))))]) .ret) .skip)) (.seq (.seq (.ops [q 10 (.fa (.t 2) 0),q 11 (.ld (.t 10) 0),q 12 (.fa (.t 3) 0),q 13 (.ld (.t 12) 4),q 14 (.call 63 [(.t 11),(.t 13)]),q 15 (.un .not (.t 14)),q 16 (.mv (.t 15)),⟨(some 17),(some (16,false)),.fa (.t 3) 4⟩,⟨(some 18),(some (16,false)),.ld (.t 17) 2⟩,⟨(some 19),(some (16,false)),.call 64 [(.t 18)]⟩,⟨(some 20),(some (16,false)),.un .not (.t 19)⟩,q 21 (.pick (.t 16) (.c (.v (.bool true))) (.t 20))]) (.cond (.t 21) (.seq (.ops [q 22 (.bld [(.v (.int .i64 0)),(.v (.int .i64 0)),(.v (.int .i64 0)),(.v (.int .i64 0)),(.nil 0)] []),⟨none,none,.st (.t 4) (.t 22) 5⟩,q 5 (.mv (.c (.v (.int .i64 2))))]) .ret) .skip)) (.seq (.ops [q 23 (.ld (.t 2) 5),q 24 (.ld (.t 3) 6),q 25 (.call 59 [(.t 23),(.t 24)]),⟨none,none,.st (.t 4) (.t 25) 5⟩,q 5 (.mv (.c (.v (.int .i64 0))))]) .ret))))⟩
theorem k16 : cF Tryz.prog Tryz.f16 = some c16 := by kernel_rfl
def c39 : AF := ⟨2,26,[(4,none)],(.seq (.ops [q 4 (.mv (.c (.v (.bool false))))]) (.seq (.seq (.ops [q 6 (.mv (.t 0)),q 7 (.len false (.t 6)),q 8 (.mv (.t 1)),q 9 (.len false (.t 8)),q 10 (.bin .neq (.t 7) (.t 9))]) (.cond (.t 10) (.seq (.ops [q 4 (.mv (.c (.v (.bool false))))]) .ret) .skip)) (.seq (.seq (.ops [q 5 (.mv (.c (.v (.int .i64 0))))]) (.block 0 (.loop (.seq (.seq (.ops [q 11 (.mv (.t 5)),q 12 (.mv (.t 0)),q 13 (.len false (.t 12)),q 14 (.bin .lss (.t 11) (.t 13))]) (.cond (.t 14) .skip (.exit 0))) (.seq (.block 1 (.seq (.reg [0,0,3,7,0,0,48,112,255] [q 17 (.mv (.t 0)),q 18 (.mv (.t 5)),q 19 (.ia (.t 17) (.t 18) 0),q 20 (.ld (.t 19) 0),q 21 (.mv (.t 1)),q 22 (.mv (.t 5)),q 23 (.ia (.t 21) (.t 22) 0),q 24 (.ld (.t 23) 0),q 25 (.bin .neq (.t 20) (.t 24))]) (.cond (.t 25) (.seq (.ops [q 4 (.mv (.c (.v (.bool false))))]) .ret) .skip))) (.ops [q 15 (.mv (.t 5)),q 16 (.bin .add (.t 15) (.c (.v (.int .i64 1)))),q 5 (.mv (.t 16))])))))) (.seq (.ops [q 4 (.mv (.c (.v (.bool true))))]) .ret))))⟩
theorem k39 : cF Tryz.prog Tryz.f39 = some c39 := by kernel_rfl
def c40 : AF := ⟨2,38,[(4,none)],(.seq (.ops [q 4 (.mv (.c .un))]) (.seq (.ops [q 7 (.mv (.t 0)),q 8 (.mv (.t 1)),q 9 (.bin .mul (.t 8) (.c (.v (.int .u64 9311)))),q 10 (.mv (.t 0)),q 11 (.len false (.t 10)),q 12 (.conv .u64 (.t 11)),q 13 (.bin .add (.t 9) (.t 12)),q 14 (.bld [(.nil 0),(.v (.int .i64 0)),(.v (.int .u64 0))] [(0,1,(.t 7)),(2,1,(.t 13))]),q 15 (.box (.t 14)),q 5 (.mv (.t 15))]) (.seq (.seq (.ops [q 6 (.mv (.c (.v (.int .i64 0))))]) (.block 0 (.loop (.seq (.seq (.ops [q 16 (.mv (.t 6)),q 17 (.mv (.t 0)),q 18 (.len false (.t 17)),q 19 (.bin .lss (.t 16) (.t 18))]) (.cond (.t 19) .skip (.exit 0))) (.seq (.block 1 (.reg [0,0,2,6,14,30,0,0,192,448,960,2046,4094,8191,16383,32767] [q 22 (.mv (.t 5)),q 23 (.mv (.t 5)),q 24 (.nck (.t 23)),q 25 (.fa (.t 24) 2),q 26 (.ld (.t 25) 0),q 27 (.bin .mul (.t 26) (.c (.v (.int .u64 1099511628211)))),q 28 (.mv (.t 0)),q 29 (.mv (.t 6)),q 30 (.ia (.t 28) (.t 29) 0),q 31 (.ld (.t 30) 0),q 32 (.conv .u64 (.t 31)),q 33 (.bin .add (.t 27) (.t 32)),q 34 (.bin .add (.t 33) (.c (.v (.int .u64 5)))),q 35 (.nck (.t 22)),q 36 (.fa (.t 35) 2),⟨none,none,.st (.t 36) (.t 34) 0⟩])) (.ops [q 20 (.mv (.t 6)),q 21 (.bin .add (.t 20) (.c (.v (.int .i64 1)))),q 6 (.mv (.t 21))])))))) (.seq (.ops [q 37 (.mv (.t 5)),q 4 (.mv (.t 37))]) .ret))))⟩
theorem k40 : cF Tryz.prog Tryz.f40 = some c40 := by kernel_rfl
def c41 : AF := ⟨2,56,[(4,none)],(.seq (.ops [q 4 (.mv (.c (.v (.int .i64 0))))]) (.seq (.ops [q 6 (.mv (.t 0)),q 7 (.mv (.t 0)),q 8 (.nck (.t 7)),q 9 (.fa (.t 8) 2),q 10 (.ld (.t 9) 0),q 11 (.bin .mul (.t 10) (.c (.v (.int .u64 6364136223846793005)))),q 12 (.bin .add (.t 11) (.c (.v (.int .u64 1442695040888963407)))),q 13 (.nck (.t 6)),q 14 (.fa (.t 13) 2),⟨none,none,.st (.t 14) (.t 12) 0⟩]) (.seq (.ops [q 15 (.mv (.t 0)),q 16 (.nck (.t 15)),q 17 (.fa (.t 16) 2),q 18 (.ld (.t 17) 0),q 19 (.bin .shr (.t 18) (.c (.v (.int .u64 33)))),q 20 (.bin .and (.t 19) (.c (.v (.int .u64 16777215)))),q 21 (.conv .i64 (.t 20)),q 5 (.mv (.t 21))]) (.seq (.seq (.reg [0,1,3,7,0,16,48,112,240,511] [q 22 (.mv (.t 0)),q 23 (.nck (.t 22)),q 24 (.fa (.t 23) 1),q 25 (.ld (.t 24) 0),q 26 (.mv (.t 0)),q 27 (.nck (.t 26)),q 28 (.fa (.t 27) 0),q 29 (.ld (.t 28) 0),q 30 (.len false (.t 29)),q 31 (.bin .lss (.t 25) (.t 30))]) (.cond (.t 31) (.seq (.reg [0,0,2,6,14,0,32,96,224,510,1022,2046,4095,8191] [q 32 (.mv (.t 5)),q 33 (.mv (.t 0)),q 34 (.nck (.t 33)),q 35 (.fa (.t 34) 0),q 36 (.ld (.t 35) 0),q 37 (.mv (.t 0)),q 38 (.nck (.t 37)),q 39 (.fa (.t 38) 1),q 40 (.ld (.t 39) 0),q 41 (.ia (.t 36) (.t 40) 0),q 42 (.ld (.t 41) 0),q 43 (.conv .i64 (.t 42)),q 44 (.bin .add (.t 32) (.t 43)),q 5 (.mv (.t 44))]) (.ops [q 45 (.mv (.t 0)),q 46 (.mv (.t 0)),q 47 (.nck (.t 46)),q 48 (.fa (.t 47) 1),q 49 (.ld (.t 48) 0),q 50 (.bin .add (.t 49) (.c (.v (.int .i64 1)))),q 51 (.nck (.t 45)),q 52 (.fa (.t 51) 1),⟨none,none,.st (.t 52) (.t 50) 0⟩])) .skip)) (.seq (.ops [q 53 (.mv (.t 5)),q 54 (.mv (.t 1)),q 55 (.bin .rem (.t 53) (.t 54)),q 4 (.mv (.t 55))]) .ret)))))⟩
theorem k41 : cF Tryz.prog Tryz.f41 = some c41 := by kernel_rfl
def c43 : AF := ⟨1,34,[(2,none)],(.seq (.ops [q 2 (.mv (.c .un))]) (.seq (.ops [q 5 (.mv (.t 0)),q 6 (.bld [(.nil 0),(.v (.int .i64 0)),(.v (.int .i64 0))] [(0,1,(.t 5)),(2,1,(.c (.v (.int .i64 93001))))]),q 7 (.box (.t 6)),q 3 (.mv (.t 7))]) (.seq (.seq (.ops [q 4 (.mv (.c (.v (.int .i64 0))))]) (.block 0 (.loop (.seq (.seq (.ops [q 8 (.mv (.t 4)),q 9 (.mv (.t 0)),q 10 (.len false (.t 9)),q 11 (.bin .lss (.t 8) (.t 10)),q 12 (.mv (.t 11)),⟨(some 13),(some (12,true)),.mv (.t 4)⟩,⟨(some 14),(some (12,true)),.bin .lss (.t 13) (.c (.v (.int .i64 64)))⟩,q 15 (.pick (.t 12) (.t 14) (.c (.v (.bool false))))]) (.cond (.t 15) .skip (.exit 0))) (.seq (.block 1 (.reg [0,0,2,6,14,30,0,0,192,448,960,2046,4094,8191,16383,32767] [q 18 (.mv (.t 3)),q 19 (.mv (.t 3)),q 20 (.nck (.t 19)),q 21 (.fa (.t 20) 2),q 22 (.ld (.t 21) 0),q 23 (.bin .mul (.t 22) (.c (.v (.int .i64 73)))),q 24 (.mv (.t 0)),q 25 (.mv (.t 4)),q 26 (.ia (.t 24) (.t 25) 0),q 27 (.ld (.t 26) 0),q 28 (.conv .i64 (.t 27)),q 29 (.bin .add (.t 23) (.t 28)),q 30 (.bin .rem (.t 29) (.c (.v (.int .i64 2147483647)))),q 31 (.nck (.t 18)),q 32 (.fa (.t 31) 2),⟨none,none,.st (.t 32) (.t 30) 0⟩])) (.ops [q 16 (.mv (.t 4)),q 17 (.bin .add (.t 16) (.c (.v (.int .i64 1)))),q 4 (.mv (.t 17))])))))) (.seq (.ops [q 33 (.mv (.t 3)),q 2 (.mv (.t 33))]) .ret))))⟩
theorem k43 : cF Tryz.prog Tryz.f43 = some c43 := by kernel_rfl
def c44 : AF := ⟨1,37,[(2,(some 5))],(.seq (.ops [q 2 (.al [(.v (.int .i64 0)),(.v (.int .i64 0)),(.v (.int .i64 0)),(.v (.int .i64 0)),(.nil 0)])]) (.seq (.ops [q 7 (.mv (.t 0)),q 8 (.call 85 [(.t 7)]),q 6 (.mv (.t 8)),q 9 (.ext (.t 6) 0),q 10 (.ext (.t 6) 1),q 4 (.al [(.v (.int .i64 0)),(.v (.int .i64 0)),(.v (.int .i64 0))]),q 3 (.mv (.t 9)),⟨none,none,.st (.t 4) (.t 10) 3⟩]) (.seq (.ops [q 11 (.mv (.t 0)),q 12 (.mv (.t 3)),q 13 (.ld (.t 4) 3),q 14 (.call 86 [(.t 11),(.t 12),(.t 13)]),q 5 (.al [(.v (.int .i64 0)),(.v (.int .i64 0)),(.v (.int .i64 0)),(.v (.int .i64 0)),(.nil 0)]),⟨none,none,.st (.t 5) (.t 14) 5⟩]) (.seq (.seq (.ops [q 15 (.mv (.t 0)),q 16 (.call 53 [(.t 15),(.c (.v (.int .i64 60)))])]) (.block 0 (.seq (.ops [q 18 (.bin .eql (.t 16) (.c (.v (.int .i64 0)))),q 17 (.mv (.t 18))]) (.cond (.t 17) (.ops [q 19 (.fa (.t 5) 4),q 20 (.ld (.t 19) 0),q 21 (.bsl 0 2 [(.c (.v (.int .i64 0)))]),q 22 (.app 0 2 8 (.t 20) (.t 21)),q 23 (.fa (.t 5) 4),⟨none,none,.st (.t 23) (.t 22) 0⟩]) (.seq (.ops [q 25 (.bin .eql (.t 16) (.c (.v (.int .i64 1)))),q 24 (.mv (.t 25))]) (.cond (.t 24) (.seq (.ops [q 26 (.fa (.t 5) 4),q 27 (.ld (.t 26) 0),q 28 (.len false (.t 27)),q 29 (.bin .gtr (.t 28) (.c (.v (.int .i64 0))))]) (.cond (.t 29) (.reg [0,1,0,0,12,31,63] [q 30 (.fa (.t 5) 4),q 31 (.ld (.t 30) 0),q 32 (.mv (.t 0)),q 33 (.bsl 0 2 [(.c (.v (.int .i64 (-1)))),(.c (.v (.int .i64 9))),(.c (.v (.int .i64 10)))]),q 34 (.call 66 [(.t 32),(.t 33)]),q 35 (.ia (.t 31) (.c (.v (.int .i64 0))) 0),⟨none,none,.st (.t 35) (.t 34) 0⟩]) .skip)) .skip)))))) (.seq (.ops [q 36 (.ld (.t 5) 5),⟨none,none,.st (.t 2) (.t 36) 5⟩]) .ret)))))⟩
theorem k44 : cF Tryz.prog Tryz.f44 = some c44 := by kernel_rfl
def c45 : AF := ⟨1,39,[(2,none)],(.seq (.ops [q 2 (.mv (.c (.nil 2)))]) (.seq (.ops [q 6 (.bsl 2 39 []),q 3 (.mv (.t 6))]) (.seq (.seq (.ops [q 4 (.mv (.c (.v (.int .i64 0))))]) (.block 0 (.loop (.seq (.seq (.ops [q 7 (.mv (.t 4)),q 8 (.bin .lss (.t 7) (.c (.v (.int .i64 9))))]) (.cond (.t 8) .skip (.exit 0))) (.seq (.block 1 (.seq (.ops [q 11 (.bld [(.v (.int .i64 0)),(.v (.int .i64 0))] []),q 5 (.al [(.v (.int .i64 0)),(.v (.int .i64 0))]),⟨none,none,.st (.t 5) (.t 11) 2⟩]) (.seq (.seq (.ops [q 12 (.mv (.t 0)),q 13 (.call 53 [(.t 12),(.c (.v (.int .i64 3)))]),q 14 (.bin .eql (.t 13) (.c (.v (.int .i64 0))))]) (.cond (.t 14) (.ops [q 15 (.mv (.t 0)),q 16 (.call 53 [(.t 15),(.c (.v (.int .i64 3)))]),q 17 (.bin .sub (.t 16) (.c (.v (.int .i64 1)))),q 18 (.mv (.t 0)),q 19 (.call 53 [(.t 18),(.c (.v (.int .i64 3)))]),q 20 (.bin .sub (.t 19) (.c (.v (.int .i64 1)))),q 21 (.bld [(.v (.int .i64 0)),(.v (.int .i64 0))] [(0,1,(.t 17)),(1,1,(.t 20))]),⟨none,none,.st (.t 5) (.t 21) 2⟩]) .skip)) (.ops [q 22 (.mv (.t 3)),q 23 (.ld (.t 5) 2),q 24 (.bsl 2 39 [(.t 23)]),q 25 (.app 2 39 16 (.t 22) (.t 24)),q 3 (.mv (.t 25))])))) (.ops [q 9 (.mv (.t 4)),q 10 (.bin .add (.t 9) (.c (.v (.int .i64 1)))),q 4 (.mv (.t 10))])))))) (.seq (.seq (.ops [q 26 (.mv (.t 0)),q 27 (.call 53 [(.t 26),(.c (.v (.int .i64 30)))])]) (.block 2 (.seq (.ops [q 29 (.bin .eql (.t 27) (.c (.v (.int .i64 0)))),q 28 (.mv (.t 29))]) (.cond (.t 28) (.seq (.ops [q 30 (.mv (.t 3)),q 31 (.sub 2 (.t 30) (some (.c (.v (.int .i64 1)))) none),q 2 (.mv (.t 31))]) .ret) (.seq (.ops [q 33 (.bin .eql (.t 27) (.c (.v (.int .i64 1)))),q 32 (.mv (.t 33))]) (.cond (.t 32) (.ops [q 34 (.mv (.t 3)),q 35 (.mv (.t 0)),q 36 (.call 87 [(.t 35)]),q 37 (.ia (.t 34) (.c (.v (.int .i64 0))) 2),⟨none,none,.st (.t 37) (.t 36) 2⟩]) .skip)))))) (.seq (.ops [q 38 (.mv (.t 3)),q 2 (.mv (.t 38))]) .ret)))))⟩
theorem k45 : cF Tryz.prog Tryz.f45 = some c45 := by kernel_rfl
def c46 : AF := ⟨1,25,[(2,none)],(.seq (.ops [q 1 (.box (.t 0)),q 2 (.mv (.c (.v (.bool false))))]) (.seq (.reg [0,1,3,7,15,31,63,127,255,511,1023,2047,511,4607,12799,32767,65535,131071,262143,524287,1048575,2097151,4194303] [q 3 (.fa (.t 1) 0),q 4 (.ld (.t 3) 0),q 5 (.call 88 [(.t 4)]),q 6 (.mv (.t 5)),⟨(some 7),(some (6,true)),.fa (.t 1) 1⟩,⟨(some 8),(some (6,true)),.ld (.t 7) 3⟩,⟨(some 9),(some (6,true)),.call 89 [(.t 8)]⟩,q 10 (.pick (.t 6) (.t 9) (.c (.v (.bool false)))),q 11 (.mv (.t 10)),⟨(some 12),(some (11,true)),.fa (.t 1) 4⟩,⟨(some 13),(some (11,true)),.ld (.t 12) 0⟩,⟨(some 14),(some (11,true)),.len false (.t 13)⟩,⟨(some 15),(some (11,true)),.fa (.t 1) 1⟩,⟨(some 16),(some (11,true)),.ld (.t 15) 3⟩,⟨(some 17),(some (11,true)),.call 90 [(.t 16)]⟩,⟨(some 18),(some (11,true)),.bin .eql (.t 14) (.t 17)⟩,q 19 (.pick (.t 11) (.t 18) (.c (.v (.bool false)))),q 20 (.mv (.t 19)),⟨(some 21),(some (20,true)),.fa (.t 1) 4⟩,⟨(some 22),(some (20,true)),.ld (.t 21) 0⟩,⟨(some 23),(some (20,true)),.call 91 [(.t 22),(.c (.v (.int .i64 0))),(.c (.v (.int .i64 9)))]⟩,q 24 (.pick (.t 20) (.t 23) (.c (.v (.bool false)))),q 2 (.mv (.t 24))]) .ret))⟩
theorem k46 : cF Tryz.prog Tryz.f46 = some c46 := by kernel_rfl
def c47 : AF := ⟨1,11,[(2,none)],(.seq (.ops [q 2 (.mv (.c (.v (.bool false))))]) (.seq (.ops [q 3 (.mv (.t 0)),q 4 (.len false (.t 3)),q 5 (.bin .eql (.t 4) (.c (.v (.int .i64 9)))),q 6 (.mv (.t 5)),⟨(some 7),(some (6,true)),.mv (.t 0)⟩,⟨(some 8),(some (6,true)),.call 92 [(.t 7),(.c (.fn 93 []))]⟩,⟨(some 9),(some (6,true)),.un .not (.t 8)⟩,q 10 (.pick (.t 6) (.t 9) (.c (.v (.bool false)))),q 2 (.mv (.t 10))]) .ret))⟩
theorem k47 : cF Tryz.prog Tryz.f47 = some c47 := by kernel_rfl
def c48 : AF := ⟨2,35,[(4,(some 5))],(.seq (.ops [q 2 (.box (.t 0)),q 4 (.al [(.v (.int .i64 0)),(.v (.int .i64 0)),(.v (.int .i64 0)),(.v (.int .i64 0)),(.nil 0)])]) (.seq (.ops [q 9 (.fa (.t 2) 0),q 10 (.ld (.t 9) 0),q 11 (.fa (.t 2) 1),q 12 (.ld (.t 11) 3),q 13 (.call 94 [(.t 10),(.t 12),(.c (.nil 2)),(.c (.v (.int .i64 0)))]),q 5 (.al [(.v (.int .i64 0)),(.v (.int .i64 0)),(.v (.int .i64 0)),(.v (.int .i64 0)),(.nil 0)]),⟨none,none,.st (.t 5) (.t 13) 5⟩]) (.seq (.seq (.ops [q 14 (.mv (.t 1)),q 15 (.len false (.t 14)),q 16 (.mv (.c (.v (.int .i64 0))))]) (.block 0 (.loop (.seq (.ops [q 17 (.bin .lss (.t 16) (.t 15))]) (.seq (.cond (.t 17) .skip (.exit 0)) (.seq (.block 1 (.seq (.ops [q 18 (.mv (.t 16)),q 19 (.ia (.t 14) (.t 16) 2),q 20 (.ld (.t 19) 2),q 7 (.al [(.v (.int .i64 0)),(.v (.int .i64 0))]),q 6 (.mv (.t 18)),⟨none,none,.st (.t 7) (.t 20) 2⟩]) (.seq (.ops [q 21 (.mv (.t 6)),q 22 (.bin .add (.t 21) (.c (.v (.int .i64 1)))),q 8 (.mv (.t 22))]) (.reg [0,0,0,6,14,0,62,126,0,511,1023] [q 23 (.ld (.t 5) 5),q 24 (.ld (.t 2) 5),q 25 (.mv (.t 8)),q 26 (.call 96 [(.t 24),(.t 25)]),q 27 (.call 60 []),q 28 (.ld (.t 7) 2),q 29 (.bld [(.v (.int .i64 0)),(.v (.int .i64 0)),(.v (.int .i64 0)),(.v (.int .i64 0)),(.v (.int .i64 0)),(.v (.int .i64 0))] [(0,4,(.t 27)),(4,2,(.t 28))]),q 30 (.call 59 [(.t 26),(.t 29)]),q 31 (.mv (.t 8)),q 32 (.call 95 [(.t 23),(.t 30),(.t 31)]),⟨none,none,.st (.t 5) (.t 32) 5⟩])))) (.ops [q 33 (.bin .add (.t 16) (.c (.v (.int .i64 1)))),q 16 (.mv (.t 33))]))))))) (.seq (.ops [q 34 (.ld (.t 5) 5),⟨none,none,.st (.t 4) (.t 34) 5⟩]) .ret))))⟩
theorem k48 : cF Tryz.prog Tryz.f48 = some c48 := by kernel_rfl
def c49 : AF := ⟨2,12,[(4,none)],(.seq (.ops [q 2 (.box (.t 0)),q 4 (.mv (.c (.v (.int .i64 0))))]) (.seq (.block 0 (.seq (.ops [q 6 (.ld (.t 2) 5),q 7 (.call 52 [(.t 6)]),q 8 (.un .not (.t 7)),q 5 (.mv (.t 8))]) (.cond (.t 5) (.seq (.ops [q 4 (.mv (.c (.v (.int .i64 1))))]) .ret) (.seq (.ops [q 10 (.mv (.t 1)),q 11 (.un .not (.t 10)),q 9 (.mv (.t 11))]) (.cond (.t 9) (.seq (.ops [q 4 (.mv (.c (.v (.int .i64 2))))]) .ret) .skip))))) (.seq (.ops [q 4 (.mv (.c (.v (.int .i64 0))))]) .ret)))⟩
theorem k49 : cF Tryz.prog Tryz.f49 = some c49 := by kernel_rfl
def c50 : AF := ⟨1,19,[(2,none)],(.seq (.ops [q 2 (.mv (.c (.v (.bool false))))]) (.seq (.seq (.ops [q 3 (.mv (.c (.v (.int .i64 0))))]) (.block 0 (.loop (.seq (.seq (.ops [q 4 (.mv (.t 3)),q 5 (.mv (.t 0)),q 6 (.len false (.t 5)),q 7 (.bin .lss (.t 4) (.t 6))]) (.cond (.t 7) .skip (.exit 0))) (.seq (.block 1 (.seq (.ops [q 10 (.mv (.t 0)),q 11 (.mv (.t 3)),q 12 (.ia (.t 10) (.t 11) 2),q 13 (.ld (.t 12) 2),q 14 (.call 97 [(.t 13)]),q 15 (.un .not (.t 14))]) (.cond (.t 15) (.seq (.ops [q 2 (.mv (.c (.v (.bool false))))]) .ret) .skip))) (.ops [q 8 (.mv (.t 3)),q 9 (.bin .add (.t 8) (.c (.v (.int .i64 1)))),q 3 (.mv (.t 9))])))))) (.seq (.ops [q 16 (.mv (.t 0)),q 17 (.len false (.t 16)),q 18 (.bin .eql (.t 17) (.c (.v (.int .i64 9)))),q 2 (.mv (.t 18))]) .ret)))⟩
theorem k50 : cF Tryz.prog Tryz.f50 = some c50 := by kernel_rfl
def c51 : AF := ⟨2,32,[(4,(some 5))],(.seq (.ops [q 2 (.box (.t 0)),q 4 (.al [(.v (.int .i64 0)),(.v (.int .i64 0)),(.v (.int .i64 0)),(.v (.int .i64 0)),(.nil 0)])]) (.seq (.reg [0,1,0,4,0,16,48,112,255,0,1023] [q 7 (.fa (.t 2) 0),q 8 (.ld (.t 7) 0),q 9 (.fa (.t 2) 1),q 10 (.ld (.t 9) 3),q 11 (.fa (.t 2) 4),q 12 (.ld (.t 11) 0),q 13 (.len false (.t 12)),q 14 (.mk 0 2 8 (.int .i64 0) (.t 13) (.t 13)),q 15 (.bld [(.v (.int .i64 0)),(.v (.int .i64 0)),(.v (.int .i64 0)),(.v (.int .i64 0)),(.nil 0)] [(0,1,(.t 8)),(1,3,(.t 10)),(4,1,(.t 14))]),q 5 (.al [(.v (.int .i64 0)),(.v (.int .i64 0)),(.v (.int .i64 0)),(.v (.int .i64 0)),(.nil 0)]),⟨none,none,.st (.t 5) (.t 15) 5⟩]) (.seq (.seq (.ops [q 6 (.mv (.c (.v (.int .i64 1))))]) (.block 0 (.loop (.seq (.seq (.ops [q 16 (.mv (.t 6)),q 17 (.bin .leq (.t 16) (.c (.v (.int .i64 9))))]) (.cond (.t 17) .skip (.exit 0))) (.seq (.block 1 (.reg [0,0,0,6,0,0,0,64,224,480,1023,2047] [q 20 (.ld (.t 5) 5),q 21 (.ld (.t 2) 5),q 22 (.mv (.t 6)),q 23 (.call 99 [(.t 21),(.t 22)]),q 24 (.mv (.t 6)),q 25 (.mv (.t 1)),q 26 (.mv (.t 6)),q 27 (.bin .sub (.t 26) (.c (.v (.int .i64 1)))),q 28 (.ia (.t 25) (.t 27) 2),q 29 (.ld (.t 28) 2),q 30 (.call 98 [(.t 20),(.t 23),(.t 24),(.t 29)]),⟨none,none,.st (.t 5) (.t 30) 5⟩])) (.ops [q 18 (.mv (.t 6)),q 19 (.bin .add (.t 18) (.c (.v (.int .i64 1)))),q 6 (.mv (.t 19))])))))) (.seq (.ops [q 31 (.ld (.t 5) 5),⟨none,none,.st (.t 4) (.t 31) 5⟩]) .ret))))⟩
theorem k51 : cF Tryz.prog Tryz.f51 = some c51 := by kernel_rfl
def c52 : AF := ⟨1,27,[(2,none)],(.seq (.ops [q 1 (.box (.t 0)),q 2 (.mv (.c (.v (.bool false))))]) (.seq (.ops [q 3 (.fa (.t 1) 0),q 4 (.ld (.t 3) 0),q 5 (.fa (.t 1) 1),q 6 (.ld (.t 5) 3),q 7 (.call 100 [(.t 4),(.t 6)]),q 8 (.bin .eql (.t 7) (.c (.v (.int .i64 0)))),q 9 (.mv (.t 8)),⟨(some 10),(some (9,true)),.fa (.t 1) 4⟩,⟨(some 11),(some (9,true)),.ld (.t 10) 0⟩,⟨(some 12),(some (9,true)),.len false (.t 11)⟩,⟨(some 13),(some (9,true)),.fa (.t 1) 1⟩,⟨(some 14),(some (9,true)),.fa (.t 13) 0⟩,⟨(some 15),(some (9,true)),.ld (.t 14) 0⟩,⟨(some 16),(some (9,true)),.fa (.t 1) 1⟩,⟨(some 17),(some (9,true)),.fa (.t 16) 2⟩,⟨(some 18),(some (9,true)),.ld (.t 17) 0⟩,⟨(some 19),(some (9,true)),.bin .mul (.t 15) (.t 18)⟩,⟨(some 20),(some (9,true)),.bin .eql (.t 12) (.t 19)⟩,q 21 (.pick (.t 9) (.t 20) (.c (.v (.bool false)))),q 22 (.mv (.t 21)),⟨(some 23),(some (22,true)),.fa (.t 1) 4⟩,⟨(some 24),(some (22,true)),.ld (.t 23) 0⟩,⟨(some 25),(some (22,true)),.call 101 [(.t 24),(.c (.v (.int .i64 64))),(.c (.v (.int .i64 0))),(.c (.v (.int .i64 9)))]⟩,q 26 (.pick (.t 22) (.t 25) (.c (.v (.bool false)))),q 2 (.mv (.t 26))]) .ret))⟩
theorem k52 : cF Tryz.prog Tryz.f52 = some c52 := by kernel_rfl
def c53 : AF := ⟨2,78,[(4,none)],(.seq (.ops [q 4 (.mv (.c (.v (.int .i64 0))))]) (.seq (.seq (.ops [q 6 (.mv (.t 1)),q 7 (.bin .leq (.t 6) (.c (.v (.int .i64 1))))]) (.cond (.t 7) (.seq (.ops [q 4 (.mv (.c (.v (.int .i64 0))))]) .ret) .skip)) (.seq (.ops [q 8 (.mv (.t 0)),q 9 (.mv (.t 0)),q 10 (.nck (.t 9)),q 11 (.fa (.t 10) 2),q 12 (.ld (.t 11) 0),q 13 (.bin .mul (.t 12) (.c (.v (.int .i64 48271)))),q 14 (.bin .add (.t 13) (.c (.v (.int .i64 67)))),q 15 (.bin .rem (.t 14) (.c (.v (.int .i64 2147483647)))),q 16 (.nck (.t 8)),q 17 (.fa (.t 16) 2),⟨none,none,.st (.t 17) (.t 15) 0⟩]) (.seq (.ops [q 18 (.mv (.t 0)),q 19 (.nck (.t 18)),q 20 (.fa (.t 19) 2),q 21 (.ld (.t 20) 0),q 22 (.bin .quo (.t 21) (.c (.v (.int .i64 37)))),q 5 (.mv (.t 22))]) (.seq (.seq (.reg [0,1,3,7,0,16,48,112,240,511] [q 23 (.mv (.t 0)),q 24 (.nck (.t 23)),q 25 (.fa (.t 24) 1),q 26 (.ld (.t 25) 0),q 27 (.mv (.t 0)),q 28 (.nck (.t 27)),q 29 (.fa (.t 28) 0),q 30 (.ld (.t 29) 0),q 31 (.len false (.t 30)),q 32 (.bin .lss (.t 26) (.t 31))]) (.cond (.t 32) (.seq (.reg [0,0,2,6,14,0,32,96,224,510,1022,2046,4095,8191] [q 33 (.mv (.t 5)),q 34 (.mv (.t 0)),q 35 (.nck (.t 34)),q 36 (.fa (.t 35) 0),q 37 (.ld (.t 36) 0),q 38 (.mv (.t 0)),q 39 (.nck (.t 38)),q 40 (.fa (.t 39) 1),q 41 (.ld (.t 40) 0),q 42 (.ia (.t 37) (.t 41) 0),q 43 (.ld (.t 42) 0),q 44 (.conv .i64 (.t 43)),q 45 (.bin .add (.t 33) (.t 44)),q 5 (.mv (.t 45))]) (.seq (.ops [q 46 (.mv (.t 0)),q 47 (.nck (.t 46)),q 48 (.fa (.t 47) 1),q 49 (.ld (.t 48) 0),q 50 (.bin .add (.t 49) (.c (.v (.int .i64 1)))),q 51 (.nck (.t 46)),q 52 (.fa (.t 51) 1),⟨none,none,.st (.t 52) (.t 50) 0⟩]) (.seq (.ops [q 53 (.mv (.t 1)),q 54 (.bin .leq (.t 53) (.c (.v (.int .i64 256)))),q 55 (.mv (.t 54)),⟨(some 56),(some (55,true)),.mv (.t 0)⟩,⟨(some 57),(some (55,true)),.nck (.t 56)⟩,⟨(some 58),(some (55,true)),.fa (.t 57) 1⟩,⟨(some 59),(some (55,true)),.ld (.t 58) 0⟩,⟨(some 60),(some (55,true)),.bin .rem (.t 59) (.c (.v (.int .i64 2)))⟩,⟨(some 61),(some (55,true)),.bin .eql (.t 60) (.c (.v (.int .i64 0)))⟩,q 62 (.pick (.t 55) (.t 61) (.c (.v (.bool false))))]) (.cond (.t 62) (.reg [0,1,3,7,0,16,48,112,240,511,1023,2047,4095] [q 63 (.mv (.t 0)),q 64 (.nck (.t 63)),q 65 (.fa (.t 64) 0),q 66 (.ld (.t 65) 0),q 67 (.mv (.t 0)),q 68 (.nck (.t 67)),q 69 (.fa (.t 68) 1),q 70 (.ld (.t 69) 0),q 71 (.bin .sub (.t 70) (.c (.v (.int .i64 1)))),q 72 (.ia (.t 66) (.t 71) 0),q 73 (.ld (.t 72) 0),q 74 (.conv .i64 (.t 73)),q 5 (.mv (.t 74))]) .skip)))) .skip)) (.seq (.ops [q 75 (.mv (.t 5)),q 76 (.mv (.t 1)),q 77 (.bin .rem (.t 75) (.t 76)),q 4 (.mv (.t 77))]) .ret))))))⟩
theorem k53 : cF Tryz.prog Tryz.f53 = some c53 := by kernel_rfl
def c54 : AF := ⟨2,47,[(4,(some 5))],(.seq (.ops [q 2 (.box (.t 0)),q 3 (.box (.t 1)),q 4 (.al [(.v (.int .i64 0)),(.v (.int .i64 0)),(.v (.int .i64 0)),(.v (.int .i64 0)),(.nil 0)])]) (.seq (.ops [q 9 (.fa (.t 3) 0),q 10 (.ld (.t 9) 4),q 11 (.fa (.t 2) 1),q 12 (.ld (.t 11) 3),q 13 (.call 102 [(.t 10),(.t 12)]),q 5 (.al [(.v (.int .i64 0)),(.v (.int .i64 0)),(.v (.int .i64 0))]),⟨none,none,.st (.t 5) (.t 13) 3⟩]) (.seq (.ops [q 14 (.fa (.t 2) 1),q 15 (.ld (.t 14) 3),q 16 (.call 61 [(.t 15)]),q 6 (.mv (.t 16))]) (.seq (.reg [0,1,0,0,8,24,63,0,255] [q 17 (.fa (.t 2) 0),q 18 (.ld (.t 17) 0),q 19 (.ld (.t 5) 3),q 20 (.mv (.t 6)),q 21 (.len false (.t 20)),q 22 (.mk 0 2 8 (.int .i64 0) (.t 21) (.t 21)),q 23 (.bld [(.v (.int .i64 0)),(.v (.int .i64 0)),(.v (.int .i64 0)),(.v (.int .i64 0)),(.nil 0)] [(0,1,(.t 18)),(1,3,(.t 19)),(4,1,(.t 22))]),q 7 (.al [(.v (.int .i64 0)),(.v (.int .i64 0)),(.v (.int .i64 0)),(.v (.int .i64 0)),(.nil 0)]),⟨none,none,.st (.t 7) (.t 23) 5⟩]) (.seq (.seq (.ops [q 8 (.mv (.c (.v (.int .i64 0))))]) (.block 0 (.loop (.seq (.seq (.ops [q 24 (.mv (.t 8)),q 25 (.mv (.t 6)),q 26 (.len false (.t 25)),q 27 (.bin .lss (.t 24) (.t 26))]) (.cond (.t 27) .skip (.exit 0))) (.seq (.block 1 (.reg [0,1,0,0,0,0,48,112,248,508,0,1024,0,7168,15360,32767,65535] [q 30 (.fa (.t 7) 4),q 31 (.ld (.t 30) 0),q 32 (.ld (.t 5) 3),q 33 (.ld (.t 3) 6),q 34 (.mv (.t 6)),q 35 (.mv (.t 8)),q 36 (.ia (.t 34) (.t 35) 2),q 37 (.ld (.t 36) 2),q 38 (.call 104 [(.t 33),(.t 37)]),q 39 (.call 103 [(.t 32),(.t 38)]),q 40 (.fa (.t 2) 4),q 41 (.ld (.t 40) 0),q 42 (.mv (.t 8)),q 43 (.ia (.t 41) (.t 42) 0),q 44 (.ld (.t 43) 0),q 45 (.ia (.t 31) (.t 39) 0),⟨none,none,.st (.t 45) (.t 44) 0⟩])) (.ops [q 28 (.mv (.t 8)),q 29 (.bin .add (.t 28) (.c (.v (.int .i64 1)))),q 8 (.mv (.t 29))])))))) (.seq (.ops [q 46 (.ld (.t 7) 5),⟨none,none,.st (.t 4) (.t 46) 5⟩]) .ret))))))⟩
theorem k54 : cF Tryz.prog Tryz.f54 = some c54 := by kernel_rfl
def c55 : AF := ⟨0,2,[(0,(some 4))],(.seq (.ops [q 0 (.al [(.v (.int .i64 0)),(.v (.int .i64 0)),(.v (.int .i64 0)),(.v (.int .i64 0))])]) (.seq (.ops [q 1 (.bld [(.v (.int .i64 0)),(.v (.int .i64 0)),(.v (.int .i64 0)),(.v (.int .i64 0))] [(0,1,(.c (.v (.int .i64 1)))),(3,1,(.c (.v (.int .i64 1))))]),⟨none,none,.st (.t 0) (.t 1) 4⟩]) .ret))⟩
theorem k55 : cF Tryz.prog Tryz.f55 = some c55 := by kernel_rfl
def c56 : AF := ⟨2,17,[(4,none)],(.seq (.ops [q 2 (.box (.t 0)),q 3 (.box (.t 1)),q 4 (.mv (.c (.v (.bool false))))]) (.seq (.ops [q 5 (.fa (.t 2) 0),q 6 (.ld (.t 5) 0),q 7 (.fa (.t 3) 0),q 8 (.ld (.t 7) 0),q 9 (.bin .eql (.t 6) (.t 8)),q 10 (.mv (.t 9)),⟨(some 11),(some (10,true)),.fa (.t 2) 1⟩,⟨(some 12),(some (10,true)),.ld (.t 11) 3⟩,⟨(some 13),(some (10,true)),.fa (.t 3) 1⟩,⟨(some 14),(some (10,true)),.ld (.t 13) 3⟩,⟨(some 15),(some (10,true)),.eq false 3 [1,1,1] (.t 12) (.t 14)⟩,q 16 (.pick (.t 10) (.t 15) (.c (.v (.bool false)))),q 4 (.mv (.t 16))]) .ret))⟩
theorem k56 : cF Tryz.prog Tryz.f56 = some c56 := by kernel_rfl
def c57 : AF := ⟨1,26,[(2,none)],(.seq (.ops [q 1 (.box (.t 0)),q 2 (.mv (.c (.nil 2)))]) (.seq (.ops [q 6 (.bsl 2 39 []),q 3 (.mv (.t 6))]) (.seq (.seq (.ops [q 7 (.fa (.t 1) 0),q 8 (.ld (.t 7) 0),q 9 (.mv (.c (.v (.int .i64 0))))]) (.block 0 (.loop (.seq (.ops [q 10 (.bin .lss (.t 9) (.t 8))]) (.seq (.cond (.t 10) .skip (.exit 0)) (.seq (.block 1 (.seq (.ops [q 11 (.mv (.t 9)),q 4 (.mv (.t 11))]) (.seq (.ops [q 12 (.fa (.t 1) 2),q 13 (.ld (.t 12) 0),q 14 (.mv (.c (.v (.int .i64 0))))]) (.block 2 (.loop (.seq (.ops [q 15 (.bin .lss (.t 14) (.t 13))]) (.seq (.cond (.t 15) .skip (.exit 2)) (.seq (.block 3 (.seq (.ops [q 16 (.mv (.t 14)),q 5 (.mv (.t 16))]) (.ops [q 17 (.mv (.t 3)),q 18 (.mv (.t 4)),q 19 (.mv (.t 5)),q 20 (.bld [(.v (.int .i64 0)),(.v (.int .i64 0))] [(0,1,(.t 18)),(1,1,(.t 19))]),q 21 (.bsl 2 39 [(.t 20)]),q 22 (.app 2 39 16 (.t 17) (.t 21)),q 3 (.mv (.t 22))]))) (.ops [q 23 (.bin .add (.t 14) (.c (.v (.int .i64 1)))),q 14 (.mv (.t 23))]))))))))) (.ops [q 24 (.bin .add (.t 9) (.c (.v (.int .i64 1)))),q 9 (.mv (.t 24))]))))))) (.seq (.ops [q 25 (.mv (.t 3)),q 2 (.mv (.t 25))]) .ret))))⟩
theorem k57 : cF Tryz.prog Tryz.f57 = some c57 := by kernel_rfl
def c58 : AF := ⟨2,26,[(4,none)],(.seq (.ops [q 4 (.mv (.c (.v (.bool false))))]) (.seq (.seq (.ops [q 6 (.mv (.t 0)),q 7 (.len false (.t 6)),q 8 (.mv (.t 1)),q 9 (.len false (.t 8)),q 10 (.bin .neq (.t 7) (.t 9))]) (.cond (.t 10) (.seq (.ops [q 4 (.mv (.c (.v (.bool false))))]) .ret) .skip)) (.seq (.seq (.ops [q 11 (.mv (.t 0)),q 12 (.len false (.t 11)),q 13 (.mv (.c (.v (.int .i64 0))))]) (.block 0 (.loop (.seq (.ops [q 14 (.bin .lss (.t 13) (.t 12))]) (.seq (.cond (.t 14) .skip (.exit 0)) (.seq (.block 1 (.seq (.ops [q 15 (.mv (.t 13)),q 5 (.mv (.t 15))]) (.seq (.reg [0,0,3,7,0,0,48,112,255] [q 16 (.mv (.t 0)),q 17 (.mv (.t 5)),q 18 (.ia (.t 16) (.t 17) 0),q 19 (.ld (.t 18) 0),q 20 (.mv (.t 1)),q 21 (.mv (.t 5)),q 22 (.ia (.t 20) (.t 21) 0),q 23 (.ld (.t 22) 0),q 24 (.bin .neq (.t 19) (.t 23))]) (.cond (.t 24) (.seq (.ops [q 4 (.mv (.c (.v (.bool false))))]) .ret) .skip)))) (.ops [q 25 (.bin .add (.t 13) (.c (.v (.int .i64 1)))),q 13 (.mv (.t 25))]))))))) (.seq (.ops [q 4 (.mv (.c (.v (.bool true))))]) .ret))))⟩
theorem k58 : cF Tryz.prog Tryz.f58 = some c58 := by kernel_rfl
def c59 : AF := ⟨2,52,[(4,(some 5))],(.seq (.ops [q 2 (.box (.t 0)),q 3 (.box (.t 1)),q 4 (.al [(.v (.int .i64 0)),(.v (.int .i64 0)),(.v (.int .i64 0)),(.v (.int .i64 0)),(.nil 0)])]) (.seq (.ops [q 12 (.fa (.t 2) 1),q 13 (.ld (.t 12) 3),q 14 (.call 105 [(.t 13)]),q 11 (.mv (.t 14)),q 15 (.ext (.t 11) 0),q 16 (.ext (.t 11) 1),q 5 (.al [(.v (.int .i64 0)),(.v (.int .i64 0))]),q 6 (.al [(.v (.int .i64 0)),(.v (.int .i64 0))]),⟨none,none,.st (.t 5) (.t 15) 2⟩,⟨none,none,.st (.t 6) (.t 16) 2⟩]) (.seq (.reg [0,1,0,4,0,28,0,64,0,508,1020,2044,4095,0,12284,0,0,131071,262143] [q 17 (.fa (.t 2) 0),q 18 (.ld (.t 17) 0),q 19 (.fa (.t 3) 0),q 20 (.ld (.t 19) 4),q 21 (.ld (.t 5) 2),q 22 (.call 107 [(.t 20),(.t 21)]),q 23 (.fa (.t 3) 0),q 24 (.ld (.t 23) 4),q 25 (.ld (.t 6) 2),q 26 (.call 107 [(.t 24),(.t 25)]),q 27 (.bsl 2 39 [(.t 22),(.t 26)]),q 28 (.call 106 [(.t 27)]),q 29 (.bld [(.v (.int .i64 0)),(.v (.int .i64 0)),(.v (.int .i64 0)),(.v (.int .i64 0)),(.nil 0)] [(0,1,(.t 18)),(1,3,(.t 28))]),q 30 (.ld (.t 3) 6),q 31 (.call 108 [(.t 30)]),q 7 (.al [(.v (.int .i64 0)),(.v (.int .i64 0)),(.v (.int .i64 0)),(.v (.int .i64 0)),(.nil 0)]),q 8 (.al [(.v (.int .i64 0)),(.v (.int .i64 0)),(.v (.int .i64 0)),(.v (.int .i64 0)),(.v (.int .i64 0)),(.v (.int .i64 0))]),⟨none,none,.st (.t 7) (.t 29) 5⟩,⟨none,none,.st (.t 8) (.t 31) 6⟩]) (.seq (.seq (.ops [q 32 (.fa (.t 7) 1),q 33 (.ld (.t 32) 3),q 34 (.call 57 [(.t 33)]),q 35 (.len false (.t 34)),q 36 (.mv (.c (.v (.int .i64 0))))]) (.block 0 (.loop (.seq (.ops [q 37 (.bin .lss (.t 36) (.t 35))]) (.seq (.cond (.t 37) .skip (.exit 0)) (.seq (.block 1 (.seq (.ops [q 38 (.ia (.t 34) (.t 36) 2),q 39 (.ld (.t 38) 2),q 10 (.al [(.v (.int .i64 0)),(.v (.int .i64 0))]),⟨none,none,.st (.t 10) (.t 39) 2⟩]) (.reg [0,1,0,0,0,24,60,124,255,511,1023] [q 40 (.fa (.t 7) 4),q 41 (.ld (.t 40) 0),q 42 (.ld (.t 2) 5),q 43 (.ld (.t 8) 6),q 44 (.ld (.t 10) 2),q 45 (.call 109 [(.t 43),(.t 44)]),q 46 (.call 84 [(.t 42),(.t 45)]),q 47 (.bsl 0 2 [(.t 46)]),q 48 (.app 0 2 8 (.t 41) (.t 47)),q 49 (.fa (.t 7) 4),⟨none,none,.st (.t 49) (.t 48) 0⟩]))) (.ops [q 50 (.bin .add (.t 36) (.c (.v (.int .i64 1)))),q 36 (.mv (.t 50))]))))))) (.seq (.ops [q 51 (.ld (.t 7) 5),⟨none,none,.st (.t 4) (.t 51) 5⟩]) .ret)))))⟩
theorem k59 : cF Tryz.prog Tryz.f59 = some c59 := by kernel_rfl
def c60 : AF := ⟨0,2,[(0,(some 4))],(.seq (.ops [q 0 (.al [(.v (.int .i64 0)),(.v (.int .i64 0)),(.v (.int .i64 0)),(.v (.int .i64 0))])]) (.seq (.ops [q 1 (.bld [(.v (.int .i64 0)),(.v (.int .i64 0)),(.v (.int .i64 0)),(.v (.int .i64 0))] [(0,1,(.c (.v (.int .i64 1)))),(1,1,(.c (.v (.int .i64 0)))),(2,1,(.c (.v (.int .i64 0)))),(3,1,(.c (.v (.int .i64 1))))]),⟨none,none,.st (.t 0) (.t 1) 4⟩]) .ret))⟩
theorem k60 : cF Tryz.prog Tryz.f60 = some c60 := by kernel_rfl
def c61 : AF := ⟨1,26,[(2,none)],(.seq (.ops [q 1 (.box (.t 0)),q 2 (.mv (.c (.nil 2)))]) (.seq (.ops [q 6 (.bsl 2 39 []),q 3 (.mv (.t 6))]) (.seq (.seq (.ops [q 4 (.mv (.c (.v (.int .i64 0))))]) (.block 0 (.loop (.seq (.seq (.ops [q 7 (.mv (.t 4)),q 8 (.fa (.t 1) 0),q 9 (.ld (.t 8) 0),q 10 (.bin .lss (.t 7) (.t 9))]) (.cond (.t 10) .skip (.exit 0))) (.seq (.block 1 (.seq (.ops [q 5 (.mv (.c (.v (.int .i64 0))))]) (.block 2 (.loop (.seq (.seq (.ops [q 13 (.mv (.t 5)),q 14 (.fa (.t 1) 2),q 15 (.ld (.t 14) 0),q 16 (.bin .lss (.t 13) (.t 15))]) (.cond (.t 16) .skip (.exit 2))) (.seq (.block 3 (.ops [q 19 (.mv (.t 3)),q 20 (.mv (.t 4)),q 21 (.mv (.t 5)),q 22 (.bld [(.v (.int .i64 0)),(.v (.int .i64 0))] [(0,1,(.t 20)),(1,1,(.t 21))]),q 23 (.bsl 2 39 [(.t 22)]),q 24 (.app 2 39 16 (.t 19) (.t 23)),q 3 (.mv (.t 24))])) (.ops [q 17 (.mv (.t 5)),q 18 (.bin .add (.t 17) (.c (.v (.int .i64 1)))),q 5 (.mv (.t 18))]))))))) (.ops [q 11 (.mv (.t 4)),q 12 (.bin .add (.t 11) (.c (.v (.int .i64 1)))),q 4 (.mv (.t 12))])))))) (.seq (.ops [q 25 (.mv (.t 3)),q 2 (.mv (.t 25))]) .ret))))⟩
theorem k61 : cF Tryz.prog Tryz.f61 = some c61 := by kernel_rfl
def c62 : AF := ⟨2,24,[(4,none)],(.seq (.ops [q 2 (.box (.t 0)),q 3 (.box (.t 1)),q 4 (.mv (.c (.v (.bool false))))]) (.seq (.ops [q 5 (.fa (.t 2) 0),q 6 (.ld (.t 5) 0),q 7 (.fa (.t 3) 0),q 8 (.ld (.t 7) 0),q 9 (.bin .eql (.t 6) (.t 8)),q 10 (.mv (.t 9)),⟨(some 11),(some (10,true)),.fa (.t 2) 1⟩,⟨(some 12),(some (10,true)),.ld (.t 11) 3⟩,⟨(some 13),(some (10,true)),.fa (.t 3) 1⟩,⟨(some 14),(some (10,true)),.ld (.t 13) 3⟩,⟨(some 15),(some (10,true)),.eq false 3 [1,1,1] (.t 12) (.t 14)⟩,q 16 (.pick (.t 10) (.t 15) (.c (.v (.bool false)))),q 17 (.mv (.t 16)),⟨(some 18),(some (17,true)),.fa (.t 2) 4⟩,⟨(some 19),(some (17,true)),.ld (.t 18) 0⟩,⟨(some 20),(some (17,true)),.fa (.t 3) 4⟩,⟨(some 21),(some (17,true)),.ld (.t 20) 0⟩,⟨(some 22),(some (17,true)),.call 110 [(.t 19),(.t 21)]⟩,q 23 (.pick (.t 17) (.t 22) (.c (.v (.bool false)))),q 4 (.mv (.t 23))]) .ret))⟩
theorem k62 : cF Tryz.prog Tryz.f62 = some c62 := by kernel_rfl
def c63 : AF := ⟨2,13,[(4,none)],(.seq (.ops [q 3 (.box (.t 1)),q 4 (.mv (.c (.v (.bool false))))]) (.seq (.reg [0,1,3,7,15,7,63,127,255] [q 5 (.mv (.t 0)),q 6 (.call 88 [(.t 5)]),q 7 (.mv (.t 6)),⟨(some 8),(some (7,true)),.mv (.t 0)⟩,⟨(some 9),(some (7,true)),.call 112 [(.t 8)]⟩,⟨(some 10),(some (7,true)),.ld (.t 3) 4⟩,⟨(some 11),(some (7,true)),.call 111 [(.t 9),(.t 10)]⟩,q 12 (.pick (.t 7) (.t 11) (.c (.v (.bool false)))),q 4 (.mv (.t 12))]) .ret))⟩
theorem k63 : cF Tryz.prog Tryz.f63 = some c63 := by kernel_rfl
def c64 : AF := ⟨1,11,[(2,none)],(.seq (.ops [q 1 (.box (.t 0)),q 2 (.mv (.c (.v (.bool false))))]) (.seq (.ops [q 3 (.fa (.t 1) 0),q 4 (.ld (.t 3) 0),q 5 (.call 113 [(.t 4)]),q 6 (.mv (.t 5)),⟨(some 7),(some (6,true)),.fa (.t 1) 1⟩,⟨(some 8),(some (6,true)),.ld (.t 7) 0⟩,⟨(some 9),(some (6,true)),.call 113 [(.t 8)]⟩,q 10 (.pick (.t 6) (.t 9) (.c (.v (.bool false)))),q 2 (.mv (.t 10))]) .ret))⟩
theorem k64 : cF Tryz.prog Tryz.f64 = some c64 := by kernel_rfl
def c66 : AF := ⟨2,12,[(4,none)],(.seq (.ops [q 4 (.mv (.c (.v (.int .i64 0))))]) (.seq (.ops [q 5 (.mv (.t 1)),q 6 (.mv (.t 0)),q 7 (.mv (.t 1)),q 8 (.len false (.t 7)),q 9 (.call 53 [(.t 6),(.t 8)]),q 10 (.ia (.t 5) (.t 9) 0),q 11 (.ld (.t 10) 0),q 4 (.mv (.t 11))]) .ret))⟩
theorem k66 : cF Tryz.prog Tryz.f66 = some c66 := by kernel_rfl
def c69 : AF := ⟨3,15,[(6,none)],(.seq (.ops [q 6 (.mv (.c (.v (.bool false))))]) (.seq (.ops [q 7 (.mv (.t 0)),q 8 (.mv (.t 1)),q 9 (.bin .geq (.t 7) (.t 8)),q 10 (.mv (.t 9)),⟨(some 11),(some (10,true)),.mv (.t 0)⟩,⟨(some 12),(some (10,true)),.mv (.t 2)⟩,⟨(some 13),(some (10,true)),.bin .leq (.t 11) (.t 12)⟩,q 14 (.pick (.t 10) (.t 13) (.c (.v (.bool false)))),q 6 (.mv (.t 14))]) .ret))⟩
theorem k69 : cF Tryz.prog Tryz.f69 = some c69 := by kernel_rfl
def c76 : AF := ⟨1,37,[(2,(some 3))],(.seq (.ops [q 1 (.box (.t 0)),q 2 (.al [(.v (.int .i64 0)),(.v (.int .i64 0)),(.v (.int .i64 0))])]) (.seq (.ops [q 9 (.fa (.t 1) 1),q 10 (.ld (.t 9) 3),q 11 (.call 105 [(.t 10)]),q 8 (.mv (.t 11)),q 12 (.ext (.t 8) 0),q 13 (.ext (.t 8) 1),q 3 (.al [(.v (.int .i64 0)),(.v (.int .i64 0))]),q 4 (.al [(.v (.int .i64 0)),(.v (.int .i64 0))]),⟨none,none,.st (.t 3) (.t 12) 2⟩,⟨none,none,.st (.t 4) (.t 13) 2⟩]) (.seq (.ops [q 14 (.ld (.t 3) 2),q 15 (.ld (.t 4) 2),q 16 (.bsl 2 39 [(.t 14),(.t 15)]),q 5 (.mv (.t 16))]) (.seq (.seq (.ops [q 17 (.fa (.t 1) 1),q 18 (.ld (.t 17) 3),q 19 (.call 57 [(.t 18)]),q 20 (.len false (.t 19)),q 21 (.mv (.c (.v (.int .i64 0))))]) (.block 0 (.loop (.seq (.ops [q 22 (.bin .lss (.t 21) (.t 20))]) (.seq (.cond (.t 22) .skip (.exit 0)) (.seq (.block 1 (.seq (.ops [q 23 (.ia (.t 19) (.t 21) 2),q 24 (.ld (.t 23) 2),q 7 (.al [(.v (.int .i64 0)),(.v (.int .i64 0))]),⟨none,none,.st (.t 7) (.t 24) 2⟩]) (.seq (.reg [0,0,0,6,15] [q 25 (.ld (.t 1) 5),q 26 (.call 60 []),q 27 (.ld (.t 7) 2),q 28 (.bld [(.v (.int .i64 0)),(.v (.int .i64 0)),(.v (.int .i64 0)),(.v (.int .i64 0)),(.v (.int .i64 0)),(.v (.int .i64 0))] [(0,4,(.t 26)),(4,2,(.t 27))]),q 29 (.call 116 [(.t 25),(.t 28)])]) (.cond (.t 29) (.ops [q 30 (.mv (.t 5)),q 31 (.ld (.t 7) 2),q 32 (.bsl 2 39 [(.t 31)]),q 33 (.app 2 39 16 (.t 30) (.t 32)),q 5 (.mv (.t 33))]) .skip)))) (.ops [q 34 (.bin .add (.t 21) (.c (.v (.int .i64 1)))),q 21 (.mv (.t 34))]))))))) (.seq (.ops [q 35 (.mv (.t 5)),q 36 (.call 106 [(.t 35)]),⟨none,none,.st (.t 2) (.t 36) 3⟩]) .ret)))))⟩
theorem k76 : cF Tryz.prog Tryz.f76 = some c76 := by kernel_rfl
def c78 : AF := ⟨2,10,[(4,none)],(.seq (.ops [q 2 (.box (.t 0)),q 3 (.box (.t 1)),q 4 (.mv (.c (.v (.bool false))))]) (.seq (.ops [q 5 (.ld (.t 2) 3),q 6 (.ld (.t 3) 2),q 7 (.call 117 [(.t 5),(.t 6)]),q 8 (.bld [(.v (.int .i64 0)),(.v (.int .i64 0))] []),q 9 (.eq false 2 [1,1] (.t 7) (.t 8)),q 4 (.mv (.t 9))]) .ret))⟩
theorem k78 : cF Tryz.prog Tryz.f78 = some c78 := by kernel_rfl
def c79 : AF := ⟨1,35,[(2,(some 3))],(.seq (.ops [q 1 (.box (.t 0)),q 2 (.al [(.v (.int .i64 0)),(.v (.int .i64 0)),(.v (.int .i64 0))])]) (.seq (.ops [q 6 (.fa (.t 1) 1),q 7 (.ld (.t 6) 3),q 8 (.call 61 [(.t 7)]),q 3 (.mv (.t 8))]) (.seq (.ops [q 9 (.fa (.t 1) 1),q 10 (.ld (.t 9) 3),q 11 (.call 118 [(.t 10)]),q 4 (.mv (.t 11))]) (.seq (.seq (.ops [q 5 (.mv (.c (.v (.int .i64 0))))]) (.block 0 (.loop (.seq (.seq (.ops [q 12 (.mv (.t 5)),q 13 (.mv (.t 3)),q 14 (.len false (.t 13)),q 15 (.bin .lss (.t 12) (.t 14))]) (.cond (.t 15) .skip (.exit 0))) (.seq (.block 1 (.seq (.reg [0,0,0,0,12,28,62,127] [q 18 (.ld (.t 1) 5),q 19 (.call 55 []),q 20 (.mv (.t 3)),q 21 (.mv (.t 5)),q 22 (.ia (.t 20) (.t 21) 2),q 23 (.ld (.t 22) 2),q 24 (.bld [(.v (.int .i64 0)),(.v (.int .i64 0)),(.v (.int .i64 0)),(.v (.int .i64 0)),(.v (.int .i64 0)),(.v (.int .i64 0))] [(0,4,(.t 19)),(4,2,(.t 23))]),q 25 (.call 119 [(.t 18),(.t 24)])]) (.cond (.t 25) (.ops [q 26 (.mv (.t 4)),q 27 (.mv (.t 3)),q 28 (.mv (.t 5)),q 29 (.ia (.t 27) (.t 28) 2),q 30 (.ld (.t 29) 2),q 31 (.bsl 2 39 [(.t 30)]),q 32 (.app 2 39 16 (.t 26) (.t 31)),q 4 (.mv (.t 32))]) .skip))) (.ops [q 16 (.mv (.t 5)),q 17 (.bin .add (.t 16) (.c (.v (.int .i64 1)))),q 5 (.mv (.t 17))])))))) (.seq (.ops [q 33 (.mv (.t 4)),q 34 (.call 120 [(.t 33)]),⟨none,none,.st (.t 2) (.t 34) 3⟩]) .ret)))))⟩
theorem k79 : cF Tryz.prog Tryz.f79 = some c79 := by kernel_rfl
def c83 : AF := ⟨3,15,[(6,none)],(.seq (.ops [q 6 (.mv (.c (.v (.bool false))))]) (.seq (.ops [q 7 (.mv (.t 0)),q 8 (.mv (.t 1)),q 9 (.bin .geq (.t 7) (.t 8)),q 10 (.mv (.t 9)),⟨(some 11),(some (10,true)),.mv (.t 0)⟩,⟨(some 12),(some (10,true)),.mv (.t 2)⟩,⟨(some 13),(some (10,true)),.bin .leq (.t 11) (.t 12)⟩,q 14 (.pick (.t 10) (.t 13) (.c (.v (.bool false)))),q 6 (.mv (.t 14))]) .ret))⟩
theorem k83 : cF Tryz.prog Tryz.f83 = some c83 := by kernel_rfl
def c84 : AF := ⟨2,16,[(4,none)],(.seq (.ops [q 2 (.box (.t 0)),q 3 (.box (.t 1)),q 4 (.mv (.c (.v (.int .i64 0))))]) (.seq (.reg [0,1,0,4,0,16,0,112,252,511,1023,2047] [q 5 (.fa (.t 2) 4),q 6 (.ld (.t 5) 0),q 7 (.fa (.t 2) 1),q 8 (.ld (.t 7) 3),q 9 (.fa (.t 2) 1),q 10 (.ld (.t 9) 3),q 11 (.ld (.t 3) 2),q 12 (.call 117 [(.t 10),(.t 11)]),q 13 (.call 123 [(.t 8),(.t 12)]),q 14 (.ia (.t 6) (.t 13) 0),q 15 (.ld (.t 14) 0),q 4 (.mv (.t 15))]) .ret))⟩
theorem k84 : cF Tryz.prog Tryz.f84 = some c84 := by kernel_rfl
def c85 : AF := ⟨1,40,[(2,none),(3,(some 3))],(.seq (.ops [q 2 (.mv (.c (.v (.int .i64 0)))),q 3 (.al [(.v (.int .i64 0)),(.v (.int .i64 0)),(.v (.int .i64 0))])]) (.seq (.ops [q 6 (.mv (.t 0)),q 7 (.call 124 [(.t 6)]),q 4 (.mv (.t 7))]) (.seq (.seq (.ops [q 8 (.mv (.t 0)),q 9 (.call 53 [(.t 8),(.c (.v (.int .i64 5)))])]) (.block 0 (.seq (.ops [q 11 (.bin .eql (.t 9) (.c (.v (.int .i64 0)))),q 10 (.mv (.t 11))]) (.cond (.t 10) (.seq (.ops [q 12 (.mv (.t 4)),q 13 (.mv (.t 0)),q 14 (.call 125 [(.t 13)]),q 2 (.mv (.t 12)),⟨none,none,.st (.t 3) (.t 14) 3⟩]) .ret) (.seq (.ops [q 16 (.bin .eql (.t 9) (.c (.v (.int .i64 1)))),q 15 (.mv (.t 16))]) (.cond (.t 15) (.seq (.ops [q 17 (.mv (.t 4)),q 18 (.mv (.t 0)),q 19 (.call 53 [(.t 18),(.c (.v (.int .i64 4)))]),q 20 (.bin .add (.c (.v (.int .i64 1))) (.t 19)),q 21 (.mv (.t 0)),q 22 (.call 53 [(.t 21),(.c (.v (.int .i64 4)))]),q 23 (.bin .add (.c (.v (.int .i64 1))) (.t 22)),q 24 (.bld [(.v (.int .i64 0)),(.v (.int .i64 0)),(.v (.int .i64 0))] [(0,1,(.t 20)),(2,1,(.t 23))]),q 2 (.mv (.t 17)),⟨none,none,.st (.t 3) (.t 24) 3⟩]) .ret) (.seq (.ops [q 26 (.bin .eql (.t 9) (.c (.v (.int .i64 2)))),q 25 (.mv (.t 26))]) (.cond (.t 25) (.seq (.seq (.ops [q 27 (.mv (.t 4)),q 28 (.bin .eql (.t 27) (.c (.v (.int .i64 0))))]) (.cond (.t 28) (.seq (.ops [q 29 (.mv (.t 4)),q 30 (.bld [(.v (.int .i64 0)),(.v (.int .i64 0)),(.v (.int .i64 0))] [(0,1,(.c (.v (.int .i64 2)))),(1,1,(.c (.v (.int .i64 1)))),(2,1,(.c (.v (.int .i64 1))))]),q 2 (.mv (.t 29)),⟨none,none,.st (.t 3) (.t 30) 3⟩]) .ret) .skip)) (.seq (.ops [q 31 (.mv (.t 4)),q 32 (.bld [(.v (.int .i64 0)),(.v (.int .i64 0)),(.v (.int .i64 0))] [(0,1,(.c (.v (.int .i64 3)))),(1,1,(.c (.v (.int .i64 1)))),(2,1,(.c (.v (.int .i64 1))))]),q 2 (.mv (.t 31)),⟨none,none,.st (.t 3) (.t 32) 3⟩]) .ret)) .skip)))))))) (.seq (.ops [q 33 (.mv (.t 0)),q 34 (.call 53 [(.t 33),(.c (.v (.int .i64 4)))]),q 35 (.bin .add (.c (.v (.int .i64 1))) (.t 34)),q 5 (.mv (.t 35))]) (.seq (.ops [q 36 (.mv (.t 4)),q 37 (.mv (.t 5)),q 38 (.mv (.t 5)),q 39 (.bld [(.v (.int .i64 0)),(.v (.int .i64 0)),(.v (.int .i64 0))] [(0,1,(.t 37)),(2,1,(.t 38))]),q 2 (.mv (.t 36)),⟨none,none,.st (.t 3) (.t 39) 3⟩]) .ret)))))⟩
theorem k85 : cF Tryz.prog Tryz.f85 = some c85 := by kernel_rfl
def c86 : AF := ⟨3,88,[(6,(some 5))],(.seq (.ops [q 5 (.box (.t 2)),q 6 (.al [(.v (.int .i64 0)),(.v (.int .i64 0)),(.v (.int .i64 0)),(.v (.int .i64 0)),(.nil 0)])]) (.seq (.ops [q 16 (.mv (.t 1)),q 17 (.ld (.t 5) 3),q 18 (.bsl 0 2 []),q 19 (.bld [(.v (.int .i64 0)),(.v (.int .i64 0)),(.v (.int .i64 0)),(.v (.int .i64 0)),(.nil 0)] [(0,1,(.t 16)),(1,3,(.t 17)),(4,1,(.t 18))]),q 7 (.al [(.v (.int .i64 0)),(.v (.int .i64 0)),(.v (.int .i64 0)),(.v (.int .i64 0)),(.nil 0)]),⟨none,none,.st (.t 7) (.t 19) 5⟩]) (.seq (.seq (.ops [q 20 (.mv (.t 1)),q 21 (.ld (.t 5) 3),q 22 (.call 100 [(.t 20),(.t 21)]),q 23 (.bin .neq (.t 22) (.c (.v (.int .i64 0))))]) (.cond (.t 23) (.seq (.ops [q 24 (.ld (.t 7) 5),⟨none,none,.st (.t 6) (.t 24) 5⟩]) .ret) .skip)) (.seq (.ops [q 25 (.call 126 []),q 26 (.bsl 6 47 [(.t 25)]),q 8 (.mv (.t 26))]) (.seq (.seq (.ops [q 27 (.mv (.t 0)),q 28 (.call 53 [(.t 27),(.c (.v (.int .i64 4)))]),q 29 (.bin .gtr (.t 28) (.c (.v (.int .i64 0))))]) (.cond (.t 29) (.seq (.ops [q 30 (.bsl 6 47 []),q 9 (.mv (.t 30))]) (.seq (.seq (.ops [q 31 (.mv (.t 0)),q 32 (.call 53 [(.t 31),(.c (.v (.int .i64 2)))]),q 33 (.bin .add (.c (.v (.int .i64 1))) (.t 32)),q 10 (.mv (.t 33))]) (.block 0 (.loop (.seq (.seq (.ops [q 34 (.mv (.t 10)),q 35 (.bin .gtr (.t 34) (.c (.v (.int .i64 0))))]) (.cond (.t 35) .skip (.exit 0))) (.seq (.block 1 (.reg [0,0,0,0,0,28,62,126,255,511] [q 38 (.mv (.t 9)),q 39 (.ld (.t 5) 3),q 40 (.mv (.t 0)),q 41 (.mv (.t 1)),q 42 (.ld (.t 5) 3),q 43 (.call 128 [(.t 40),(.t 41),(.t 42)]),q 44 (.call 127 [(.t 39),(.t 43)]),q 45 (.bsl 6 47 [(.t 44)]),q 46 (.app 6 47 48 (.t 38) (.t 45)),q 9 (.mv (.t 46))])) (.ops [q 36 (.mv (.t 10)),q 37 (.bin .sub (.t 36) (.c (.v (.int .i64 1)))),q 10 (.mv (.t 37))])))))) (.ops [q 47 (.ld (.t 5) 3),q 48 (.mv (.t 9)),q 49 (.call 129 [(.t 47),(.t 48)]),q 8 (.mv (.t 49))]))) .skip)) (.seq (.ops [q 50 (.ld (.t 5) 3),q 51 (.mv (.t 8)),q 52 (.call 130 [(.t 50),(.t 51)]),q 11 (.mv (.t 52))]) (.seq (.ops [q 53 (.bsl 0 2 []),q 12 (.mv (.t 53))]) (.seq (.ops [q 54 (.mv (.t 0)),q 55 (.call 53 [(.t 54),(.c (.v (.int .i64 3)))]),q 56 (.bin .add (.c (.v (.int .i64 2))) (.t 55)),q 13 (.mv (.t 56))]) (.seq (.seq (.ops [q 14 (.mv (.c (.v (.int .i64 0))))]) (.block 2 (.loop (.seq (.seq (.ops [q 57 (.mv (.t 14)),q 58 (.mv (.t 11)),q 59 (.len false (.t 58)),q 60 (.bin .lss (.t 57) (.t 59))]) (.cond (.t 60) .skip (.exit 2))) (.seq (.block 3 (.ops [q 63 (.mv (.t 12)),q 64 (.mv (.t 0)),q 65 (.mv (.t 13)),q 66 (.call 53 [(.t 64),(.t 65)]),q 67 (.bsl 0 2 [(.t 66)]),q 68 (.app 0 2 8 (.t 63) (.t 67)),q 12 (.mv (.t 68))])) (.ops [q 61 (.mv (.t 14)),q 62 (.bin .add (.t 61) (.c (.v (.int .i64 1)))),q 14 (.mv (.t 62))])))))) (.seq (.seq (.ops [q 15 (.mv (.c (.v (.int .i64 0))))]) (.block 4 (.loop (.seq (.seq (.ops [q 69 (.mv (.t 15)),q 70 (.mv (.t 11)),q 71 (.len false (.t 70)),q 72 (.bin .lss (.t 69) (.t 71))]) (.cond (.t 72) .skip (.exit 4))) (.seq (.block 5 (.reg [0,1,0,0,0,24,56,124,252,508,1023,2047,4095] [q 75 (.fa (.t 7) 4),q 76 (.ld (.t 75) 0),q 77 (.mv (.t 12)),q 78 (.mv (.t 11)),q 79 (.mv (.t 15)),q 80 (.ia (.t 78) (.t 79) 0),q 81 (.ld (.t 80) 0),q 82 (.ia (.t 77) (.t 81) 0),q 83 (.ld (.t 82) 0),q 84 (.bsl 0 2 [(.t 83)]),q 85 (.app 0 2 8 (.t 76) (.t 84)),q 86 (.fa (.t 7) 4),⟨none,none,.st (.t 86) (.t 85) 0⟩])) (.ops [q 73 (.mv (.t 15)),q 74 (.bin .add (.t 73) (.c (.v (.int .i64 1)))),q 15 (.mv (.t 74))])))))) (.seq (.ops [q 87 (.ld (.t 7) 5),⟨none,none,.st (.t 6) (.t 87) 5⟩]) .ret)))))))))))⟩
theorem k86 : cF Tryz.prog Tryz.f86 = some c86 := by kernel_rfl
def c87 : AF := ⟨1,32,[(2,(some 2))],(.seq (.ops [q 2 (.al [(.v (.int .i64 0)),(.v (.int .i64 0))])]) (.seq (.seq (.ops [q 4 (.mv (.t 0)),q 5 (.call 53 [(.t 4),(.c (.v (.int .i64 40)))]),q 6 (.bin .eql (.t 5) (.c (.v (.int .i64 0))))]) (.cond (.t 6) (.seq (.ops [q 7 (.mv (.t 0)),q 8 (.bsl 0 2 [(.c (.v (.int .i64 (-1000)))),(.c (.v (.int .i64 1000))),(.c (.v (.int .i64 1001))),(.c (.v (.int .i64 0)))]),q 9 (.call 66 [(.t 7),(.t 8)]),q 10 (.mv (.t 0)),q 11 (.bsl 0 2 [(.c (.v (.int .i64 (-1001)))),(.c (.v (.int .i64 1000))),(.c (.v (.int .i64 0)))]),q 12 (.call 66 [(.t 10),(.t 11)]),q 13 (.bld [(.v (.int .i64 0)),(.v (.int .i64 0))] [(0,1,(.t 9)),(1,1,(.t 12))]),⟨none,none,.st (.t 2) (.t 13) 2⟩]) .ret) .skip)) (.seq (.ops [q 14 (.mv (.t 0)),q 15 (.bsl 0 2 [(.c (.v (.int .i64 4))),(.c (.v (.int .i64 9))),(.c (.v (.int .i64 30)))]),q 16 (.call 66 [(.t 14),(.t 15)]),q 3 (.mv (.t 16))]) (.seq (.ops [q 17 (.mv (.t 0)),q 18 (.mv (.t 3)),q 19 (.bin .mul (.c (.v (.int .i64 2))) (.t 18)),q 20 (.bin .add (.t 19) (.c (.v (.int .i64 1)))),q 21 (.call 53 [(.t 17),(.t 20)]),q 22 (.mv (.t 3)),q 23 (.bin .sub (.t 21) (.t 22)),q 24 (.mv (.t 0)),q 25 (.mv (.t 3)),q 26 (.bin .mul (.c (.v (.int .i64 2))) (.t 25)),q 27 (.bin .add (.t 26) (.c (.v (.int .i64 1)))),q 28 (.call 53 [(.t 24),(.t 27)]),q 29 (.mv (.t 3)),q 30 (.bin .sub (.t 28) (.t 29)),q 31 (.bld [(.v (.int .i64 0)),(.v (.int .i64 0))] [(0,1,(.t 23)),(1,1,(.t 30))]),⟨none,none,.st (.t 2) (.t 31) 2⟩]) .ret))))⟩
theorem k87 : cF Tryz.prog Tryz.f87 = some c87 := by kernel_rfl
def c88 : AF := ⟨1,5,[(2,none)],(.seq (.ops [q 2 (.mv (.c (.v (.bool false))))]) (.seq (.ops [q 3 (.mv (.t 0)),q 4 (.call 83 [(.t 3),(.c (.v (.int .i64 0))),(.c (.v (.int .i64 1)))]),q 2 (.mv (.t 4))]) .ret))⟩
theorem k88 : cF Tryz.prog Tryz.f88 = some c88 := by kernel_rfl
def c89 : AF := ⟨1,24,[(2,none)],(.seq (.ops [q 1 (.box (.t 0)),q 2 (.mv (.c (.v (.bool false))))]) (.seq (.ops [q 3 (.fa (.t 1) 0),q 4 (.ld (.t 3) 0),q 5 (.call 83 [(.t 4),(.c (.v (.int .i64 1))),(.c (.v (.int .i64 64)))]),q 6 (.mv (.t 5)),⟨(some 7),(some (6,true)),.fa (.t 1) 2⟩,⟨(some 8),(some (6,true)),.ld (.t 7) 0⟩,⟨(some 9),(some (6,true)),.call 83 [(.t 8),(.c (.v (.int .i64 1))),(.c (.v (.int .i64 64)))]⟩,q 10 (.pick (.t 6) (.t 9) (.c (.v (.bool false)))),q 11 (.mv (.t 10)),⟨(some 12),(some (11,true)),.fa (.t 1) 1⟩,⟨(some 13),(some (11,true)),.ld (.t 12) 0⟩,⟨(some 14),(some (11,true)),.fa (.t 1) 0⟩,⟨(some 15),(some (11,true)),.ld (.t 14) 0⟩,⟨(some 16),(some (11,true)),.bin .sub (.t 15) (.c (.v (.int .i64 1)))⟩,⟨(some 17),(some (11,true)),.call 83 [(.t 13),(.c (.v (.int .i64 0))),(.t 16)]⟩,q 18 (.pick (.t 11) (.t 17) (.c (.v (.bool false)))),q 19 (.mv (.t 18)),⟨(some 20),(some (19,true)),.ld (.t 1) 3⟩,⟨(some 21),(some (19,true)),.call 90 [(.t 20)]⟩,⟨(some 22),(some (19,true)),.bin .leq (.t 21) (.c (.v (.int .i64 64)))⟩,q 23 (.pick (.t 19) (.t 22) (.c (.v (.bool false)))),q 2 (.mv (.t 23))]) .ret))⟩
theorem k89 : cF Tryz.prog Tryz.f89 = some c89 := by kernel_rfl
def c90 : AF := ⟨1,8,[(2,none)],(.seq (.ops [q 1 (.box (.t 0)),q 2 (.mv (.c (.v (.int .i64 0))))]) (.seq (.ops [q 3 (.fa (.t 1) 0),q 4 (.ld (.t 3) 0),q 5 (.fa (.t 1) 2),q 6 (.ld (.t 5) 0),q 7 (.bin .mul (.t 4) (.t 6)),q 2 (.mv (.t 7))]) .ret))⟩
theorem k90 : cF Tryz.prog Tryz.f90 = some c90 := by kernel_rfl
def c91 : AF := ⟨3,11,[(6,none)],(.seq (.ops [q 4 (.box (.t 1)),q 5 (.box (.t 2)),q 6 (.mv (.c (.v (.bool false))))]) (.seq (.ops [q 7 (.mv (.t 0)),q 8 (.mkf 132 [(.t 4),(.t 5)]),q 9 (.call 131 [(.t 7),(.t 8)]),q 10 (.un .not (.t 9)),q 6 (.mv (.t 10))]) .ret))⟩
theorem k91 : cF Tryz.prog Tryz.f91 = some c91 := by kernel_rfl
def c92 : AF := ⟨2,9,[(4,none)],(.seq (.ops [q 4 (.mv (.c (.v (.bool false))))]) (.seq (.ops [q 5 (.mv (.t 0)),q 6 (.mv (.t 1)),q 7 (.call 133 [(.t 5),(.t 6)]),q 8 (.bin .geq (.t 7) (.c (.v (.int .i64 0)))),q 4 (.mv (.t 8))]) .ret))⟩
theorem k92 : cF Tryz.prog Tryz.f92 = some c92 := by kernel_rfl
def c93 : AF := ⟨1,6,[(2,none)],(.seq (.ops [q 1 (.box (.t 0)),q 2 (.mv (.c (.v (.bool false))))]) (.seq (.ops [q 3 (.ld (.t 1) 2),q 4 (.call 64 [(.t 3)]),q 5 (.un .not (.t 4)),q 2 (.mv (.t 5))]) .ret))⟩
theorem k93 : cF Tryz.prog Tryz.f93 = some c93 := by kernel_rfl
def c94 : AF := ⟨4,33,[(8,(some 5))],(.seq (.ops [q 5 (.box (.t 1)),q 8 (.al [(.v (.int .i64 0)),(.v (.int .i64 0)),(.v (.int .i64 0)),(.v (.int .i64 0)),(.nil 0)])]) (.seq (.reg [0,0,0,4,12,31,0,127] [q 12 (.mv (.t 0)),q 13 (.ld (.t 5) 3),q 14 (.ld (.t 5) 3),q 15 (.call 90 [(.t 14)]),q 16 (.mk 0 2 8 (.int .i64 0) (.t 15) (.t 15)),q 17 (.bld [(.v (.int .i64 0)),(.v (.int .i64 0)),(.v (.int .i64 0)),(.v (.int .i64 0)),(.nil 0)] [(0,1,(.t 12)),(1,3,(.t 13)),(4,1,(.t 16))]),q 9 (.al [(.v (.int .i64 0)),(.v (.int .i64 0)),(.v (.int .i64 0)),(.v (.int .i64 0)),(.nil 0)]),⟨none,none,.st (.t 9) (.t 17) 5⟩]) (.seq (.seq (.ops [q 18 (.mv (.t 2)),q 19 (.len false (.t 18)),q 20 (.mv (.c (.v (.int .i64 0))))]) (.block 0 (.loop (.seq (.ops [q 21 (.bin .lss (.t 20) (.t 19))]) (.seq (.cond (.t 21) .skip (.exit 0)) (.seq (.block 1 (.seq (.ops [q 22 (.ia (.t 18) (.t 20) 2),q 23 (.ld (.t 22) 2),q 11 (.al [(.v (.int .i64 0)),(.v (.int .i64 0))]),⟨none,none,.st (.t 11) (.t 23) 2⟩]) (.reg [0,1,0,0,12,0,63,127] [q 24 (.fa (.t 9) 4),q 25 (.ld (.t 24) 0),q 26 (.ld (.t 5) 3),q 27 (.ld (.t 11) 2),q 28 (.call 123 [(.t 26),(.t 27)]),q 29 (.mv (.t 3)),q 30 (.ia (.t 25) (.t 28) 0),⟨none,none,.st (.t 30) (.t 29) 0⟩]))) (.ops [q 31 (.bin .add (.t 20) (.c (.v (.int .i64 1)))),q 20 (.mv (.t 31))]))))))) (.seq (.ops [q 32 (.ld (.t 9) 5),⟨none,none,.st (.t 8) (.t 32) 5⟩]) .ret))))⟩
theorem k94 : cF Tryz.prog Tryz.f94 = some c94 := by kernel_rfl
def c95 : AF := ⟨3,35,[(6,(some 5))],(.seq (.ops [q 3 (.box (.t 0)),q 4 (.box (.t 1)),q 6 (.al [(.v (.int .i64 0)),(.v (.int .i64 0)),(.v (.int .i64 0)),(.v (.int .i64 0)),(.nil 0)])]) (.seq (.reg [0,1,0,4,0,16,48,127,0,511] [q 10 (.fa (.t 3) 0),q 11 (.ld (.t 10) 0),q 12 (.fa (.t 3) 1),q 13 (.ld (.t 12) 3),q 14 (.fa (.t 3) 4),q 15 (.ld (.t 14) 0),q 16 (.call 134 [(.t 15)]),q 17 (.bld [(.v (.int .i64 0)),(.v (.int .i64 0)),(.v (.int .i64 0)),(.v (.int .i64 0)),(.nil 0)] [(0,1,(.t 11)),(1,3,(.t 13)),(4,1,(.t 16))]),q 7 (.al [(.v (.int .i64 0)),(.v (.int .i64 0)),(.v (.int .i64 0)),(.v (.int .i64 0)),(.nil 0)]),⟨none,none,.st (.t 7) (.t 17) 5⟩]) (.seq (.seq (.ops [q 18 (.fa (.t 4) 4),q 19 (.ld (.t 18) 0),q 20 (.len false (.t 19)),q 21 (.mv (.c (.v (.int .i64 0))))]) (.block 0 (.loop (.seq (.ops [q 22 (.bin .lss (.t 21) (.t 20))]) (.seq (.cond (.t 22) .skip (.exit 0)) (.seq (.block 1 (.seq (.ops [q 23 (.mv (.t 21)),q 24 (.ia (.t 19) (.t 21) 0),q 25 (.ld (.t 24) 0),q 8 (.mv (.t 23)),q 9 (.mv (.t 25))]) (.seq (.ops [q 26 (.mv (.t 9)),q 27 (.bin .eql (.t 26) (.c (.v (.int .i64 1))))]) (.cond (.t 27) (.ops [q 28 (.fa (.t 7) 4),q 29 (.ld (.t 28) 0),q 30 (.mv (.t 8)),q 31 (.mv (.t 2)),q 32 (.ia (.t 29) (.t 30) 0),⟨none,none,.st (.t 32) (.t 31) 0⟩]) .skip)))) (.ops [q 33 (.bin .add (.t 21) (.c (.v (.int .i64 1)))),q 21 (.mv (.t 33))]))))))) (.seq (.ops [q 34 (.ld (.t 7) 5),⟨none,none,.st (.t 6) (.t 34) 5⟩]) .ret))))⟩
theorem k95 : cF Tryz.prog Tryz.f95 = some c95 := by kernel_rfl
def c96 : AF := ⟨2,32,[(4,(some 5))],(.seq (.ops [q 2 (.box (.t 0)),q 4 (.al [(.v (.int .i64 0)),(.v (.int .i64 0)),(.v (.int .i64 0)),(.v (.int .i64 0)),(.nil 0)])]) (.seq (.ops [q 9 (.fa (.t 2) 0),q 10 (.ld (.t 9) 0),q 11 (.fa (.t 2) 1),q 12 (.ld (.t 11) 3),q 13 (.bld [(.v (.int .i64 0)),(.v (.int .i64 0)),(.v (.int .i64 0)),(.v (.int .i64 0)),(.nil 0)] [(0,1,(.t 10)),(1,3,(.t 12))]),q 5 (.al [(.v (.int .i64 0)),(.v (.int .i64 0)),(.v (.int .i64 0)),(.v (.int .i64 0)),(.nil 0)]),⟨none,none,.st (.t 5) (.t 13) 5⟩]) (.seq (.seq (.ops [q 14 (.fa (.t 2) 4),q 15 (.ld (.t 14) 0),q 16 (.len false (.t 15)),q 17 (.mv (.c (.v (.int .i64 0))))]) (.block 0 (.loop (.seq (.ops [q 18 (.bin .lss (.t 17) (.t 16))]) (.seq (.cond (.t 18) .skip (.exit 0)) (.seq (.block 1 (.seq (.ops [q 19 (.ia (.t 15) (.t 17) 0),q 20 (.ld (.t 19) 0),q 7 (.mv (.t 20))]) (.seq (.ops [q 8 (.mv (.c (.v (.int .i64 0))))]) (.seq (.seq (.ops [q 21 (.mv (.t 7)),q 22 (.mv (.t 1)),q 23 (.bin .eql (.t 21) (.t 22))]) (.cond (.t 23) (.ops [q 8 (.mv (.c (.v (.int .i64 1))))]) .skip)) (.ops [q 24 (.fa (.t 5) 4),q 25 (.ld (.t 24) 0),q 26 (.mv (.t 8)),q 27 (.bsl 0 2 [(.t 26)]),q 28 (.app 0 2 8 (.t 25) (.t 27)),q 29 (.fa (.t 5) 4),⟨none,none,.st (.t 29) (.t 28) 0⟩]))))) (.ops [q 30 (.bin .add (.t 17) (.c (.v (.int .i64 1)))),q 17 (.mv (.t 30))]))))))) (.seq (.ops [q 31 (.ld (.t 5) 5),⟨none,none,.st (.t 4) (.t 31) 5⟩]) .ret))))⟩
theorem k96 : cF Tryz.prog Tryz.f96 = some c96 := by kernel_rfl
def c97 : AF := ⟨1,11,[(2,none)],(.seq (.ops [q 1 (.box (.t 0)),q 2 (.mv (.c (.v (.bool false))))]) (.seq (.ops [q 3 (.fa (.t 1) 0),q 4 (.ld (.t 3) 0),q 5 (.call 69 [(.t 4),(.c (.v (.int .i64 (-1000)))),(.c (.v (.int .i64 1000)))]),q 6 (.mv (.t 5)),⟨(some 7),(some (6,true)),.fa (.t 1) 1⟩,⟨(some 8),(some (6,true)),.ld (.t 7) 0⟩,⟨(some 9),(some (6,true)),.call 69 [(.t 8),(.c (.v (.int .i64 (-1000)))),(.c (.v (.int .i64 1000)))]⟩,q 10 (.pick (.t 6) (.t 9) (.c (.v (.bool false)))),q 2 (.mv (.t 10))]) .ret))⟩
theorem k97 : cF Tryz.prog Tryz.f97 = some c97 := by kernel_rfl
def c98 : AF := ⟨4,49,[(8,(some 5))],(.seq (.ops [q 4 (.box (.t 0)),q 5 (.box (.t 1)),q 7 (.box (.t 3)),q 8 (.al [(.v (.int .i64 0)),(.v (.int .i64 0)),(.v (.int .i64 0)),(.v (.int .i64 0)),(.nil 0)])]) (.seq (.ops [q 12 (.fa (.t 4) 1),q 13 (.ld (.t 12) 3),q 14 (.call 61 [(.t 13)]),q 9 (.mv (.t 14))]) (.seq (.reg [0,1,0,4,0,16,48,127,0,511] [q 15 (.fa (.t 4) 0),q 16 (.ld (.t 15) 0),q 17 (.fa (.t 4) 1),q 18 (.ld (.t 17) 3),q 19 (.fa (.t 4) 4),q 20 (.ld (.t 19) 0),q 21 (.call 135 [(.t 20)]),q 22 (.bld [(.v (.int .i64 0)),(.v (.int .i64 0)),(.v (.int .i64 0)),(.v (.int .i64 0)),(.nil 0)] [(0,1,(.t 16)),(1,3,(.t 18)),(4,1,(.t 21))]),q 10 (.al [(.v (.int .i64 0)),(.v (.int .i64 0)),(.v (.int .i64 0)),(.v (.int .i64 0)),(.nil 0)]),⟨none,none,.st (.t 10) (.t 22) 5⟩]) (.seq (.seq (.ops [q 11 (.mv (.c (.v (.int .i64 0))))]) (.block 0 (.loop (.seq (.seq (.ops [q 23 (.mv (.t 11)),q 24 (.mv (.t 9)),q 25 (.len false (.t 24)),q 26 (.bin .lss (.t 23) (.t 25))]) (.cond (.t 26) .skip (.exit 0))) (.seq (.block 1 (.seq (.ops [q 29 (.fa (.t 5) 4),q 30 (.ld (.t 29) 0),q 31 (.mv (.t 11)),q 32 (.ia (.t 30) (.t 31) 0),q 33 (.ld (.t 32) 0),q 34 (.bin .eql (.t 33) (.c (.v (.int .i64 1))))]) (.cond (.t 34) (.reg [0,1,0,4,0,0,48,112,0,496,1020,0,4095,8191] [q 35 (.fa (.t 10) 4),q 36 (.ld (.t 35) 0),q 37 (.fa (.t 4) 1),q 38 (.ld (.t 37) 3),q 39 (.mv (.t 9)),q 40 (.mv (.t 11)),q 41 (.ia (.t 39) (.t 40) 2),q 42 (.ld (.t 41) 2),q 43 (.ld (.t 7) 2),q 44 (.call 136 [(.t 42),(.t 43)]),q 45 (.call 103 [(.t 38),(.t 44)]),q 46 (.mv (.t 2)),q 47 (.ia (.t 36) (.t 45) 0),⟨none,none,.st (.t 47) (.t 46) 0⟩]) .skip))) (.ops [q 27 (.mv (.t 11)),q 28 (.bin .add (.t 27) (.c (.v (.int .i64 1)))),q 11 (.mv (.t 28))])))))) (.seq (.ops [q 48 (.ld (.t 10) 5),⟨none,none,.st (.t 8) (.t 48) 5⟩]) .ret)))))⟩
theorem k98 : cF Tryz.prog Tryz.f98 = some c98 := by kernel_rfl
def c99 : AF := ⟨2,35,[(4,(some 5))],(.seq (.ops [q 2 (.box (.t 0)),q 4 (.al [(.v (.int .i64 0)),(.v (.int .i64 0)),(.v (.int .i64 0)),(.v (.int .i64 0)),(.nil 0)])]) (.seq (.ops [q 8 (.fa (.t 2) 0),q 9 (.ld (.t 8) 0),q 10 (.fa (.t 2) 1),q 11 (.ld (.t 10) 3),q 12 (.bsl 0 2 []),q 13 (.bld [(.v (.int .i64 0)),(.v (.int .i64 0)),(.v (.int .i64 0)),(.v (.int .i64 0)),(.nil 0)] [(0,1,(.t 9)),(1,3,(.t 11)),(4,1,(.t 12))]),q 5 (.al [(.v (.int .i64 0)),(.v (.int .i64 0)),(.v (.int .i64 0)),(.v (.int .i64 0)),(.nil 0)]),⟨none,none,.st (.t 5) (.t 13) 5⟩]) (.seq (.seq (.ops [q 6 (.mv (.c (.v (.int .i64 0))))]) (.block 0 (.loop (.seq (.seq (.ops [q 14 (.mv (.t 6)),q 15 (.fa (.t 2) 4),q 16 (.ld (.t 15) 0),q 17 (.len false (.t 16)),q 18 (.bin .lss (.t 14) (.t 17))]) (.cond (.t 18) .skip (.exit 0))) (.seq (.block 1 (.seq (.ops [q 7 (.mv (.c (.v (.int .i64 0))))]) (.seq (.seq (.ops [q 21 (.fa (.t 2) 4),q 22 (.ld (.t 21) 0),q 23 (.mv (.t 6)),q 24 (.ia (.t 22) (.t 23) 0),q 25 (.ld (.t 24) 0),q 26 (.mv (.t 1)),q 27 (.bin .eql (.t 25) (.t 26))]) (.cond (.t 27) (.ops [q 7 (.mv (.c (.v (.int .i64 1))))]) .skip)) (.ops [q 28 (.fa (.t 5) 4),q 29 (.ld (.t 28) 0),q 30 (.mv (.t 7)),q 31 (.bsl 0 2 [(.t 30)]),q 32 (.app 0 2 8 (.t 29) (.t 31)),q 33 (.fa (.t 5) 4),⟨none,none,.st (.t 33) (.t 32) 0⟩])))) (.ops [q 19 (.mv (.t 6)),q 20 (.bin .add (.t 19) (.c (.v (.int .i64 1)))),q 6 (.mv (.t 20))])))))) (.seq (.ops [q 34 (.ld (.t 5) 5),⟨none,none,.st (.t 4) (.t 34) 5⟩]) .ret))))⟩
theorem k99 : cF Tryz.prog Tryz.f99 = some c99 := by kernel_rfl
def c100 : AF := ⟨2,13,[(4,none)],(.seq (.ops [q 3 (.box (.t 1)),q 4 (.mv (.c (.v (.int .i64 0))))]) (.seq (.seq (.ops [q 5 (.mv (.t 0)),q 6 (.call 137 [(.t 5)]),q 7 (.un .not (.t 6)),q 8 (.mv (.t 7)),⟨(some 9),(some (8,false)),.ld (.t 3) 3⟩,⟨(some 10),(some (8,false)),.call 138 [(.t 9)]⟩,⟨(some 11),(some (8,false)),.un .not (.t 10)⟩,q 12 (.pick (.t 8) (.c (.v (.bool true))) (.t 11))]) (.cond (.t 12) (.seq (.ops [q 4 (.mv (.c (.v (.int .i64 1))))]) .ret) .skip)) (.seq (.ops [q 4 (.mv (.c (.v (.int .i64 0))))]) .ret)))⟩
theorem k100 : cF Tryz.prog Tryz.f100 = some c100 := by kernel_rfl
def c101 : AF := ⟨4,28,[(8,none)],(.seq (.ops [q 8 (.mv (.c (.v (.bool false))))]) (.seq (.seq (.ops [q 9 (.mv (.c (.v (.int .i64 0))))]) (.block 0 (.loop (.seq (.seq (.ops [q 10 (.mv (.t 9)),q 11 (.mv (.t 0)),q 12 (.len false (.t 11)),q 13 (.bin .lss (.t 10) (.t 12))]) (.cond (.t 13) .skip (.exit 0))) (.seq (.block 1 (.seq (.ops [q 16 (.mv (.t 0)),q 17 (.mv (.t 9)),q 18 (.ia (.t 16) (.t 17) 0),q 19 (.ld (.t 18) 0),q 20 (.mv (.t 2)),q 21 (.mv (.t 3)),q 22 (.call 69 [(.t 19),(.t 20),(.t 21)]),q 23 (.un .not (.t 22))]) (.cond (.t 23) (.seq (.ops [q 8 (.mv (.c (.v (.bool false))))]) .ret) .skip))) (.ops [q 14 (.mv (.t 9)),q 15 (.bin .add (.t 14) (.c (.v (.int .i64 1)))),q 9 (.mv (.t 15))])))))) (.seq (.ops [q 24 (.mv (.t 0)),q 25 (.len false (.t 24)),q 26 (.mv (.t 1)),q 27 (.bin .leq (.t 25) (.t 26)),q 8 (.mv (.t 27))]) .ret)))⟩
theorem k101 : cF Tryz.prog Tryz.f101 = some c101 := by kernel_rfl
def c102 : AF := ⟨2,20,[(4,(some 3))],(.seq (.ops [q 2 (.box (.t 0)),q 3 (.box (.t 1)),q 4 (.al [(.v (.int .i64 0)),(.v (.int .i64 0)),(.v (.int .i64 0))])]) (.seq (.ops [q 6 (.ld (.t 3) 3),q 7 (.call 118 [(.t 6)]),q 5 (.mv (.t 7))]) (.seq (.reg [0,0,2,6,15,0,0,64,192,511,1023,2047,4095] [q 8 (.ld (.t 2) 4),q 9 (.mv (.t 5)),q 10 (.ia (.t 9) (.c (.v (.int .i64 0))) 2),q 11 (.ld (.t 10) 2),q 12 (.call 139 [(.t 8),(.t 11)]),q 13 (.ld (.t 2) 4),q 14 (.mv (.t 5)),q 15 (.ia (.t 14) (.c (.v (.int .i64 1))) 2),q 16 (.ld (.t 15) 2),q 17 (.call 139 [(.t 13),(.t 16)]),q 18 (.bsl 2 39 [(.t 12),(.t 17)]),q 19 (.call 120 [(.t 18)]),⟨none,none,.st (.t 4) (.t 19) 3⟩]) .ret)))⟩
theorem k102 : cF Tryz.prog Tryz.f102 = some c102 := by kernel_rfl
def c103 : AF := ⟨2,16,[(4,none)],(.seq (.ops [q 2 (.box (.t 0)),q 3 (.box (.t 1)),q 4 (.mv (.c (.v (.int .i64 0))))]) (.seq (.ops [q 5 (.ld (.t 2) 3),q 6 (.ld (.t 3) 2),q 7 (.call 140 [(.t 5),(.t 6)]),⟨none,none,.st (.t 3) (.t 7) 2⟩]) (.seq (.ops [q 8 (.fa (.t 3) 0),q 9 (.ld (.t 8) 0),q 10 (.fa (.t 2) 2),q 11 (.ld (.t 10) 0),q 12 (.bin .mul (.t 9) (.t 11)),q 13 (.fa (.t 3) 1),q 14 (.ld (.t 13) 0),q 15 (.bin .add (.t 12) (.t 14)),q 4 (.mv (.t 15))]) .ret)))⟩
theorem k103 : cF Tryz.prog Tryz.f103 = some c103 := by kernel_rfl
def c104 : AF := ⟨2,12,[(4,(some 2))],(.seq (.ops [q 2 (.box (.t 0)),q 3 (.box (.t 1)),q 4 (.al [(.v (.int .i64 0)),(.v (.int .i64 0))])]) (.seq (.reg [0,1,0,7,0,16,63,127] [q 5 (.fa (.t 2) 0),q 6 (.ld (.t 5) 4),q 7 (.ld (.t 3) 2),q 8 (.call 139 [(.t 6),(.t 7)]),q 9 (.fa (.t 2) 4),q 10 (.ld (.t 9) 2),q 11 (.call 136 [(.t 8),(.t 10)]),⟨none,none,.st (.t 4) (.t 11) 2⟩]) .ret))⟩
theorem k104 : cF Tryz.prog Tryz.f104 = some c104 := by kernel_rfl
def c105 : AF := ⟨1,12,[(2,(some 2)),(3,(some 2))],(.seq (.ops [q 1 (.box (.t 0)),q 2 (.al [(.v (.int .i64 0)),(.v (.int .i64 0))]),q 3 (.al [(.v (.int .i64 0)),(.v (.int .i64 0))])]) (.seq (.reg [0,1,3,0,8,0,32,120,7,511] [q 4 (.fa (.t 1) 0),q 5 (.ld (.t 4) 0),q 6 (.bld [(.v (.int .i64 0)),(.v (.int .i64 0))] [(0,1,(.t 5)),(1,1,(.c (.v (.int .i64 0))))]),q 7 (.fa (.t 1) 1),q 8 (.ld (.t 7) 0),q 9 (.fa (.t 1) 2),q 10 (.ld (.t 9) 0),q 11 (.bld [(.v (.int .i64 0)),(.v (.int .i64 0))] [(0,1,(.t 8)),(1,1,(.t 10))]),⟨none,none,.st (.t 2) (.t 6) 2⟩,⟨none,none,.st (.t 3) (.t 11) 2⟩]) .ret))⟩
theorem k105 : cF Tryz.prog Tryz.f105 = some c105 := by kernel_rfl
def c106 : AF := ⟨1,48,[(2,(some 3))],(.seq (.ops [q 2 (.al [(.v (.int .i64 0)),(.v (.int .i64 0)),(.v (.int .i64 0))])]) (.seq (.ops [q 8 (.bld [(.v (.int .i64 0)),(.v (.int .i64 0))] []),q 4 (.al [(.v (.int .i64 0)),(.v (.int .i64 0))]),q 3 (.mv (.c (.v (.int .i64 0)))),⟨none,none,.st (.t 4) (.t 8) 2⟩]) (.seq (.seq (.ops [q 9 (.mv (.t 0)),q 10 (.len false (.t 9)),q 11 (.mv (.c (.v (.int .i64 0))))]) (.block 0 (.loop (.seq (.ops [q 12 (.bin .lss (.t 11) (.t 10))]) (.seq (.cond (.t 12) .skip (.exit 0)) (.seq (.block 1 (.seq (.ops [q 13 (.ia (.t 9) (.t 11) 2),q 14 (.ld (.t 13) 2),q 6 (.al [(.v (.int .i64 0)),(.v (.int .i64 0))]),⟨none,none,.st (.t 6) (.t 14) 2⟩]) (.seq (.block 2 (.loop (.seq (.seq (.ops [q 15 (.fa (.t 6) 1),q 16 (.ld (.t 15) 0),q 17 (.bin .neq (.t 16) (.c (.v (.int .i64 0))))]) (.cond (.t 17) .skip (.exit 2))) (.block 3 (.seq (.ops [q 18 (.fa (.t 4) 1),q 19 (.ld (.t 18) 0),q 20 (.fa (.t 6) 1),q 21 (.ld (.t 20) 0),q 22 (.bin .quo (.t 19) (.t 21)),q 7 (.mv (.t 22))]) (.reg [0,0,0,0,8,28,62,127,255] [q 23 (.ld (.t 6) 2),q 24 (.ld (.t 4) 2),q 25 (.ld (.t 6) 2),q 26 (.mv (.t 7)),q 27 (.un .neg (.t 26)),q 28 (.call 142 [(.t 25),(.t 27)]),q 29 (.call 141 [(.t 24),(.t 28)]),⟨none,none,.st (.t 4) (.t 23) 2⟩,⟨none,none,.st (.t 6) (.t 29) 2⟩])))))) (.ops [q 30 (.mv (.t 3)),q 31 (.fa (.t 6) 0),q 32 (.ld (.t 31) 0),q 33 (.call 143 [(.t 30),(.t 32)]),q 3 (.mv (.t 33))])))) (.ops [q 34 (.bin .add (.t 11) (.c (.v (.int .i64 1)))),q 11 (.mv (.t 34))]))))))) (.seq (.seq (.ops [q 35 (.fa (.t 4) 1),q 36 (.ld (.t 35) 0),q 37 (.bin .lss (.t 36) (.c (.v (.int .i64 0))))]) (.cond (.t 37) (.ops [q 38 (.ld (.t 4) 2),q 39 (.call 142 [(.t 38),(.c (.v (.int .i64 (-1))))]),⟨none,none,.st (.t 4) (.t 39) 2⟩]) .skip)) (.seq (.reg [0,0,2,0,14,0,32,127,255] [q 40 (.mv (.t 3)),q 41 (.fa (.t 4) 0),q 42 (.ld (.t 41) 0),q 43 (.mv (.t 3)),q 44 (.call 121 [(.t 42),(.t 43)]),q 45 (.fa (.t 4) 1),q 46 (.ld (.t 45) 0),q 47 (.bld [(.v (.int .i64 0)),(.v (.int .i64 0)),(.v (.int .i64 0))] [(0,1,(.t 40)),(1,1,(.t 44)),(2,1,(.t 46))]),⟨none,none,.st (.t 2) (.t 47) 3⟩]) .ret)))))⟩
theorem k106 : cF Tryz.prog Tryz.f106 = some c106 := by kernel_rfl
def c107 : AF := ⟨2,28,[(4,(some 2))],(.seq (.ops [q 2 (.box (.t 0)),q 3 (.box (.t 1)),q 4 (.al [(.v (.int .i64 0)),(.v (.int .i64 0))])]) (.seq (.ops [q 5 (.fa (.t 2) 0),q 6 (.ld (.t 5) 0),q 7 (.fa (.t 3) 0),q 8 (.ld (.t 7) 0),q 9 (.bin .mul (.t 6) (.t 8)),q 10 (.fa (.t 2) 1),q 11 (.ld (.t 10) 0),q 12 (.fa (.t 3) 1),q 13 (.ld (.t 12) 0),q 14 (.bin .mul (.t 11) (.t 13)),q 15 (.bin .add (.t 9) (.t 14)),q 16 (.fa (.t 2) 2),q 17 (.ld (.t 16) 0),q 18 (.fa (.t 3) 0),q 19 (.ld (.t 18) 0),q 20 (.bin .mul (.t 17) (.t 19)),q 21 (.fa (.t 2) 3),q 22 (.ld (.t 21) 0),q 23 (.fa (.t 3) 1),q 24 (.ld (.t 23) 0),q 25 (.bin .mul (.t 22) (.t 24)),q 26 (.bin .add (.t 20) (.t 25)),q 27 (.bld [(.v (.int .i64 0)),(.v (.int .i64 0))] [(0,1,(.t 15)),(1,1,(.t 26))]),⟨none,none,.st (.t 4) (.t 27) 2⟩]) .ret))⟩
theorem k107 : cF Tryz.prog Tryz.f107 = some c107 := by kernel_rfl
def c108 : AF := ⟨1,14,[(2,(some 6))],(.seq (.ops [q 1 (.box (.t 0)),q 2 (.al [(.v (.int .i64 0)),(.v (.int .i64 0)),(.v (.int .i64 0)),(.v (.int .i64 0)),(.v (.int .i64 0)),(.v (.int .i64 0))])]) (.seq (.ops [q 4 (.fa (.t 1) 0),q 5 (.ld (.t 4) 4),q 6 (.call 144 [(.t 5)]),q 3 (.al [(.v (.int .i64 0)),(.v (.int .i64 0)),(.v (.int .i64 0)),(.v (.int .i64 0))]),⟨none,none,.st (.t 3) (.t 6) 4⟩]) (.seq (.reg [0,0,0,4,14,30,63,127] [q 7 (.ld (.t 3) 4),q 8 (.ld (.t 3) 4),q 9 (.fa (.t 1) 4),q 10 (.ld (.t 9) 2),q 11 (.call 107 [(.t 8),(.t 10)]),q 12 (.call 142 [(.t 11),(.c (.v (.int .i64 (-1))))]),q 13 (.bld [(.v (.int .i64 0)),(.v (.int .i64 0)),(.v (.int .i64 0)),(.v (.int .i64 0)),(.v (.int .i64 0)),(.v (.int .i64 0))] [(0,4,(.t 7)),(4,2,(.t 12))]),⟨none,none,.st (.t 2) (.t 13) 6⟩]) .ret)))⟩
theorem k108 : cF Tryz.prog Tryz.f108 = some c108 := by kernel_rfl
def c109 : AF := ⟨2,12,[(4,(some 2))],(.seq (.ops [q 2 (.box (.t 0)),q 3 (.box (.t 1)),q 4 (.al [(.v (.int .i64 0)),(.v (.int .i64 0))])]) (.seq (.reg [0,1,0,7,0,16,63,127] [q 5 (.fa (.t 2) 0),q 6 (.ld (.t 5) 4),q 7 (.ld (.t 3) 2),q 8 (.call 107 [(.t 6),(.t 7)]),q 9 (.fa (.t 2) 4),q 10 (.ld (.t 9) 2),q 11 (.call 141 [(.t 8),(.t 10)]),⟨none,none,.st (.t 4) (.t 11) 2⟩]) .ret))⟩
theorem k109 : cF Tryz.prog Tryz.f109 = some c109 := by kernel_rfl
def c110 : AF := ⟨2,26,[(4,none)],(.seq (.ops [q 4 (.mv (.c (.v (.bool false))))]) (.seq (.seq (.ops [q 6 (.mv (.t 0)),q 7 (.len false (.t 6)),q 8 (.mv (.t 1)),q 9 (.len false (.t 8)),q 10 (.bin .neq (.t 7) (.t 9))]) (.cond (.t 10) (.seq (.ops [q 4 (.mv (.c (.v (.bool false))))]) .ret) .skip)) (.seq (.seq (.ops [q 5 (.mv (.c (.v (.int .i64 0))))]) (.block 0 (.loop (.seq (.seq (.ops [q 11 (.mv (.t 5)),q 12 (.mv (.t 0)),q 13 (.len false (.t 12)),q 14 (.bin .lss (.t 11) (.t 13))]) (.cond (.t 14) .skip (.exit 0))) (.seq (.block 1 (.seq (.reg [0,0,3,7,0,0,48,112,255] [q 17 (.mv (.t 0)),q 18 (.mv (.t 5)),q 19 (.ia (.t 17) (.t 18) 0),q 20 (.ld (.t 19) 0),q 21 (.mv (.t 1)),q 22 (.mv (.t 5)),q 23 (.ia (.t 21) (.t 22) 0),q 24 (.ld (.t 23) 0),q 25 (.bin .neq (.t 20) (.t 24))]) (.cond (.t 25) (.seq (.ops [q 4 (.mv (.c (.v (.bool false))))]) .ret) .skip))) (.ops [q 15 (.mv (.t 5)),q 16 (.bin .add (.t 15) (.c (.v (.int .i64 1)))),q 5 (.mv (.t 16))])))))) (.seq (.ops [q 4 (.mv (.c (.v (.bool true))))]) .ret))))⟩
theorem k110 : cF Tryz.prog Tryz.f110 = some c110 := by kernel_rfl
def c111 : AF := ⟨2,9,[(4,none)],(.seq (.ops [q 3 (.box (.t 1)),q 4 (.mv (.c (.v (.bool false))))]) (.seq (.ops [q 5 (.mv (.t 0)),q 6 (.ld (.t 3) 4),q 7 (.call 145 [(.t 5),(.t 6)]),q 8 (.bin .geq (.t 7) (.c (.v (.int .i64 0)))),q 4 (.mv (.t 8))]) .ret))⟩
theorem k111 : cF Tryz.prog Tryz.f111 = some c111 := by kernel_rfl
def c112 : AF := ⟨1,61,[(2,none)],(.seq (.ops [q 2 (.mv (.c (.nil 4)))]) (.seq (.ops [q 9 (.bsl 4 45 []),q 3 (.mv (.t 9))]) (.seq (.seq (.ops [q 10 (.mv (.c (.v (.int .i64 0))))]) (.block 0 (.loop (.seq (.ops [q 11 (.bin .lss (.t 10) (.c (.v (.int .i64 81))))]) (.seq (.cond (.t 11) .skip (.exit 0)) (.seq (.block 1 (.seq (.ops [q 12 (.mv (.t 10)),q 4 (.mv (.t 12))]) (.seq (.ops [q 13 (.mv (.t 4)),q 14 (.bin .quo (.t 13) (.c (.v (.int .i64 27)))),q 15 (.bin .sub (.t 14) (.c (.v (.int .i64 1)))),q 16 (.mv (.t 4)),q 17 (.bin .quo (.t 16) (.c (.v (.int .i64 9)))),q 18 (.bin .rem (.t 17) (.c (.v (.int .i64 3)))),q 19 (.bin .sub (.t 18) (.c (.v (.int .i64 1)))),q 20 (.mv (.t 4)),q 21 (.bin .quo (.t 20) (.c (.v (.int .i64 3)))),q 22 (.bin .rem (.t 21) (.c (.v (.int .i64 3)))),q 23 (.bin .sub (.t 22) (.c (.v (.int .i64 1)))),q 24 (.mv (.t 4)),q 25 (.bin .rem (.t 24) (.c (.v (.int .i64 3)))),q 26 (.bin .sub (.t 25) (.c (.v (.int .i64 1)))),q 27 (.bld [(.v (.int .i64 0)),(.v (.int .i64 0)),(.v (.int .i64 0)),(.v (.int .i64 0))] [(0,1,(.t 15)),(1,1,(.t 19)),(2,1,(.t 23)),(3,1,(.t 26))]),q 5 (.al [(.v (.int .i64 0)),(.v (.int .i64 0)),(.v (.int .i64 0)),(.v (.int .i64 0))]),⟨none,none,.st (.t 5) (.t 27) 4⟩]) (.seq (.reg [0,0,3,0,0,31,0,0,255,0,0,0,4095,8191,16383] [q 28 (.ld (.t 5) 4),q 29 (.bld [(.v (.int .i64 0)),(.v (.int .i64 0))] [(0,1,(.c (.v (.int .i64 1)))),(1,1,(.c (.v (.int .i64 0))))]),q 30 (.call 107 [(.t 28),(.t 29)]),q 31 (.ld (.t 5) 4),q 32 (.bld [(.v (.int .i64 0)),(.v (.int .i64 0))] [(0,1,(.c (.v (.int .i64 0)))),(1,1,(.c (.v (.int .i64 1))))]),q 33 (.call 107 [(.t 31),(.t 32)]),q 34 (.ld (.t 5) 4),q 35 (.bld [(.v (.int .i64 0)),(.v (.int .i64 0))] [(0,1,(.c (.v (.int .i64 1)))),(1,1,(.c (.v (.int .i64 1))))]),q 36 (.call 107 [(.t 34),(.t 35)]),q 6 (.al [(.v (.int .i64 0)),(.v (.int .i64 0))]),q 7 (.al [(.v (.int .i64 0)),(.v (.int .i64 0))]),q 8 (.al [(.v (.int .i64 0)),(.v (.int .i64 0))]),⟨none,none,.st (.t 6) (.t 30) 2⟩,⟨none,none,.st (.t 7) (.t 33) 2⟩,⟨none,none,.st (.t 8) (.t 36) 2⟩]) (.seq (.ops [q 37 (.mv (.t 0)),q 38 (.ld (.t 6) 2),q 39 (.call 146 [(.t 37),(.t 38)]),q 40 (.bin .eql (.t 39) (.c (.v (.int .i64 1)))),q 41 (.mv (.t 40)),⟨(some 42),(some (41,true)),.mv (.t 0)⟩,⟨(some 43),(some (41,true)),.ld (.t 7) 2⟩,⟨(some 44),(some (41,true)),.call 146 [(.t 42),(.t 43)]⟩,⟨(some 45),(some (41,true)),.bin .eql (.t 44) (.c (.v (.int .i64 1)))⟩,q 46 (.pick (.t 41) (.t 45) (.c (.v (.bool false)))),q 47 (.mv (.t 46)),⟨(some 48),(some (47,true)),.mv (.t 0)⟩,⟨(some 49),(some (47,true)),.ld (.t 8) 2⟩,⟨(some 50),(some (47,true)),.call 146 [(.t 48),(.t 49)]⟩,⟨(some 51),(some (47,true)),.mv (.t 0)⟩,⟨(some 52),(some (47,true)),.bin .add (.c (.v (.int .i64 2))) (.t 51)⟩,⟨(some 53),(some (47,true)),.bin .eql (.t 50) (.t 52)⟩,q 54 (.pick (.t 47) (.t 53) (.c (.v (.bool false))))]) (.cond (.t 54) (.ops [q 55 (.mv (.t 3)),q 56 (.ld (.t 5) 4),q 57 (.bsl 4 45 [(.t 56)]),q 58 (.app 4 45 32 (.t 55) (.t 57)),q 3 (.mv (.t 58))]) .skip)))))) (.ops [q 59 (.bin .add (.t 10) (.c (.v (.int .i64 1)))),q 10 (.mv (.t 59))]))))))) (.seq (.ops [q 60 (.mv (.t 3)),q 2 (.mv (.t 60))]) .ret))))⟩
theorem k112 : cF Tryz.prog Tryz.f112 = some c112 := by kernel_rfl
def c113 : AF := ⟨1,5,[(2,none)],(.seq (.ops [q 2 (.mv (.c (.v (.bool false))))]) (.seq (.ops [q 3 (.mv (.t 0)),q 4 (.call 83 [(.t 3),(.c (.v (.int .i64 (-1000)))),(.c (.v (.int .i64 1000)))]),q 2 (.mv (.t 4))]) .ret))⟩
theorem k113 : cF Tryz.prog Tryz.f113 = some c113 := by kernel_rfl
def c116 : AF := ⟨2,28,[(4,none)],(.seq (.ops [q 2 (.box (.t 0)),q 3 (.box (.t 1)),q 4 (.mv (.c (.v (.bool false))))]) (.seq (.seq (.ops [q 7 (.fa (.t 2) 1),q 8 (.ld (.t 7) 3),q 9 (.call 57 [(.t 8)]),q 10 (.len false (.t 9)),q 11 (.mv (.c (.v (.int .i64 0))))]) (.block 0 (.loop (.seq (.ops [q 12 (.bin .lss (.t 11) (.t 10))]) (.seq (.cond (.t 12) .skip (.exit 0)) (.seq (.block 1 (.seq (.ops [q 13 (.mv (.t 11)),q 14 (.ia (.t 9) (.t 11) 2),q 15 (.ld (.t 14) 2),q 6 (.al [(.v (.int .i64 0)),(.v (.int .i64 0))]),q 5 (.mv (.t 13)),⟨none,none,.st (.t 6) (.t 15) 2⟩]) (.seq (.reg [0,0,0,6,15,0,32,0,224,480,1023] [q 16 (.ld (.t 2) 5),q 17 (.ld (.t 3) 6),q 18 (.ld (.t 6) 2),q 19 (.call 109 [(.t 17),(.t 18)]),q 20 (.call 84 [(.t 16),(.t 19)]),q 21 (.fa (.t 2) 4),q 22 (.ld (.t 21) 0),q 23 (.mv (.t 5)),q 24 (.ia (.t 22) (.t 23) 0),q 25 (.ld (.t 24) 0),q 26 (.bin .neq (.t 20) (.t 25))]) (.cond (.t 26) (.seq (.ops [q 4 (.mv (.c (.v (.bool false))))]) .ret) .skip)))) (.ops [q 27 (.bin .add (.t 11) (.c (.v (.int .i64 1)))),q 11 (.mv (.t 27))]))))))) (.seq (.ops [q 4 (.mv (.c (.v (.bool true))))]) .ret)))⟩
theorem k116 : cF Tryz.prog Tryz.f116 = some c116 := by kernel_rfl
def c117 : AF := ⟨2,29,[(4,(some 2))],(.seq (.ops [q 2 (.box (.t 0)),q 3 (.box (.t 1)),q 4 (.al [(.v (.int .i64 0)),(.v (.int .i64 0))])]) (.seq (.ops [q 6 (.fa (.t 3) 1),q 7 (.ld (.t 6) 0),q 8 (.fa (.t 2) 2),q 9 (.ld (.t 8) 0),q 10 (.call 121 [(.t 7),(.t 9)]),q 5 (.mv (.t 10))]) (.seq (.reg [0,1,0,4,0,28,0,64,252,0,512,2044,4095,0,8192,32767,0,131071,262143] [q 11 (.fa (.t 3) 0),q 12 (.ld (.t 11) 0),q 13 (.fa (.t 3) 1),q 14 (.ld (.t 13) 0),q 15 (.mv (.t 5)),q 16 (.bin .sub (.t 14) (.t 15)),q 17 (.fa (.t 2) 2),q 18 (.ld (.t 17) 0),q 19 (.bin .quo (.t 16) (.t 18)),q 20 (.fa (.t 2) 1),q 21 (.ld (.t 20) 0),q 22 (.bin .mul (.t 19) (.t 21)),q 23 (.bin .sub (.t 12) (.t 22)),q 24 (.fa (.t 2) 0),q 25 (.ld (.t 24) 0),q 26 (.call 121 [(.t 23),(.t 25)]),q 27 (.mv (.t 5)),q 28 (.bld [(.v (.int .i64 0)),(.v (.int .i64 0))] [(0,1,(.t 26)),(1,1,(.t 27))]),⟨none,none,.st (.t 4) (.t 28) 2⟩]) .ret)))⟩
theorem k117 : cF Tryz.prog Tryz.f117 = some c117 := by kernel_rfl
def c118 : AF := ⟨1,12,[(2,none)],(.seq (.ops [q 1 (.box (.t 0)),q 2 (.mv (.c (.nil 2)))]) (.seq (.ops [q 3 (.fa (.t 1) 0),q 4 (.ld (.t 3) 0),q 5 (.bld [(.v (.int .i64 0)),(.v (.int .i64 0))] [(0,1,(.t 4))]),q 6 (.fa (.t 1) 1),q 7 (.ld (.t 6) 0),q 8 (.fa (.t 1) 2),q 9 (.ld (.t 8) 0),q 10 (.bld [(.v (.int .i64 0)),(.v (.int .i64 0))] [(0,1,(.t 7)),(1,1,(.t 9))]),q 11 (.bsl 2 39 [(.t 5),(.t 10)]),q 2 (.mv (.t 11))]) .ret))⟩
theorem k118 : cF Tryz.prog Tryz.f118 = some c118 := by kernel_rfl
def c119 : AF := ⟨2,31,[(4,none)],(.seq (.ops [q 2 (.box (.t 0)),q 3 (.box (.t 1)),q 4 (.mv (.c (.v (.bool false))))]) (.seq (.ops [q 7 (.fa (.t 2) 1),q 8 (.ld (.t 7) 3),q 9 (.call 61 [(.t 8)]),q 5 (.mv (.t 9))]) (.seq (.seq (.ops [q 6 (.mv (.c (.v (.int .i64 0))))]) (.block 0 (.loop (.seq (.seq (.ops [q 10 (.mv (.t 6)),q 11 (.mv (.t 5)),q 12 (.len false (.t 11)),q 13 (.bin .lss (.t 10) (.t 12))]) (.cond (.t 13) .skip (.exit 0))) (.seq (.block 1 (.seq (.reg [0,0,0,0,12,28,62,127,0,0,0,1536,3584,8191,16383] [q 16 (.ld (.t 2) 5),q 17 (.ld (.t 3) 6),q 18 (.mv (.t 5)),q 19 (.mv (.t 6)),q 20 (.ia (.t 18) (.t 19) 2),q 21 (.ld (.t 20) 2),q 22 (.call 104 [(.t 17),(.t 21)]),q 23 (.call 147 [(.t 16),(.t 22)]),q 24 (.ld (.t 2) 5),q 25 (.mv (.t 5)),q 26 (.mv (.t 6)),q 27 (.ia (.t 25) (.t 26) 2),q 28 (.ld (.t 27) 2),q 29 (.call 147 [(.t 24),(.t 28)]),q 30 (.bin .neq (.t 23) (.t 29))]) (.cond (.t 30) (.seq (.ops [q 4 (.mv (.c (.v (.bool false))))]) .ret) .skip))) (.ops [q 14 (.mv (.t 6)),q 15 (.bin .add (.t 14) (.c (.v (.int .i64 1)))),q 6 (.mv (.t 15))])))))) (.seq (.ops [q 4 (.mv (.c (.v (.bool true))))]) .ret))))⟩
theorem k119 : cF Tryz.prog Tryz.f119 = some c119 := by kernel_rfl
def c120 : AF := ⟨1,74,[(2,(some 3))],(.seq (.ops [q 2 (.al [(.v (.int .i64 0)),(.v (.int .i64 0)),(.v (.int .i64 0))])]) (.seq (.ops [q 9 (.bld [(.v (.int .i64 0)),(.v (.int .i64 0))] []),q 3 (.al [(.v (.int .i64 0)),(.v (.int .i64 0))]),⟨none,none,.st (.t 3) (.t 9) 2⟩,q 4 (.mv (.c (.v (.int .i64 0))))]) (.seq (.seq (.ops [q 5 (.mv (.c (.v (.int .i64 0))))]) (.block 0 (.loop (.seq (.seq (.ops [q 10 (.mv (.t 5)),q 11 (.mv (.t 0)),q 12 (.len false (.t 11)),q 13 (.bin .lss (.t 10) (.t 12))]) (.cond (.t 13) .skip (.exit 0))) (.seq (.block 1 (.seq (.ops [q 16 (.mv (.t 0)),q 17 (.mv (.t 5)),q 18 (.ia (.t 16) (.t 17) 2),q 19 (.ld (.t 18) 2),q 6 (.al [(.v (.int .i64 0)),(.v (.int .i64 0))]),⟨none,none,.st (.t 6) (.t 19) 2⟩]) (.seq (.block 2 (.loop (.seq (.seq (.ops [q 20 (.fa (.t 6) 1),q 21 (.ld (.t 20) 0),q 22 (.bin .neq (.t 21) (.c (.v (.int .i64 0))))]) (.cond (.t 22) .skip (.exit 2))) (.block 3 (.seq (.ops [q 23 (.fa (.t 3) 1),q 24 (.ld (.t 23) 0),q 25 (.fa (.t 6) 1),q 26 (.ld (.t 25) 0),q 27 (.bin .quo (.t 24) (.t 26)),q 7 (.mv (.t 27))]) (.seq (.ops [q 28 (.fa (.t 3) 0),q 29 (.ld (.t 28) 0),q 30 (.mv (.t 7)),q 31 (.fa (.t 6) 0),q 32 (.ld (.t 31) 0),q 33 (.bin .mul (.t 30) (.t 32)),q 34 (.bin .sub (.t 29) (.t 33)),q 35 (.fa (.t 3) 1),q 36 (.ld (.t 35) 0),q 37 (.mv (.t 7)),q 38 (.fa (.t 6) 1),q 39 (.ld (.t 38) 0),q 40 (.bin .mul (.t 37) (.t 39)),q 41 (.bin .sub (.t 36) (.t 40)),q 42 (.bld [(.v (.int .i64 0)),(.v (.int .i64 0))] [(0,1,(.t 34)),(1,1,(.t 41))]),q 8 (.al [(.v (.int .i64 0)),(.v (.int .i64 0))]),⟨none,none,.st (.t 8) (.t 42) 2⟩]) (.seq (.ops [q 43 (.ld (.t 6) 2),⟨none,none,.st (.t 3) (.t 43) 2⟩]) (.ops [q 44 (.ld (.t 8) 2),⟨none,none,.st (.t 6) (.t 44) 2⟩])))))))) (.seq (.ops [q 45 (.mv (.t 4)),q 46 (.fa (.t 6) 0),q 47 (.ld (.t 46) 0),q 48 (.call 148 [(.t 45),(.t 47)]),q 4 (.mv (.t 48))]) (.seq (.ops [q 49 (.mv (.t 4)),q 50 (.bin .gtr (.t 49) (.c (.v (.int .i64 0))))]) (.cond (.t 50) (.ops [q 51 (.fa (.t 3) 0),q 52 (.ld (.t 51) 0),q 53 (.mv (.t 4)),q 54 (.call 122 [(.t 52),(.t 53)]),q 55 (.fa (.t 3) 0),⟨none,none,.st (.t 55) (.t 54) 0⟩]) .skip)))))) (.ops [q 14 (.mv (.t 5)),q 15 (.bin .add (.t 14) (.c (.v (.int .i64 1)))),q 5 (.mv (.t 15))])))))) (.seq (.seq (.ops [q 56 (.fa (.t 3) 1),q 57 (.ld (.t 56) 0),q 58 (.bin .lss (.t 57) (.c (.v (.int .i64 0))))]) (.cond (.t 58) (.ops [q 59 (.ld (.t 3) 2),q 60 (.call 149 [(.t 59),(.c (.v (.int .i64 (-1))))]),⟨none,none,.st (.t 3) (.t 60) 2⟩]) .skip)) (.seq (.seq (.ops [q 61 (.mv (.t 4)),q 62 (.bin .gtr (.t 61) (.c (.v (.int .i64 0))))]) (.cond (.t 62) (.ops [q 63 (.fa (.t 3) 0),q 64 (.ld (.t 63) 0),q 65 (.mv (.t 4)),q 66 (.call 122 [(.t 64),(.t 65)]),q 67 (.fa (.t 3) 0),⟨none,none,.st (.t 67) (.t 66) 0⟩]) .skip)) (.seq (.ops [q 68 (.mv (.t 4)),q 69 (.fa (.t 3) 0),q 70 (.ld (.t 69) 0),q 71 (.fa (.t 3) 1),q 72 (.ld (.t 71) 0),q 73 (.bld [(.v (.int .i64 0)),(.v (.int .i64 0)),(.v (.int .i64 0))] [(0,1,(.t 68)),(1,1,(.t 70)),(2,1,(.t 72))]),⟨none,none,.st (.t 2) (.t 73) 3⟩]) .ret))))))⟩
theorem k120 : cF Tryz.prog Tryz.f120 = some c120 := by kernel_rfl
def c121 : AF := ⟨2,12,[(4,none)],(.seq (.ops [q 4 (.mv (.c (.v (.int .i64 0))))]) (.seq (.ops [q 5 (.mv (.t 0)),q 6 (.mv (.t 1)),q 7 (.bin .rem (.t 5) (.t 6)),q 8 (.mv (.t 1)),q 9 (.bin .add (.t 7) (.t 8)),q 10 (.mv (.t 1)),q 11 (.bin .rem (.t 9) (.t 10)),q 4 (.mv (.t 11))]) .ret))⟩
theorem k121 : cF Tryz.prog Tryz.f121 = some c121 := by kernel_rfl
def c122 : AF := ⟨2,14,[(4,none)],(.seq (.ops [q 4 (.mv (.c (.v (.int .i64 0))))]) (.seq (.ops [q 5 (.mv (.t 0)),q 6 (.mv (.t 1)),q 7 (.bin .rem (.t 5) (.t 6)),q 0 (.mv (.t 7))]) (.seq (.seq (.ops [q 8 (.mv (.t 0)),q 9 (.bin .lss (.t 8) (.c (.v (.int .i64 0))))]) (.cond (.t 9) (.ops [q 10 (.mv (.t 0)),q 11 (.mv (.t 1)),q 12 (.bin .add (.t 10) (.t 11)),q 0 (.mv (.t 12))]) .skip)) (.seq (.ops [q 13 (.mv (.t 0)),q 4 (.mv (.t 13))]) .ret))))⟩
theorem k122 : cF Tryz.prog Tryz.f122 = some c122 := by kernel_rfl
def c123 : AF := ⟨2,13,[(4,none)],(.seq (.ops [q 2 (.box (.t 0)),q 3 (.box (.t 1)),q 4 (.mv (.c (.v (.int .i64 0))))]) (.seq (.ops [q 5 (.fa (.t 3) 0),q 6 (.ld (.t 5) 0),q 7 (.fa (.t 2) 2),q 8 (.ld (.t 7) 0),q 9 (.bin .mul (.t 6) (.t 8)),q 10 (.fa (.t 3) 1),q 11 (.ld (.t 10) 0),q 12 (.bin .add (.t 9) (.t 11)),q 4 (.mv (.t 12))]) .ret))⟩
theorem k123 : cF Tryz.prog Tryz.f123 = some c123 := by kernel_rfl
def c124 : AF := ⟨1,11,[(2,none)],(.seq (.ops [q 2 (.mv (.c (.v (.int .i64 0))))]) (.seq (.seq (.ops [q 3 (.mv (.t 0)),q 4 (.call 53 [(.t 3),(.c (.v (.int .i64 40)))]),q 5 (.bin .eql (.t 4) (.c (.v (.int .i64 0))))]) (.cond (.t 5) (.seq (.ops [q 6 (.mv (.t 0)),q 7 (.bsl 0 2 [(.c (.v (.int .i64 (-1)))),(.c (.v (.int .i64 2)))]),q 8 (.call 66 [(.t 6),(.t 7)]),q 2 (.mv (.t 8))]) .ret) .skip)) (.seq (.ops [q 9 (.mv (.t 0)),q 10 (.call 53 [(.t 9),(.c (.v (.int .i64 2)))]),q 2 (.mv (.t 10))]) .ret)))⟩
theorem k124 : cF Tryz.prog Tryz.f124 = some c124 := by kernel_rfl
def c125 : AF := ⟨1,42,[(2,(some 3))],(.seq (.ops [q 2 (.al [(.v (.int .i64 0)),(.v (.int .i64 0)),(.v (.int .i64 0))])]) (.seq (.ops [q 4 (.mv (.t 0)),q 5 (.call 53 [(.t 4),(.c (.v (.int .i64 6)))]),q 6 (.bin .add (.c (.v (.int .i64 1))) (.t 5)),q 7 (.mv (.t 0)),q 8 (.call 53 [(.t 7),(.c (.v (.int .i64 6)))]),q 9 (.bin .add (.c (.v (.int .i64 1))) (.t 8)),q 10 (.bld [(.v (.int .i64 0)),(.v (.int .i64 0)),(.v (.int .i64 0))] [(0,1,(.t 6)),(2,1,(.t 9))]),q 3 (.al [(.v (.int .i64 0)),(.v (.int .i64 0)),(.v (.int .i64 0))]),⟨none,none,.st (.t 3) (.t 10) 3⟩]) (.seq (.ops [q 11 (.mv (.t 0)),q 12 (.fa (.t 3) 0),q 13 (.ld (.t 12) 0),q 14 (.call 53 [(.t 11),(.t 13)]),q 15 (.fa (.t 3) 1),⟨none,none,.st (.t 15) (.t 14) 0⟩]) (.seq (.seq (.ops [q 16 (.mv (.t 0)),q 17 (.call 53 [(.t 16),(.c (.v (.int .i64 60)))])]) (.block 0 (.seq (.ops [q 19 (.bin .eql (.t 17) (.c (.v (.int .i64 0)))),q 18 (.mv (.t 19))]) (.cond (.t 18) (.ops [q 20 (.mv (.t 0)),q 21 (.bsl 0 2 [(.c (.v (.int .i64 0))),(.c (.v (.int .i64 64))),(.c (.v (.int .i64 65))),(.c (.v (.int .i64 8)))]),q 22 (.call 66 [(.t 20),(.t 21)]),q 23 (.fa (.t 3) 0),⟨none,none,.st (.t 23) (.t 22) 0⟩]) (.seq (.ops [q 25 (.bin .eql (.t 17) (.c (.v (.int .i64 1)))),q 24 (.mv (.t 25))]) (.cond (.t 24) (.ops [q 26 (.mv (.t 0)),q 27 (.fa (.t 3) 0),q 28 (.ld (.t 27) 0),q 29 (.fa (.t 3) 0),q 30 (.ld (.t 29) 0),q 31 (.bin .sub (.t 30) (.c (.v (.int .i64 1)))),q 32 (.bsl 0 2 [(.c (.v (.int .i64 (-1)))),(.t 28),(.t 31)]),q 33 (.call 66 [(.t 26),(.t 32)]),q 34 (.fa (.t 3) 1),⟨none,none,.st (.t 34) (.t 33) 0⟩]) (.seq (.ops [q 36 (.bin .eql (.t 17) (.c (.v (.int .i64 2)))),q 35 (.mv (.t 36))]) (.cond (.t 35) (.ops [q 37 (.mv (.t 0)),q 38 (.bsl 0 2 [(.c (.v (.int .i64 8))),(.c (.v (.int .i64 9)))]),q 39 (.call 66 [(.t 37),(.t 38)]),q 40 (.bld [(.v (.int .i64 0)),(.v (.int .i64 0)),(.v (.int .i64 0))] [(0,1,(.c (.v (.int .i64 8)))),(1,1,(.c (.v (.int .i64 3)))),(2,1,(.t 39))]),⟨none,none,.st (.t 3) (.t 40) 3⟩]) .skip)))))))) (.seq (.ops [q 41 (.ld (.t 3) 3),⟨none,none,.st (.t 2) (.t 41) 3⟩]) .ret)))))⟩
theorem k125 : cF Tryz.prog Tryz.f125 = some c125 := by kernel_rfl
def c126 : AF := ⟨0,3,[(0,(some 6))],(.seq (.ops [q 0 (.al [(.v (.int .i64 0)),(.v (.int .i64 0)),(.v (.int .i64 0)),(.v (.int .i64 0)),(.v (.int .i64 0)),(.v (.int .i64 0))])]) (.seq (.ops [q 1 (.call 55 []),q 2 (.bld [(.v (.int .i64 0)),(.v (.int .i64 0)),(.v (.int .i64 0)),(.v (.int .i64 0)),(.v (.int .i64 0)),(.v (.int .i64 0))] [(0,4,(.t 1))]),⟨none,none,.st (.t 0) (.t 2) 6⟩]) .ret))⟩
theorem k126 : cF Tryz.prog Tryz.f126 = some c126 := by kernel_rfl
def c127 : AF := ⟨2,12,[(4,(some 6))],(.seq (.ops [q 2 (.box (.t 0)),q 3 (.box (.t 1)),q 4 (.al [(.v (.int .i64 0)),(.v (.int .i64 0)),(.v (.int .i64 0)),(.v (.int .i64 0)),(.v (.int .i64 0)),(.v (.int .i64 0))])]) (.seq (.reg [0,1,0,0,8,28,63,127] [q 5 (.fa (.t 3) 0),q 6 (.ld (.t 5) 4),q 7 (.ld (.t 2) 3),q 8 (.fa (.t 3) 4),q 9 (.ld (.t 8) 2),q 10 (.call 140 [(.t 7),(.t 9)]),q 11 (.bld [(.v (.int .i64 0)),(.v (.int .i64 0)),(.v (.int .i64 0)),(.v (.int .i64 0)),(.v (.int .i64 0)),(.v (.int .i64 0))] [(0,4,(.t 6)),(4,2,(.t 10))]),⟨none,none,.st (.t 4) (.t 11) 6⟩]) .ret))⟩
theorem k127 : cF Tryz.prog Tryz.f127 = some c127 := by kernel_rfl
def c128 : AF := ⟨3,33,[(6,(some 6))],(.seq (.ops [q 5 (.box (.t 2)),q 6 (.al [(.v (.int .i64 0)),(.v (.int .i64 0)),(.v (.int .i64 0)),(.v (.int .i64 0)),(.v (.int .i64 0)),(.v (.int .i64 0))])]) (.seq (.ops [q 9 (.call 55 []),q 7 (.al [(.v (.int .i64 0)),(.v (.int .i64 0)),(.v (.int .i64 0)),(.v (.int .i64 0))]),⟨none,none,.st (.t 7) (.t 9) 4⟩]) (.seq (.seq (.ops [q 10 (.mv (.t 1)),q 11 (.ld (.t 5) 3),q 12 (.call 100 [(.t 10),(.t 11)]),q 13 (.bin .eql (.t 12) (.c (.v (.int .i64 0))))]) (.cond (.t 13) (.seq (.ops [q 14 (.mv (.t 1)),q 15 (.ld (.t 5) 3),q 16 (.call 150 [(.t 14),(.t 15)]),q 8 (.mv (.t 16))]) (.ops [q 17 (.mv (.t 8)),q 18 (.mv (.t 0)),q 19 (.mv (.t 8)),q 20 (.len false (.t 19)),q 21 (.call 53 [(.t 18),(.t 20)]),q 22 (.ia (.t 17) (.t 21) 4),q 23 (.ld (.t 22) 4),⟨none,none,.st (.t 7) (.t 23) 4⟩])) .skip)) (.seq (.reg [0,0,2,6,0,22,54,126,255,511] [q 24 (.ld (.t 7) 4),q 25 (.mv (.t 0)),q 26 (.call 53 [(.t 25),(.c (.v (.int .i64 9)))]),q 27 (.bin .sub (.t 26) (.c (.v (.int .i64 4)))),q 28 (.mv (.t 0)),q 29 (.call 53 [(.t 28),(.c (.v (.int .i64 9)))]),q 30 (.bin .sub (.t 29) (.c (.v (.int .i64 4)))),q 31 (.bld [(.v (.int .i64 0)),(.v (.int .i64 0))] [(0,1,(.t 27)),(1,1,(.t 30))]),q 32 (.bld [(.v (.int .i64 0)),(.v (.int .i64 0)),(.v (.int .i64 0)),(.v (.int .i64 0)),(.v (.int .i64 0)),(.v (.int .i64 0))] [(0,4,(.t 24)),(4,2,(.t 31))]),⟨none,none,.st (.t 6) (.t 32) 6⟩]) .ret))))⟩
theorem k128 : cF Tryz.prog Tryz.f128 = some c128 := by kernel_rfl
def c129 : AF := ⟨2,49,[(4,none)],(.seq (.ops [q 2 (.box (.t 0)),q 4 (.mv (.c (.nil 6)))]) (.seq (.ops [q 10 (.call 126 []),q 11 (.bsl 6 47 [(.t 10)]),q 5 (.mv (.t 11))]) (.seq (.ops [q 12 (.call 126 []),q 13 (.bsl 6 47 [(.t 12)]),q 6 (.mv (.t 13))]) (.seq (.seq (.ops [q 7 (.mv (.c (.v (.int .i64 0))))]) (.block 0 (.loop (.seq (.seq (.ops [q 14 (.mv (.t 7)),q 15 (.mv (.t 6)),q 16 (.len false (.t 15)),q 17 (.bin .lss (.t 14) (.t 16))]) (.cond (.t 17) .skip (.exit 0))) (.seq (.block 1 (.seq (.ops [q 8 (.mv (.c (.v (.int .i64 0))))]) (.block 2 (.loop (.seq (.seq (.ops [q 20 (.mv (.t 8)),q 21 (.mv (.t 1)),q 22 (.len false (.t 21)),q 23 (.bin .lss (.t 20) (.t 22))]) (.cond (.t 23) .skip (.exit 2))) (.seq (.block 3 (.seq (.reg [0,0,0,6,14,0,0,96,224,510,1023,0,4095] [q 26 (.ld (.t 2) 3),q 27 (.mv (.t 1)),q 28 (.mv (.t 8)),q 29 (.ia (.t 27) (.t 28) 6),q 30 (.ld (.t 29) 6),q 31 (.mv (.t 6)),q 32 (.mv (.t 7)),q 33 (.ia (.t 31) (.t 32) 6),q 34 (.ld (.t 33) 6),q 35 (.call 151 [(.t 30),(.t 34)]),q 36 (.call 127 [(.t 26),(.t 35)]),q 9 (.al [(.v (.int .i64 0)),(.v (.int .i64 0)),(.v (.int .i64 0)),(.v (.int .i64 0)),(.v (.int .i64 0)),(.v (.int .i64 0))]),⟨none,none,.st (.t 9) (.t 36) 6⟩]) (.seq (.ops [q 37 (.mv (.t 5)),q 38 (.ld (.t 9) 6),q 39 (.call 152 [(.t 37),(.t 38)]),q 40 (.un .not (.t 39))]) (.cond (.t 40) (.seq (.ops [q 41 (.mv (.t 5)),q 42 (.ld (.t 9) 6),q 43 (.call 153 [(.t 41),(.t 42)]),q 5 (.mv (.t 43))]) (.ops [q 44 (.mv (.t 6)),q 45 (.ld (.t 9) 6),q 46 (.bsl 6 47 [(.t 45)]),q 47 (.app 6 47 48 (.t 44) (.t 46)),q 6 (.mv (.t 47))])) .skip)))) (.ops [q 24 (.mv (.t 8)),q 25 (.bin .add (.t 24) (.c (.v (.int .i64 1)))),q 8 (.mv (.t 25))]))))))) (.ops [q 18 (.mv (.t 7)),q 19 (.bin .add (.t 18) (.c (.v (.int .i64 1)))),q 7 (.mv (.t 19))])))))) (.seq (.ops [q 48 (.mv (.t 5)),q 4 (.mv (.t 48))]) .ret)))))⟩
theorem k129 : cF Tryz.prog Tryz.f129 = some c129 := by kernel_rfl
def c130 : AF := ⟨2,46,[(4,none)],(.seq (.ops [q 2 (.box (.t 0)),q 4 (.mv (.c (.nil 0)))]) (.seq (.ops [q 9 (.fa (.t 2) 0),q 10 (.ld (.t 9) 0),q 11 (.fa (.t 2) 2),q 12 (.ld (.t 11) 0),q 13 (.bin .mul (.t 10) (.t 12)),q 14 (.mk 0 2 8 (.int .i64 0) (.t 13) (.t 13)),q 5 (.mv (.t 14))]) (.seq (.ops [q 15 (.ld (.t 2) 3),q 16 (.mv (.t 1)),q 17 (.call 154 [(.t 15),(.t 16)]),q 6 (.mv (.t 17))]) (.seq (.seq (.ops [q 7 (.mv (.c (.v (.int .i64 0))))]) (.block 0 (.loop (.seq (.seq (.ops [q 18 (.mv (.t 7)),q 19 (.mv (.t 6)),q 20 (.len false (.t 19)),q 21 (.bin .lss (.t 18) (.t 20))]) (.cond (.t 21) .skip (.exit 0))) (.seq (.block 1 (.seq (.ops [q 8 (.mv (.c (.v (.int .i64 0))))]) (.block 2 (.loop (.seq (.seq (.ops [q 24 (.mv (.t 8)),q 25 (.mv (.t 6)),q 26 (.mv (.t 7)),q 27 (.ia (.t 25) (.t 26) 0),q 28 (.ld (.t 27) 0),q 29 (.len false (.t 28)),q 30 (.bin .lss (.t 24) (.t 29))]) (.cond (.t 30) .skip (.exit 2))) (.seq (.block 3 (.reg [0,0,0,0,12,28,0,124,252,510,0,2047,4095] [q 33 (.mv (.t 5)),q 34 (.ld (.t 2) 3),q 35 (.mv (.t 6)),q 36 (.mv (.t 7)),q 37 (.ia (.t 35) (.t 36) 0),q 38 (.ld (.t 37) 0),q 39 (.mv (.t 8)),q 40 (.ia (.t 38) (.t 39) 2),q 41 (.ld (.t 40) 2),q 42 (.call 103 [(.t 34),(.t 41)]),q 43 (.mv (.t 7)),q 44 (.ia (.t 33) (.t 42) 0),⟨none,none,.st (.t 44) (.t 43) 0⟩])) (.ops [q 31 (.mv (.t 8)),q 32 (.bin .add (.t 31) (.c (.v (.int .i64 1)))),q 8 (.mv (.t 32))]))))))) (.ops [q 22 (.mv (.t 7)),q 23 (.bin .add (.t 22) (.c (.v (.int .i64 1)))),q 7 (.mv (.t 23))])))))) (.seq (.ops [q 45 (.mv (.t 5)),q 4 (.mv (.t 45))]) .ret)))))⟩
theorem k130 : cF Tryz.prog Tryz.f130 = some c130 := by kernel_rfl
def c131 : AF := ⟨2,9,[(4,none)],(.seq (.ops [q 4 (.mv (.c (.v (.bool false))))]) (.seq (.ops [q 5 (.mv (.t 0)),q 6 (.mv (.t 1)),q 7 (.call 155 [(.t 5),(.t 6)]),q 8 (.bin .geq (.t 7) (.c (.v (.int .i64 0)))),q 4 (.mv (.t 8))]) .ret))⟩
theorem k131 : cF Tryz.prog Tryz.f131 = some c131 := by kernel_rfl
def c132 : AF := ⟨1,10,[(4,none)],(.seq (.ops [q 4 (.mv (.c (.v (.bool false))))]) (.seq (.ops [q 5 (.mv (.t 0)),q 6 (.ld (.t 1) 0),q 7 (.ld (.t 2) 0),q 8 (.call 83 [(.t 5),(.t 6),(.t 7)]),q 9 (.un .not (.t 8)),q 4 (.mv (.t 9))]) .ret))⟩
theorem k132 : cF Tryz.prog Tryz.f132 = some c132 := by kernel_rfl
def c133 : AF := ⟨2,19,[(4,none)],(.seq (.ops [q 4 (.mv (.c (.v (.int .i64 0))))]) (.seq (.seq (.ops [q 6 (.mv (.t 0)),q 7 (.len false (.t 6)),q 8 (.mv (.c (.v (.int .i64 0))))]) (.block 0 (.loop (.seq (.ops [q 9 (.bin .lss (.t 8) (.t 7))]) (.seq (.cond (.t 9) .skip (.exit 0)) (.seq (.block 1 (.seq (.ops [q 10 (.mv (.t 8)),q 5 (.mv (.t 10))]) (.seq (.ops [q 11 (.mv (.t 1)),q 12 (.mv (.t 0)),q 13 (.mv (.t 5)),q 14 (.ia (.t 12) (.t 13) 2),q 15 (.ld (.t 14) 2),q 16 (.callv (.t 11) [(.t 15)])]) (.cond (.t 16) (.seq (.ops [q 17 (.mv (.t 5)),q 4 (.mv (.t 17))]) .ret) .skip)))) (.ops [q 18 (.bin .add (.t 8) (.c (.v (.int .i64 1)))),q 8 (.mv (.t 18))]))))))) (.seq (.ops [q 4 (.mv (.c (.v (.int .i64 (-1)))))]) .ret)))⟩
theorem k133 : cF Tryz.prog Tryz.f133 = some c133 := by kernel_rfl
def c134 : AF := ⟨1,8,[(2,none)],(.seq (.ops [q 2 (.mv (.c (.nil 0)))]) (.seq (.seq (.ops [q 3 (.mv (.t 0)),q 4 (.eqn false (.t 3))]) (.cond (.t 4) (.seq (.ops [q 2 (.mv (.c (.nil 0)))]) .ret) .skip)) (.seq (.ops [q 5 (.bsl 0 2 []),q 6 (.mv (.t 0)),q 7 (.app 0 2 8 (.t 5) (.t 6)),q 2 (.mv (.t 7))]) .ret)))⟩
theorem k134 : cF Tryz.prog Tryz.f134 = some c134 := by kernel_rfl
def c135 : AF := ⟨1,6,[(2,none)],(.seq (.ops [q 2 (.mv (.c (.nil 0)))]) (.seq (.ops [q 3 (.bsl 0 2 []),q 4 (.mv (.t 0)),q 5 (.app 0 2 8 (.t 3) (.t 4)),q 2 (.mv (.t 5))]) .ret))⟩
theorem k135 : cF Tryz.prog Tryz.f135 = some c135 := by kernel_rfl
def c136 : AF := ⟨2,16,[(4,(some 2))],(.seq (.ops [q 2 (.box (.t 0)),q 3 (.box (.t 1)),q 4 (.al [(.v (.int .i64 0)),(.v (.int .i64 0))])]) (.seq (.ops [q 5 (.fa (.t 2) 0),q 6 (.ld (.t 5) 0),q 7 (.fa (.t 3) 0),q 8 (.ld (.t 7) 0),q 9 (.bin .add (.t 6) (.t 8)),q 10 (.fa (.t 2) 1),q 11 (.ld (.t 10) 0),q 12 (.fa (.t 3) 1),q 13 (.ld (.t 12) 0),q 14 (.bin .add (.t 11) (.t 13)),q 15 (.bld [(.v (.int .i64 0)),(.v (.int .i64 0))] [(0,1,(.t 9)),(1,1,(.t 14))]),⟨none,none,.st (.t 4) (.t 15) 2⟩]) .ret))⟩
theorem k136 : cF Tryz.prog Tryz.f136 = some c136 := by kernel_rfl
def c137 : AF := ⟨1,9,[(2,none)],(.seq (.ops [q 2 (.mv (.c (.v (.bool false))))]) (.seq (.ops [q 3 (.mv (.t 0)),q 4 (.bin .eql (.t 3) (.c (.v (.int .i64 0)))),q 5 (.mv (.t 4)),⟨(some 6),(some (5,false)),.mv (.t 0)⟩,⟨(some 7),(some (5,false)),.bin .eql (.t 6) (.c (.v (.int .i64 1)))⟩,q 8 (.pick (.t 5) (.c (.v (.bool true))) (.t 7)),q 2 (.mv (.t 8))]) .ret))⟩
theorem k137 : cF Tryz.prog Tryz.f137 = some c137 := by kernel_rfl
def c138 : AF := ⟨1,27,[(2,none)],(.seq (.ops [q 1 (.box (.t 0)),q 2 (.mv (.c (.v (.bool false))))]) (.seq (.ops [q 3 (.fa (.t 1) 0),q 4 (.ld (.t 3) 0),q 5 (.call 69 [(.t 4),(.c (.v (.int .i64 1))),(.c (.v (.int .i64 64)))]),q 6 (.mv (.t 5)),⟨(some 7),(some (6,true)),.fa (.t 1) 2⟩,⟨(some 8),(some (6,true)),.ld (.t 7) 0⟩,⟨(some 9),(some (6,true)),.call 69 [(.t 8),(.c (.v (.int .i64 1))),(.c (.v (.int .i64 64)))]⟩,q 10 (.pick (.t 6) (.t 9) (.c (.v (.bool false)))),q 11 (.mv (.t 10)),⟨(some 12),(some (11,true)),.fa (.t 1) 1⟩,⟨(some 13),(some (11,true)),.ld (.t 12) 0⟩,⟨(some 14),(some (11,true)),.fa (.t 1) 0⟩,⟨(some 15),(some (11,true)),.ld (.t 14) 0⟩,⟨(some 16),(some (11,true)),.bin .sub (.t 15) (.c (.v (.int .i64 1)))⟩,⟨(some 17),(some (11,true)),.call 69 [(.t 13),(.c (.v (.int .i64 0))),(.t 16)]⟩,q 18 (.pick (.t 11) (.t 17) (.c (.v (.bool false)))),q 19 (.mv (.t 18)),⟨(some 20),(some (19,true)),.fa (.t 1) 0⟩,⟨(some 21),(some (19,true)),.ld (.t 20) 0⟩,⟨(some 22),(some (19,true)),.fa (.t 1) 2⟩,⟨(some 23),(some (19,true)),.ld (.t 22) 0⟩,⟨(some 24),(some (19,true)),.bin .mul (.t 21) (.t 23)⟩,⟨(some 25),(some (19,true)),.bin .leq (.t 24) (.c (.v (.int .i64 64)))⟩,q 26 (.pick (.t 19) (.t 25) (.c (.v (.bool false)))),q 2 (.mv (.t 26))]) .ret))⟩
theorem k138 : cF Tryz.prog Tryz.f138 = some c138 := by kernel_rfl
def c139 : AF := ⟨2,28,[(4,(some 2))],(.seq (.ops [q 2 (.box (.t 0)),q 3 (.box (.t 1)),q 4 (.al [(.v (.int .i64 0)),(.v (.int .i64 0))])]) (.seq (.ops [q 5 (.fa (.t 2) 0),q 6 (.ld (.t 5) 0),q 7 (.fa (.t 3) 0),q 8 (.ld (.t 7) 0),q 9 (.bin .mul (.t 6) (.t 8)),q 10 (.fa (.t 2) 1),q 11 (.ld (.t 10) 0),q 12 (.fa (.t 3) 1),q 13 (.ld (.t 12) 0),q 14 (.bin .mul (.t 11) (.t 13)),q 15 (.bin .add (.t 9) (.t 14)),q 16 (.fa (.t 2) 2),q 17 (.ld (.t 16) 0),q 18 (.fa (.t 3) 0),q 19 (.ld (.t 18) 0),q 20 (.bin .mul (.t 17) (.t 19)),q 21 (.fa (.t 2) 3),q 22 (.ld (.t 21) 0),q 23 (.fa (.t 3) 1),q 24 (.ld (.t 23) 0),q 25 (.bin .mul (.t 22) (.t 24)),q 26 (.bin .add (.t 20) (.t 25)),q 27 (.bld [(.v (.int .i64 0)),(.v (.int .i64 0))] [(0,1,(.t 15)),(1,1,(.t 26))]),⟨none,none,.st (.t 4) (.t 27) 2⟩]) .ret))⟩
theorem k139 : cF Tryz.prog Tryz.f139 = some c139 := by kernel_rfl
def c140 : AF := ⟨2,31,[(4,(some 2))],(.seq (.ops [q 2 (.box (.t 0)),q 3 (.box (.t 1)),q 4 (.al [(.v (.int .i64 0)),(.v (.int .i64 0))])]) (.seq (.ops [q 7 (.fa (.t 3) 1),q 8 (.ld (.t 7) 0),q 9 (.fa (.t 2) 2),q 10 (.ld (.t 9) 0),q 11 (.call 122 [(.t 8),(.t 10)]),q 5 (.mv (.t 11))]) (.seq (.ops [q 12 (.fa (.t 3) 1),q 13 (.ld (.t 12) 0),q 14 (.mv (.t 5)),q 15 (.bin .sub (.t 13) (.t 14)),q 16 (.fa (.t 2) 2),q 17 (.ld (.t 16) 0),q 18 (.bin .quo (.t 15) (.t 17)),q 6 (.mv (.t 18))]) (.seq (.ops [q 19 (.fa (.t 3) 0),q 20 (.ld (.t 19) 0),q 21 (.mv (.t 6)),q 22 (.fa (.t 2) 1),q 23 (.ld (.t 22) 0),q 24 (.bin .mul (.t 21) (.t 23)),q 25 (.bin .sub (.t 20) (.t 24)),q 26 (.fa (.t 2) 0),q 27 (.ld (.t 26) 0),q 28 (.call 122 [(.t 25),(.t 27)]),q 29 (.mv (.t 5)),q 30 (.bld [(.v (.int .i64 0)),(.v (.int .i64 0))] [(0,1,(.t 28)),(1,1,(.t 29))]),⟨none,none,.st (.t 4) (.t 30) 2⟩]) .ret))))⟩
theorem k140 : cF Tryz.prog Tryz.f140 = some c140 := by kernel_rfl
def c141 : AF := ⟨2,16,[(4,(some 2))],(.seq (.ops [q 2 (.box (.t 0)),q 3 (.box (.t 1)),q 4 (.al [(.v (.int .i64 0)),(.v (.int .i64 0))])]) (.seq (.ops [q 5 (.fa (.t 2) 0),q 6 (.ld (.t 5) 0),q 7 (.fa (.t 3) 0),q 8 (.ld (.t 7) 0),q 9 (.bin .add (.t 6) (.t 8)),q 10 (.fa (.t 2) 1),q 11 (.ld (.t 10) 0),q 12 (.fa (.t 3) 1),q 13 (.ld (.t 12) 0),q 14 (.bin .add (.t 11) (.t 13)),q 15 (.bld [(.v (.int .i64 0)),(.v (.int .i64 0))] [(0,1,(.t 9)),(1,1,(.t 14))]),⟨none,none,.st (.t 4) (.t 15) 2⟩]) .ret))⟩
theorem k141 : cF Tryz.prog Tryz.f141 = some c141 := by kernel_rfl
def c142 : AF := ⟨2,14,[(4,(some 2))],(.seq (.ops [q 2 (.box (.t 0)),q 4 (.al [(.v (.int .i64 0)),(.v (.int .i64 0))])]) (.seq (.ops [q 5 (.mv (.t 1)),q 6 (.fa (.t 2) 0),q 7 (.ld (.t 6) 0),q 8 (.bin .mul (.t 5) (.t 7)),q 9 (.mv (.t 1)),q 10 (.fa (.t 2) 1),q 11 (.ld (.t 10) 0),q 12 (.bin .mul (.t 9) (.t 11)),q 13 (.bld [(.v (.int .i64 0)),(.v (.int .i64 0))] [(0,1,(.t 8)),(1,1,(.t 12))]),⟨none,none,.st (.t 4) (.t 13) 2⟩]) .ret))⟩
theorem k142 : cF Tryz.prog Tryz.f142 = some c142 := by kernel_rfl
def c143 : AF := ⟨2,15,[(4,none)],(.seq (.ops [q 4 (.mv (.c (.v (.int .i64 0))))]) (.seq (.block 0 (.loop (.seq (.seq (.ops [q 5 (.mv (.t 1)),q 6 (.bin .neq (.t 5) (.c (.v (.int .i64 0))))]) (.cond (.t 6) .skip (.exit 0))) (.block 1 (.reg [0,0,0,6,3,31] [q 7 (.mv (.t 1)),q 8 (.mv (.t 0)),q 9 (.mv (.t 1)),q 10 (.bin .rem (.t 8) (.t 9)),q 0 (.mv (.t 7)),q 1 (.mv (.t 10))]))))) (.seq (.ops [q 11 (.mv (.t 0)),q 12 (.mv (.t 0)),q 13 (.un .neg (.t 12)),q 14 (.mm true (.t 11) (.t 13)),q 4 (.mv (.t 14))]) .ret)))⟩
theorem k143 : cF Tryz.prog Tryz.f143 = some c143 := by kernel_rfl
def c144 : AF := ⟨1,25,[(2,(some 4))],(.seq (.ops [q 1 (.box (.t 0)),q 2 (.al [(.v (.int .i64 0)),(.v (.int .i64 0)),(.v (.int .i64 0)),(.v (.int .i64 0))])]) (.seq (.ops [q 4 (.ld (.t 1) 4),q 5 (.call 156 [(.t 4)]),q 3 (.mv (.t 5))]) (.seq (.ops [q 6 (.mv (.t 3)),q 7 (.fa (.t 1) 3),q 8 (.ld (.t 7) 0),q 9 (.bin .mul (.t 6) (.t 8)),q 10 (.mv (.t 3)),q 11 (.un .neg (.t 10)),q 12 (.fa (.t 1) 1),q 13 (.ld (.t 12) 0),q 14 (.bin .mul (.t 11) (.t 13)),q 15 (.mv (.t 3)),q 16 (.un .neg (.t 15)),q 17 (.fa (.t 1) 2),q 18 (.ld (.t 17) 0),q 19 (.bin .mul (.t 16) (.t 18)),q 20 (.mv (.t 3)),q 21 (.fa (.t 1) 0),q 22 (.ld (.t 21) 0),q 23 (.bin .mul (.t 20) (.t 22)),q 24 (.bld [(.v (.int .i64 0)),(.v (.int .i64 0)),(.v (.int .i64 0)),(.v (.int .i64 0))] [(0,1,(.t 9)),(1,1,(.t 14)),(2,1,(.t 19)),(3,1,(.t 23))]),⟨none,none,.st (.t 2) (.t 24) 4⟩]) .ret)))⟩
theorem k144 : cF Tryz.prog Tryz.f144 = some c144 := by kernel_rfl
def c145 : AF := ⟨2,19,[(4,none)],(.seq (.ops [q 3 (.box (.t 1)),q 4 (.mv (.c (.v (.int .i64 0))))]) (.seq (.seq (.ops [q 6 (.mv (.t 0)),q 7 (.len false (.t 6)),q 8 (.mv (.c (.v (.int .i64 0))))]) (.block 0 (.loop (.seq (.ops [q 9 (.bin .lss (.t 8) (.t 7))]) (.seq (.cond (.t 9) .skip (.exit 0)) (.seq (.block 1 (.seq (.ops [q 10 (.mv (.t 8)),q 5 (.mv (.t 10))]) (.seq (.reg [0,0,0,6,14,31] [q 11 (.ld (.t 3) 4),q 12 (.mv (.t 0)),q 13 (.mv (.t 5)),q 14 (.ia (.t 12) (.t 13) 4),q 15 (.ld (.t 14) 4),q 16 (.eq false 4 [1,1,1,1] (.t 11) (.t 15))]) (.cond (.t 16) (.seq (.ops [q 17 (.mv (.t 5)),q 4 (.mv (.t 17))]) .ret) .skip)))) (.ops [q 18 (.bin .add (.t 8) (.c (.v (.int .i64 1)))),q 8 (.mv (.t 18))]))))))) (.seq (.ops [q 4 (.mv (.c (.v (.int .i64 (-1)))))]) .ret)))⟩
theorem k145 : cF Tryz.prog Tryz.f145 = some c145 := by kernel_rfl
def c146 : AF := ⟨2,24,[(4,none)],(.seq (.ops [q 3 (.box (.t 1)),q 4 (.mv (.c (.v (.int .i64 0))))]) (.seq (.ops [q 5 (.fa (.t 3) 0),q 6 (.ld (.t 5) 0),q 7 (.fa (.t 3) 0),q 8 (.ld (.t 7) 0),q 9 (.bin .mul (.t 6) (.t 8)),q 10 (.mv (.t 0)),q 11 (.fa (.t 3) 0),q 12 (.ld (.t 11) 0),q 13 (.bin .mul (.t 10) (.t 12)),q 14 (.fa (.t 3) 1),q 15 (.ld (.t 14) 0),q 16 (.bin .mul (.t 13) (.t 15)),q 17 (.bin .add (.t 9) (.t 16)),q 18 (.fa (.t 3) 1),q 19 (.ld (.t 18) 0),q 20 (.fa (.t 3) 1),q 21 (.ld (.t 20) 0),q 22 (.bin .mul (.t 19) (.t 21)),q 23 (.bin .add (.t 17) (.t 22)),q 4 (.mv (.t 23))]) .ret))⟩
theorem k146 : cF Tryz.prog Tryz.f146 = some c146 := by kernel_rfl
def c147 : AF := ⟨2,13,[(4,none)],(.seq (.ops [q 2 (.box (.t 0)),q 3 (.box (.t 1)),q 4 (.mv (.c (.v (.int .i64 0))))]) (.seq (.reg [0,1,0,4,0,28,63,127,255] [q 5 (.fa (.t 2) 4),q 6 (.ld (.t 5) 0),q 7 (.fa (.t 2) 1),q 8 (.ld (.t 7) 3),q 9 (.ld (.t 3) 2),q 10 (.call 103 [(.t 8),(.t 9)]),q 11 (.ia (.t 6) (.t 10) 0),q 12 (.ld (.t 11) 0),q 4 (.mv (.t 12))]) .ret))⟩
theorem k147 : cF Tryz.prog Tryz.f147 = some c147 := by kernel_rfl
def c148 : AF := ⟨2,16,[(4,none)],(.seq (.ops [q 4 (.mv (.c (.v (.int .i64 0))))]) (.seq (.seq (.ops [q 5 (.mv (.t 1)),q 6 (.bin .eql (.t 5) (.c (.v (.int .i64 0))))]) (.cond (.t 6) (.seq (.ops [q 7 (.mv (.t 0)),q 8 (.mv (.t 0)),q 9 (.un .neg (.t 8)),q 10 (.mm true (.t 7) (.t 9)),q 4 (.mv (.t 10))]) .ret) .skip)) (.seq (.ops [q 11 (.mv (.t 1)),q 12 (.mv (.t 0)),q 13 (.mv (.t 1)),q 14 (.bin .rem (.t 12) (.t 13)),q 15 (.call 148 [(.t 11),(.t 14)]),q 4 (.mv (.t 15))]) .ret)))⟩
theorem k148 : cF Tryz.prog Tryz.f148 = some c148 := by kernel_rfl
def c149 : AF := ⟨2,14,[(4,(some 2))],(.seq (.ops [q 2 (.box (.t 0)),q 4 (.al [(.v (.int .i64 0)),(.v (.int .i64 0))])]) (.seq (.ops [q 5 (.mv (.t 1)),q 6 (.fa (.t 2) 0),q 7 (.ld (.t 6) 0),q 8 (.bin .mul (.t 5) (.t 7)),q 9 (.mv (.t 1)),q 10 (.fa (.t 2) 1),q 11 (.ld (.t 10) 0),q 12 (.bin .mul (.t 9) (.t 11)),q 13 (.bld [(.v (.int .i64 0)),(.v (.int .i64 0))] [(0,1,(.t 8)),(1,1,(.t 12))]),⟨none,none,.st (.t 4) (.t 13) 2⟩]) .ret))⟩
theorem k149 : cF Tryz.prog Tryz.f149 = some c149 := by kernel_rfl
def c150 : AF := ⟨2,33,[(4,none)],(.seq (.ops [q 3 (.box (.t 1)),q 4 (.mv (.c (.nil 4)))]) (.seq (.ops [q 8 (.mv (.t 0)),q 9 (.call 157 [(.t 8)]),q 5 (.mv (.t 9))]) (.seq (.ops [q 10 (.bsl 4 45 []),q 6 (.mv (.t 10))]) (.seq (.seq (.ops [q 7 (.mv (.c (.v (.int .i64 0))))]) (.block 0 (.loop (.seq (.seq (.ops [q 11 (.mv (.t 7)),q 12 (.mv (.t 5)),q 13 (.len false (.t 12)),q 14 (.bin .lss (.t 11) (.t 13))]) (.cond (.t 14) .skip (.exit 0))) (.seq (.block 1 (.seq (.reg [0,0,3,7,0,31,0,127] [q 17 (.mv (.t 5)),q 18 (.mv (.t 7)),q 19 (.ia (.t 17) (.t 18) 4),q 20 (.ld (.t 19) 4),q 21 (.ld (.t 3) 3),q 22 (.call 102 [(.t 20),(.t 21)]),q 23 (.ld (.t 3) 3),q 24 (.eq false 3 [1,1,1] (.t 22) (.t 23))]) (.cond (.t 24) (.ops [q 25 (.mv (.t 6)),q 26 (.mv (.t 5)),q 27 (.mv (.t 7)),q 28 (.ia (.t 26) (.t 27) 4),q 29 (.ld (.t 28) 4),q 30 (.bsl 4 45 [(.t 29)]),q 31 (.app 4 45 32 (.t 25) (.t 30)),q 6 (.mv (.t 31))]) .skip))) (.ops [q 15 (.mv (.t 7)),q 16 (.bin .add (.t 15) (.c (.v (.int .i64 1)))),q 7 (.mv (.t 16))])))))) (.seq (.ops [q 32 (.mv (.t 6)),q 4 (.mv (.t 32))]) .ret)))))⟩
theorem k150 : cF Tryz.prog Tryz.f150 = some c150 := by kernel_rfl
def c151 : AF := ⟨2,19,[(4,(some 6))],(.seq (.ops [q 2 (.box (.t 0)),q 3 (.box (.t 1)),q 4 (.al [(.v (.int .i64 0)),(.v (.int .i64 0)),(.v (.int .i64 0)),(.v (.int .i64 0)),(.v (.int .i64 0)),(.v (.int .i64 0))])]) (.seq (.reg [0,1,0,4,15,0,32,0,128,511,0,1024,4095,8191,16383] [q 5 (.fa (.t 2) 0),q 6 (.ld (.t 5) 4),q 7 (.fa (.t 3) 0),q 8 (.ld (.t 7) 4),q 9 (.call 158 [(.t 6),(.t 8)]),q 10 (.fa (.t 2) 0),q 11 (.ld (.t 10) 4),q 12 (.fa (.t 3) 4),q 13 (.ld (.t 12) 2),q 14 (.call 139 [(.t 11),(.t 13)]),q 15 (.fa (.t 2) 4),q 16 (.ld (.t 15) 2),q 17 (.call 136 [(.t 14),(.t 16)]),q 18 (.bld [(.v (.int .i64 0)),(.v (.int .i64 0)),(.v (.int .i64 0)),(.v (.int .i64 0)),(.v (.int .i64 0)),(.v (.int .i64 0))] [(0,4,(.t 9)),(4,2,(.t 17))]),⟨none,none,.st (.t 4) (.t 18) 6⟩]) .ret))⟩
theorem k151 : cF Tryz.prog Tryz.f151 = some c151 := by kernel_rfl
def c152 : AF := ⟨2,21,[(4,none)],(.seq (.ops [q 3 (.box (.t 1)),q 4 (.mv (.c (.v (.bool false))))]) (.seq (.ops [q 6 (.mv (.t 0)),q 7 (.ld (.t 3) 6),q 8 (.call 159 [(.t 6),(.t 7)]),q 5 (.mv (.t 8))]) (.seq (.reg [0,0,2,7,15,31,31,127,255,31,1023,2047,4095] [q 9 (.mv (.t 5)),q 10 (.mv (.t 0)),q 11 (.len false (.t 10)),q 12 (.bin .lss (.t 9) (.t 11)),q 13 (.mv (.t 12)),⟨(some 14),(some (13,true)),.mv (.t 0)⟩,⟨(some 15),(some (13,true)),.mv (.t 5)⟩,⟨(some 16),(some (13,true)),.ia (.t 14) (.t 15) 6⟩,⟨(some 17),(some (13,true)),.ld (.t 16) 6⟩,⟨(some 18),(some (13,true)),.ld (.t 3) 6⟩,⟨(some 19),(some (13,true)),.eq false 6 [1,1,1,1,1,1] (.t 17) (.t 18)⟩,q 20 (.pick (.t 13) (.t 19) (.c (.v (.bool false)))),q 4 (.mv (.t 20))]) .ret)))⟩
theorem k152 : cF Tryz.prog Tryz.f152 = some c152 := by kernel_rfl
def c153 : AF := ⟨2,34,[(4,none)],(.seq (.ops [q 3 (.box (.t 1)),q 4 (.mv (.c (.nil 6)))]) (.seq (.ops [q 6 (.mv (.t 0)),q 7 (.ld (.t 3) 6),q 8 (.call 159 [(.t 6),(.t 7)]),q 5 (.mv (.t 8))]) (.seq (.seq (.reg [0,0,2,7,15,31,31,127,255,31,1023,2047] [q 9 (.mv (.t 5)),q 10 (.mv (.t 0)),q 11 (.len false (.t 10)),q 12 (.bin .lss (.t 9) (.t 11)),q 13 (.mv (.t 12)),⟨(some 14),(some (13,true)),.mv (.t 0)⟩,⟨(some 15),(some (13,true)),.mv (.t 5)⟩,⟨(some 16),(some (13,true)),.ia (.t 14) (.t 15) 6⟩,⟨(some 17),(some (13,true)),.ld (.t 16) 6⟩,⟨(some 18),(some (13,true)),.ld (.t 3) 6⟩,⟨(some 19),(some (13,true)),.eq false 6 [1,1,1,1,1,1] (.t 17) (.t 18)⟩,q 20 (.pick (.t 13) (.t 19) (.c (.v (.bool false))))]) (.cond (.t 20) (.seq (.ops [q 21 (.mv (.t 0)),q 4 (.mv (.t 21))]) .ret) .skip)) (.seq (.reg [0,0,0,6,15,0,32,127,0,0,768,2047,4095] [q 22 (.bsl 6 47 []),q 23 (.mv (.t 0)),q 24 (.mv (.t 5)),q 25 (.sub 6 (.t 23) none (some (.t 24))),q 26 (.app 6 47 48 (.t 22) (.t 25)),q 27 (.ld (.t 3) 6),q 28 (.bsl 6 47 [(.t 27)]),q 29 (.app 6 47 48 (.t 26) (.t 28)),q 30 (.mv (.t 0)),q 31 (.mv (.t 5)),q 32 (.sub 6 (.t 30) (some (.t 31)) none),q 33 (.app 6 47 48 (.t 29) (.t 32)),q 4 (.mv (.t 33))]) .ret))))⟩
theorem k153 : cF Tryz.prog Tryz.f153 = some c153 := by kernel_rfl
def c154 : AF := ⟨2,38,[(4,none)],(.seq (.ops [q 2 (.box (.t 0)),q 4 (.mv (.c (.nil 0)))]) (.seq (.ops [q 9 (.ld (.t 2) 3),q 10 (.call 61 [(.t 9)]),q 5 (.mv (.t 10))]) (.seq (.ops [q 11 (.bsl 0 29 []),q 6 (.mv (.t 11))]) (.seq (.seq (.ops [q 7 (.mv (.c (.v (.int .i64 0))))]) (.block 0 (.loop (.seq (.seq (.ops [q 12 (.mv (.t 7)),q 13 (.mv (.t 5)),q 14 (.len false (.t 13)),q 15 (.bin .lss (.t 12) (.t 14))]) (.cond (.t 15) .skip (.exit 0))) (.seq (.block 1 (.seq (.reg [0,0,0,0,12,28,63,127] [q 18 (.ld (.t 2) 3),q 19 (.mv (.t 1)),q 20 (.mv (.t 5)),q 21 (.mv (.t 7)),q 22 (.ia (.t 20) (.t 21) 2),q 23 (.ld (.t 22) 2),q 24 (.call 160 [(.t 18),(.t 19),(.t 23)]),q 8 (.mv (.t 24))]) (.seq (.reg [0,1,3,0,0,24,56,127] [q 25 (.mv (.t 8)),q 26 (.ia (.t 25) (.c (.v (.int .i64 0))) 2),q 27 (.ld (.t 26) 2),q 28 (.mv (.t 5)),q 29 (.mv (.t 7)),q 30 (.ia (.t 28) (.t 29) 2),q 31 (.ld (.t 30) 2),q 32 (.eq false 2 [1,1] (.t 27) (.t 31))]) (.cond (.t 32) (.ops [q 33 (.mv (.t 6)),q 34 (.mv (.t 8)),q 35 (.bsl 0 29 [(.t 34)]),q 36 (.app 0 29 24 (.t 33) (.t 35)),q 6 (.mv (.t 36))]) .skip)))) (.ops [q 16 (.mv (.t 7)),q 17 (.bin .add (.t 16) (.c (.v (.int .i64 1)))),q 7 (.mv (.t 17))])))))) (.seq (.ops [q 37 (.mv (.t 6)),q 4 (.mv (.t 37))]) .ret)))))⟩
theorem k154 : cF Tryz.prog Tryz.f154 = some c154 := by kernel_rfl
def c155 : AF := ⟨2,19,[(4,none)],(.seq (.ops [q 4 (.mv (.c (.v (.int .i64 0))))]) (.seq (.seq (.ops [q 6 (.mv (.t 0)),q 7 (.len false (.t 6)),q 8 (.mv (.c (.v (.int .i64 0))))]) (.block 0 (.loop (.seq (.ops [q 9 (.bin .lss (.t 8) (.t 7))]) (.seq (.cond (.t 9) .skip (.exit 0)) (.seq (.block 1 (.seq (.ops [q 10 (.mv (.t 8)),q 5 (.mv (.t 10))]) (.seq (.ops [q 11 (.mv (.t 1)),q 12 (.mv (.t 0)),q 13 (.mv (.t 5)),q 14 (.ia (.t 12) (.t 13) 0),q 15 (.ld (.t 14) 0),q 16 (.callv (.t 11) [(.t 15)])]) (.cond (.t 16) (.seq (.ops [q 17 (.mv (.t 5)),q 4 (.mv (.t 17))]) .ret) .skip)))) (.ops [q 18 (.bin .add (.t 8) (.c (.v (.int .i64 1)))),q 8 (.mv (.t 18))]))))))) (.seq (.ops [q 4 (.mv (.c (.v (.int .i64 (-1)))))]) .ret)))⟩
theorem k155 : cF Tryz.prog Tryz.f155 = some c155 := by kernel_rfl
def c156 : AF := ⟨1,14,[(2,none)],(.seq (.ops [q 1 (.box (.t 0)),q 2 (.mv (.c (.v (.int .i64 0))))]) (.seq (.ops [q 3 (.fa (.t 1) 0),q 4 (.ld (.t 3) 0),q 5 (.fa (.t 1) 3),q 6 (.ld (.t 5) 0),q 7 (.bin .mul (.t 4) (.t 6)),q 8 (.fa (.t 1) 1),q 9 (.ld (.t 8) 0),q 10 (.fa (.t 1) 2),q 11 (.ld (.t 10) 0),q 12 (.bin .mul (.t 9) (.t 11)),q 13 (.bin .sub (.t 7) (.t 12)),q 2 (.mv (.t 13))]) .ret))⟩
theorem k156 : cF Tryz.prog Tryz.f156 = some c156 := by kernel_rfl
def c157 : AF := ⟨1,34,[(2,none)],(.seq (.ops [q 2 (.mv (.c (.nil 4)))]) (.seq (.ops [q 6 (.bsl 4 45 []),q 3 (.mv (.t 6))]) (.seq (.seq (.ops [q 4 (.mv (.c (.v (.int .i64 0))))]) (.block 0 (.loop (.seq (.seq (.ops [q 7 (.mv (.t 4)),q 8 (.bin .lss (.t 7) (.c (.v (.int .i64 81))))]) (.cond (.t 8) .skip (.exit 0))) (.seq (.block 1 (.seq (.ops [q 11 (.mv (.t 4)),q 12 (.bin .quo (.t 11) (.c (.v (.int .i64 27)))),q 13 (.bin .sub (.t 12) (.c (.v (.int .i64 1)))),q 14 (.mv (.t 4)),q 15 (.bin .quo (.t 14) (.c (.v (.int .i64 9)))),q 16 (.bin .rem (.t 15) (.c (.v (.int .i64 3)))),q 17 (.bin .sub (.t 16) (.c (.v (.int .i64 1)))),q 18 (.mv (.t 4)),q 19 (.bin .quo (.t 18) (.c (.v (.int .i64 3)))),q 20 (.bin .rem (.t 19) (.c (.v (.int .i64 3)))),q 21 (.bin .sub (.t 20) (.c (.v (.int .i64 1)))),q 22 (.mv (.t 4)),q 23 (.bin .rem (.t 22) (.c (.v (.int .i64 3)))),q 24 (.bin .sub (.t 23) (.c (.v (.int .i64 1)))),q 25 (.bld [(.v (.int .i64 0)),(.v (.int .i64 0)),(.v (.int .i64 0)),(.v (.int .i64 0))] [(0,1,(.t 13)),(1,1,(.t 17)),(2,1,(.t 21)),(3,1,(.t 24))]),q 5 (.al [(.v (.int .i64 0)),(.v (.int .i64 0)),(.v (.int .i64 0)),(.v (.int .i64 0))]),⟨none,none,.st (.t 5) (.t 25) 4⟩]) (.seq (.ops [q 26 (.mv (.t 0)),q 27 (.ld (.t 5) 4),q 28 (.call 161 [(.t 26),(.t 27)])]) (.cond (.t 28) (.ops [q 29 (.mv (.t 3)),q 30 (.ld (.t 5) 4),q 31 (.bsl 4 45 [(.t 30)]),q 32 (.app 4 45 32 (.t 29) (.t 31)),q 3 (.mv (.t 32))]) .skip)))) (.ops [q 9 (.mv (.t 4)),q 10 (.bin .add (.t 9) (.c (.v (.int .i64 1)))),q 4 (.mv (.t 10))])))))) (.seq (.ops [q 33 (.mv (.t 3)),q 2 (.mv (.t 33))]) .ret))))⟩
theorem k157 : cF Tryz.prog Tryz.f157 = some c157 := by kernel_rfl
def c158 : AF := ⟨2,50,[(4,(some 4))],(.seq (.ops [q 2 (.box (.t 0)),q 3 (.box (.t 1)),q 4 (.al [(.v (.int .i64 0)),(.v (.int .i64 0)),(.v (.int .i64 0)),(.v (.int .i64 0))])]) (.seq (.ops [q 5 (.fa (.t 2) 0),q 6 (.ld (.t 5) 0),q 7 (.fa (.t 3) 0),q 8 (.ld (.t 7) 0),q 9 (.bin .mul (.t 6) (.t 8)),q 10 (.fa (.t 2) 1),q 11 (.ld (.t 10) 0),q 12 (.fa (.t 3) 2),q 13 (.ld (.t 12) 0),q 14 (.bin .mul (.t 11) (.t 13)),q 15 (.bin .add (.t 9) (.t 14)),q 16 (.fa (.t 2) 0),q 17 (.ld (.t 16) 0),q 18 (.fa (.t 3) 1),q 19 (.ld (.t 18) 0),q 20 (.bin .mul (.t 17) (.t 19)),q 21 (.fa (.t 2) 1),q 22 (.ld (.t 21) 0),q 23 (.fa (.t 3) 3),q 24 (.ld (.t 23) 0),q 25 (.bin .mul (.t 22) (.t 24)),q 26 (.bin .add (.t 20) (.t 25)),q 27 (.fa (.t 2) 2),q 28 (.ld (.t 27) 0),q 29 (.fa (.t 3) 0),q 30 (.ld (.t 29) 0),q 31 (.bin .mul (.t 28) (.t 30)),q 32 (.fa (.t 2) 3),q 33 (.ld (.t 32) 0),q 34 (.fa (.t 3) 2),q 35 (.ld (.t 34) 0),q 36 (.bin .mul (.t 33) (.t 35)),q 37 (.bin .add (.t 31) (.t 36)),q 38 (.fa (.t 2) 2),q 39 (.ld (.t 38) 0),q 40 (.fa (.t 3) 1),q 41 (.ld (.t 40) 0),q 42 (.bin .mul (.t 39) (.t 41)),q 43 (.fa (.t 2) 3),q 44 (.ld (.t 43) 0),q 45 (.fa (.t 3) 3),q 46 (.ld (.t 45) 0),q 47 (.bin .mul (.t 44) (.t 46)),q 48 (.bin .add (.t 42) (.t 47)),q 49 (.bld [(.v (.int .i64 0)),(.v (.int .i64 0)),(.v (.int .i64 0)),(.v (.int .i64 0))] [(0,1,(.t 15)),(1,1,(.t 26)),(2,1,(.t 37)),(3,1,(.t 48))]),⟨none,none,.st (.t 4) (.t 49) 4⟩]) .ret))⟩
theorem k158 : cF Tryz.prog Tryz.f158 = some c158 := by kernel_rfl
def c159 : AF := ⟨2,27,[(4,none)],(.seq (.ops [q 3 (.box (.t 1)),q 4 (.mv (.c (.v (.int .i64 0))))]) (.seq (.ops [q 8 (.mv (.t 0)),q 9 (.len false (.t 8)),q 5 (.mv (.c (.v (.int .i64 0)))),q 6 (.mv (.t 9))]) (.seq (.block 0 (.loop (.seq (.seq (.ops [q 10 (.mv (.t 5)),q 11 (.mv (.t 6)),q 12 (.bin .lss (.t 10) (.t 11))]) (.cond (.t 12) .skip (.exit 0))) (.block 1 (.seq (.ops [q 13 (.mv (.t 5)),q 14 (.mv (.t 6)),q 15 (.bin .add (.t 13) (.t 14)),q 16 (.bin .quo (.t 15) (.c (.v (.int .i64 2)))),q 7 (.mv (.t 16))]) (.seq (.reg [0,0,3,7,0,31] [q 17 (.mv (.t 0)),q 18 (.mv (.t 7)),q 19 (.ia (.t 17) (.t 18) 6),q 20 (.ld (.t 19) 6),q 21 (.ld (.t 3) 6),q 22 (.call 162 [(.t 20),(.t 21)])]) (.cond (.t 22) (.ops [q 23 (.mv (.t 7)),q 24 (.bin .add (.t 23) (.c (.v (.int .i64 1)))),q 5 (.mv (.t 24))]) (.ops [q 25 (.mv (.t 7)),q 6 (.mv (.t 25))])))))))) (.seq (.ops [q 26 (.mv (.t 5)),q 4 (.mv (.t 26))]) .ret))))⟩
theorem k159 : cF Tryz.prog Tryz.f159 = some c159 := by kernel_rfl
def c160 : AF := ⟨3,26,[(6,none)],(.seq (.ops [q 3 (.box (.t 0)),q 5 (.box (.t 2)),q 6 (.mv (.c (.nil 2)))]) (.seq (.ops [q 9 (.bsl 2 39 []),q 7 (.mv (.t 9))]) (.seq (.seq (.ops [q 8 (.mv (.c (.v (.int .i64 0))))]) (.block 0 (.loop (.seq (.seq (.ops [q 10 (.mv (.t 8)),q 11 (.mv (.t 1)),q 12 (.len false (.t 11)),q 13 (.bin .lss (.t 10) (.t 12))]) (.cond (.t 13) .skip (.exit 0))) (.seq (.block 1 (.reg [0,0,0,0,12,28,0,126,255,511] [q 16 (.mv (.t 7)),q 17 (.ld (.t 3) 3),q 18 (.mv (.t 1)),q 19 (.mv (.t 8)),q 20 (.ia (.t 18) (.t 19) 6),q 21 (.ld (.t 20) 6),q 22 (.ld (.t 5) 2),q 23 (.call 164 [(.t 17),(.t 21),(.t 22)]),q 24 (.call 163 [(.t 16),(.t 23)]),q 7 (.mv (.t 24))])) (.ops [q 14 (.mv (.t 8)),q 15 (.bin .add (.t 14) (.c (.v (.int .i64 1)))),q 8 (.mv (.t 15))])))))) (.seq (.ops [q 25 (.mv (.t 7)),q 6 (.mv (.t 25))]) .ret))))⟩
theorem k160 : cF Tryz.prog Tryz.f160 = some c160 := by kernel_rfl
def c161 : AF := ⟨2,37,[(4,none)],(.seq (.ops [q 3 (.box (.t 1)),q 4 (.mv (.c (.v (.bool false))))]) (.seq (.reg [0,1,0,4,15,0,32,0,128,480,0,0,3103,8191] [q 7 (.fa (.t 3) 0),q 8 (.ld (.t 7) 0),q 9 (.fa (.t 3) 2),q 10 (.ld (.t 9) 0),q 11 (.bld [(.v (.int .i64 0)),(.v (.int .i64 0))] [(0,1,(.t 8)),(1,1,(.t 10))]),q 12 (.fa (.t 3) 1),q 13 (.ld (.t 12) 0),q 14 (.fa (.t 3) 3),q 15 (.ld (.t 14) 0),q 16 (.bld [(.v (.int .i64 0)),(.v (.int .i64 0))] [(0,1,(.t 13)),(1,1,(.t 15))]),q 5 (.al [(.v (.int .i64 0)),(.v (.int .i64 0))]),q 6 (.al [(.v (.int .i64 0)),(.v (.int .i64 0))]),⟨none,none,.st (.t 5) (.t 11) 2⟩,⟨none,none,.st (.t 6) (.t 16) 2⟩]) (.seq (.ops [q 17 (.mv (.t 0)),q 18 (.ld (.t 5) 2),q 19 (.call 165 [(.t 17),(.t 18)]),q 20 (.bin .eql (.t 19) (.c (.v (.int .i64 1)))),q 21 (.mv (.t 20)),⟨(some 22),(some (21,true)),.mv (.t 0)⟩,⟨(some 23),(some (21,true)),.ld (.t 6) 2⟩,⟨(some 24),(some (21,true)),.call 165 [(.t 22),(.t 23)]⟩,⟨(some 25),(some (21,true)),.bin .eql (.t 24) (.c (.v (.int .i64 1)))⟩,q 26 (.pick (.t 21) (.t 25) (.c (.v (.bool false)))),q 27 (.mv (.t 26)),⟨(some 28),(some (27,true)),.mv (.t 0)⟩,⟨(some 29),(some (27,true)),.ld (.t 5) 2⟩,⟨(some 30),(some (27,true)),.ld (.t 6) 2⟩,⟨(some 31),(some (27,true)),.call 136 [(.t 29),(.t 30)]⟩,⟨(some 32),(some (27,true)),.call 165 [(.t 28),(.t 31)]⟩,⟨(some 33),(some (27,true)),.mv (.t 0)⟩,⟨(some 34),(some (27,true)),.bin .add (.c (.v (.int .i64 2))) (.t 33)⟩,⟨(some 35),(some (27,true)),.bin .eql (.t 32) (.t 34)⟩,q 36 (.pick (.t 27) (.t 35) (.c (.v (.bool false)))),q 4 (.mv (.t 36))]) .ret)))⟩
theorem k161 : cF Tryz.prog Tryz.f161 = some c161 := by kernel_rfl
def c162 : AF := ⟨2,20,[(4,none)],(.seq (.ops [q 2 (.box (.t 0)),q 3 (.box (.t 1)),q 4 (.mv (.c (.v (.bool false))))]) (.seq (.seq (.ops [q 5 (.fa (.t 2) 0),q 6 (.ld (.t 5) 4),q 7 (.fa (.t 3) 0),q 8 (.ld (.t 7) 4),q 9 (.eq true 4 [1,1,1,1] (.t 6) (.t 8))]) (.cond (.t 9) (.seq (.ops [q 10 (.fa (.t 2) 0),q 11 (.ld (.t 10) 4),q 12 (.fa (.t 3) 0),q 13 (.ld (.t 12) 4),q 14 (.call 166 [(.t 11),(.t 13)]),q 4 (.mv (.t 14))]) .ret) .skip)) (.seq (.ops [q 15 (.fa (.t 2) 4),q 16 (.ld (.t 15) 2),q 17 (.fa (.t 3) 4),q 18 (.ld (.t 17) 2),q 19 (.call 167 [(.t 16),(.t 18)]),q 4 (.mv (.t 19))]) .ret)))⟩
theorem k162 : cF Tryz.prog Tryz.f162 = some c162 := by kernel_rfl
def c163 : AF := ⟨2,45,[(4,none)],(.seq (.ops [q 3 (.box (.t 1)),q 4 (.mv (.c (.nil 2)))]) (.seq (.ops [q 5 (.mv (.c (.v (.int .i64 0))))]) (.seq (.block 0 (.loop (.seq (.seq (.reg [0,0,2,7,15,31,31,127,255,31,1023,2047] [q 6 (.mv (.t 5)),q 7 (.mv (.t 0)),q 8 (.len false (.t 7)),q 9 (.bin .lss (.t 6) (.t 8)),q 10 (.mv (.t 9)),⟨(some 11),(some (10,true)),.mv (.t 0)⟩,⟨(some 12),(some (10,true)),.mv (.t 5)⟩,⟨(some 13),(some (10,true)),.ia (.t 11) (.t 12) 2⟩,⟨(some 14),(some (10,true)),.ld (.t 13) 2⟩,⟨(some 15),(some (10,true)),.ld (.t 3) 2⟩,⟨(some 16),(some (10,true)),.call 167 [(.t 14),(.t 15)]⟩,q 17 (.pick (.t 10) (.t 16) (.c (.v (.bool false))))]) (.cond (.t 17) .skip (.exit 0))) (.block 1 (.ops [q 18 (.mv (.t 5)),q 19 (.bin .add (.t 18) (.c (.v (.int .i64 1)))),q 5 (.mv (.t 19))]))))) (.seq (.seq (.reg [0,0,2,7,15,31,31,127,255,31,1023,2047] [q 20 (.mv (.t 5)),q 21 (.mv (.t 0)),q 22 (.len false (.t 21)),q 23 (.bin .lss (.t 20) (.t 22)),q 24 (.mv (.t 23)),⟨(some 25),(some (24,true)),.mv (.t 0)⟩,⟨(some 26),(some (24,true)),.mv (.t 5)⟩,⟨(some 27),(some (24,true)),.ia (.t 25) (.t 26) 2⟩,⟨(some 28),(some (24,true)),.ld (.t 27) 2⟩,⟨(some 29),(some (24,true)),.ld (.t 3) 2⟩,⟨(some 30),(some (24,true)),.eq false 2 [1,1] (.t 28) (.t 29)⟩,q 31 (.pick (.t 24) (.t 30) (.c (.v (.bool false))))]) (.cond (.t 31) (.seq (.ops [q 32 (.mv (.t 0)),q 4 (.mv (.t 32))]) .ret) .skip)) (.seq (.reg [0,0,0,6,15,0,32,127,0,0,768,2047,4095] [q 33 (.bsl 2 39 []),q 34 (.mv (.t 0)),q 35 (.mv (.t 5)),q 36 (.sub 2 (.t 34) none (some (.t 35))),q 37 (.app 2 39 16 (.t 33) (.t 36)),q 38 (.ld (.t 3) 2),q 39 (.bsl 2 39 [(.t 38)]),q 40 (.app 2 39 16 (.t 37) (.t 39)),q 41 (.mv (.t 0)),q 42 (.mv (.t 5)),q 43 (.sub 2 (.t 41) (some (.t 42)) none),q 44 (.app 2 39 16 (.t 40) (.t 43)),q 4 (.mv (.t 44))]) .ret)))))⟩
theorem k163 : cF Tryz.prog Tryz.f163 = some c163 := by kernel_rfl
def c164 : AF := ⟨3,12,[(6,(some 2))],(.seq (.ops [q 3 (.box (.t 0)),q 4 (.box (.t 1)),q 5 (.box (.t 2)),q 6 (.al [(.v (.int .i64 0)),(.v (.int .i64 0))])]) (.seq (.reg [0,0,0,6,15,31] [q 7 (.ld (.t 3) 3),q 8 (.ld (.t 4) 6),q 9 (.ld (.t 5) 2),q 10 (.call 104 [(.t 8),(.t 9)]),q 11 (.call 140 [(.t 7),(.t 10)]),⟨none,none,.st (.t 6) (.t 11) 2⟩]) .ret))⟩
theorem k164 : cF Tryz.prog Tryz.f164 = some c164 := by kernel_rfl
def c165 : AF := ⟨2,27,[(4,none)],(.seq (.ops [q 3 (.box (.t 1)),q 4 (.mv (.c (.v (.int .i64 0))))]) (.seq (.ops [q 6 (.fa (.t 3) 0),q 7 (.ld (.t 6) 0),q 8 (.fa (.t 3) 0),q 9 (.ld (.t 8) 0),q 10 (.bin .mul (.t 7) (.t 9)),q 11 (.fa (.t 3) 1),q 12 (.ld (.t 11) 0),q 13 (.fa (.t 3) 1),q 14 (.ld (.t 13) 0),q 15 (.bin .mul (.t 12) (.t 14)),q 16 (.bin .add (.t 10) (.t 15)),q 5 (.mv (.t 16))]) (.seq (.seq (.ops [q 17 (.mv (.t 0)),q 18 (.bin .eql (.t 17) (.c (.v (.int .i64 1))))]) (.cond (.t 18) (.ops [q 19 (.mv (.t 5)),q 20 (.fa (.t 3) 0),q 21 (.ld (.t 20) 0),q 22 (.fa (.t 3) 1),q 23 (.ld (.t 22) 0),q 24 (.bin .mul (.t 21) (.t 23)),q 25 (.bin .add (.t 19) (.t 24)),q 5 (.mv (.t 25))]) .skip)) (.seq (.ops [q 26 (.mv (.t 5)),q 4 (.mv (.t 26))]) .ret))))⟩
theorem k165 : cF Tryz.prog Tryz.f165 = some c165 := by kernel_rfl
def c166 : AF := ⟨2,10,[(4,none)],(.seq (.ops [q 2 (.box (.t 0)),q 3 (.box (.t 1)),q 4 (.mv (.c (.v (.bool false))))]) (.seq (.reg [0,1,0,7,15,31] [q 5 (.ld (.t 2) 4),q 6 (.call 169 [(.t 5)]),q 7 (.ld (.t 3) 4),q 8 (.call 169 [(.t 7)]),q 9 (.call 168 [(.t 6),(.t 8)]),q 4 (.mv (.t 9))]) .ret))⟩
theorem k166 : cF Tryz.prog Tryz.f166 = some c166 := by kernel_rfl
def c167 : AF := ⟨2,24,[(4,none)],(.seq (.ops [q 2 (.box (.t 0)),q 3 (.box (.t 1)),q 4 (.mv (.c (.v (.bool false))))]) (.seq (.ops [q 5 (.fa (.t 2) 0),q 6 (.ld (.t 5) 0),q 7 (.fa (.t 3) 0),q 8 (.ld (.t 7) 0),q 9 (.bin .lss (.t 6) (.t 8)),q 10 (.mv (.t 9)),⟨(some 11),(some (10,false)),.fa (.t 2) 0⟩,⟨(some 12),(some (10,false)),.ld (.t 11) 0⟩,⟨(some 13),(some (10,false)),.fa (.t 3) 0⟩,⟨(some 14),(some (10,false)),.ld (.t 13) 0⟩,⟨(some 15),(some (10,false)),.bin .eql (.t 12) (.t 14)⟩,⟨(some 16),(some (10,false)),.mv (.t 15)⟩,⟨(some 17),(some (16,true)),.fa (.t 2) 1⟩,⟨(some 18),(some (16,true)),.ld (.t 17) 0⟩,⟨(some 19),(some (16,true)),.fa (.t 3) 1⟩,⟨(some 20),(some (16,true)),.ld (.t 19) 0⟩,⟨(some 21),(some (16,true)),.bin .lss (.t 18) (.t 20)⟩,⟨(some 22),(some (10,false)),.pick (.t 16) (.t 21) (.c (.v (.bool false)))⟩,q 23 (.pick (.t 10) (.c (.v (.bool true))) (.t 22)),q 4 (.mv (.t 23))]) .ret))⟩
theorem k167 : cF Tryz.prog Tryz.f167 = some c167 := by kernel_rfl
def c168 : AF := ⟨2,41,[(4,none)],(.seq (.ops [q 4 (.mv (.c (.v (.bool false))))]) (.seq (.seq (.ops [q 5 (.mv (.c (.v (.int .i64 0))))]) (.block 0 (.loop (.seq (.seq (.ops [q 6 (.mv (.t 5)),q 7 (.mv (.t 0)),q 8 (.len false (.t 7)),q 9 (.bin .lss (.t 6) (.t 8)),q 10 (.mv (.t 9)),⟨(some 11),(some (10,true)),.mv (.t 5)⟩,⟨(some 12),(some (10,true)),.mv (.t 1)⟩,⟨(some 13),(some (10,true)),.len false (.t 12)⟩,⟨(some 14),(some (10,true)),.bin .lss (.t 11) (.t 13)⟩,q 15 (.pick (.t 10) (.t 14) (.c (.v (.bool false))))]) (.cond (.t 15) .skip (.exit 0))) (.seq (.block 1 (.seq (.reg [0,0,3,7,0,0,48,112,255] [q 18 (.mv (.t 0)),q 19 (.mv (.t 5)),q 20 (.ia (.t 18) (.t 19) 0),q 21 (.ld (.t 20) 0),q 22 (.mv (.t 1)),q 23 (.mv (.t 5)),q 24 (.ia (.t 22) (.t 23) 0),q 25 (.ld (.t 24) 0),q 26 (.bin .neq (.t 21) (.t 25))]) (.cond (.t 26) (.seq (.reg [0,0,3,7,0,0,48,112,255,511] [q 27 (.mv (.t 0)),q 28 (.mv (.t 5)),q 29 (.ia (.t 27) (.t 28) 0),q 30 (.ld (.t 29) 0),q 31 (.mv (.t 1)),q 32 (.mv (.t 5)),q 33 (.ia (.t 31) (.t 32) 0),q 34 (.ld (.t 33) 0),q 35 (.bin .lss (.t 30) (.t 34)),q 4 (.mv (.t 35))]) .ret) .skip))) (.ops [q 16 (.mv (.t 5)),q 17 (.bin .add (.t 16) (.c (.v (.int .i64 1)))),q 5 (.mv (.t 17))])))))) (.seq (.ops [q 36 (.mv (.t 0)),q 37 (.len false (.t 36)),q 38 (.mv (.t 1)),q 39 (.len false (.t 38)),q 40 (.bin .lss (.t 37) (.t 39)),q 4 (.mv (.t 40))]) .ret)))⟩
theorem k168 : cF Tryz.prog Tryz.f168 = some c168 := by kernel_rfl
def c169 : AF := ⟨1,12,[(2,none)],(.seq (.ops [q 1 (.box (.t 0)),q 2 (.mv (.c (.nil 0)))]) (.seq (.ops [q 3 (.fa (.t 1) 0),q 4 (.ld (.t 3) 0),q 5 (.fa (.t 1) 1),q 6 (.ld (.t 5) 0),q 7 (.fa (.t 1) 2),q 8 (.ld (.t 7) 0),q 9 (.fa (.t 1) 3),q 10 (.ld (.t 9) 0),q 11 (.bsl 0 2 [(.t 4),(.t 6),(.t 8),(.t 10)]),q 2 (.mv (.t 11))]) .ret))⟩
theorem k169 : cF Tryz.prog Tryz.f169 = some c169 := by kernel_rfl
end Go.Proofs.YtgkhakhkebjbpaaGreatEv
namespace Go.Proofs.YtgkhakhkebjbpaaGreatEv
open Go Go.Proofs
theorem mixed : Tryz.prog.follows .mixedOrders = true := by kernel_rfl
abbrev vi (n : Int) : A := .v (.int .i64 n)
abbrev vb (b : Bool) : A := .v (.bool b)
def is (l : List Int) : List V := l.map fun y => .int .i64 y
abbrev vis (l : List Int) : V := .sl 0 (is l)
abbrev no : Nat → Bool := fun _ => false
@[simp] theorem is_nil : is [] = [] := rfl
@[simp] theorem is_one (v : Int) : is [v] = [.int .i64 v] := rfl
@[simp] theorem is_set (l : List Int) (n : Nat) (v : Int) : (is l).set n (.int .i64 v) = is (l.set n v) := by simp [is, List.map_set]
@[simp] theorem is_len (l : List Int) : (is l).length = l.length := by simp [is]
@[simp] theorem is_get (l : List Int) (n : Nat) (K : V → Prop) : fA ((is l)[n]?) K = ∀ a, l[n]? = some a → K (.int .i64 a) := by unfold is; exact fA_map
@[simp] theorem is_rep (n : Nat) (k : Int) : List.replicate n (V.int .i64 k) = is (List.replicate n k) := by simp [is]
@[simp] theorem is_app (l : List Int) (v : Int) : is l ++ [.int .i64 v] = is (l ++ [v]) := by simp [is]
@[simp] theorem is_flat (l : List Int) : (∀ x, x ∈ is l → x.flat = true) ↔ True := by
  simp only [iff_true]
  intro x hx
  obtain ⟨y, _, rfl⟩ := List.mem_map.1 hx
  rfl
@[simp] theorem is_inj (a b : List Int) : is a = is b ↔ a = b := by
  constructor
  · intro h
    exact (List.map_inj_right (fun x y e => by cases e; rfl)).1 h
  · rintro rfl; rfl
theorem fill_set {α : Type} {l : List α} {i : Nat} {z a : α} (h : l[i]? = some a) : (l.take i ++ List.replicate (l.length - i) z).set i a = l.take (i + 1) ++ List.replicate (l.length - (i + 1)) z := by
  obtain ⟨h1, rfl⟩ := List.getElem?_eq_some_iff.1 h
  have e : (l.take i).length = i := by simp; omega
  have e2 : l.take (i + 1) = l.take i ++ [l[i]] := by rw [List.take_add_one, h]; rfl
  rw [show l.length - i = (l.length - (i + 1)) + 1 by omega, List.replicate_succ, List.set_append_right _ _ (by omega), e, Nat.sub_self, List.set_cons_zero, e2, List.append_assoc]
  rfl
theorem mLen : maxLen = 9223372036854775807 := by decide
set_option maxRecDepth 10000
end Go.Proofs.YtgkhakhkebjbpaaGreatEv
namespace Go.Proofs.YtgkhakhkebjbpaaGreatEv
open Go Go.Proofs
set_option maxRecDepth 10000
abbrev aV (x y : Int) : A := .v (.ag [.int .i64 x, .int .i64 y])
abbrev aL (a b c : Int) : A := .v (.ag [.int .i64 a, .int .i64 b, .int .i64 c])
abbrev aM (a b c d : Int) : A := .v (.ag [.int .i64 a, .int .i64 b, .int .i64 c, .int .i64 d])
abbrev aG (a b c d x y : Int) : A := .v (.ag [.int .i64 a, .int .i64 b, .int .i64 c, .int .i64 d, .int .i64 x, .int .i64 y])
def vv (v : Int × Int) : V := .ag [.int .i64 v.1, .int .i64 v.2]
def vs (l : List (Int × Int)) : List V := l.map vv
@[simp] theorem vs_nil : vs [] = [] := rfl
@[simp] theorem vs_len (l : List (Int × Int)) : (vs l).length = l.length := by simp [vs]
@[simp] theorem vs_get (l : List (Int × Int)) (n : Nat) (K : V → Prop) : fA ((vs l)[n]?) K = ∀ a, l[n]? = some a → K (.ag [.int .i64 a.1, .int .i64 a.2]) := by unfold vs; exact fA_map
@[simp] theorem vs_app (l : List (Int × Int)) (x y : Int) : vs l ++ [.ag [.int .i64 x, .int .i64 y]] = vs (l ++ [(x, y)]) := by simp [vs, vv]
@[simp] theorem vs_set (l : List (Int × Int)) (n : Nat) (x y : Int) : (vs l).set n (.ag [.int .i64 x, .int .i64 y]) = vs (l.set n (x, y)) := by simp [vs, vv, List.map_set]
@[simp] theorem vs_rep (n : Nat) (x y : Int) : List.replicate n (V.ag [.int .i64 x, .int .i64 y]) = vs (List.replicate n (x, y)) := by simp [vs, vv]
@[simp] theorem vs_inj (a b : List (Int × Int)) : vs a = vs b ↔ a = b := by
  constructor
  · intro h
    exact (List.map_inj_right (fun x y e => by cases x; cases y; simp only [vv, V.ag.injEq, List.cons.injEq, V.int.injEq] at e; simp_all)).1 h
  · rintro rfl; rfl
@[simp] theorem vs_flat (l : List (Int × Int)) : (∀ x, x ∈ vs l → x.flat = true) ↔ True := by
  simp only [iff_true]
  intro x hx
  obtain ⟨y, _, rfl⟩ := List.mem_map.1 hx
  rfl
theorem s_within (n a b : Int) : Sp Tryz.prog 83 [vi n, vi a, vi b] (vb (decide (a ≤ n ∧ n ≤ b))) [] := by
  refine sp_of (m := no) mixed Tryz.func83 k83 ?_
  simp -dsimp [q]
  constructor
  · intro h _; exact h
  · intro h1 h2; omega
theorem s_in (n a b : Int) : Sp Tryz.prog 69 [vi n, vi a, vi b] (vb (decide (a ≤ n ∧ n ≤ b))) [] := by
  refine sp_of (m := no) mixed Tryz.func69 k69 ?_
  simp -dsimp [q]
  constructor
  · intro h _; exact h
  · intro h1 h2; omega
theorem s_isCo (n : Int) : Sp Tryz.prog 113 [vi n] (vb (decide (-1000 ≤ n ∧ n ≤ 1000))) [] := by
  refine sp_of (m := no) mixed Tryz.func113 k113 ?_
  simp -dsimp [q]
  refine call_of (s_within _ _ _) rfl (by simp) ?_
  try simp -dsimp
  try (first | exact fp_one (by decide) | refine fp_and (by decide) ?_)
def okV (x y : Int) : Bool := decide (-1000 ≤ x ∧ x ≤ 1000) && decide (-1000 ≤ y ∧ y ≤ 1000)
theorem okV_spec {x y : Int} : okV x y = true ↔ (-1000 ≤ x ∧ x ≤ 1000) ∧ -1000 ≤ y ∧ y ≤ 1000 := by simp [okV]
theorem s_isVec (x y : Int) : Sp Tryz.prog 64 [aV x y] (vb (okV x y)) [] := by
  refine sp_of (m := no) mixed Tryz.func64 k64 ?_
  simp -dsimp [q]
  refine call_of (s_isCo _) rfl (by simp) ?_
  unfold okV
  generalize decide (-1000 ≤ x ∧ x ≤ 1000) = b
  cases b
  · simp -dsimp
  simp -dsimp
  refine call_of (s_isCo _) rfl (by simp) ?_
  try simp -dsimp
  try (first | exact fp_one (by decide) | refine fp_and (by decide) ?_)
theorem s_sisVec (x y : Int) : Sp Tryz.prog 97 [aV x y] (vb (okV x y)) [] := by
  refine sp_of (m := no) mixed Tryz.func97 k97 ?_
  simp -dsimp [q]
  refine call_of (s_in _ _ _) rfl (by simp) ?_
  unfold okV
  generalize decide (-1000 ≤ x ∧ x ≤ 1000) = b
  cases b
  · simp -dsimp
  simp -dsimp
  refine call_of (s_in _ _ _) rfl (by simp) ?_
  try simp -dsimp
  try (first | exact fp_one (by decide) | refine fp_and (by decide) ?_)
theorem s_add (x y u v : Int) (h1 : -4000000000000 ≤ x ∧ x ≤ 4000000000000) (h2 : -4000000000000 ≤ y ∧ y ≤ 4000000000000) (h3 : -4000000000000 ≤ u ∧ u ≤ 4000000000000) (h4 : -4000000000000 ≤ v ∧ v ≤ 4000000000000) : Sp Tryz.prog 141 [aV x y, aV u v] (aV (x + u) (y + v)) [] := by
  refine sp_of (m := no) mixed Tryz.func141 k141 ?_
  simp -dsimp [q]
  rw [w64 (by omega) (by omega), w64 (by omega) (by omega)]
  exact ⟨rfl, rfl⟩
theorem s_sadd (x y u v : Int) (h1 : -4000000000000 ≤ x ∧ x ≤ 4000000000000) (h2 : -4000000000000 ≤ y ∧ y ≤ 4000000000000) (h3 : -4000000000000 ≤ u ∧ u ≤ 4000000000000) (h4 : -4000000000000 ≤ v ∧ v ≤ 4000000000000) : Sp Tryz.prog 136 [aV x y, aV u v] (aV (x + u) (y + v)) [] := by
  refine sp_of (m := no) mixed Tryz.func136 k136 ?_
  simp -dsimp [q]
  rw [w64 (by omega) (by omega), w64 (by omega) (by omega)]
  exact ⟨rfl, rfl⟩
theorem tmod_lt {a b : Int} (hb : 0 < b) : -b < a.tmod b ∧ a.tmod b < b := by
  rw [Int.tmod_eq_emod]
  have h1 := Int.emod_nonneg a (show b ≠ 0 by omega)
  have h2 := Int.emod_lt_of_pos a hb
  have h3 : (b.natAbs : Int) = b := by omega
  split <;> omega
theorem mod_a {a b : Int} (hb : 0 < b) (h : a.tmod b < 0) : a.tmod b + b = a % b := by
  rw [Int.tmod_eq_emod] at h ⊢
  have h1 := Int.emod_nonneg a (show b ≠ 0 by omega)
  have h3 : (b.natAbs : Int) = b := by omega
  split at h <;> rename_i hc
  · omega
  · rw [if_neg hc]; omega
theorem mod_b {a b : Int} (hb : 0 < b) (h : 0 ≤ a.tmod b) : a.tmod b = a % b := by
  rw [Int.tmod_eq_emod] at h ⊢
  have h1 := Int.emod_lt_of_pos a hb
  have h3 : (b.natAbs : Int) = b := by omega
  split at h <;> rename_i hc
  · rw [if_pos hc]; omega
  · rw [if_neg hc]; omega
theorem s_mod (a b : Int) (hb : 0 < b ∧ b ≤ 1000000) : Sp Tryz.prog 121 [vi a, vi b] (vi (a % b)) [] := by
  refine sp_of (m := no) mixed Tryz.func121 k121 ?_
  simp -dsimp [q]
  have h1 := tmod_lt (a := a) hb.1
  refine ⟨by omega, ?_⟩
  rw [w64 (by omega) (by omega), mod_b hb.1 (Int.tmod_nonneg _ (by omega))]
  by_cases h : a.tmod b < 0
  · rw [mod_a hb.1 h, Int.emod_emod_of_dvd _ (Int.dvd_refl b)]
  · rw [mod_b hb.1 (by omega)]
    simp
theorem s_smod (a b : Int) (hb : 0 < b ∧ b ≤ 1000000) : Sp Tryz.prog 122 [vi a, vi b] (vi (a % b)) [] := by
  refine sp_of (m := no) mixed Tryz.func122 k122 ?_
  simp -dsimp [q]
  have h1 := tmod_lt (a := a) hb.1
  refine ⟨by omega, fun h => ?_, fun h => mod_b hb.1 h⟩
  rw [w64 (by omega) (by omega), mod_a hb.1 h]
/-! lattices -/
def okL (a b c : Int) : Bool := decide (1 ≤ a ∧ a ≤ 64) && decide (1 ≤ c ∧ c ≤ 64) && decide (0 ≤ b ∧ b ≤ a - 1) && decide (a * c ≤ 64)
theorem okL_spec {a b c : Int} : okL a b c = true ↔ (1 ≤ a ∧ a ≤ 64) ∧ (1 ≤ c ∧ c ≤ 64) ∧ (0 ≤ b ∧ b < a) ∧ a * c ≤ 64 := by
  simp [okL]; omega
theorem ac_pos {a c : Int} (ha : 1 ≤ a) (hc : 1 ≤ c) : 1 ≤ a * c := by
  have := Int.mul_le_mul ha hc (by omega) (by omega)
  omega
theorem ac_hi {a c : Int} (ha : 1 ≤ a ∧ a ≤ 64) (hc : 1 ≤ c ∧ c ≤ 64) : a * c ≤ 4096 := by
  have := Int.mul_le_mul ha.2 hc.2 (by omega) (by omega)
  omega
theorem s_index (a b c : Int) (ha : 1 ≤ a ∧ a ≤ 64) (hc : 1 ≤ c ∧ c ≤ 64) : Sp Tryz.prog 90 [aL a b c] (vi (a * c)) [] := by
  refine sp_of (m := no) mixed Tryz.func90 k90 ?_
  simp -dsimp [q]
  have h1 := ac_pos ha.1 hc.1
  have h2 := ac_hi ha hc
  rw [w64 (by omega) (by omega)]
theorem s_isL (a b c : Int) : Sp Tryz.prog 89 [aL a b c] (vb (okL a b c)) [] := by
  refine sp_of (m := no) mixed Tryz.func89 k89 ?_
  have w1 := s_within a 1 64
  have w2 := s_within c 1 64
  have w3 := s_within b 0 (a - 1)
  simp -dsimp [q]
  by_cases h1 : 1 ≤ a ∧ a ≤ 64
  case neg =>
    rw [decide_eq_false h1] at w1
    refine call_of (w1) rfl (by simp) ?_
    try simp -dsimp
    try (first | exact fp_one (by decide) | refine fp_and (by decide) ?_)
    simp [okL, h1]
  rw [decide_eq_true h1] at w1
  refine call_of (w1) rfl (by simp) ?_
  try simp -dsimp
  try (first | exact fp_one (by decide) | refine fp_and (by decide) ?_)
  by_cases h2 : 1 ≤ c ∧ c ≤ 64
  case neg =>
    rw [decide_eq_false h2] at w2
    refine call_of (w2) rfl (by simp) ?_
    try simp -dsimp
    try (first | exact fp_one (by decide) | refine fp_and (by decide) ?_)
    simp [okL, h2]
  rw [decide_eq_true h2] at w2
  refine call_of (w2) rfl (by simp) ?_
  try simp -dsimp
  try (first | exact fp_one (by decide) | refine fp_and (by decide) ?_)
  rw [w64 (by omega) (by omega)]
  by_cases h3 : 0 ≤ b ∧ b ≤ a - 1
  case neg =>
    rw [decide_eq_false h3] at w3
    refine call_of (w3) rfl (by simp) ?_
    try simp -dsimp
    try (first | exact fp_one (by decide) | refine fp_and (by decide) ?_)
    simp only [okL, decide_eq_false h3, Bool.and_false, Bool.false_and]
  rw [decide_eq_true h3] at w3
  refine call_of (w3) rfl (by simp) ?_
  try simp -dsimp
  try (first | exact fp_one (by decide) | refine fp_and (by decide) ?_)
  refine call_of (s_index a b c h1 h2) rfl (by simp) ?_
  try simp -dsimp
  try (first | exact fp_one (by decide) | refine fp_and (by decide) ?_)
  simp only [okL, decide_eq_true h1, decide_eq_true h2, decide_eq_true h3, Bool.true_and]
theorem s_sisL (a b c : Int) : Sp Tryz.prog 138 [aL a b c] (vb (okL a b c)) [] := by
  refine sp_of (m := no) mixed Tryz.func138 k138 ?_
  have w1 := s_in a 1 64
  have w2 := s_in c 1 64
  have w3 := s_in b 0 (a - 1)
  simp -dsimp [q]
  by_cases h1 : 1 ≤ a ∧ a ≤ 64
  case neg =>
    rw [decide_eq_false h1] at w1
    refine call_of (w1) rfl (by simp) ?_
    try simp -dsimp
    try (first | exact fp_one (by decide) | refine fp_and (by decide) ?_)
    simp [okL, h1]
  rw [decide_eq_true h1] at w1
  refine call_of (w1) rfl (by simp) ?_
  try simp -dsimp
  try (first | exact fp_one (by decide) | refine fp_and (by decide) ?_)
  by_cases h2 : 1 ≤ c ∧ c ≤ 64
  case neg =>
    rw [decide_eq_false h2] at w2
    refine call_of (w2) rfl (by simp) ?_
    try simp -dsimp
    try (first | exact fp_one (by decide) | refine fp_and (by decide) ?_)
    simp [okL, h2]
  rw [decide_eq_true h2] at w2
  refine call_of (w2) rfl (by simp) ?_
  try simp -dsimp
  try (first | exact fp_one (by decide) | refine fp_and (by decide) ?_)
  rw [w64 (by omega) (by omega)]
  by_cases h3 : 0 ≤ b ∧ b ≤ a - 1
  case neg =>
    rw [decide_eq_false h3] at w3
    refine call_of (w3) rfl (by simp) ?_
    try simp -dsimp
    try (first | exact fp_one (by decide) | refine fp_and (by decide) ?_)
    simp only [okL, decide_eq_false h3, Bool.and_false, Bool.false_and]
  rw [decide_eq_true h3] at w3
  refine call_of (w3) rfl (by simp) ?_
  try simp -dsimp
  try (first | exact fp_one (by decide) | refine fp_and (by decide) ?_)
  have h4 := ac_pos h1.1 h2.1
  have h5 := ac_hi h1 h2
  rw [w64 (by omega) (by omega)]
  simp only [okL, decide_eq_true h1, decide_eq_true h2, decide_eq_true h3, Bool.true_and]
end Go.Proofs.YtgkhakhkebjbpaaGreatEv
namespace Go.Proofs.YtgkhakhkebjbpaaGreatEv
open Go Go.Proofs
set_option maxRecDepth 10000
def rowL (x : Int) : Nat → List (Int × Int)
  | 0 => []
  | n + 1 => rowL x n ++ [(x, (n : Int))]
def cellsL (c : Nat) : Nat → List (Int × Int)
  | 0 => []
  | n + 1 => cellsL c n ++ rowL n c
theorem rowL_len (x : Int) : ∀ n, (rowL x n).length = n
  | 0 => rfl
  | n + 1 => by simp [rowL, rowL_len x n]
theorem cellsL_len (c : Nat) : ∀ n, (cellsL c n).length = n * c
  | 0 => by simp [cellsL]
  | n + 1 => by simp [cellsL, cellsL_len c n, rowL_len, Nat.succ_mul]
theorem nat_ac {a c : Int} (ha : 1 ≤ a ∧ a ≤ 64) (hc : 1 ≤ c ∧ c ≤ 64) {x : Nat} (hx : (x : Int) ≤ a) : x * c.toNat ≤ 4096 := by
  have := Nat.mul_le_mul (show x ≤ 64 by omega) (show c.toNat ≤ 64 by omega)
  omega
theorem s_cells (a b c : Int) (ha : 1 ≤ a ∧ a ≤ 64) (hc : 1 ≤ c ∧ c ≤ 64) : Sp Tryz.prog 57 [aL a b c] (.sli 0) [.row 2 39 (vs (cellsL c.toNat a.toNat))] := by
  refine sp_of (m := no) mixed Tryz.func57 k57 ?_
  simp -dsimp [q]
  refine awp_it (false :: true :: false :: true :: false :: false :: false :: false :: true :: true :: []) (fun x : Nat => [(9, vi x)]) (fun x => [(1, .row 2 39 (vs (cellsL c.toNat x)))]) (fun x => (x : Int) ≤ a) (fun x => a.toNat - x) 0 ?_
  intro s0 e
  simp -dsimp at e
  subst e
  refine ⟨?_, ?_⟩
  · simp [cellsL]; omega
  intro x hx
  simp -dsimp
  refine ⟨fun hxa => ?_, fun hxa => ?_⟩
  · refine awp_it (false :: true :: false :: true :: true :: false :: false :: false :: true :: true :: false :: false :: false :: true :: true :: []) (fun y : Nat => [(14, vi y)]) (fun y => [(1, .row 2 39 (vs (cellsL c.toNat x ++ rowL x y)))]) (fun y => (y : Int) ≤ c) (fun y => c.toNat - y) 0 ?_
    intro s0 e
    simp -dsimp at e
    subst e
    refine ⟨?_, ?_⟩
    · simp [rowL]; omega
    intro y hy
    simp -dsimp [cellsL_len, rowL_len]
    have h1 := nat_ac ha hc hx
    refine ⟨fun hyc => ⟨⟨by omega, by omega⟩, y + 1, ⟨by rw [w64 (by omega) (by omega)]; simp, ?_⟩, by omega, by omega⟩, fun hyc => ?_⟩
    · simp [rowL]
    · refine ⟨x + 1, ⟨by rw [w64 (by omega) (by omega)]; simp, ?_⟩, by omega, by omega⟩
      rw [cellsL, show y = c.toNat by omega]
  · rw [show a.toNat = x by omega]
theorem s_scells (a b c : Int) (ha : 1 ≤ a ∧ a ≤ 64) (hc : 1 ≤ c ∧ c ≤ 64) : Sp Tryz.prog 61 [aL a b c] (.sli 0) [.row 2 39 (vs (cellsL c.toNat a.toNat))] := by
  refine sp_of (m := no) mixed Tryz.func61 k61 ?_
  simp -dsimp [q]
  refine awp_it (false :: true :: false :: true :: true :: []) (fun x : Nat => [(4, vi x)]) (fun x => [(1, .row 2 39 (vs (cellsL c.toNat x)))]) (fun x => (x : Int) ≤ a) (fun x => a.toNat - x) 0 ?_
  intro s0 e
  simp -dsimp at e
  subst e
  refine ⟨?_, ?_⟩
  · simp [cellsL]; omega
  intro x hx
  simp -dsimp
  refine ⟨fun hxa => ?_, fun hxa => ?_⟩
  · refine awp_it (false :: true :: false :: true :: true :: true :: []) (fun y : Nat => [(5, vi y)]) (fun y => [(1, .row 2 39 (vs (cellsL c.toNat x ++ rowL x y)))]) (fun y => (y : Int) ≤ c) (fun y => c.toNat - y) 0 ?_
    intro s0 e
    simp -dsimp at e
    subst e
    refine ⟨?_, ?_⟩
    · simp [rowL]; omega
    intro y hy
    simp -dsimp [cellsL_len, rowL_len]
    have h1 := nat_ac ha hc hx
    refine ⟨fun hyc => ⟨⟨by omega, by omega⟩, y + 1, ⟨by rw [w64 (by omega) (by omega)]; simp, ?_⟩, by omega, by omega⟩, fun hyc => ?_⟩
    · simp [rowL]
    · refine ⟨x + 1, ⟨by rw [w64 (by omega) (by omega)]; simp, ?_⟩, by omega, by omega⟩
      rw [cellsL, show y = c.toNat by omega]
  · rw [show a.toNat = x by omega]
/-! reduced vectors -/
def redX (a b c x y : Int) : Int := (x - y / c * b) % a
def num (a b c x y : Int) : Int := redX a b c x y * c + y % c
theorem div_sub {y c : Int} (hc : 0 < c) : (y - y % c).tdiv c = y / c := by
  have h := Int.mul_ediv_add_emod y c
  rw [show y - y % c = y / c * c by rw [Int.mul_comm]; omega, Int.mul_tdiv_cancel _ (by omega)]
theorem kb_le {y b c : Int} (hy : -1000000000 ≤ y ∧ y ≤ 1000000000) (hb : 0 ≤ b ∧ b < 64) (hc : 1 ≤ c) : (-1000000000 ≤ y / c ∧ y / c ≤ 1000000000) ∧ -64000000000 ≤ y / c * b ∧ y / c * b ≤ 64000000000 := by
  have h1 : -1000000000 ≤ y / c := Int.le_ediv_of_mul_le (by omega) (by omega)
  have h2 : y / c ≤ 1000000000 := Int.ediv_le_of_le_mul (by omega) (by omega)
  have h3 := Int.mul_le_mul_of_nonneg_right h1 hb.1
  have h4 := Int.mul_le_mul_of_nonneg_right h2 hb.1
  refine ⟨⟨h1, h2⟩, by omega, by omega⟩
theorem s_reduce (a b c x y : Int) (ha : 1 ≤ a ∧ a ≤ 64) (hb : 0 ≤ b ∧ b < a) (hc : 1 ≤ c ∧ c ≤ 64) (hx : -1000000000 ≤ x ∧ x ≤ 1000000000) (hy : -1000000000 ≤ y ∧ y ≤ 1000000000) : Sp Tryz.prog 117 [aL a b c, aV x y] (aV (redX a b c x y) (y % c)) [] := by
  refine sp_of (m := no) mixed Tryz.func117 k117 ?_
  have h1 := Int.emod_nonneg y (show c ≠ 0 by omega)
  have h2 := Int.emod_lt_of_pos y (show 0 < c by omega)
  obtain ⟨h3, h4⟩ := kb_le (b := b) hy (by omega) hc.1
  have h5 := div_sub (y := y) (show 0 < c by omega)
  simp -dsimp [q]
  refine call_of (s_mod _ _ (by omega)) rfl (by simp) ?_
  try simp -dsimp
  try (first | exact fp_one (by decide) | refine fp_and (by decide) ?_)
  rw [w64 (n := y - y % c) (by omega) (by omega), h5, w64 (n := y / c) (by omega) (by omega), w64 (n := y / c * b) (by omega) (by omega), w64 (n := x - y / c * b) (by omega) (by omega)]
  refine ⟨by omega, ?_⟩
  refine call_of (s_mod _ _ (by omega)) rfl (by simp) ?_
  try simp -dsimp
  try (first | exact fp_one (by decide) | refine fp_and (by decide) ?_)
  rfl
theorem s_sreduce (a b c x y : Int) (ha : 1 ≤ a ∧ a ≤ 64) (hb : 0 ≤ b ∧ b < a) (hc : 1 ≤ c ∧ c ≤ 64) (hx : -1000000000 ≤ x ∧ x ≤ 1000000000) (hy : -1000000000 ≤ y ∧ y ≤ 1000000000) : Sp Tryz.prog 140 [aL a b c, aV x y] (aV (redX a b c x y) (y % c)) [] := by
  refine sp_of (m := no) mixed Tryz.func140 k140 ?_
  have h1 := Int.emod_nonneg y (show c ≠ 0 by omega)
  have h2 := Int.emod_lt_of_pos y (show 0 < c by omega)
  obtain ⟨h3, h4⟩ := kb_le (b := b) hy (by omega) hc.1
  have h5 := div_sub (y := y) (show 0 < c by omega)
  simp -dsimp [q]
  refine call_of (s_smod _ _ (by omega)) rfl (by simp) ?_
  try simp -dsimp
  try (first | exact fp_one (by decide) | refine fp_and (by decide) ?_)
  rw [w64 (n := y - y % c) (by omega) (by omega), h5, w64 (n := y / c) (by omega) (by omega), w64 (n := y / c * b) (by omega) (by omega), w64 (n := x - y / c * b) (by omega) (by omega)]
  refine ⟨by omega, ?_⟩
  refine call_of (s_smod _ _ (by omega)) rfl (by simp) ?_
  try simp -dsimp
  try (first | exact fp_one (by decide) | refine fp_and (by decide) ?_)
  rfl
theorem red_lt {a b c x y : Int} (ha : 1 ≤ a) (hc : 1 ≤ c) : (0 ≤ redX a b c x y ∧ redX a b c x y < a) ∧ 0 ≤ y % c ∧ y % c < c :=
  ⟨⟨Int.emod_nonneg _ (by omega), Int.emod_lt_of_pos _ (by omega)⟩, Int.emod_nonneg _ (by omega), Int.emod_lt_of_pos _ (by omega)⟩
theorem num_lt' {a c u v : Int} (hu : 0 ≤ u ∧ u < a) (hv : 0 ≤ v ∧ v < c) : (0 ≤ u * c ∧ u * c ≤ a * c) ∧ 0 ≤ u * c + v ∧ u * c + v < a * c := by
  have h1 := Int.mul_nonneg hu.1 (show 0 ≤ c by omega)
  have h2 : (u + 1) * c ≤ a * c := Int.mul_le_mul_of_nonneg_right (by omega) (by omega)
  rw [Int.add_mul] at h2
  omega
theorem s_number (a b c u v : Int) (hc : 1 ≤ c ∧ c ≤ 64) (hu : 0 ≤ u ∧ u < 64) (hv : 0 ≤ v ∧ v < c) : Sp Tryz.prog 123 [aL a b c, aV u v] (vi (u * c + v)) [] := by
  refine sp_of (m := no) mixed Tryz.func123 k123 ?_
  have h := num_lt' hu hv
  simp -dsimp [q]
  rw [w64 (n := u * c) (by omega) (by omega), w64 (by omega) (by omega)]
theorem s_snumber (a b c x y : Int) (ha : 1 ≤ a ∧ a ≤ 64) (hb : 0 ≤ b ∧ b < a) (hc : 1 ≤ c ∧ c ≤ 64) (hx : -1000000000 ≤ x ∧ x ≤ 1000000000) (hy : -1000000000 ≤ y ∧ y ≤ 1000000000) : Sp Tryz.prog 103 [aL a b c, aV x y] (vi (num a b c x y)) [] := by
  refine sp_of (m := no) mixed Tryz.func103 k103 ?_
  have h0 := red_lt (b := b) (x := x) (y := y) ha.1 hc.1
  have h := num_lt' h0.1 h0.2
  have h2 := ac_hi ha hc
  simp -dsimp [q]
  refine call_of (s_sreduce _ _ _ _ _ ha hb hc hx hy) rfl (by simp) ?_
  try simp -dsimp
  try (first | exact fp_one (by decide) | refine fp_and (by decide) ?_)
  rw [w64 (n := redX a b c x y * c) (by omega) (by omega), w64 (by omega) (by omega)]
  rfl
end Go.Proofs.YtgkhakhkebjbpaaGreatEv
namespace Go.Proofs.YtgkhakhkebjbpaaGreatEv
open Go Go.Proofs
set_option maxRecDepth 10000
theorem mul_bd {x y : Int} {a b : Nat} (hx : x.natAbs ≤ a) (hy : y.natAbs ≤ b) : (x * y).natAbs ≤ a * b := by
  rw [Int.natAbs_mul]; exact Nat.mul_le_mul hx hy
theorem s_basis (a b c : Int) : Sp Tryz.prog 105 [aL a b c] (.tu [aV a 0, aV b c]) [] := by
  refine sp_of (m := no) mixed Tryz.func105 k105 ?_
  simp -dsimp [q]
  decide
abbrev vvs (l : List (Int × Int)) : V := .sl 2 (vs l)
theorem s_sbasis (a b c : Int) : Sp Tryz.prog 118 [aL a b c] (.v (vvs [(a, 0), (b, c)])) [] := by
  refine sp_of (m := no) mixed Tryz.func118 k118 ?_
  simp -dsimp [q]
  rfl
theorem s_sbasis' (a b c : Int) : Sp Tryz.prog 118 [aL a b c] (.sli 0) [.row 2 39 (vs [(a, 0), (b, c)])] := by
  refine sp_of (m := no) mixed Tryz.func118 k118 ?_
  simp -dsimp [q]
  rfl
theorem s_unit : Sp Tryz.prog 60 [] (aM 1 0 0 1) [] := by
  refine sp_of (m := no) mixed Tryz.func60 k60 ?_
  simp -dsimp [q]
theorem s_sunit : Sp Tryz.prog 55 [] (aM 1 0 0 1) [] := by
  refine sp_of (m := no) mixed Tryz.func55 k55 ?_
  simp -dsimp [q]
section
variable (p q' r s x y : Int) (hm : (p.natAbs ≤ 1000 ∧ q'.natAbs ≤ 1000) ∧ r.natAbs ≤ 1000 ∧ s.natAbs ≤ 1000) (hv : x.natAbs ≤ 1000000 ∧ y.natAbs ≤ 1000000)
include hm hv
theorem s_apply : Sp Tryz.prog 107 [aM p q' r s, aV x y] (aV (p * x + q' * y) (r * x + s * y)) [] := by
  refine sp_of (m := no) mixed Tryz.func107 k107 ?_
  have h1 := mul_bd hm.1.1 hv.1
  have h2 := mul_bd hm.1.2 hv.2
  have h3 := mul_bd hm.2.1 hv.1
  have h4 := mul_bd hm.2.2 hv.2
  simp -dsimp [q]
  rw [w64 (n := p * x) (by omega) (by omega), w64 (n := q' * y) (by omega) (by omega), w64 (n := r * x) (by omega) (by omega), w64 (n := s * y) (by omega) (by omega), w64 (by omega) (by omega), w64 (by omega) (by omega)]
  exact ⟨rfl, rfl⟩
theorem s_sapply : Sp Tryz.prog 139 [aM p q' r s, aV x y] (aV (p * x + q' * y) (r * x + s * y)) [] := by
  refine sp_of (m := no) mixed Tryz.func139 k139 ?_
  have h1 := mul_bd hm.1.1 hv.1
  have h2 := mul_bd hm.1.2 hv.2
  have h3 := mul_bd hm.2.1 hv.1
  have h4 := mul_bd hm.2.2 hv.2
  simp -dsimp [q]
  rw [w64 (n := p * x) (by omega) (by omega), w64 (n := q' * y) (by omega) (by omega), w64 (n := r * x) (by omega) (by omega), w64 (n := s * y) (by omega) (by omega), w64 (by omega) (by omega), w64 (by omega) (by omega)]
  exact ⟨rfl, rfl⟩
end
theorem s_times (x y n : Int) (hx : x.natAbs ≤ 4000000000000) (hy : y.natAbs ≤ 4000000000000) (hn : n.natAbs ≤ 1000000) : Sp Tryz.prog 142 [aV x y, vi n] (aV (n * x) (n * y)) [] := by
  refine sp_of (m := no) mixed Tryz.func142 k142 ?_
  have h1 := mul_bd hn hx
  have h2 := mul_bd hn hy
  simp -dsimp [q]
  rw [w64 (by omega) (by omega), w64 (by omega) (by omega)]
  exact ⟨rfl, rfl⟩
theorem s_scale (x y n : Int) (hx : x.natAbs ≤ 4000000000000) (hy : y.natAbs ≤ 4000000000000) (hn : n.natAbs ≤ 1000000) : Sp Tryz.prog 149 [aV x y, vi n] (aV (n * x) (n * y)) [] := by
  refine sp_of (m := no) mixed Tryz.func149 k149 ?_
  have h1 := mul_bd hn hx
  have h2 := mul_bd hn hy
  simp -dsimp [q]
  rw [w64 (by omega) (by omega), w64 (by omega) (by omega)]
  exact ⟨rfl, rfl⟩
section
variable (p q' r s : Int) (hm : (p.natAbs ≤ 1000 ∧ q'.natAbs ≤ 1000) ∧ r.natAbs ≤ 1000 ∧ s.natAbs ≤ 1000)
include hm
theorem s_det : Sp Tryz.prog 156 [aM p q' r s] (vi (p * s - q' * r)) [] := by
  refine sp_of (m := no) mixed Tryz.func156 k156 ?_
  have h1 := mul_bd hm.1.1 hm.2.2
  have h2 := mul_bd hm.1.2 hm.2.1
  simp -dsimp [q]
  rw [w64 (n := p * s) (by omega) (by omega), w64 (n := q' * r) (by omega) (by omega), w64 (by omega) (by omega)]
end
theorem s_ginv1 (x y : Int) (hx : x.natAbs ≤ 1000000) (hy : y.natAbs ≤ 1000000) : Sp Tryz.prog 108 [aG 1 0 0 1 x y] (aG 1 0 0 1 (-x) (-y)) [] := by
  refine sp_of (m := no) mixed Tryz.func108 k108 ?_
  have hi : Sp Tryz.prog 144 [aM 1 0 0 1] (aM 1 0 0 1) [] := by
    refine sp_of (m := no) mixed Tryz.func144 k144 ?_
    simp -dsimp [q]
    refine call_of (s_det 1 0 0 1 (by decide)) rfl (by simp) ?_
    try simp -dsimp
    try (first | exact fp_one (by decide) | refine fp_and (by decide) ?_)
    decide
  simp -dsimp [q]
  refine call_of (hi) rfl (by simp) ?_
  try simp -dsimp
  try (first | exact fp_one (by decide) | refine fp_and (by decide) ?_)
  refine call_of (s_apply 1 0 0 1 x y (by decide) ⟨hx, hy⟩) rfl (by simp) ?_
  try simp -dsimp
  try (first | exact fp_one (by decide) | refine fp_and (by decide) ?_)
  refine call_of (s_times _ _ _ (by omega) (by omega) (by decide)) rfl (by simp) ?_
  try simp -dsimp
  try (first | exact fp_one (by decide) | refine fp_and (by decide) ?_)
theorem s_gapply (p q' r s t u x y : Int) (hm : (p.natAbs ≤ 1000 ∧ q'.natAbs ≤ 1000) ∧ r.natAbs ≤ 1000 ∧ s.natAbs ≤ 1000) (hv : x.natAbs ≤ 100000 ∧ y.natAbs ≤ 100000) (ht : t.natAbs ≤ 1000000 ∧ u.natAbs ≤ 1000000) : Sp Tryz.prog 109 [aG p q' r s t u, aV x y] (aV (p * x + q' * y + t) (r * x + s * y + u)) [] := by
  refine sp_of (m := no) mixed Tryz.func109 k109 ?_
  have h1 := mul_bd hm.1.1 hv.1
  have h2 := mul_bd hm.1.2 hv.2
  have h3 := mul_bd hm.2.1 hv.1
  have h4 := mul_bd hm.2.2 hv.2
  simp -dsimp [q]
  refine call_of (s_apply p q' r s x y hm ⟨by omega, by omega⟩) rfl (by simp) ?_
  try simp -dsimp
  try (first | exact fp_one (by decide) | refine fp_and (by decide) ?_)
  refine call_of (s_add _ _ _ _ (by omega) (by omega) (by omega) (by omega)) rfl (by simp) ?_
  try simp -dsimp
  try (first | exact fp_one (by decide) | refine fp_and (by decide) ?_)
theorem s_sgapply (p q' r s t u x y : Int) (hm : (p.natAbs ≤ 1000 ∧ q'.natAbs ≤ 1000) ∧ r.natAbs ≤ 1000 ∧ s.natAbs ≤ 1000) (hv : x.natAbs ≤ 100000 ∧ y.natAbs ≤ 100000) (ht : t.natAbs ≤ 1000000 ∧ u.natAbs ≤ 1000000) : Sp Tryz.prog 104 [aG p q' r s t u, aV x y] (aV (p * x + q' * y + t) (r * x + s * y + u)) [] := by
  refine sp_of (m := no) mixed Tryz.func104 k104 ?_
  have h1 := mul_bd hm.1.1 hv.1
  have h2 := mul_bd hm.1.2 hv.2
  have h3 := mul_bd hm.2.1 hv.1
  have h4 := mul_bd hm.2.2 hv.2
  simp -dsimp [q]
  refine call_of (s_sapply p q' r s x y hm ⟨by omega, by omega⟩) rfl (by simp) ?_
  try simp -dsimp
  try (first | exact fp_one (by decide) | refine fp_and (by decide) ?_)
  refine call_of (s_sadd _ _ _ _ (by omega) (by omega) (by omega) (by omega)) rfl (by simp) ?_
  try simp -dsimp
  try (first | exact fp_one (by decide) | refine fp_and (by decide) ?_)
/-! divisors -/
theorem gcd_step (a b : Int) : Int.gcd b (a.tmod b) = Int.gcd a b := by
  rw [Int.gcd_comm a b]
  have h := Int.tmod_add_mul_tdiv a b
  have : a.tmod b = a - a.tdiv b * b := by rw [Int.mul_comm]; omega
  rw [this, Int.gcd_sub_mul_right_right]
theorem tmod_abs (a : Int) {b : Int} (hb : b ≠ 0) : (a.tmod b).natAbs < b.natAbs := by
  rw [Int.natAbs_tmod]
  exact Nat.mod_lt _ (by omega)
theorem s_gcd (a b : Int) (ha : a.natAbs ≤ 1000000000000000) (hb : b.natAbs ≤ 1000000000000000) : Sp Tryz.prog 143 [vi a, vi b] (vi (Int.gcd a b)) [] := by
  refine sp_of (m := no) mixed Tryz.func143 k143 ?_
  simp -dsimp [q]
  refine awp_it (true :: true :: []) (fun s : Int × Int => [(0, vi s.1), (1, vi s.2)]) (fun _ => []) (fun s => Int.gcd s.1 s.2 = Int.gcd a b ∧ s.1.natAbs ≤ 1000000000000000 ∧ s.2.natAbs ≤ 1000000000000000) (fun s => s.2.natAbs) (a, b) ?_
  intro s0 e
  simp -dsimp at e
  subst e
  refine ⟨?_, ?_⟩
  · simp [ha, hb]
  rintro ⟨x, y⟩ ⟨h1, h2, h3⟩
  simp -dsimp
  refine ⟨fun hy => ⟨hy, y, x.tmod y, by simp, ⟨by rw [gcd_step]; exact h1, h3, ?_⟩, tmod_abs x hy⟩, fun hy => ?_⟩
  · have := tmod_abs x hy
    omega
  · subst hy
    simp only [Int.gcd_zero_right] at h1
    rw [← h1, w64 (by omega) (by omega)]
    split <;> omega
theorem s_sgcd : ∀ (n : Nat) (a b : Int), b.natAbs ≤ n → a.natAbs ≤ 1000000000000000 → b.natAbs ≤ 1000000000000000 → Sp Tryz.prog 148 [vi a, vi b] (vi (Int.gcd a b)) []
  | 0, a, b, hn, ha, hb => by
    have : b = 0 := by omega
    subst this
    refine sp_of (m := no) mixed Tryz.func148 k148 ?_
    simp -dsimp [q]
    rw [w64 (by omega) (by omega)]
    split <;> omega
  | n + 1, a, b, hn, ha, hb => by
    by_cases h0 : b = 0
    · exact s_sgcd n a b (by omega) ha hb
    have h1 := tmod_abs a h0
    have ih := s_sgcd n b (a.tmod b) (by omega) hb (by omega)
    rw [gcd_step] at ih
    refine sp_of (m := no) mixed Tryz.func148 k148 ?_
    simp -dsimp [q, h0]
    refine call_of (ih) rfl (by simp) ?_
    try simp -dsimp
    try (first | exact fp_one (by decide) | refine fp_and (by decide) ?_)
end Go.Proofs.YtgkhakhkebjbpaaGreatEv
namespace Go.Proofs.YtgkhakhkebjbpaaGreatEv
open Go Go.Proofs
set_option maxRecDepth 10000
def eu : Nat → Int × Int → Int × Int → (Int × Int) × (Int × Int)
  | 0, h, v => (h, v)
  | n + 1, h, v => if v.2 = 0 then (h, v) else eu n v (h.1 - h.2.tdiv v.2 * v.1, h.2.tmod v.2)
theorem eu_zero {n : Nat} {h v : Int × Int} (hv : v.2 = 0) : eu n h v = (h, v) := by
  cases n <;> simp [eu, hv]
theorem eu_fuel : ∀ (n m : Nat) (h v : Int × Int), v.2.natAbs ≤ n → v.2.natAbs ≤ m → eu n h v = eu m h v
  | 0, m, h, v, hn, _ => by rw [eu_zero (by omega), eu_zero (by omega)]
  | n + 1, 0, h, v, _, hm => by rw [eu_zero (by omega), eu_zero (by omega)]
  | n + 1, m + 1, h, v, hn, hm => by
    by_cases hv : v.2 = 0
    · rw [eu_zero hv, eu_zero hv]
    · have h1 := tmod_abs h.2 hv
      simp only [eu, if_neg hv]
      exact eu_fuel n m _ _ (by simp only; omega) (by simp only; omega)
theorem eu_step {h v : Int × Int} (hv : v.2 ≠ 0) : eu v.2.natAbs h v = eu (h.2.tmod v.2).natAbs v (h.1 - h.2.tdiv v.2 * v.1, h.2.tmod v.2) := by
  have h1 := tmod_abs h.2 hv
  obtain ⟨n, hn⟩ : ∃ n, v.2.natAbs = n + 1 := ⟨v.2.natAbs - 1, by omega⟩
  rw [hn]
  simp only [eu, if_neg hv]
  exact eu_fuel _ _ _ _ (by simp only; omega) (Nat.le_refl _)
def pot (h v : Int × Int) : Nat := h.1.natAbs * v.2.natAbs + v.1.natAbs * h.2.natAbs
theorem pot_step {h v : Int × Int} : pot v (h.1 - h.2.tdiv v.2 * v.1, h.2.tmod v.2) ≤ pot h v := by
  obtain ⟨a, b⟩ := h
  obtain ⟨c, d⟩ := v
  simp only [pot]
  have h1 : (a - b.tdiv d * c).natAbs ≤ a.natAbs + b.natAbs / d.natAbs * c.natAbs := by
    have := Int.natAbs_sub_le a (b.tdiv d * c)
    rw [Int.natAbs_mul, Int.natAbs_tdiv] at this
    exact this
  have h2 := Nat.mul_le_mul_right d.natAbs h1
  rw [Int.natAbs_tmod]
  have h3 := Nat.mod_add_div b.natAbs d.natAbs
  have h4 : c.natAbs * b.natAbs = c.natAbs * (b.natAbs % d.natAbs) + b.natAbs / d.natAbs * c.natAbs * d.natAbs := by
    rw [← Nat.mul_comm d.natAbs, ← Nat.mul_assoc, Nat.mul_comm _ c.natAbs, ← Nat.mul_add, h3]
  rw [Nat.add_mul] at h2
  generalize (a - b.tdiv d * c).natAbs * d.natAbs = X at *
  generalize a.natAbs * d.natAbs = Y at *
  generalize c.natAbs * (b.natAbs % d.natAbs) = Z at *
  generalize b.natAbs / d.natAbs * c.natAbs * d.natAbs = W at *
  omega
theorem eu_small {h v : Int × Int} {B : Nat} (hP : pot h v ≤ B) (hv : v.2 ≠ 0) : (h.2.tdiv v.2 * v.1).natAbs ≤ B ∧ (h.2.tdiv v.2).natAbs ≤ h.2.natAbs ∧ (h.2.tdiv v.2 * v.2).natAbs ≤ h.2.natAbs := by
  have hd : 0 < v.2.natAbs := by omega
  unfold pot at hP
  rw [Int.natAbs_mul, Int.natAbs_mul, Int.natAbs_tdiv]
  have h1 := Nat.div_mul_le_self h.2.natAbs v.2.natAbs
  have h2 := Nat.div_le_self h.2.natAbs v.2.natAbs
  refine ⟨?_, h2, h1⟩
  have h3 := Nat.mul_le_mul_right v.1.natAbs h2
  rw [Nat.mul_comm h.2.natAbs v.1.natAbs] at h3
  exact Nat.le_trans h3 (Nat.le_trans (Nat.le_add_left _ _) hP)
def lstep (s : Int × Int × Int) (v : Int × Int) : Int × Int × Int := ((Int.gcd s.1 (eu v.2.natAbs s.2 v).2.1 : Int), (eu v.2.natAbs s.2 v).1)
def lfold (l : List (Int × Int)) : Int × Int × Int := l.foldl lstep (0, 0, 0)
def lfin (s : Int × Int × Int) : Int × Int × Int := (s.1, (if s.2.2 < 0 then -s.2.1 else s.2.1) % s.1, if s.2.2 < 0 then -s.2.2 else s.2.2)
theorem lfold_snoc (l : List (Int × Int)) (v : Int × Int) : lfold (l ++ [v]) = lstep (lfold l) v := by simp [lfold]
def smallV (n : Nat) (v : Int × Int) : Prop := v.1.natAbs ≤ n ∧ v.2.natAbs ≤ n
def lsmall (l : List (Int × Int)) : Prop := (∀ v ∈ l, smallV 1000000 v) ∧ ∀ k, smallV 1000000 (lfold (l.take k)).2 ∧ (lfold (l.take k)).1.natAbs ≤ 1000000
abbrev bV (v : Int × Int) : Ck := .box [.v (.int .i64 v.1), .v (.int .i64 v.2)]
theorem s_latticeOf (l : List (Int × Int)) (hl : l.length ≤ 1048576) (hs : lsmall l) (h0 : 0 < (lfold l).1) : Sp Tryz.prog 106 [.v (vvs l)] (aL (lfin (lfold l)).1 (lfin (lfold l)).2.1 (lfin (lfold l)).2.2) [] := by
  refine sp_of (m := no) mixed Tryz.func106 k106 ?_
  simp -dsimp [q]
  refine awp_it (false :: false :: true :: true :: true :: false :: false :: false :: false :: true :: true :: true :: []) (fun i : Nat => [(3, vi (lfold (l.take i)).1), (11, vi i)]) (fun i => [(1, bV (lfold (l.take i)).2)]) (fun i => i ≤ l.length) (fun i => l.length - i) 0 ?_
  intro s0 e
  simp -dsimp at e
  subst e
  refine ⟨?_, ?_⟩
  · simp [lfold]
  intro i hi
  simp -dsimp
  refine ⟨fun h1 => ⟨h1, fun vx vy hv => ?_⟩, fun h1 => ?_⟩
  · obtain ⟨hsv, hsl⟩ := hs
    obtain ⟨v, rfl, rfl⟩ : ∃ v : Int × Int, vx = v.1 ∧ vy = v.2 := ⟨(vx, vy), rfl, rfl⟩
    obtain ⟨b1, b2⟩ := hsv v (List.mem_of_getElem? hv)
    obtain ⟨⟨b3, b4⟩, b5⟩ := hsl i
    have hst : lfold (l.take (i + 1)) = lstep (lfold (l.take i)) v := by rw [List.take_add_one, hv]; exact lfold_snoc _ _
    obtain ⟨⟨b6, b7⟩, b8⟩ := hsl (i + 1)
    rw [hst] at b6 b7 b8
    have hst' := hst
    generalize lfold (l.take i) = s at *
    have hP : pot s.2 v ≤ 2000000000000 := by
      have h1 := Nat.mul_le_mul b3 b2
      have h2 := Nat.mul_le_mul b1 b4
      unfold pot
      omega
    refine awp_it (false :: false :: true :: true :: true :: false :: true :: false :: false :: true :: true :: true :: []) (fun _ : (Int × Int) × (Int × Int) => []) (fun t => [(1, bV t.1), (2, bV t.2)]) (fun t => eu t.2.2.natAbs t.1 t.2 = eu v.2.natAbs s.2 v ∧ pot t.1 t.2 ≤ 2000000000000 ∧ (t.1.1.natAbs ≤ 2000000000000 ∧ t.1.2.natAbs ≤ 1000000) ∧ t.2.1.natAbs ≤ 2000000000000 ∧ t.2.2.natAbs ≤ 1000000) (fun t => t.2.2.natAbs) (s.2, v) ?_
    intro s0 e
    simp -dsimp at e
    subst e
    refine ⟨?_, ?_⟩
    · simp
      omega
    rintro ⟨h, u⟩ ⟨c1, c2, ⟨c3, c4⟩, c5, c6⟩
    simp -dsimp
    refine ⟨fun hu => ?_, fun hu => ?_⟩
    · have e1 := eu_small c2 hu
      have e2 := pot_step (h := h) (v := u)
      have e3 := Int.tmod_add_mul_tdiv h.2 u.2
      have e4 := tmod_abs h.2 hu
      have e5 := eu_step (h := h) hu
      simp only at e1 c1 c2 c3 c4 c5 c6
      refine ⟨hu, ?_⟩
      rw [w64 (n := h.2.tdiv u.2) (by omega) (by omega), w64 (n := -h.2.tdiv u.2) (by omega) (by omega)]
      refine call_of (s_times _ _ _ (by omega) (by omega) (by omega)) rfl (by simp) ?_
      try simp -dsimp
      try (first | exact fp_one (by decide) | refine fp_and (by decide) ?_)
      rw [Int.neg_mul, Int.neg_mul]
      rw [Int.mul_comm] at e3
      refine call_of (s_add _ _ _ _ (by omega) (by omega) (by omega) (by omega)) rfl (by simp) ?_
      try simp -dsimp
      try (first | exact fp_one (by decide) | refine fp_and (by decide) ?_)
      refine ⟨u.1, u.2, h.1 - h.2.tdiv u.2 * u.1, h.2.tmod u.2, ⟨⟨rfl, rfl⟩, by omega, by omega⟩, ⟨by rw [← c1, e5], Nat.le_trans e2 c2, ⟨c5, c6⟩, ?_, by omega⟩, e4⟩
      have e6 : (h.1 - h.2.tdiv u.2 * u.1).natAbs * u.2.natAbs ≤ 2000000000000 := by
        have := Nat.le_trans e2 c2
        unfold pot at this
        exact Nat.le_trans (Nat.le_add_left _ _) this
      have e7 := Nat.le_mul_of_pos_right (h.1 - h.2.tdiv u.2 * u.1).natAbs (show 0 < u.2.natAbs by omega)
      omega
    · simp only at c1 c2 c3 c4 c5 c6
      rw [eu_zero hu] at c1
      refine call_of (s_gcd _ _ (by omega) (by omega)) rfl (by simp) ?_
      try simp -dsimp
      try (first | exact fp_one (by decide) | refine fp_and (by decide) ?_)
      have e8 : lstep s v = ((Int.gcd s.1 u.1 : Int), h) := by simp only [lstep, ← c1]
      rw [e8] at hst
      refine ⟨i + 1, ⟨⟨by rw [hst], by rw [w64 (by omega) (by omega)]; simp⟩, by rw [hst], by rw [hst]⟩, by omega, by omega⟩
  · have e := hs.2 l.length
    rw [List.take_length] at e
    rw [List.take_of_length_le h1]
    obtain ⟨⟨b1, b2⟩, b3⟩ := e
    generalize lfold l = s at *
    unfold lfin
    by_cases hn : s.2.2 < 0
    · rw [if_pos hn, if_pos hn]
      refine br_l hn (by omega) ?_
      refine call_of (s_times _ _ _ (by omega) (by omega) (by decide)) rfl (by simp) ?_
      try simp -dsimp
      try (first | exact fp_one (by decide) | refine fp_and (by decide) ?_)
      refine call_of (s_mod _ _ (by omega)) rfl (by simp) ?_
      try simp -dsimp
      try (first | exact fp_one (by decide) | refine fp_and (by decide) ?_)
    · rw [if_neg hn, if_neg hn]
      refine br_r hn (by omega) ?_
      refine call_of (s_mod _ _ (by omega)) rfl (by simp) ?_
      try simp -dsimp
      try (first | exact fp_one (by decide) | refine fp_and (by decide) ?_)
/-! the reference's -/
def lstepS (s : Int × Int × Int) (v : Int × Int) : Int × Int × Int :=
  ((Int.gcd s.1 (eu v.2.natAbs s.2 v).2.1 : Int), if (0 : Int) < Int.gcd s.1 (eu v.2.natAbs s.2 v).2.1 then (eu v.2.natAbs s.2 v).1.1 % (Int.gcd s.1 (eu v.2.natAbs s.2 v).2.1 : Int) else (eu v.2.natAbs s.2 v).1.1, (eu v.2.natAbs s.2 v).1.2)
def lfoldS (l : List (Int × Int)) : Int × Int × Int := l.foldl lstepS (0, 0, 0)
theorem lfoldS_snoc (l : List (Int × Int)) (v : Int × Int) : lfoldS (l ++ [v]) = lstepS (lfoldS l) v := by simp [lfoldS]
def lsmallS (l : List (Int × Int)) : Prop := (∀ v ∈ l, smallV 1000000 v) ∧ ∀ k, smallV 1000000 (lfoldS (l.take k)).2 ∧ (lfoldS (l.take k)).1.natAbs ≤ 1000000
theorem s_hermite (l : List (Int × Int)) (hl : l.length ≤ 1048576) (hs : lsmallS l) (h0 : 0 < (lfoldS l).1) : Sp Tryz.prog 120 [.v (vvs l)] (aL (lfin (lfoldS l)).1 (lfin (lfoldS l)).2.1 (lfin (lfoldS l)).2.2) [] := by
  refine sp_of (m := no) mixed Tryz.func120 k120 ?_
  simp -dsimp [q]
  refine awp_it (true :: false :: true :: true :: true :: true :: []) (fun i : Nat => [(4, vi (lfoldS (l.take i)).1), (5, vi i)]) (fun i => [(1, bV (lfoldS (l.take i)).2)]) (fun i => i ≤ l.length) (fun i => l.length - i) 0 ?_
  intro s0 e
  simp -dsimp at e
  subst e
  refine ⟨?_, ?_⟩
  · simp [lfoldS]
  intro i hi
  simp -dsimp
  refine ⟨fun h1 => ⟨h1, fun vx vy hv => ?_⟩, fun h1 => ?_⟩
  · obtain ⟨hsv, hsl⟩ := hs
    obtain ⟨v, rfl, rfl⟩ : ∃ v : Int × Int, vx = v.1 ∧ vy = v.2 := ⟨(vx, vy), rfl, rfl⟩
    obtain ⟨b1, b2⟩ := hsv v (List.mem_of_getElem? hv)
    obtain ⟨⟨b3, b4⟩, b5⟩ := hsl i
    have hst : lfoldS (l.take (i + 1)) = lstepS (lfoldS (l.take i)) v := by rw [List.take_add_one, hv]; exact lfoldS_snoc _ _
    obtain ⟨⟨b6, b7⟩, b8⟩ := hsl (i + 1)
    rw [hst] at b6 b7 b8
    generalize lfoldS (l.take i) = s at *
    have hP : pot s.2 v ≤ 2000000000000 := by
      have h1 := Nat.mul_le_mul b3 b2
      have h2 := Nat.mul_le_mul b1 b4
      unfold pot
      omega
    refine awp_it (true :: false :: true :: true :: true :: true :: true :: []) (fun _ : (Int × Int) × (Int × Int) => []) (fun t => [(1, bV t.1), (2, bV t.2)]) (fun t => eu t.2.2.natAbs t.1 t.2 = eu v.2.natAbs s.2 v ∧ pot t.1 t.2 ≤ 2000000000000 ∧ (t.1.1.natAbs ≤ 2000000000000 ∧ t.1.2.natAbs ≤ 1000000) ∧ t.2.1.natAbs ≤ 2000000000000 ∧ t.2.2.natAbs ≤ 1000000) (fun t => t.2.2.natAbs) (s.2, v) ?_
    intro s0 e
    simp -dsimp at e
    subst e
    refine ⟨?_, ?_⟩
    · simp
      omega
    rintro ⟨h, u⟩ ⟨c1, c2, ⟨c3, c4⟩, c5, c6⟩
    simp -dsimp
    refine ⟨fun hu => ?_, fun hu => ?_⟩
    · have e1 := eu_small c2 hu
      have e2 := pot_step (h := h) (v := u)
      have e3 := Int.tmod_add_mul_tdiv h.2 u.2
      have e4 := tmod_abs h.2 hu
      have e5 := eu_step (h := h) hu
      simp only at e1 c1 c2 c3 c4 c5 c6
      rw [Int.mul_comm] at e3
      have e6 : (h.1 - h.2.tdiv u.2 * u.1).natAbs * u.2.natAbs ≤ 2000000000000 := by
        have := Nat.le_trans e2 c2
        unfold pot at this
        exact Nat.le_trans (Nat.le_add_left _ _) this
      have e7 := Nat.le_mul_of_pos_right (h.1 - h.2.tdiv u.2 * u.1).natAbs (show 0 < u.2.natAbs by omega)
      rw [w64 (n := h.2.tdiv u.2) (by omega) (by omega), w64 (n := h.2.tdiv u.2 * u.1) (by omega) (by omega), w64 (n := h.2.tdiv u.2 * u.2) (by omega) (by omega)]
      refine ⟨hu, u.1, u.2, h.1 - h.2.tdiv u.2 * u.1, h.2.tmod u.2, ⟨⟨rfl, rfl⟩, ?_, ?_⟩, ⟨by rw [← c1, e5], Nat.le_trans e2 c2, ⟨c5, c6⟩, by omega, by omega⟩, e4⟩
      · rw [w64 (by omega) (by omega)]
      · rw [w64 (by omega) (by omega)]; omega
    · simp only at c1 c2 c3 c4 c5 c6
      rw [eu_zero hu] at c1
      have wg := s_sgcd _ s.1 u.1 (Nat.le_refl _) (by omega) (by omega)
      have e8 : lstepS s v = ((Int.gcd s.1 u.1 : Int), if (0 : Int) < Int.gcd s.1 u.1 then h.1 % (Int.gcd s.1 u.1 : Int) else h.1, h.2) := by simp only [lstepS, ← c1]
      generalize (Int.gcd s.1 u.1 : Int) = g at wg e8
      rw [e8] at hst b6 b7 b8
      simp only at b8
      refine call_of (wg) rfl (by simp) ?_
      try simp -dsimp
      try (first | exact fp_one (by decide) | refine fp_and (by decide) ?_)
      by_cases hg : 0 < g
      · rw [if_pos hg] at hst
        refine br_l hg (by omega) ?_
        refine call_of (s_smod _ _ (by omega)) rfl (by simp) ?_
        try simp -dsimp
        try (first | exact fp_one (by decide) | refine fp_and (by decide) ?_)
        refine ⟨i + 1, ⟨⟨by rw [hst], by rw [w64 (by omega) (by omega)]; simp⟩, by rw [hst], by rw [hst]⟩, by omega, by omega⟩
      · rw [if_neg hg] at hst
        refine br_r hg (by omega) ?_
        refine ⟨i + 1, ⟨⟨by rw [hst], by rw [w64 (by omega) (by omega)]; simp⟩, by rw [hst], by rw [hst]⟩, by omega, by omega⟩
  · have e := hs.2 l.length
    rw [List.take_length] at e
    rw [List.take_of_length_le h1]
    obtain ⟨⟨b1, b2⟩, b3⟩ := e
    generalize lfoldS l = s at *
    unfold lfin
    by_cases hn : s.2.2 < 0
    · rw [if_pos hn, if_pos hn]
      refine br_l hn (by omega) ?_
      refine call_of (s_scale _ _ _ (by omega) (by omega) (by decide)) rfl (by simp) ?_
      try simp -dsimp
      try (first | exact fp_one (by decide) | refine fp_and (by decide) ?_)
      refine br_l h0 (by omega) ?_
      refine call_of (s_smod _ _ (by omega)) rfl (by simp) ?_
      try simp -dsimp
      try (first | exact fp_one (by decide) | refine fp_and (by decide) ?_)
    · rw [if_neg hn, if_neg hn]
      refine br_r hn (by omega) ?_
      refine br_l h0 (by omega) ?_
      refine call_of (s_smod _ _ (by omega)) rfl (by simp) ?_
      try simp -dsimp
      try (first | exact fp_one (by decide) | refine fp_and (by decide) ?_)
end Go.Proofs.YtgkhakhkebjbpaaGreatEv
namespace Go.Proofs.YtgkhakhkebjbpaaGreatEv
open Go Go.Proofs
theorem rowL_get (x : Int) : ∀ (n k : Nat), k < n → (rowL x n)[k]? = some (x, (k : Int))
  | n + 1, k, h => by
    simp only [rowL]
    by_cases e : k < n
    · rw [List.getElem?_append_left (by rw [rowL_len]; exact e)]; exact rowL_get x n k e
    · have : k = n := by omega
      subst this
      rw [List.getElem?_append_right (by rw [rowL_len]; omega), rowL_len]
      simp
theorem cellsL_get (c : Nat) (hc : 0 < c) : ∀ (n k : Nat), k < n * c → (cellsL c n)[k]? = some (((k / c : Nat) : Int), ((k % c : Nat) : Int))
  | 0, k, h => by simp at h
  | n + 1, k, h => by
    simp only [cellsL]
    by_cases e : k < n * c
    · rw [List.getElem?_append_left (by rw [cellsL_len]; exact e)]; exact cellsL_get c hc n k e
    · rw [List.getElem?_append_right (by rw [cellsL_len]; omega), cellsL_len]
      rw [Nat.succ_mul] at h
      rw [rowL_get _ _ _ (by omega)]
      have h1 : k / c = n := by
        rw [Nat.div_eq_iff hc]
        refine ⟨by omega, by omega⟩
      have h2 : k % c = k - n * c := by
        have := Nat.div_add_mod k c
        rw [h1, Nat.mul_comm] at this
        omega
      rw [h1, h2]
theorem num_cell {a b c : Int} (hc : 0 < c) {k : Nat} (hk : (k : Int) < a * c) : num a b c ((k / c.toNat : Nat) : Int) ((k % c.toNat : Nat) : Int) = k := by
  obtain ⟨n, rfl⟩ : ∃ n : Nat, c = n := ⟨c.toNat, by omega⟩
  have hn : 0 < n := by omega
  have h1 := Nat.mod_lt k hn
  have h2 := Nat.div_add_mod k n
  have h3 : ((k % n : Nat) : Int) / (n : Int) = 0 := Int.ediv_eq_zero_of_lt (by omega) (by omega)
  have h4 : ((k % n : Nat) : Int) % (n : Int) = (k % n : Nat) := Int.emod_eq_of_lt (by omega) (by omega)
  have h5 : ((k / n : Nat) : Int) < a := by
    rcases Int.lt_or_le ((k / n : Nat) : Int) a with h | h
    · exact h
    · exfalso
      have h6 := Int.mul_le_mul_of_nonneg_right h (show (0 : Int) ≤ n by omega)
      have h7 : ((k / n : Nat) : Int) * (n : Int) = ((n * (k / n) : Nat) : Int) := by rw [Int.mul_comm]; simp
      omega
  simp only [num, redX, Int.toNat_natCast, h3, h4, Int.zero_mul, Int.sub_zero]
  rw [Int.emod_eq_of_lt (Int.natCast_nonneg _) h5]
  have h7 : ((k / n : Nat) : Int) * (n : Int) = ((n * (k / n) : Nat) : Int) := by rw [Int.mul_comm]; simp
  omega
theorem num_range {a b c x y : Int} (ha : 0 < a) (hc : 0 < c) : 0 ≤ num a b c x y ∧ num a b c x y < a * c := by
  have h := red_lt (a := a) (b := b) (c := c) (x := x) (y := y) ha hc
  exact (num_lt' h.1 h.2).2
theorem cell_num {a b c x y : Int} (ha : 0 < a) (hc : 0 < c) : (((num a b c x y).toNat / c.toNat : Nat) : Int) = redX a b c x y ∧ (((num a b c x y).toNat % c.toNat : Nat) : Int) = y % c := by
  have h := red_lt (a := a) (b := b) (c := c) (x := x) (y := y) ha hc
  have h1 := (num_lt' h.1 h.2).2
  have h2 : ((num a b c x y).toNat : Int) = num a b c x y := Int.toNat_of_nonneg h1.1
  have h3 : ((c.toNat : Nat) : Int) = c := Int.toNat_of_nonneg (by omega)
  constructor
  · rw [Int.natCast_ediv, h2, h3]
    unfold num
    rw [Int.add_comm, Int.add_mul_ediv_right _ _ (by omega), Int.ediv_eq_zero_of_lt h.2.1 h.2.2, Int.zero_add]
  · rw [Int.natCast_emod, h2, h3]
    unfold num
    rw [Int.add_comm, Int.add_mul_emod_self_right, Int.emod_eq_of_lt h.2.1 h.2.2]
theorem num_add {a b c x y u v : Int} (hc : 0 < c) : num a b c (redX a b c x y + u) (y % c + v) = num a b c (x + u) (y + v) := by
  have h1 : (y + v) % c = (y % c + v) % c := by rw [Int.emod_add_emod]
  have h2 : (y + v) / c = y / c + (y % c + v) / c := by
    have h3 := Int.mul_ediv_add_emod y c
    rw [show y + v = (y % c + v) + c * (y / c) by omega, Int.add_mul_ediv_left _ _ (by omega)]
    omega
  have h4 : redX a b c (redX a b c x y + u) (y % c + v) = redX a b c (x + u) (y + v) := by
    unfold redX
    rw [h2, Int.add_mul]
    rw [show (x - y / c * b) % a + u - (y % c + v) / c * b = (x - y / c * b) % a + (u - (y % c + v) / c * b) by omega, Int.emod_add_emod]
    congr 1
    omega
  unfold num
  rw [h4, h1]
theorem num_shift {a b c x y u v : Int} (ha : 0 < a) (hc : 0 < c) : num a b c ((((num a b c x y).toNat / c.toNat : Nat) : Int) + u) ((((num a b c x y).toNat % c.toNat : Nat) : Int) + v) = num a b c (x + u) (y + v) := by
  obtain ⟨h1, h2⟩ := cell_num (b := b) (x := x) (y := y) ha hc
  rw [h1, h2, num_add hc]
theorem num_back {a b c u v : Int} (ha : 0 < a) (hc : 0 < c) {k : Nat} (hk : (k : Int) < a * c) : num a b c ((((num a b c ((k / c.toNat : Nat) + u) ((k % c.toNat : Nat) + v)).toNat / c.toNat : Nat) : Int) + -u) ((((num a b c ((k / c.toNat : Nat) + u) ((k % c.toNat : Nat) + v)).toNat % c.toNat : Nat) : Int) + -v) = k := by
  rw [num_shift ha hc]
  rw [show ((k / c.toNat : Nat) : Int) + u + -u = ((k / c.toNat : Nat) : Int) by omega, show ((k % c.toNat : Nat) : Int) + v + -v = ((k % c.toNat : Nat) : Int) by omega]
  exact num_cell hc hk
/-! entries set one behind the other -/
def setN (p : Nat → Bool) (ix : Nat → Nat) (val : Nat → Int) (l : List Int) : Nat → List Int
  | 0 => l
  | n + 1 => if p n = true then (setN p ix val l n).set (ix n) (val n) else setN p ix val l n
theorem setN_len (p : Nat → Bool) (ix : Nat → Nat) (val : Nat → Int) (l : List Int) : ∀ n, (setN p ix val l n).length = l.length
  | 0 => rfl
  | n + 1 => by simp only [setN]; split <;> simp [setN_len p ix val l n]
theorem setN_get {p : Nat → Bool} {ix : Nat → Nat} {val : Nat → Int} {l : List Int} {m j i : Nat} (hj : j < l.length) (hi : i < m) (hix : ∀ k, k < m → (ix k = j ↔ k = i)) : ∀ n, n ≤ m → (setN p ix val l n)[j]? = if i < n ∧ p i = true then some (val i) else l[j]?
  | 0, _ => by simp [setN]
  | n + 1, hn => by
    have ih := setN_get (p := p) (val := val) hj hi hix n (by omega)
    simp only [setN]
    by_cases hp : p n = true
    · rw [if_pos hp]
      by_cases e : ix n = j
      · have := (hix n (by omega)).1 e
        subst this
        rw [e, List.getElem?_set_self (by rw [setN_len]; exact hj), if_pos ⟨by omega, hp⟩]
      · rw [List.getElem?_set_ne e, ih]
        have : n ≠ i := fun h => e ((hix n (by omega)).2 h)
        by_cases h2 : i < n ∧ p i = true
        · rw [if_pos h2, if_pos ⟨by omega, h2.2⟩]
        · rw [if_neg h2, if_neg (fun h => h2 ⟨by omega, h.2⟩)]
    · rw [if_neg hp, ih]
      by_cases h2 : i < n ∧ p i = true
      · rw [if_pos h2, if_pos ⟨by omega, h2.2⟩]
      · rw [if_neg h2, if_neg (fun h => by
          have : i ≠ n := fun e => hp (e ▸ h.2)
          exact h2 ⟨by omega, h.2⟩)]
def mv (a b c u v : Int) (k : Nat) : Nat := (num a b c ((k / c.toNat : Nat) + u) ((k % c.toNat : Nat) + v)).toNat
theorem mv_lt {a b c u v : Int} (ha : 0 < a) (hc : 0 < c) (k : Nat) : mv a b c u v k < (a * c).toNat := by
  have := num_range (b := b) (x := (k / c.toNat : Nat) + u) (y := (k % c.toNat : Nat) + v) ha hc
  unfold mv
  omega
theorem mv_iff {a b c u v : Int} (ha : 0 < a) (hc : 0 < c) {k j : Nat} (hk : (k : Int) < a * c) (hj : (j : Int) < a * c) : mv a b c u v k = j ↔ k = mv a b c (-u) (-v) j := by
  constructor
  · rintro rfl
    have := num_back (b := b) (u := u) (v := v) ha hc hk
    unfold mv
    omega
  · rintro rfl
    have := num_back (b := b) (u := -u) (v := -v) ha hc hj
    rw [Int.neg_neg, Int.neg_neg] at this
    unfold mv
    omega
theorem cell_of {a c x y : Int} {i : Nat} (ha : 1 ≤ a) (hc : 1 ≤ c) (h : (cellsL c.toNat a.toNat)[i]? = some (x, y)) : ((0 ≤ x ∧ x < a) ∧ 0 ≤ y ∧ y < c) ∧ (∀ b u v, mv a b c u v i = (num a b c (x + u) (y + v)).toNat) ∧ x * c + y = i := by
  have hi : i < a.toNat * c.toNat := by
    have := (List.getElem?_eq_some_iff.1 h).1
    rwa [cellsL_len] at this
  rw [cellsL_get _ (by omega) _ _ hi] at h
  simp only [Option.some.injEq, Prod.mk.injEq] at h
  obtain ⟨rfl, rfl⟩ := h
  have h1 := Nat.mod_lt i (show 0 < c.toNat by omega)
  have h2 : i / c.toNat < a.toNat := Nat.div_lt_of_lt_mul (by rw [Nat.mul_comm]; exact hi)
  refine ⟨⟨⟨Int.natCast_nonneg _, by omega⟩, Int.natCast_nonneg _, by omega⟩, fun b u v => rfl, ?_⟩
  have h3 := Nat.div_add_mod i c.toNat
  have h4 : ((i / c.toNat : Nat) : Int) * c = ((c.toNat * (i / c.toNat) : Nat) : Int) := by rw [Int.natCast_mul, Int.toNat_of_nonneg (by omega), Int.mul_comm]
  omega
theorem nat_n {a c : Int} (ha : 1 ≤ a) (hc : 1 ≤ c) {n : Nat} (h : (n : Int) = a * c) : a.toNat * c.toNat = n := by
  have h2 : ((a.toNat * c.toNat : Nat) : Int) = a * c := by rw [Int.natCast_mul, Int.toNat_of_nonneg (by omega), Int.toNat_of_nonneg (by omega)]
  omega
end Go.Proofs.YtgkhakhkebjbpaaGreatEv
namespace Go.Proofs.YtgkhakhkebjbpaaGreatEv
open Go Go.Proofs
set_option maxRecDepth 10000
theorem toArgs_shut {h : List Ck} : ∀ {cs : List A}, cs.all A.shut = true → toArgs h cs = some (cs, [])
  | [], _ => rfl
  | c :: cs, hc => by
    simp only [List.all_cons, Bool.and_eq_true] at hc
    have := toArgs_shut (h := h) hc.2
    cases c <;> first | (simp [toArgs, toArg, toArg1, this]; done) | (have := hc.1; cases this)
theorem s_nw (n lo hi : Int) : Sp Tryz.prog 132 [vi n, .fq [.int .i64 lo], .fq [.int .i64 hi]] (vb (!decide (lo ≤ n ∧ n ≤ hi))) [] := by
  refine sp_of (m := no) mixed Tryz.func132 k132 ?_
  simp -dsimp [q]
  exact call_of (s_within n lo hi) rfl (by simp) (by simp -dsimp)
theorem s_fi (l : List Int) (f : Nat) (cs : List A) (p : Int → Bool) (h : l.length ≤ 1048576) (hc : cs.all A.shut = true) (hf : ∀ n ∈ l, Sp Tryz.prog f (vi n :: cs) (vb (p n)) []) : Sp Tryz.prog 155 [.v (vis l), .fn f cs] (vi (if l.any p = true then l.findIdx p else -1)) [] := by
  refine sp_of (m := no) mixed Tryz.func155 k155 ?_
  simp -dsimp [q]
  refine awp_it (true :: true :: false :: false :: false :: false :: false :: true :: true :: []) (fun i : Nat => [(8, vi i)]) (fun i => []) (fun i => i ≤ l.length ∧ (l.take i).any p = false) (fun i => l.length - i) 0 ?_
  intro s0 e
  simp -dsimp [hc] at e
  subst e
  refine ⟨?_, ?_⟩
  · simp [hc]
  intro i hi
  simp -dsimp [hc]
  refine ⟨fun h1 => ⟨h1, fun a ha => call_of (rd := []) (hf a (List.mem_of_getElem? ha)) (by simp [toArgs_shut hc]) (by simp) ?_⟩, fun h1 => ?_⟩
  · simp -dsimp [hc]
    have hi2 : ∀ x ∈ l.take i, p x = false := fun x hx => by
      have := List.any_eq_false.1 hi.2 x hx
      simpa using this
    obtain ⟨_, hal⟩ := List.getElem?_eq_some_iff.1 ha
    refine ⟨fun hp => ?_, fun hp => ⟨i + 1, by rw [w64 (by omega) (by omega)]; simp, ⟨by omega, fun x hx => ?_⟩, by omega⟩⟩
    · rw [if_pos ⟨a, List.mem_of_getElem? ha, hp⟩, (List.findIdx_eq h1).2 ⟨by rw [hal]; exact hp, fun j hj => hi2 _ (List.mem_iff_getElem.2 ⟨j, by simp; omega, by simp⟩)⟩]
    · rw [List.take_add_one, ha] at hx
      rcases List.mem_append.1 hx with hx | hx
      · exact hi2 x hx
      · simp at hx; rw [hx]; exact hp
  · have := hi.2
    rw [List.take_of_length_le h1] at this
    intro x hx
    simpa using List.any_eq_false.1 this x hx
theorem s_has (l : List Int) (f : Nat) (cs : List A) (p : Int → Bool) (h : l.length ≤ 1048576) (hc : cs.all A.shut = true) (hf : ∀ n ∈ l, Sp Tryz.prog f (vi n :: cs) (vb (p n)) []) : Sp Tryz.prog 131 [.v (vis l), .fn f cs] (vb (l.any p)) [] := by
  refine sp_of (m := no) mixed Tryz.func131 k131 ?_
  simp -dsimp [q]
  refine call_of (rd := []) (s_fi l f cs p h hc hf) (by simp [hc]) (by simp) ?_
  simp -dsimp
  by_cases hp : l.any p = true
  · rw [hp, if_pos (by simpa using hp)]
    simp
  · rw [if_neg (by simpa using hp)]
    simp at hp
    simpa using hp
theorem s_all (l : List Int) (lo hi : Int) (h : l.length ≤ 1048576) : Sp Tryz.prog 91 [.v (vis l), vi lo, vi hi] (vb (l.all fun n => decide (lo ≤ n ∧ n ≤ hi))) [] := by
  refine sp_of (m := no) mixed Tryz.func91 k91 ?_
  simp -dsimp [q]
  refine call_of (rd := []) (s_has l _ _ _ h rfl fun n _ => s_nw n lo hi) rfl (by simp) ?_
  simp -dsimp
  induction l with
  | nil => rfl
  | cons x l ih => simp [ih (by simp at h; omega)]
theorem s_sall (l : List Int) (n lo hi : Int) (h : l.length ≤ 1048576) : Sp Tryz.prog 101 [.v (vis l), vi n, vi lo, vi hi] (vb ((l.all fun n => decide (lo ≤ n ∧ n ≤ hi)) && decide ((l.length : Int) ≤ n))) [] := by
  refine sp_of (m := no) mixed Tryz.func101 k101 ?_
  simp -dsimp [q]
  refine awp_it (true :: true :: true :: true :: false :: false :: false :: false :: false :: true :: []) (fun i : Nat => [(9, vi i)]) (fun i => []) (fun i => i ≤ l.length ∧ ∀ x ∈ l.take i, lo ≤ x ∧ x ≤ hi) (fun i => l.length - i) 0 ?_
  intro s0 e
  simp -dsimp at e
  subst e
  refine ⟨?_, ?_⟩
  · simp
  intro i hk
  simp -dsimp
  refine ⟨fun h1 => ⟨h1, fun a ha => call_of (rd := []) (s_in a lo hi) (by simp) (by simp) ?_⟩, fun h1 => ?_⟩
  · generalize hb : decide (lo ≤ a ∧ a ≤ hi) = b
    cases b
    · simp -dsimp
      have hn := of_decide_eq_false hb
      intro hall
      exact absurd (hall a (List.mem_of_getElem? ha)) hn
    · simp -dsimp
      have hn := of_decide_eq_true hb
      refine ⟨i + 1, by rw [w64 (by omega) (by omega)]; simp, ⟨by omega, fun x hx => ?_⟩, by omega⟩
      rw [List.take_add_one, ha] at hx
      rcases List.mem_append.1 hx with hx | hx
      · exact hk.2 x hx
      · simp at hx; rw [hx]; exact hn
  · have h2 := hk.2
    rw [List.take_of_length_le h1] at h2
    exact fun _ => h2
end Go.Proofs.YtgkhakhkebjbpaaGreatEv
namespace Go.Proofs.YtgkhakhkebjbpaaGreatEv
open Go Go.Proofs
set_option maxRecDepth 10000
abbrev aP (f a b c : Int) (l : List Int) : A := .v (.ag [.int .i64 f, .int .i64 a, .int .i64 b, .int .i64 c, vis l])
abbrev oP (f a b c : Int) (i : Nat) : A := .ag [vi f, vi a, vi b, vi c, .sli i]
def okP (f a b c : Int) (l : List Int) : Bool := decide (0 ≤ f ∧ f ≤ 1) && okL a b c && decide ((l.length : Int) = a * c) && l.all fun n => decide (0 ≤ n ∧ n ≤ 9)
theorem okP_spec {f a b c : Int} {l : List Int} : okP f a b c l = true ↔ (0 ≤ f ∧ f ≤ 1) ∧ okL a b c = true ∧ (l.length : Int) = a * c ∧ ∀ n ∈ l, 0 ≤ n ∧ n ≤ 9 := by
  simp [okP, and_assoc]
theorem s_isFr (f : Int) : Sp Tryz.prog 88 [vi f] (vb (decide (0 ≤ f ∧ f ≤ 1))) [] := by
  refine sp_of (m := no) mixed Tryz.func88 k88 ?_
  simp -dsimp [q]
  refine call_of (s_within _ _ _) rfl (by simp) ?_
  try simp -dsimp
  try (first | exact fp_one (by decide) | refine fp_and (by decide) ?_)
theorem s_sisFr (f : Int) : Sp Tryz.prog 137 [vi f] (vb (decide (0 ≤ f ∧ f ≤ 1))) [] := by
  refine sp_of (m := no) mixed Tryz.func137 k137 ?_
  simp -dsimp [q]
  by_cases h : f = 0
  · subst h; simp
  · by_cases h1 : f = 1
    · subst h1; simp
    · simp [h, h1]
      intro h2; omega
theorem s_isP (f a b c : Int) (l : List Int) (hl : l.length ≤ 1048576) : Sp Tryz.prog 46 [aP f a b c l] (vb (okP f a b c l)) [] := by
  refine sp_of (m := no) mixed Tryz.func46 k46 ?_
  have w1 := s_isFr f
  have w2 := s_isL a b c
  have w4 := s_all l 0 9 hl
  simp -dsimp [q]
  by_cases h1 : 0 ≤ f ∧ f ≤ 1
  case neg =>
    rw [decide_eq_false h1] at w1
    refine call_of (w1) rfl (by simp) ?_
    try simp -dsimp
    try (first | exact fp_one (by decide) | refine fp_and (by decide) ?_)
    simp only [okP, decide_eq_false h1, Bool.false_and]
  rw [decide_eq_true h1] at w1
  refine call_of (w1) rfl (by simp) ?_
  try simp -dsimp
  try (first | exact fp_one (by decide) | refine fp_and (by decide) ?_)
  by_cases h2 : okL a b c = true
  case neg =>
    simp only [Bool.not_eq_true] at h2
    rw [h2] at w2
    refine call_of (w2) rfl (by simp) ?_
    try simp -dsimp
    try (first | exact fp_one (by decide) | refine fp_and (by decide) ?_)
    simp only [okP, h2, Bool.and_false, Bool.false_and]
  rw [h2] at w2
  refine call_of (w2) rfl (by simp) ?_
  try simp -dsimp
  try (first | exact fp_one (by decide) | refine fp_and (by decide) ?_)
  obtain ⟨ha, hc, _⟩ := okL_spec.1 h2
  refine call_of (s_index a b c ha hc) rfl (by simp) ?_
  try simp -dsimp
  try (first | exact fp_one (by decide) | refine fp_and (by decide) ?_)
  refine ⟨fun e => ?_, fun e => by simp only [okP, decide_eq_false e, Bool.and_false, Bool.false_and]⟩
  refine call_of (w4) rfl (by simp) ?_
  try simp -dsimp
  try (first | exact fp_one (by decide) | refine fp_and (by decide) ?_)
  simp only [okP, decide_eq_true h1, h2, decide_eq_true e, Bool.true_and, Bool.decide_and]
theorem s_scode (f a b c : Int) : Sp Tryz.prog 100 [vi f, aL a b c] (vi (if 0 ≤ f ∧ f ≤ 1 ∧ okL a b c = true then 0 else 1)) [] := by
  refine sp_of (m := no) mixed Tryz.func100 k100 ?_
  have w1 := s_sisFr f
  have w2 := s_sisL a b c
  simp -dsimp [q]
  by_cases h1 : 0 ≤ f ∧ f ≤ 1
  case neg =>
    rw [decide_eq_false h1] at w1
    rw [if_neg (fun h => h1 ⟨h.1, h.2.1⟩)]
    refine call_of (w1) rfl (by simp) ?_
    try simp -dsimp
    try (first | exact fp_one (by decide) | refine fp_and (by decide) ?_)
  rw [decide_eq_true h1] at w1
  refine call_of (w1) rfl (by simp) ?_
  try simp -dsimp
  try (first | exact fp_one (by decide) | refine fp_and (by decide) ?_)
  refine call_of (w2) rfl (by simp) ?_
  try simp -dsimp
  try (first | exact fp_one (by decide) | refine fp_and (by decide) ?_)
  by_cases h2 : okL a b c = true
  · simp [h1, h2]
  · simp [h2]
theorem s_sisP (f a b c : Int) (l : List Int) (hl : l.length ≤ 1048576) : Sp Tryz.prog 52 [aP f a b c l] (vb (okP f a b c l)) [] := by
  refine sp_of (m := no) mixed Tryz.func52 k52 ?_
  have w1 := s_scode f a b c
  have w4 := s_sall l 64 0 9 hl
  simp -dsimp [q]
  by_cases h1 : 0 ≤ f ∧ f ≤ 1 ∧ okL a b c = true
  case neg =>
    rw [if_neg h1] at w1
    refine call_of (w1) rfl (by simp) ?_
    try simp -dsimp
    try (first | exact fp_one (by decide) | refine fp_and (by decide) ?_)
    have : (decide (0 ≤ f ∧ f ≤ 1) && okL a b c) = false := by
      rw [Bool.eq_false_iff]; intro h; simp only [Bool.and_eq_true, decide_eq_true_eq] at h; exact h1 ⟨h.1.1, h.1.2, h.2⟩
    simp only [okP, this, Bool.false_and]
  rw [if_pos h1] at w1
  refine call_of (w1) rfl (by simp) ?_
  try simp -dsimp
  try (first | exact fp_one (by decide) | refine fp_and (by decide) ?_)
  obtain ⟨ha, hc, _, hac⟩ := okL_spec.1 h1.2.2
  have h4 := ac_pos ha.1 hc.1
  rw [w64 (by omega) (by omega)]
  refine ⟨fun e => ?_, fun e => by simp only [okP, decide_eq_false e, Bool.and_false, Bool.false_and]⟩
  refine call_of (w4) rfl (by simp) ?_
  try simp -dsimp
  try (first | exact fp_one (by decide) | refine fp_and (by decide) ?_)
  simp only [okP, decide_eq_true (show 0 ≤ f ∧ f ≤ 1 from ⟨h1.1, h1.2.1⟩), h1.2.2, decide_eq_true e, Bool.true_and, decide_eq_true (show (l.length : Int) ≤ 64 by omega), Bool.and_true, Bool.decide_and]
theorem s_at (f a b c x y : Int) (l : List Int) (hf : okP f a b c l = true) (hx : -1000000000 ≤ x ∧ x ≤ 1000000000) (hy : -1000000000 ≤ y ∧ y ≤ 1000000000) : Sp Tryz.prog 84 [aP f a b c l, aV x y] (vi (l.getD (num a b c x y).toNat 0)) [] := by
  refine sp_of (m := no) mixed Tryz.func84 k84 ?_
  obtain ⟨_, h2, h3, _⟩ := okP_spec.1 hf
  obtain ⟨ha, hc, hb, hac⟩ := okL_spec.1 h2
  have h0 := red_lt (b := b) (x := x) (y := y) ha.1 hc.1
  have h := num_lt' h0.1 h0.2
  simp -dsimp [q]
  refine call_of (s_reduce _ _ _ _ _ ha hb hc hx hy) rfl (by simp) ?_
  try simp -dsimp
  try (first | exact fp_one (by decide) | refine fp_and (by decide) ?_)
  refine call_of (s_number _ _ _ _ _ hc (by omega) h0.2) rfl (by simp) ?_
  try simp -dsimp
  try (first | exact fp_one (by decide) | refine fp_and (by decide) ?_)
  refine ⟨⟨by omega, by omega⟩, fun z hz => ?_⟩
  simp [num, hz]
theorem s_sat (f a b c x y : Int) (l : List Int) (hf : okP f a b c l = true) (hx : -1000000000 ≤ x ∧ x ≤ 1000000000) (hy : -1000000000 ≤ y ∧ y ≤ 1000000000) : Sp Tryz.prog 147 [aP f a b c l, aV x y] (vi (l.getD (num a b c x y).toNat 0)) [] := by
  refine sp_of (m := no) mixed Tryz.func147 k147 ?_
  obtain ⟨_, h2, h3, _⟩ := okP_spec.1 hf
  obtain ⟨ha, hc, hb, hac⟩ := okL_spec.1 h2
  have h0 := red_lt (b := b) (x := x) (y := y) ha.1 hc.1
  have h := num_lt' h0.1 h0.2
  simp -dsimp [q]
  refine call_of (s_snumber _ _ _ _ _ ha hb hc hx hy) rfl (by simp) ?_
  try simp -dsimp
  try (first | exact fp_one (by decide) | refine fp_and (by decide) ?_)
  unfold num at *
  refine ⟨⟨by omega, by omega⟩, fun z hz => ?_⟩
  simp [num, hz]
end Go.Proofs.YtgkhakhkebjbpaaGreatEv
namespace Go.Proofs.YtgkhakhkebjbpaaGreatEv
open Go Go.Proofs
set_option maxRecDepth 10000
abbrev M4 := Int × Int × Int × Int
def vm (m : M4) : V := .ag [.int .i64 m.1, .int .i64 m.2.1, .int .i64 m.2.2.1, .int .i64 m.2.2.2]
def ms (l : List M4) : List V := l.map vm
abbrev aM4 (m : M4) : A := aM m.1 m.2.1 m.2.2.1 m.2.2.2
@[simp] theorem ms_nil : ms [] = [] := rfl
@[simp] theorem ms_len (l : List M4) : (ms l).length = l.length := by simp [ms]
@[simp] theorem ms_get (l : List M4) (n : Nat) (K : V → Prop) : fA ((ms l)[n]?) K = ∀ m, l[n]? = some m → K (.ag [.int .i64 m.1, .int .i64 m.2.1, .int .i64 m.2.2.1, .int .i64 m.2.2.2]) := by unfold ms; exact fA_map
@[simp] theorem ms_app (l : List M4) (a b c d : Int) : ms l ++ [.ag [.int .i64 a, .int .i64 b, .int .i64 c, .int .i64 d]] = ms (l ++ [(a, b, c, d)]) := by simp [ms, vm]
@[simp] theorem ms_set (l : List M4) (n : Nat) (a b c d : Int) : (ms l).set n (.ag [.int .i64 a, .int .i64 b, .int .i64 c, .int .i64 d]) = ms (l.set n (a, b, c, d)) := by simp [ms, vm, List.map_set]
@[simp] theorem ms_take (l : List M4) (n : Nat) : (ms l).take n = ms (l.take n) := by simp [ms, List.map_take]
@[simp] theorem ms_drop (l : List M4) (n : Nat) : (ms l).drop n = ms (l.drop n) := by simp [ms, List.map_drop]
@[simp] theorem ms_flat (l : List M4) : (∀ x, x ∈ ms l → x.flat = true) ↔ True := by
  simp only [iff_true]
  intro x hx
  obtain ⟨y, _, rfl⟩ := List.mem_map.1 hx
  rfl
theorem vm_inj {m n : M4} (h : vm m = vm n) : m = n := by
  obtain ⟨a, b, c, d⟩ := m
  obtain ⟨a', b', c', d'⟩ := n
  simp only [vm, V.ag.injEq, List.cons.injEq, V.int.injEq, true_and, and_true] at h
  obtain ⟨rfl, rfl, rfl, rfl⟩ := h
  rfl
@[simp] theorem ms_inj (a b : List M4) : ms a = ms b ↔ a = b := by
  constructor
  · exact fun h => (List.map_inj_right (fun x y e => vm_inj e)).1 h
  · rintro rfl; rfl
abbrev vms (l : List M4) : V := .sl 4 (ms l)
def keptM (p : M4 → Bool) (l : List M4) (j : Nat) : List M4 := (l.take j).filter fun v => !p v
theorem keptM_succ {p : M4 → Bool} {l : List M4} {j : Nat} {x : M4} (hx : l[j]? = some x) : keptM p l (j + 1) = keptM p l j ++ if p x = true then [] else [x] := by
  unfold keptM
  rw [List.take_add_one, hx, List.filter_append]
  cases h : p x <;> simp [h]
theorem keptM_first {p : M4 → Bool} {l : List M4} (h : l.any p = true) : keptM p l (l.findIdx p + 1) = l.take (l.findIdx p) ∧ l.findIdx p < l.length := by
  have hlt : l.findIdx p < l.length := List.findIdx_lt_length.2 (by simpa using h)
  have hx := List.getElem?_eq_getElem hlt
  have hp : p l[l.findIdx p] = true := List.findIdx_getElem
  refine ⟨?_, hlt⟩
  rw [keptM_succ hx, if_pos hp, List.append_nil]
  unfold keptM
  rw [List.filter_eq_self]
  intro x hx
  obtain ⟨j, hj, rfl⟩ := List.mem_take_iff_getElem.1 hx
  have := List.not_of_lt_findIdx (p := p) (xs := l) (i := j) (by omega)
  simp [this]
end Go.Proofs.YtgkhakhkebjbpaaGreatEv
namespace Go.Proofs.YtgkhakhkebjbpaaGreatEv
open Go Go.Proofs
set_option maxRecDepth 10000
def normF (f x y : Int) : Int := x * x + f * x * y + y * y
theorem normF_bd {f x y : Int} (hf : 0 ≤ f ∧ f ≤ 1) (hx : x.natAbs ≤ 10000) (hy : y.natAbs ≤ 10000) : (x * x).natAbs ≤ 100000000 ∧ (f * x).natAbs ≤ 10000 ∧ (f * x * y).natAbs ≤ 100000000 ∧ (y * y).natAbs ≤ 100000000 ∧ (x * y).natAbs ≤ 100000000 := by
  have h1 := mul_bd hx hx
  have h2 := mul_bd (show f.natAbs ≤ 1 by omega) hx
  have h3 := mul_bd h2 hy
  have h4 := mul_bd hy hy
  have h5 := mul_bd hx hy
  exact ⟨by omega, by omega, by omega, by omega, by omega⟩
theorem s_norm (f x y : Int) (hf : 0 ≤ f ∧ f ≤ 1) (hx : x.natAbs ≤ 10000) (hy : y.natAbs ≤ 10000) : Sp Tryz.prog 146 [vi f, aV x y] (vi (normF f x y)) [] := by
  refine sp_of (m := no) mixed Tryz.func146 k146 ?_
  obtain ⟨h1, h2, h3, h4, _⟩ := normF_bd hf hx hy
  simp -dsimp [q]
  rw [w64 (n := x * x) (by omega) (by omega), w64 (n := f * x) (by omega) (by omega), w64 (n := f * x * y) (by omega) (by omega), w64 (n := y * y) (by omega) (by omega), w64 (n := x * x + f * x * y) (by omega) (by omega), w64 (by omega) (by omega)]
  rfl
theorem s_snorm (f x y : Int) (hf : 0 ≤ f ∧ f ≤ 1) (hx : x.natAbs ≤ 10000) (hy : y.natAbs ≤ 10000) : Sp Tryz.prog 165 [vi f, aV x y] (vi (normF f x y)) [] := by
  refine sp_of (m := no) mixed Tryz.func165 k165 ?_
  obtain ⟨h1, h2, h3, h4, h5⟩ := normF_bd hf hx hy
  simp -dsimp [q]
  rw [w64 (n := x * x) (by omega) (by omega), w64 (n := y * y) (by omega) (by omega), w64 (n := x * y) (by omega) (by omega), w64 (n := x * x + y * y) (by omega) (by omega), w64 (by omega) (by omega)]
  unfold normF
  refine ⟨fun e => ?_, fun e => ?_⟩
  · subst e
    rw [Int.one_mul]
    omega
  · have : f = 0 := by omega
    subst this
    simp
def pmOk (f : Int) (m : M4) : Bool := decide (normF f m.1 m.2.2.1 = 1) && decide (normF f m.2.1 m.2.2.2 = 1) && decide (normF f (m.1 + m.2.1) (m.2.2.1 + m.2.2.2) = 2 + f)
theorem s_skeeps (f a b c d : Int) (hf : 0 ≤ f ∧ f ≤ 1) (hm : (a.natAbs ≤ 1000 ∧ b.natAbs ≤ 1000) ∧ c.natAbs ≤ 1000 ∧ d.natAbs ≤ 1000) : Sp Tryz.prog 161 [vi f, aM a b c d] (vb (pmOk f (a, b, c, d))) [] := by
  refine sp_of (m := no) mixed Tryz.func161 k161 ?_
  have w1 := s_snorm f a c hf (by omega) (by omega)
  have w2 := s_snorm f b d hf (by omega) (by omega)
  have w3 := s_snorm f (a + b) (c + d) hf (by omega) (by omega)
  simp -dsimp [q]
  refine ⟨by decide, ?_⟩
  refine call_of (w1) rfl (by simp) ?_
  try simp -dsimp
  try (first | exact fp_one (by decide) | refine fp_and (by decide) ?_)
  refine ⟨fun e1 => ?_, fun e1 => ?_⟩
  · refine call_of (w2) rfl (by simp) ?_
    try simp -dsimp
    try (first | exact fp_one (by decide) | refine fp_and (by decide) ?_)
    refine ⟨fun e2 => ?_, fun e2 => ?_⟩
    · refine call_of (s_sadd _ _ _ _ (by omega) (by omega) (by omega) (by omega)) rfl (by simp) ?_
      try simp -dsimp
      try (first | exact fp_one (by decide) | refine fp_and (by decide) ?_)
      refine call_of (w3) rfl (by simp) ?_
      try simp -dsimp
      try (first | exact fp_one (by decide) | refine fp_and (by decide) ?_)
      rw [w64 (by omega) (by omega)]
      simp only [pmOk, decide_eq_true e1, decide_eq_true e2, Bool.true_and]
    · simp only [pmOk, decide_eq_false e2, Bool.and_false, Bool.false_and]
  · simp only [pmOk, decide_eq_false e1, Bool.false_and]
def matOk (a b c d : Int) : Bool := okV a b && okV c d && (decide (a * d - b * c = 1) || decide (a * d - b * c = -1))
theorem matOk_small {a b c d : Int} (h : matOk a b c d = true) : (a.natAbs ≤ 1000 ∧ b.natAbs ≤ 1000) ∧ c.natAbs ≤ 1000 ∧ d.natAbs ≤ 1000 := by
  simp only [matOk, Bool.and_eq_true, okV_spec] at h
  omega
/-! all of a frame -/
def mat81 (k : Nat) : M4 := ((k : Int) / 27 - 1, (k : Int) / 9 % 3 - 1, (k : Int) / 3 % 3 - 1, (k : Int) % 3 - 1)
def pmL (f : Int) (n : Nat) : List M4 := ((List.range n).map mat81).filter fun m => pmOk f m
theorem pmL_succ (f : Int) (n : Nat) : pmL f (n + 1) = pmL f n ++ if pmOk f (mat81 n) = true then [mat81 n] else [] := by
  unfold pmL
  rw [List.range_succ, List.map_append, List.filter_append]
  cases h : pmOk f (mat81 n) <;> simp [h]
theorem pmL_len (f : Int) (n : Nat) : (pmL f n).length ≤ n := by
  unfold pmL
  exact Nat.le_trans (List.length_filter_le _ _) (by simp)
theorem s_pm (f : Int) (hf : 0 ≤ f ∧ f ≤ 1) : Sp Tryz.prog 112 [vi f] (.sli 0) [.row 4 45 (ms (pmL f 81))] := by
  refine sp_of (m := no) mixed Tryz.func112 k112 ?_
  simp -dsimp [q]
  refine awp_it (true :: false :: false :: true :: false :: false :: false :: false :: false :: false :: true :: []) (fun i : Nat => [(10, vi i)]) (fun i => [(0, .row 4 45 (ms (pmL f i)))]) (fun i => i ≤ 81) (fun i => 81 - i) 0 ?_
  intro s0 e
  simp -dsimp at e
  subst e
  refine ⟨?_, ?_⟩
  · simp [pmL]
  intro i hi
  have hlen := pmL_len f i
  have hs := pmL_succ f i
  have a1 : IntKind.i64.wrap ((i : Int) / 27) = (i : Int) / 27 := w64 (by omega) (by omega)
  have a2 : IntKind.i64.wrap ((i : Int) / 9) = (i : Int) / 9 := w64 (by omega) (by omega)
  have a3 : IntKind.i64.wrap ((i : Int) / 3) = (i : Int) / 3 := w64 (by omega) (by omega)
  have b2 : ((i : Int) / 9).tmod 3 = (i : Int) / 9 % 3 := Int.tmod_eq_emod_of_nonneg (by omega)
  have b3 : ((i : Int) / 3).tmod 3 = (i : Int) / 3 % 3 := Int.tmod_eq_emod_of_nonneg (by omega)
  have b4 : (i : Int).tmod 3 = (i : Int) % 3 := Int.tmod_eq_emod_of_nonneg (by omega)
  have c1 : IntKind.i64.wrap ((i : Int) / 27 - 1) = (i : Int) / 27 - 1 := w64 (by omega) (by omega)
  have c2 : IntKind.i64.wrap ((i : Int) / 9 % 3 - 1) = (i : Int) / 9 % 3 - 1 := w64 (by omega) (by omega)
  have c3 : IntKind.i64.wrap ((i : Int) / 3 % 3 - 1) = (i : Int) / 3 % 3 - 1 := w64 (by omega) (by omega)
  have c4 : IntKind.i64.wrap ((i : Int) % 3 - 1) = (i : Int) % 3 - 1 := w64 (by omega) (by omega)
  have d1 : -1 ≤ (i : Int) / 27 - 1 ∧ ((i : Int) < 81 → (i : Int) / 27 - 1 ≤ 1) := ⟨by omega, by omega⟩
  have d2 : -1 ≤ (i : Int) / 9 % 3 - 1 ∧ (i : Int) / 9 % 3 - 1 ≤ 1 := ⟨by omega, by omega⟩
  have d3 : -1 ≤ (i : Int) / 3 % 3 - 1 ∧ (i : Int) / 3 % 3 - 1 ≤ 1 := ⟨by omega, by omega⟩
  have d4 : -1 ≤ (i : Int) % 3 - 1 ∧ (i : Int) % 3 - 1 ≤ 1 := ⟨by omega, by omega⟩
  have hmat : mat81 i = ((i : Int) / 27 - 1, (i : Int) / 9 % 3 - 1, (i : Int) / 3 % 3 - 1, (i : Int) % 3 - 1) := rfl
  simp -dsimp [a1, a2, a3, b2, b3, b4, c1, c2, c3, c4]
  refine ⟨fun h1 => ?_, fun h1 => ?_⟩
  · generalize (i : Int) / 27 - 1 = a at *
    generalize (i : Int) / 9 % 3 - 1 = b at *
    generalize (i : Int) / 3 % 3 - 1 = c at *
    generalize (i : Int) % 3 - 1 = d at *
    have d1' := d1.2 (by omega)
    rw [hmat] at hs
    have w1 := s_norm f a c hf (by omega) (by omega)
    have w2 := s_norm f b d hf (by omega) (by omega)
    have w3 := s_norm f (a + b) (c + d) hf (by omega) (by omega)
    refine call_of (s_apply a b c d 1 0 ⟨⟨by omega, by omega⟩, by omega, by omega⟩ (by decide)) rfl (by simp) ?_
    try simp -dsimp
    try (first | exact fp_one (by decide) | refine fp_and (by decide) ?_)
    refine call_of (s_apply a b c d 0 1 ⟨⟨by omega, by omega⟩, by omega, by omega⟩ (by decide)) rfl (by simp) ?_
    try simp -dsimp
    try (first | exact fp_one (by decide) | refine fp_and (by decide) ?_)
    refine call_of (s_apply a b c d 1 1 ⟨⟨by omega, by omega⟩, by omega, by omega⟩ (by decide)) rfl (by simp) ?_
    try simp -dsimp
    try (first | exact fp_one (by decide) | refine fp_and (by decide) ?_)
    have bad : pmOk f (a, b, c, d) = false → ∃ y : Nat, (IntKind.i64.wrap ((i : Int) + 1) = (y : Int) ∧ pmL f i = pmL f y) ∧ y ≤ 81 ∧ 81 - y < 81 - i := fun e => by
      rw [e] at hs
      refine ⟨i + 1, ⟨by rw [w64 (by omega) (by omega)]; simp, by rw [hs]; simp⟩, by omega, by omega⟩
    refine call_of (w1) rfl (by simp) ?_
    try simp -dsimp
    try (first | exact fp_one (by decide) | refine fp_and (by decide) ?_)
    refine ⟨fun e1 => ?_, fun e1 => ?_⟩
    · refine call_of (w2) rfl (by simp) ?_
      try simp -dsimp
      try (first | exact fp_one (by decide) | refine fp_and (by decide) ?_)
      refine ⟨fun e2 => ?_, fun e2 => ?_⟩
      · refine call_of (w3) rfl (by simp) ?_
        try simp -dsimp
        try (first | exact fp_one (by decide) | refine fp_and (by decide) ?_)
        rw [w64 (n := 2 + f) (by omega) (by omega)]
        refine ⟨fun e3 => ?_, fun e3 => ?_⟩
        · have e : pmOk f (a, b, c, d) = true := by simp only [pmOk, decide_eq_true e1, decide_eq_true e2, decide_eq_true e3, Bool.true_and]
          rw [e] at hs
          refine ⟨⟨by omega, by omega⟩, i + 1, ?_, by omega, by omega⟩
          exact ⟨by rw [w64 (by omega) (by omega)]; simp, by rw [hs]; simp⟩
        · exact bad (by simp only [pmOk, decide_eq_false e3, Bool.and_false])
      · exact bad (by simp only [pmOk, decide_eq_false e2, Bool.and_false, Bool.false_and])
    · exact bad (by simp only [pmOk, decide_eq_false e1, Bool.false_and])
  · rw [show i = 81 by omega]
end Go.Proofs.YtgkhakhkebjbpaaGreatEv
namespace Go.Proofs.YtgkhakhkebjbpaaGreatEv
open Go Go.Proofs
set_option maxRecDepth 10000
def inL (a b c x y : Int) : Bool := decide (redX a b c x y = 0) && decide (y % c = 0)
theorem s_has1 (a b c x y : Int) (ha : 1 ≤ a ∧ a ≤ 64) (hb : 0 ≤ b ∧ b < a) (hc : 1 ≤ c ∧ c ≤ 64) (hx : -1000000000 ≤ x ∧ x ≤ 1000000000) (hy : -1000000000 ≤ y ∧ y ≤ 1000000000) : Sp Tryz.prog 78 [aL a b c, aV x y] (vb (inL a b c x y)) [] := by
  refine sp_of (m := no) mixed Tryz.func78 k78 ?_
  simp -dsimp [q]
  refine call_of (s_reduce _ _ _ _ _ ha hb hc hx hy) rfl (by simp) ?_
  try simp -dsimp
  try (first | exact fp_one (by decide) | refine fp_and (by decide) ?_)
  have e : inL a b c x y = true ↔ (redX a b c x y = 0 ∧ y % c = 0) := by simp [inL]
  rw [Bool.eq_iff_iff, cdec_true, e]
def keepL (a b c : Int) (m : M4) : Bool := inL a b c (m.1 * a) (m.2.2.1 * a) && inL a b c (m.1 * b + m.2.1 * c) (m.2.2.1 * b + m.2.2.2 * c)
theorem pmL_small {f : Int} {n : Nat} (hn : n ≤ 81) {m : M4} (h : m ∈ pmL f n) : (m.1.natAbs ≤ 1 ∧ m.2.1.natAbs ≤ 1) ∧ m.2.2.1.natAbs ≤ 1 ∧ m.2.2.2.natAbs ≤ 1 := by
  unfold pmL at h
  obtain ⟨h1, _⟩ := List.mem_filter.1 h
  obtain ⟨k, hk, rfl⟩ := List.mem_map.1 h1
  have := List.mem_range.1 hk
  simp only [mat81]
  omega
end Go.Proofs.YtgkhakhkebjbpaaGreatEv
namespace Go.Proofs.YtgkhakhkebjbpaaGreatEv
open Go Go.Proofs
set_option maxRecDepth 10000
/-- Closed under adding multiples. -/
structure Sub (L : Int → Int → Prop) : Prop where
  z : L 0 0
  a : ∀ {x y u v : Int} (n : Int), L x y → L u v → L (x + n * u) (y + n * v)
theorem Sub.m {L : Int → Int → Prop} (s : Sub L) {x y : Int} (n : Int) (h : L x y) : L (n * x) (n * y) := by
  have := s.a n s.z h
  simpa using this
theorem Sub.s {L : Int → Int → Prop} (s : Sub L) {x y u v : Int} (n : Int) (h : L x y) (k : L u v) : L (x - n * u) (y - n * v) := by
  have := s.a (-n) h k
  rwa [Int.neg_mul, Int.neg_mul, ← Int.sub_eq_add_neg, ← Int.sub_eq_add_neg] at this
theorem sub_gcd {L : Int → Int → Prop} (s : Sub L) : ∀ (n : Nat) (a b : Int), b.natAbs ≤ n → L a 0 → L b 0 → L (Int.gcd a b : Int) 0
  | 0, a, b, hn, ha, hb => by
    have : b = 0 := by omega
    subst this
    rw [Int.gcd_zero_right]
    rcases Int.natAbs_eq a with h | h
    · rwa [← h]
    · have := s.m (-1) ha
      rw [show ((a.natAbs : Nat) : Int) = -1 * a by omega]
      simpa using this
  | n + 1, a, b, hn, ha, hb => by
    by_cases h0 : b = 0
    · exact sub_gcd s n a b (by omega) ha hb
    have h1 := tmod_abs a h0
    rw [← gcd_step]
    refine sub_gcd s n b _ (by omega) hb ?_
    have h2 := s.s (a.tdiv b) ha hb
    have h3 := Int.tmod_add_mul_tdiv a b
    rw [Int.mul_comm] at h3
    rw [show a.tmod b = a - a.tdiv b * b by omega]
    simpa using h2
theorem sub_of_gcd {L : Int → Int → Prop} (s : Sub L) {a b : Int} (h : L (Int.gcd a b : Int) 0) : L a 0 ∧ L b 0 := by
  obtain ⟨k, hk⟩ := Int.gcd_dvd_left (a := a) (b := b)
  obtain ⟨j, hj⟩ := Int.gcd_dvd_right (a := a) (b := b)
  constructor
  · have := s.m k h
    rw [Int.mul_comm, ← hk] at this
    simpa using this
  · have := s.m j h
    rw [Int.mul_comm, ← hj] at this
    simpa using this
theorem eu_row0 : ∀ (n : Nat) (h v : Int × Int), v.2.natAbs ≤ n → (eu n h v).2.2 = 0
  | 0, h, v, hn => by simp only [eu]; omega
  | n + 1, h, v, hn => by
    simp only [eu]
    by_cases hv : v.2 = 0
    · rw [if_pos hv]; exact hv
    · rw [if_neg hv]
      have := tmod_abs h.2 hv
      exact eu_row0 n _ _ (by simp only; omega)
theorem sub_eu {L : Int → Int → Prop} (s : Sub L) : ∀ (n : Nat) (h v : Int × Int), (L (eu n h v).1.1 (eu n h v).1.2 ∧ L (eu n h v).2.1 (eu n h v).2.2) ↔ (L h.1 h.2 ∧ L v.1 v.2)
  | 0, h, v => by simp [eu]
  | n + 1, h, v => by
    simp only [eu]
    by_cases hv : v.2 = 0
    · rw [if_pos hv]
    · rw [if_neg hv, sub_eu s n]
      have h3 := Int.tmod_add_mul_tdiv h.2 v.2
      rw [Int.mul_comm] at h3
      have e : h.2.tmod v.2 = h.2 - h.2.tdiv v.2 * v.2 := by omega
      simp only [e]
      constructor
      · rintro ⟨h1, h2⟩
        refine ⟨?_, h1⟩
        have := s.a (h.2.tdiv v.2) h2 h1
        rwa [Int.sub_add_cancel, Int.sub_add_cancel] at this
      · rintro ⟨h1, h2⟩
        exact ⟨h2, s.s _ h1 h2⟩
theorem sub_lstep {L : Int → Int → Prop} (s : Sub L) (t : Int × Int × Int) (v : Int × Int) : (L (lstep t v).1 0 ∧ L (lstep t v).2.1 (lstep t v).2.2) ↔ ((L t.1 0 ∧ L t.2.1 t.2.2) ∧ L v.1 v.2) := by
  have e1 := sub_eu s v.2.natAbs t.2 v
  have e2 := eu_row0 v.2.natAbs t.2 v (Nat.le_refl _)
  rw [e2] at e1
  simp only [lstep]
  constructor
  · rintro ⟨h1, h2⟩
    obtain ⟨h3, h4⟩ := sub_of_gcd s h1
    have := e1.1 ⟨h2, h4⟩
    exact ⟨⟨h3, this.1⟩, this.2⟩
  · rintro ⟨⟨h1, h2⟩, h3⟩
    have := e1.2 ⟨h2, h3⟩
    exact ⟨sub_gcd s _ _ _ (Nat.le_refl _) h1 this.2, this.1⟩
theorem sub_lstepS {L : Int → Int → Prop} (s : Sub L) (t : Int × Int × Int) (v : Int × Int) : (L (lstepS t v).1 0 ∧ L (lstepS t v).2.1 (lstepS t v).2.2) ↔ ((L t.1 0 ∧ L t.2.1 t.2.2) ∧ L v.1 v.2) := by
  rw [← sub_lstep s]
  simp only [lstep, lstepS]
  generalize (Int.gcd t.1 (eu v.2.natAbs t.2 v).2.1 : Int) = g
  generalize (eu v.2.natAbs t.2 v).1 = h
  refine and_congr_right fun hg => ?_
  split
  · have e := Int.emod_add_mul_ediv h.1 g
    rw [Int.mul_comm] at e
    constructor
    · intro h1
      have := s.a (h.1 / g) h1 hg
      rw [e] at this
      simpa using this
    · intro h1
      have := s.s (h.1 / g) h1 hg
      rw [show h.1 % g = h.1 - h.1 / g * g by omega]
      simpa using this
  · exact Iff.rfl
theorem sub_foldl {L : Int → Int → Prop} {st : Int × Int × Int → Int × Int → Int × Int × Int} (hst : ∀ t v, (L (st t v).1 0 ∧ L (st t v).2.1 (st t v).2.2) ↔ ((L t.1 0 ∧ L t.2.1 t.2.2) ∧ L v.1 v.2)) : ∀ (l : List (Int × Int)) (t : Int × Int × Int), (L (l.foldl st t).1 0 ∧ L (l.foldl st t).2.1 (l.foldl st t).2.2) ↔ ((L t.1 0 ∧ L t.2.1 t.2.2) ∧ ∀ v ∈ l, L v.1 v.2)
  | [], t => by simp
  | v :: l, t => by
    rw [List.foldl_cons, sub_foldl hst l, hst]
    simp only [List.mem_cons, forall_eq_or_imp, and_assoc]
theorem sub_lfold {L : Int → Int → Prop} (s : Sub L) (l : List (Int × Int)) : (L (lfold l).1 0 ∧ L (lfold l).2.1 (lfold l).2.2) ↔ ∀ v ∈ l, L v.1 v.2 := by
  rw [lfold, sub_foldl (sub_lstep s)]
  simp [s.z]
theorem sub_lfoldS {L : Int → Int → Prop} (s : Sub L) (l : List (Int × Int)) : (L (lfoldS l).1 0 ∧ L (lfoldS l).2.1 (lfoldS l).2.2) ↔ ∀ v ∈ l, L v.1 v.2 := by
  rw [lfoldS, sub_foldl (sub_lstepS s)]
  simp [s.z]
theorem sub_lfin {L : Int → Int → Prop} (s : Sub L) (t : Int × Int × Int) : (L (lfin t).1 0 ∧ L (lfin t).2.1 (lfin t).2.2) ↔ (L t.1 0 ∧ L t.2.1 t.2.2) := by
  simp only [lfin]
  refine and_congr_right fun hg => ?_
  have key : ∀ x y : Int, L (x % t.1) y ↔ L x y := fun x y => by
    have e := Int.emod_add_mul_ediv x t.1
    rw [Int.mul_comm] at e
    constructor
    · intro h1
      have := s.a (x / t.1) h1 hg
      rw [e] at this
      simpa using this
    · intro h1
      have := s.s (x / t.1) h1 hg
      rw [show x % t.1 = x - x / t.1 * t.1 by omega]
      simpa using this
  split
  · rw [key]
    constructor
    · intro h
      have := s.m (-1) h
      simpa using this
    · intro h
      have := s.m (-1) h
      simpa using this
  · rw [key]
def spn (a b c x y : Int) : Prop := ∃ i j : Int, x = i * a + j * b ∧ y = j * c
theorem spn_sub (a b c : Int) : Sub (spn a b c) where
  z := ⟨0, 0, by simp, by simp⟩
  a := by
    rintro x y u v n ⟨i, j, rfl, rfl⟩ ⟨k, l, rfl, rfl⟩
    refine ⟨i + n * k, j + n * l, ?_, ?_⟩
    · simp only [Int.add_mul, Int.mul_add, Int.mul_assoc]; omega
    · simp only [Int.add_mul, Int.mul_assoc]
theorem spn_l (a b c : Int) : spn a b c a 0 := ⟨1, 0, by simp, by simp⟩
theorem spn_r (a b c : Int) : spn a b c b c := ⟨0, 1, by simp, by simp⟩
theorem spn_det {a b c x y u v : Int} (h1 : spn a b c x y) (h2 : spn a b c u v) : a * c ∣ x * v - y * u := by
  obtain ⟨i, j, rfl, rfl⟩ := h1
  obtain ⟨k, l, rfl, rfl⟩ := h2
  refine ⟨i * l - j * k, ?_⟩
  simp only [Int.mul_sub, Int.add_mul, Int.mul_add]
  have e1 : i * a * (l * c) = a * c * (i * l) := by ac_rfl
  have e2 : j * b * (l * c) = j * c * (l * b) := by ac_rfl
  have e3 : j * c * (k * a) = a * c * (j * k) := by ac_rfl
  rw [e1, e2, e3]
  omega
theorem spn_uniq {a b c A B C : Int} (ha : 0 < a) (hb : 0 ≤ b ∧ b < a) (hc : 0 < c) (hA : 0 < A) (hB : 0 ≤ B ∧ B < A) (hC : 0 < C) (h1 : spn A B C a 0) (h2 : spn A B C b c) (h3 : spn a b c A 0) (h4 : spn a b c B C) : (a, b, c) = (A, B, C) := by
  obtain ⟨i1, j1, e1, f1⟩ := h1
  obtain ⟨i2, j2, e2, f2⟩ := h2
  obtain ⟨i3, j3, e3, f3⟩ := h3
  obtain ⟨i4, j4, e4, f4⟩ := h4
  have j1z : j1 = 0 := by
    rcases Int.mul_eq_zero.1 f1.symm with h | h <;> omega
  have j3z : j3 = 0 := by
    rcases Int.mul_eq_zero.1 f3.symm with h | h <;> omega
  subst j1z j3z
  simp only [Int.zero_mul, Int.add_zero] at e1 e3
  have eA : A = a := Int.le_antisymm (Int.le_of_dvd ha ⟨i1, by rw [Int.mul_comm]; exact e1⟩) (Int.le_of_dvd hA ⟨i3, by rw [Int.mul_comm]; exact e3⟩)
  have eC : C = c := Int.le_antisymm (Int.le_of_dvd hc ⟨j2, by rw [Int.mul_comm]; exact f2⟩) (Int.le_of_dvd hC ⟨j4, by rw [Int.mul_comm]; exact f4⟩)
  subst eA eC
  have : j2 = 1 := by
    have : (j2 - 1) * C = 0 := by rw [Int.sub_mul, Int.one_mul]; omega
    rcases Int.mul_eq_zero.1 this with h | h <;> omega
  subst this
  rw [Int.one_mul] at e2
  have : b % A = B % A := by rw [e2, Int.add_comm, Int.add_mul_emod_self_right]
  rw [Int.emod_eq_of_lt hb.1 hb.2, Int.emod_eq_of_lt hB.1 hB.2] at this
  rw [this]
end Go.Proofs.YtgkhakhkebjbpaaGreatEv
namespace Go.Proofs.YtgkhakhkebjbpaaGreatEv
open Go Go.Proofs
set_option maxRecDepth 10000
theorem inL_iff {a b c x y : Int} : inL a b c x y = true ↔ (x - y / c * b) % a = 0 ∧ y % c = 0 := by
  unfold inL
  rw [Bool.and_eq_true, decide_eq_true_iff, decide_eq_true_iff]
  exact Iff.rfl
theorem inL_spn {a b c x y : Int} (hc : 1 ≤ c) : inL a b c x y = true ↔ spn a b c x y := by
  rw [inL_iff]
  constructor
  · rintro ⟨h1, h2⟩
    have e1 := Int.emod_add_mul_ediv (x - y / c * b) a
    have e2 := Int.emod_add_mul_ediv y c
    refine ⟨(x - y / c * b) / a, y / c, ?_, ?_⟩
    · rw [h1, Int.mul_comm] at e1; omega
    · rw [h2, Int.mul_comm] at e2; omega
  · rintro ⟨i, j, rfl, rfl⟩
    rw [Int.mul_ediv_cancel _ (show c ≠ 0 by omega)]
    refine ⟨?_, Int.mul_emod_left _ _⟩
    rw [Int.add_sub_cancel]
    exact Int.mul_emod_left _ _
theorem lfS_one (x y : Int) : lfoldS [(x, y)] = if y = 0 then ((x.natAbs : Int), 0, 0) else (0, x, y) := by
  simp only [lfoldS, List.foldl_cons, List.foldl_nil, lstepS]
  by_cases hy : y = 0
  · subst hy
    simp [eu]
  · have h := eu_step (h := (0, 0)) (v := (x, y)) hy
    simp only at h
    rw [if_neg hy, h]
    simp [eu]
theorem lfS_g (l : List (Int × Int)) (v : Int × Int) : 0 ≤ (lfoldS (l ++ [v])).1 ∧ (0 < (lfoldS (l ++ [v])).1 → 0 ≤ (lfoldS (l ++ [v])).2.1 ∧ (lfoldS (l ++ [v])).2.1 < (lfoldS (l ++ [v])).1) := by
  rw [lfoldS_snoc]
  simp only [lstepS]
  refine ⟨by omega, fun h => ?_⟩
  rw [if_pos h]
  exact ⟨Int.emod_nonneg _ (by omega), Int.emod_lt_of_pos _ h⟩
structure Two (x y u w : Int) : Prop where
  h : 0 < (lfoldS [(x, y), (u, w)]).1
  r : 0 ≤ (lfoldS [(x, y), (u, w)]).2.1 ∧ (lfoldS [(x, y), (u, w)]).2.1 < (lfoldS [(x, y), (u, w)]).1
  k : (lfoldS [(x, y), (u, w)]).2.2 ≠ 0
  d : (lfoldS [(x, y), (u, w)]).1 * (lfoldS [(x, y), (u, w)]).2.2 ∣ x * w - y * u
  s : lsmallS [(x, y), (u, w)]
theorem dvd_bd {a b : Int} {D : Nat} (h : a ∣ b) (h0 : b ≠ 0) (hb : b.natAbs ≤ D) : a.natAbs ≤ D := by
  have := Int.natAbs_dvd_natAbs.2 h
  exact Nat.le_trans (Nat.le_of_dvd (by omega) this) hb
theorem takeTwo {α : Type} (x y : α) (P : List α → Prop) (h0 : P []) (h1 : P [x]) (h2 : P [x, y]) : ∀ k, P (([x, y] : List α).take k)
  | 0 => h0
  | 1 => h1
  | k + 2 => by simpa using h2
theorem two {x y u w : Int} (hx : x.natAbs ≤ 1000) (hy : y.natAbs ≤ 1000) (hu : u.natAbs ≤ 1000) (hw : w.natAbs ≤ 1000) (hd : x * w - y * u ≠ 0) (hD : (x * w - y * u).natAbs ≤ 1000000) : Two x y u w := by
  have g := lfS_g [(x, y)] (u, w)
  have sp := (sub_lfoldS (spn_sub (lfoldS [(x, y), (u, w)]).1 (lfoldS [(x, y), (u, w)]).2.1 (lfoldS [(x, y), (u, w)]).2.2) [(x, y), (u, w)]).1 ⟨spn_l _ _ _, spn_r _ _ _⟩
  have s1 := sp (x, y) (by simp)
  have s2 := sp (u, w) (by simp)
  have dv := spn_det s1 s2
  have e1 := lfS_one x y
  rw [List.singleton_append] at g
  have e2 : smallV 1000000 (lfoldS [(x, y)]).2 ∧ (lfoldS [(x, y)]).1.natAbs ≤ 1000000 := by
    rw [e1]
    split
    · exact ⟨⟨by simp, by simp⟩, by simp only; omega⟩
    · exact ⟨⟨by simp only; omega, by simp only; omega⟩, by simp⟩
  have hv : ∀ v ∈ ([(x, y), (u, w)] : List (Int × Int)), smallV 1000000 v := by
    intro v hv
    simp only [List.mem_cons, List.not_mem_nil, or_false] at hv
    rcases hv with rfl | rfl <;> exact ⟨by simp only; omega, by simp only; omega⟩
  have gz : (lfoldS [(x, y), (u, w)]).1 ≠ 0 := fun e => by rw [e, Int.zero_mul, Int.zero_dvd] at dv; exact hd dv
  have kz : (lfoldS [(x, y), (u, w)]).2.2 ≠ 0 := fun e => by rw [e, Int.mul_zero, Int.zero_dvd] at dv; exact hd dv
  have d1 := dvd_bd (Int.dvd_trans (Int.dvd_mul_right _ _) dv) hd hD
  have d2 := dvd_bd (Int.dvd_trans (Int.dvd_mul_left _ _) dv) hd hD
  have gp : 0 < (lfoldS [(x, y), (u, w)]).1 := by omega
  have gr := g.2 gp
  refine ⟨gp, gr, kz, dv, hv, takeTwo _ _ (fun l => smallV 1000000 (lfoldS l).2 ∧ (lfoldS l).1.natAbs ≤ 1000000) ?_ e2 ?_⟩
  · exact ⟨⟨by decide, by decide⟩, by decide⟩
  · exact ⟨⟨by omega, d2⟩, d1⟩
theorem image_eq {a b c x y u w : Int} (ha : 1 ≤ a) (hb : 0 ≤ b ∧ b < a) (hc : 1 ≤ c) (t : Two x y u w) (hd : x * w - y * u = a * c ∨ x * w - y * u = -(a * c)) : lfin (lfoldS [(x, y), (u, w)]) = (a, b, c) ↔ (spn a b c x y ∧ spn a b c u w) := by
  have e := (sub_lfin (spn_sub a b c) (lfoldS [(x, y), (u, w)])).trans (sub_lfoldS (spn_sub a b c) [(x, y), (u, w)])
  simp only [List.mem_cons, List.not_mem_nil, or_false, forall_eq_or_imp, forall_eq] at e
  rw [← e]
  obtain ⟨t1, t2, t3, t4, _⟩ := t
  have f1 : (lfin (lfoldS [(x, y), (u, w)])).1 = (lfoldS [(x, y), (u, w)]).1 := rfl
  have f2 : 0 ≤ (lfin (lfoldS [(x, y), (u, w)])).2.1 ∧ (lfin (lfoldS [(x, y), (u, w)])).2.1 < (lfoldS [(x, y), (u, w)]).1 := ⟨Int.emod_nonneg _ (by omega), Int.emod_lt_of_pos _ t1⟩
  have f3 : 0 < (lfin (lfoldS [(x, y), (u, w)])).2.2 := by
    simp only [lfin]
    split <;> omega
  have f4 : (lfin (lfoldS [(x, y), (u, w)])).1 * (lfin (lfoldS [(x, y), (u, w)])).2.2 ∣ a * c := by
    have : (lfoldS [(x, y), (u, w)]).1 * (lfoldS [(x, y), (u, w)]).2.2 ∣ a * c := by
      rcases hd with h | h
      · rwa [h] at t4
      · rw [h] at t4; exact Int.dvd_neg.1 t4
    simp only [lfin]
    split
    · rw [Int.mul_neg]; exact Int.neg_dvd.2 this
    · exact this
  rw [← f1] at f2 t1
  generalize lfin (lfoldS [(x, y), (u, w)]) = r at *
  obtain ⟨A, B, C⟩ := r
  simp only at *
  constructor
  · intro h
    cases h
    exact ⟨spn_l _ _ _, spn_r _ _ _⟩
  · rintro ⟨⟨i3, j3, e3, g3⟩, ⟨i4, j4, e4, g4⟩⟩
    have j3z : j3 = 0 := by rcases Int.mul_eq_zero.1 g3.symm with h | h <;> omega
    subst j3z
    simp only [Int.zero_mul, Int.add_zero] at e3
    obtain ⟨n, hn⟩ := f4
    have hp : 0 < a * c := Int.mul_pos (by omega) (by omega)
    have h1 : a * c * (i3 * j4 * n - 1) = 0 := by subst e3 g4; grind
    have h2 : i3 * j4 * n = 1 := by rcases Int.mul_eq_zero.1 h1 with h | h <;> omega
    have i3p : 0 < i3 := by
      rcases Int.lt_trichotomy i3 0 with h | h | h
      · have := Int.mul_neg_of_neg_of_pos h (show 0 < a by omega); omega
      · subst h; simp at e3; omega
      · exact h
    have j4p : 0 < j4 := by
      rcases Int.lt_trichotomy j4 0 with h | h | h
      · have := Int.mul_neg_of_neg_of_pos h (show 0 < c by omega); omega
      · subst h; simp at g4; omega
      · exact h
    have q1 : i3 = 1 := by
      have := Int.le_of_dvd (by decide) (show i3 ∣ 1 from ⟨j4 * n, by rw [← h2, Int.mul_assoc]⟩)
      omega
    have q2 : j4 = 1 := by
      have := Int.le_of_dvd (by decide) (show j4 ∣ 1 from ⟨i3 * n, by rw [← h2]; ac_rfl⟩)
      omega
    subst q1 q2
    simp only [Int.one_mul] at e3 e4 g4
    subst e3 g4
    have : B % A = b % A := by rw [e4, Int.add_comm, Int.add_mul_emod_self_right]
    rw [Int.emod_eq_of_lt hb.1 hb.2, Int.emod_eq_of_lt f2.1 f2.2] at this
    rw [this]
/-! point matrices -/
theorem sq_le {x : Int} {n : Nat} (h : x * x ≤ n) : x.natAbs ≤ n := by
  have h1 : (x * x).natAbs = x.natAbs * x.natAbs := Int.natAbs_mul _ _
  have h0 : 0 ≤ x * x := by rcases Int.le_total 0 x with h | h; exact Int.mul_nonneg h h; exact Int.mul_nonneg_of_nonpos_of_nonpos h h
  rcases Nat.eq_zero_or_pos x.natAbs with h2 | h2
  · omega
  · have := Nat.le_mul_of_pos_right x.natAbs h2
    omega
theorem norm_one {f x y : Int} (hf : 0 ≤ f ∧ f ≤ 1) (h : normF f x y = 1) : x.natAbs ≤ 1 ∧ y.natAbs ≤ 1 := by
  unfold normF at h
  have hsq : ∀ z : Int, 0 ≤ z * z := fun z => by rcases Int.le_total 0 z with h | h; exact Int.mul_nonneg h h; exact Int.mul_nonneg_of_nonpos_of_nonpos h h
  rcases (by omega : f = 0 ∨ f = 1) with rfl | rfl
  · have := hsq x; have := hsq y
    rw [Int.zero_mul, Int.zero_mul] at h
    exact ⟨sq_le (by omega), sq_le (by omega)⟩
  · rw [Int.one_mul] at h
    have e1 := hsq (2 * x + y)
    have e2 := hsq (x + 2 * y)
    have e3 : (2 * x + y) * (2 * x + y) + 3 * (y * y) = 4 := by grind
    have e4 : (x + 2 * y) * (x + 2 * y) + 3 * (x * x) = 4 := by grind
    exact ⟨sq_le (by omega), sq_le (by omega)⟩
theorem one_cases {x : Int} (h : x.natAbs ≤ 1) : x = -1 ∨ x = 0 ∨ x = 1 := by omega
theorem pmL_mem {f : Int} (hf : 0 ≤ f ∧ f ≤ 1) (a b c d : Int) : (a, b, c, d) ∈ pmL f 81 ↔ pmOk f (a, b, c, d) = true := by
  constructor
  · intro h
    unfold pmL at h
    exact (List.mem_filter.1 h).2
  · intro h
    unfold pmL
    refine List.mem_filter.2 ⟨?_, h⟩
    simp only [pmOk, Bool.and_eq_true, decide_eq_true_eq] at h
    obtain ⟨h1, h2⟩ := norm_one hf h.1.1
    obtain ⟨h3, h4⟩ := norm_one hf h.1.2
    refine List.mem_map.2 ⟨((a + 1) * 27 + (b + 1) * 9 + (c + 1) * 3 + (d + 1)).toNat, List.mem_range.2 (by omega), ?_⟩
    simp only [mat81, Prod.mk.injEq]
    omega
theorem pm_facts {f a b c d : Int} (hf : 0 ≤ f ∧ f ≤ 1) (h : pmOk f (a, b, c, d) = true) : (a.natAbs ≤ 1 ∧ b.natAbs ≤ 1) ∧ (c.natAbs ≤ 1 ∧ d.natAbs ≤ 1) ∧ (a * d - b * c = 1 ∨ a * d - b * c = -1) := by
  have h' := h
  simp only [pmOk, Bool.and_eq_true, decide_eq_true_eq] at h
  obtain ⟨h1, h2⟩ := norm_one hf h.1.1
  obtain ⟨h3, h4⟩ := norm_one hf h.1.2
  refine ⟨⟨h1, h3⟩, ⟨h2, h4⟩, ?_⟩
  rcases (by omega : f = 0 ∨ f = 1) with rfl | rfl <;> rcases one_cases h1 with rfl | rfl | rfl <;> rcases one_cases h2 with rfl | rfl | rfl <;> rcases one_cases h3 with rfl | rfl | rfl <;> rcases one_cases h4 with rfl | rfl | rfl <;> first | decide | (exfalso; revert h'; decide)
theorem pm_mat {f a b c d : Int} (hf : 0 ≤ f ∧ f ≤ 1) (h : pmOk f (a, b, c, d) = true) : matOk a b c d = true := by
  obtain ⟨⟨h1, h2⟩, ⟨h3, h4⟩, h5⟩ := pm_facts hf h
  have e1 : okV a b = true := okV_spec.2 (by omega)
  have e2 : okV c d = true := okV_spec.2 (by omega)
  simp only [matOk, e1, e2, Bool.true_and, Bool.or_eq_true, decide_eq_true_eq]
  exact h5
end Go.Proofs.YtgkhakhkebjbpaaGreatEv
namespace Go.Proofs.YtgkhakhkebjbpaaGreatEv
open Go Go.Proofs
set_option maxRecDepth 10000
theorem s_idxM (l : List M4) (m : M4) (h : l.length ≤ 1048576) : Sp Tryz.prog 145 [.v (vms l), aM4 m] (vi (if m ∈ l then l.idxOf m else -1)) [] := by
  refine sp_of (m := no) mixed Tryz.func145 k145 ?_
  simp -dsimp [q, -Prod.forall, -Prod.exists]
  refine awp_it (true :: false :: false :: true :: false :: false :: false :: true :: true :: []) (fun i : Nat => [(8, vi i)]) (fun i => []) (fun i => i ≤ l.length ∧ ∀ x ∈ l.take i, x ≠ m) (fun i => l.length - i) 0 ?_
  intro s0 e
  simp -dsimp at e
  subst e
  refine ⟨?_, ?_⟩
  · simp
  rintro i ⟨hi, hi2⟩
  simp -dsimp [-Prod.forall, -Prod.exists]
  refine ⟨fun h1 => ⟨h1, fun x ha => ?_⟩, fun h1 => ?_⟩
  · obtain ⟨_, hal⟩ := List.getElem?_eq_some_iff.1 ha
    refine ⟨fun e1 e2 e3 e4 => ?_, fun hn => ⟨i + 1, by rw [w64 (by omega) (by omega)]; simp, ⟨by omega, fun x' hx => ?_⟩, by omega⟩⟩
    · have e : x = m := Prod.ext e1.symm (Prod.ext e2.symm (Prod.ext e3.symm e4.symm))
      rw [if_pos (e ▸ List.mem_of_getElem? ha), List.idxOf, (List.findIdx_eq h1).2 ⟨by rw [hal, e]; simp, fun j hj => by
        have := hi2 l[j] (List.mem_iff_getElem.2 ⟨j, by simp; omega, by simp⟩)
        simpa using this⟩]
    · rw [List.take_add_one, ha] at hx
      rcases List.mem_append.1 hx with hx | hx
      · exact hi2 _ hx
      · simp only [Option.toList_some, List.mem_singleton] at hx
        rw [hx]
        rintro rfl
        exact hn rfl rfl rfl rfl
  · rw [List.take_of_length_le h1] at hi2
    exact fun hm => hi2 m hm rfl
theorem s_contM (l : List M4) (m : M4) (h : l.length ≤ 1048576) : Sp Tryz.prog 111 [.v (vms l), aM4 m] (vb (decide (m ∈ l))) [] := by
  refine sp_of (m := no) mixed Tryz.func111 k111 ?_
  have w := s_idxM l m h
  simp -dsimp [q]
  refine call_of (w) rfl (by simp) ?_
  try simp -dsimp
  try (first | exact fp_one (by decide) | refine fp_and (by decide) ?_)
  by_cases hm : m ∈ l
  · rw [if_pos hm]
    simp [hm]
  · rw [if_neg hm]
    simp [hm]
def suit (f a b c p q' r s t u : Int) : Bool := pmOk f (p, q', r, s) && keepL a b c (p, q', r, s) && okV t u
theorem s_simage (a b c p q' r s : Int) (h : okL a b c = true) (hm : (p.natAbs ≤ 1 ∧ q'.natAbs ≤ 1) ∧ (r.natAbs ≤ 1 ∧ s.natAbs ≤ 1) ∧ (p * s - q' * r = 1 ∨ p * s - q' * r = -1)) : ∃ A B C, ((A, B, C) = (a, b, c) ↔ keepL a b c (p, q', r, s) = true) ∧ Sp Tryz.prog 102 [aM p q' r s, aL a b c] (aL A B C) [] := by
  obtain ⟨ha, hc, hb, hac⟩ := okL_spec.1 h
  obtain ⟨⟨m1, m2⟩, ⟨m3, m4⟩, hd⟩ := hm
  have h1 := mul_bd m1 (show a.natAbs ≤ 64 by omega)
  have h2 := mul_bd m3 (show a.natAbs ≤ 64 by omega)
  have h3 := mul_bd m1 (show b.natAbs ≤ 64 by omega)
  have h4 := mul_bd m2 (show c.natAbs ≤ 64 by omega)
  have h5 := mul_bd m3 (show b.natAbs ≤ 64 by omega)
  have h6 := mul_bd m4 (show c.natAbs ≤ 64 by omega)
  have hdet : p * a * (r * b + s * c) - r * a * (p * b + q' * c) = a * c ∨ p * a * (r * b + s * c) - r * a * (p * b + q' * c) = -(a * c) := by
    have e : p * a * (r * b + s * c) - r * a * (p * b + q' * c) = a * c * (p * s - q' * r) := by grind
    rw [e]
    rcases hd with e | e
    · left; rw [e, Int.mul_one]
    · right; rw [e, Int.mul_neg, Int.mul_one]
  have hp : 0 < a * c := Int.mul_pos (by omega) (by omega)
  have t := two (x := p * a) (y := r * a) (u := p * b + q' * c) (w := r * b + s * c) (by omega) (by omega) (by omega) (by omega) (by omega) (by omega)
  have w := s_hermite [(p * a, r * a), (p * b + q' * c, r * b + s * c)] (by simp) t.s t.h
  have e := image_eq (a := a) (b := b) (c := c) (by omega) hb (by omega) t hdet
  rw [← inL_spn (by omega), ← inL_spn (by omega), ← Bool.and_eq_true] at e
  generalize lfin (lfoldS [(p * a, r * a), (p * b + q' * c, r * b + s * c)]) = R at w e
  obtain ⟨A, B, C⟩ := R
  refine ⟨A, B, C, e, ?_⟩
  refine sp_of (m := no) mixed Tryz.func102 k102 ?_
  simp -dsimp [q]
  refine call_of ((s_sbasis a b c : Sp Tryz.prog 118 [aL a b c] (.v (.sl 2 [.ag [.int .i64 a, .int .i64 0], .ag [.int .i64 b, .int .i64 c]])) [])) rfl (by simp) ?_
  try simp -dsimp
  try (first | exact fp_one (by decide) | refine fp_and (by decide) ?_)
  refine call_of (s_sapply p q' r s a 0 ⟨⟨by omega, by omega⟩, by omega, by omega⟩ ⟨by omega, by omega⟩) rfl (by simp) ?_
  try simp -dsimp
  try (first | exact fp_one (by decide) | refine fp_and (by decide) ?_)
  refine call_of (s_sapply p q' r s b c ⟨⟨by omega, by omega⟩, by omega, by omega⟩ ⟨by omega, by omega⟩) rfl (by simp) ?_
  try simp -dsimp
  try (first | exact fp_one (by decide) | refine fp_and (by decide) ?_)
  refine call_of (w) rfl (by simp) ?_
  try simp -dsimp
  try (first | exact fp_one (by decide) | refine fp_and (by decide) ?_)
end Go.Proofs.YtgkhakhkebjbpaaGreatEv
namespace Go.Proofs.YtgkhakhkebjbpaaGreatEv
open Go Go.Proofs
set_option maxRecDepth 10000
abbrev vvs' (l : List (Int × Int)) : V := .sl 2 (vs l)
def mkV (k : Int) (n : Nat) : List (Int × Int) := (List.range n).map fun i : Nat => (k + 2 * i, k + 2 * i + 1)
/-! marks on patterns -/
abbrev zP' : A := .ag [vi 0, vi 0, vi 0, vi 0, .nil 0]
end Go.Proofs.YtgkhakhkebjbpaaGreatEv
namespace Go.Proofs.YtgkhakhkebjbpaaGreatEv
open Go Go.Proofs
set_option maxRecDepth 10000
abbrev G6 := M4 × Int × Int
def vg (g : G6) : V := .ag [.int .i64 g.1.1, .int .i64 g.1.2.1, .int .i64 g.1.2.2.1, .int .i64 g.1.2.2.2, .int .i64 g.2.1, .int .i64 g.2.2]
def gs (l : List G6) : List V := l.map vg
abbrev aG6 (g : G6) : A := aG g.1.1 g.1.2.1 g.1.2.2.1 g.1.2.2.2 g.2.1 g.2.2
def smallG (g : G6) : Prop := (g.1.1.natAbs ≤ 1000 ∧ g.1.2.1.natAbs ≤ 1000) ∧ (g.1.2.2.1.natAbs ≤ 1000 ∧ g.1.2.2.2.natAbs ≤ 1000) ∧ g.2.1.natAbs ≤ 1000 ∧ g.2.2.natAbs ≤ 1000
def mvV (a b c : Int) (g : G6) (v : Int × Int) : Int × Int := (redX a b c (g.1.1 * v.1 + g.1.2.1 * v.2 + g.2.1) (g.1.2.2.1 * v.1 + g.1.2.2.2 * v.2 + g.2.2), (g.1.2.2.1 * v.1 + g.1.2.2.2 * v.2 + g.2.2) % c)
theorem s_smove (a b c : Int) (g : G6) (x y : Int) (hg : smallG g) (ha : 1 ≤ a ∧ a ≤ 64) (hb : 0 ≤ b ∧ b < a) (hc : 1 ≤ c ∧ c ≤ 64) (hx : x.natAbs ≤ 1000 ∧ y.natAbs ≤ 1000) : Sp Tryz.prog 164 [aL a b c, aG6 g, aV x y] (aV (mvV a b c g (x, y)).1 (mvV a b c g (x, y)).2) [] := by
  refine sp_of (m := no) mixed Tryz.func164 k164 ?_
  obtain ⟨g1, g2, g3⟩ := hg
  have h1 := mul_bd g1.1 hx.1
  have h2 := mul_bd g1.2 hx.2
  have h3 := mul_bd g2.1 hx.1
  have h4 := mul_bd g2.2 hx.2
  simp -dsimp [q]
  refine call_of (s_sgapply _ _ _ _ _ _ x y ⟨g1, g2⟩ ⟨by omega, by omega⟩ ⟨by omega, by omega⟩) rfl (by simp) ?_
  try simp -dsimp
  try (first | exact fp_one (by decide) | refine fp_and (by decide) ?_)
  refine call_of (s_sreduce a b c _ _ ha hb hc (by omega) (by omega)) rfl (by simp) ?_
  try simp -dsimp
  try (first | exact fp_one (by decide) | refine fp_and (by decide) ?_)
  exact ⟨rfl, rfl⟩
def suitG (f a b c : Int) (g : G6) : Bool := suit f a b c g.1.1 g.1.2.1 g.1.2.2.1 g.1.2.2.2 g.2.1 g.2.2
theorem suit_small {f a b c : Int} (hf : 0 ≤ f ∧ f ≤ 1) {g : G6} (h : suitG f a b c g = true) : smallG g ∧ (g.1.1.natAbs ≤ 1 ∧ g.1.2.1.natAbs ≤ 1) ∧ (g.1.2.2.1.natAbs ≤ 1 ∧ g.1.2.2.2.natAbs ≤ 1) := by
  simp only [suitG, suit, Bool.and_eq_true] at h
  obtain ⟨h1, h2, _⟩ := pm_facts hf h.1.1
  have h3 := okV_spec.1 h.2
  exact ⟨⟨⟨by omega, by omega⟩, ⟨by omega, by omega⟩, by omega, by omega⟩, h1, h2⟩
def fixN (a b c : Int) (g : G6) (l : List (Int × Int)) : Nat := l.countP fun v => decide (mvV a b c g v = v)
theorem fixN_succ {a b c : Int} {g : G6} {l : List (Int × Int)} {i : Nat} {v : Int × Int} (h : l[i]? = some v) : fixN a b c g (l.take (i + 1)) = fixN a b c g (l.take i) + if mvV a b c g v = v then 1 else 0 := by
  unfold fixN
  rw [List.take_add_one, h, List.countP_append]
  simp [List.countP_cons]
end Go.Proofs.YtgkhakhkebjbpaaGreatEv
namespace Go.Proofs.YtgkhakhkebjbpaaGreatEv
open Go Go.Proofs
set_option maxRecDepth 10000
theorem mget_enc {α : Type} [DecidableEq α] (enc : α → V) (hi : ∀ x y, enc x = enc y → x = y) (S : List α) (x : α) : mget (enc x) (S.map fun y => (enc y, V.bool true)) = if x ∈ S then some (.bool true) else none := by
  induction S with
  | nil => rfl
  | cons y S ih =>
    simp only [List.map_cons, mget]
    by_cases h : enc y = enc x
    · rw [if_pos (by rw [cdec_true]; exact h), if_pos (by rw [hi _ _ h]; simp)]
    · rw [if_neg (by rw [cdec_true]; exact h), ih]
      have : x ≠ y := fun e => h (by rw [e])
      simp [this]
theorem mput_enc {α : Type} [DecidableEq α] (enc : α → V) (hi : ∀ x y, enc x = enc y → x = y) (S : List α) (x : α) : mput (enc x) (.bool true) (S.map fun y => (enc y, V.bool true)) = (if x ∈ S then S else S ++ [x]).map fun y => (enc y, V.bool true) := by
  induction S with
  | nil => rfl
  | cons y S ih =>
    simp only [List.map_cons, mput]
    by_cases h : enc y = enc x
    · rw [if_pos (by rw [cdec_true]; exact h), if_pos (by rw [hi _ _ h]; simp), List.map_cons, h]
    · rw [if_neg (by rw [cdec_true]; exact h), ih]
      have : x ≠ y := fun e => h (by rw [e])
      by_cases hx : x ∈ S <;> simp [this, hx]
def sE (S : List (Int × Int)) : List (V × V) := S.map fun y => (vv y, V.bool true)
theorem vv_inj (x y : Int × Int) (h : vv x = vv y) : x = y := by
  obtain ⟨a, b⟩ := x
  obtain ⟨c, d⟩ := y
  simp only [vv, V.ag.injEq, List.cons.injEq, V.int.injEq, true_and, and_true] at h
  rw [h.1, h.2]
@[simp] theorem sE_nil : sE [] = [] := rfl
@[simp] theorem sE_len (S : List (Int × Int)) : (sE S).length = S.length := by simp [sE]
@[simp] theorem sE_get (S : List (Int × Int)) (x y : Int) : lkA (.bool false) false (mget (.ag [.int .i64 x, .int .i64 y]) (sE S)) = .v (.bool (decide ((x, y) ∈ S))) := by
  have := mget_enc vv vv_inj S (x, y)
  rw [show V.ag [.int .i64 x, .int .i64 y] = vv (x, y) from rfl, sE, this]
  by_cases h : (x, y) ∈ S <;> simp [h, lkA]
@[simp] theorem sE_put (S : List (Int × Int)) (x y : Int) : mput (.ag [.int .i64 x, .int .i64 y]) (.bool true) (sE S) = sE (if (x, y) ∈ S then S else S ++ [(x, y)]) := by
  have := mput_enc vv vv_inj S (x, y)
  rw [show V.ag [.int .i64 x, .int .i64 y] = vv (x, y) from rfl, sE, this, sE]
  by_cases h : (x, y) ∈ S <;> simp [h]
@[simp] theorem sE_keyed (S : List (Int × Int)) (x y : Int) : keyed 2 [1, 1] (.ag [.int .i64 x, .int .i64 y]) (sE S) ↔ True := by
  simp only [keyed, iff_true]
  refine ⟨rfl, rfl, fun p hp => ?_⟩
  obtain ⟨v, _, rfl⟩ := List.mem_map.1 hp
  exact ⟨rfl, rfl⟩
def bs (l : List Bool) : List V := l.map .bool
@[simp] theorem bs_len (l : List Bool) : (bs l).length = l.length := by simp [bs]
@[simp] theorem bs_get (l : List Bool) (n : Nat) (K : V → Prop) : fA ((bs l)[n]?) K = ∀ a, l[n]? = some a → K (.bool a) := by unfold bs; exact fA_map
@[simp] theorem bs_set (l : List Bool) (n : Nat) (b : Bool) : (bs l).set n (.bool b) = bs (l.set n b) := by simp [bs, List.map_set]
@[simp] theorem bs_rep (n : Nat) (b : Bool) : List.replicate n (V.bool b) = bs (List.replicate n b) := by simp [bs]
@[simp] theorem bs_inj (a b : List Bool) : bs a = bs b ↔ a = b := by
  constructor
  · exact fun h => (List.map_inj_right (fun x y e => by cases e; rfl)).1 h
  · rintro rfl; rfl
theorem pigeon {α : Type} [BEq α] [LawfulBEq α] : ∀ (S C : List α), S.Nodup → (∀ x ∈ S, x ∈ C) → S.length ≤ C.length
  | [], _, _, _ => Nat.zero_le _
  | x :: S, C, hn, hs => by
    rw [List.nodup_cons] at hn
    have h1 := pigeon S (C.erase x) hn.2 (fun y hy => (List.mem_erase_of_ne (fun e => hn.1 (by rw [← e]; exact hy))).2 (hs y (List.mem_cons_of_mem _ hy)))
    have h2 := hs x List.mem_cons_self
    rw [List.length_erase_of_mem h2] at h1
    have := List.length_pos_of_mem h2
    simp only [List.length_cons]
    omega
/-! the cells of a lattice, and marks on them -/
abbrev cl (a c : Int) : List (Int × Int) := cellsL c.toNat a.toNat
def inC (a c : Int) (v : Int × Int) : Prop := (0 ≤ v.1 ∧ v.1 < a) ∧ 0 ≤ v.2 ∧ v.2 < c
theorem inC_mv {a b c : Int} (ha : 1 ≤ a) (hc : 1 ≤ c) (g : G6) (v : Int × Int) : inC a c (mvV a b c g v) := red_lt ha hc
def ix (c : Int) (v : Int × Int) : Nat := (v.1 * c + v.2).toNat
theorem cl_ix {a c : Int} (ha : 1 ≤ a) (hc : 1 ≤ c) {v : Int × Int} (hv : inC a c v) : (cl a c)[ix c v]? = some v := by
  obtain ⟨x, y⟩ := v
  obtain ⟨h1, h2⟩ := hv
  simp only at h1 h2
  have h3 := (num_lt' h1 h2).2
  obtain ⟨n, rfl⟩ : ∃ n : Nat, c = n := ⟨c.toNat, by omega⟩
  obtain ⟨k, rfl⟩ : ∃ k : Nat, a = k := ⟨a.toNat, by omega⟩
  obtain ⟨i, rfl⟩ : ∃ i : Nat, x = i := ⟨x.toNat, by omega⟩
  obtain ⟨j, rfl⟩ : ∃ j : Nat, y = j := ⟨y.toNat, by omega⟩
  have hk : ix (n : Int) ((i : Int), (j : Int)) = i * n + j := by
    simp only [ix]
    omega
  have hlt : i * n + j < k * n := by
    have : ((i * n + j : Nat) : Int) < ((k * n : Nat) : Int) := by simpa using h3.2
    omega
  unfold cl
  rw [hk, Int.toNat_natCast, Int.toNat_natCast, cellsL_get n (by omega) k _ hlt]
  have h4 : (i * n + j) / n = i := by
    rw [Nat.div_eq_iff (by omega)]
    omega
  have h5 : (i * n + j) % n = j := by
    have := Nat.div_add_mod (i * n + j) n
    rw [h4, Nat.mul_comm] at this
    omega
  rw [h4, h5]
theorem cl_at {a c : Int} (ha : 1 ≤ a) (hc : 1 ≤ c) {i : Nat} {v : Int × Int} (h : (cl a c)[i]? = some v) : inC a c v ∧ ix c v = i := by
  obtain ⟨x, y⟩ := v
  obtain ⟨h1, _, h3⟩ := cell_of ha hc h
  exact ⟨h1, by simp only [ix]; omega⟩
theorem num_ix {a b c : Int} {v : Int × Int} (hv : inC a c v) : num a b c v.1 v.2 = v.1 * c + v.2 ∧ (0 ≤ v.1 * c + v.2 ∧ v.1 * c + v.2 < a * c) := by
  obtain ⟨h1, h2⟩ := hv
  refine ⟨?_, (num_lt' h1 h2).2⟩
  simp only [num, redX]
  rw [Int.ediv_eq_zero_of_lt h2.1 h2.2, Int.emod_eq_of_lt h2.1 h2.2, Int.zero_mul, Int.sub_zero, Int.emod_eq_of_lt h1.1 h1.2]
def marks (a c : Int) (S : List (Int × Int)) : List Bool := (cl a c).map fun v => decide (v ∈ S)
theorem marks_get {a c : Int} (ha : 1 ≤ a) (hc : 1 ≤ c) {v : Int × Int} (hv : inC a c v) (S : List (Int × Int)) : (marks a c S)[ix c v]? = some (decide (v ∈ S)) := by
  simp only [marks, List.getElem?_map, cl_ix ha hc hv, Option.map_some]
theorem marks_len {a c : Int} (S : List (Int × Int)) : (marks a c S).length = (cl a c).length := by simp [marks]
theorem marks_nil {a c : Int} : marks a c [] = List.replicate (cl a c).length false := by
  unfold marks
  rw [List.eq_replicate_iff]
  refine ⟨by simp, fun b hb => ?_⟩
  obtain ⟨v, _, rfl⟩ := List.mem_map.1 hb
  simp
theorem marks_set {a c : Int} (ha : 1 ≤ a) (hc : 1 ≤ c) {v : Int × Int} (hv : inC a c v) (S : List (Int × Int)) : (marks a c S).set (ix c v) true = marks a c (S ++ [v]) := by
  apply List.ext_getElem?
  intro j
  have hg := cl_ix ha hc hv
  rw [List.getElem?_set, marks_len]
  by_cases hj : ix c v = j
  · subst hj
    rw [if_pos rfl, if_pos (List.getElem?_eq_some_iff.1 hg).1]
    simp [marks, hg]
  · rw [if_neg hj]
    simp only [marks, List.getElem?_map]
    cases hw : (cl a c)[j]? with
    | none => rfl
    | some w =>
      have : w ≠ v := fun e => hj (by rw [← e]; exact (cl_at ha hc hw).2)
      simp [this]
/-! cycles -/
def wk (a b c : Int) (g : G6) : Nat → List (Int × Int) → Int × Int → List (Int × Int)
  | 0, S, _ => S
  | n + 1, S, u => if u ∈ S then S else wk a b c g n (S ++ [u]) (mvV a b c g u)
def wkF (a b c : Int) (g : G6) (S : List (Int × Int)) (u : Int × Int) : List (Int × Int) := wk a b c g ((cl a c).length + 1 - S.length) S u
def okSet (a c : Int) (S : List (Int × Int)) : Prop := S.Nodup ∧ ∀ v ∈ S, inC a c v
theorem okSet_len {a c : Int} (ha : 1 ≤ a) (hc : 1 ≤ c) {S : List (Int × Int)} (h : okSet a c S) : S.length ≤ (cl a c).length :=
  pigeon _ _ h.1 fun v hv => List.mem_of_getElem? (cl_ix ha hc (h.2 v hv))
theorem okSet_snoc {a c : Int} {S : List (Int × Int)} (h : okSet a c S) {u : Int × Int} (hu : inC a c u) (hn : u ∉ S) : okSet a c (S ++ [u]) := by
  refine ⟨?_, fun v hv => ?_⟩
  · rw [List.nodup_append]
    refine ⟨h.1, by simp, fun x hx y hy => ?_⟩
    simp only [List.mem_singleton] at hy
    subst hy
    exact fun e => hn (e ▸ hx)
  · rcases List.mem_append.1 hv with hv | hv
    · exact h.2 v hv
    · simp only [List.mem_singleton] at hv
      exact hv ▸ hu
theorem wkF_hit {a b c : Int} (ha : 1 ≤ a) (hc : 1 ≤ c) {g : G6} {S : List (Int × Int)} (h : okSet a c S) {u : Int × Int} (hu : u ∈ S) : wkF a b c g S u = S := by
  have := okSet_len ha hc h
  unfold wkF
  rw [show (cl a c).length + 1 - S.length = ((cl a c).length - S.length) + 1 by omega]
  simp [wk, hu]
theorem wkF_miss {a b c : Int} (ha : 1 ≤ a) (hc : 1 ≤ c) {g : G6} {S : List (Int × Int)} (h : okSet a c S) {u : Int × Int} (hi : inC a c u) (hu : u ∉ S) : wkF a b c g S u = wkF a b c g (S ++ [u]) (mvV a b c g u) ∧ S.length < (cl a c).length := by
  have := okSet_len ha hc (okSet_snoc h hi hu)
  simp only [List.length_append, List.length_singleton] at this
  refine ⟨?_, by omega⟩
  unfold wkF
  rw [show (cl a c).length + 1 - S.length = ((cl a c).length + 1 - (S ++ [u]).length) + 1 by simp; omega]
  simp [wk, hu]
def cy1 (a b c : Int) (g : G6) (st : List (Int × Int) × Nat) (v : Int × Int) : List (Int × Int) × Nat := if v ∈ st.1 then st else (wkF a b c g st.1 v, st.2 + 1)
def cyS (a b c : Int) (g : G6) (l : List (Int × Int)) : List (Int × Int) × Nat := l.foldl (cy1 a b c g) ([], 0)
theorem cyS_succ {a b c : Int} {g : G6} {l : List (Int × Int)} {i : Nat} {v : Int × Int} (h : l[i]? = some v) : cyS a b c g (l.take (i + 1)) = cy1 a b c g (cyS a b c g (l.take i)) v := by
  unfold cyS
  rw [List.take_add_one, h, List.foldl_append]
  rfl
theorem wk_ok {a b c : Int} (ha : 1 ≤ a) (hc : 1 ≤ c) {g : G6} : ∀ (n : Nat) (S : List (Int × Int)) (u : Int × Int), okSet a c S → inC a c u → okSet a c (wk a b c g n S u)
  | 0, S, u, h, _ => h
  | n + 1, S, u, h, hu => by
    simp only [wk]
    split
    · exact h
    · rename_i hn
      exact wk_ok ha hc n _ _ (okSet_snoc h hu hn) (inC_mv ha hc g u)
theorem cyS_ok {a b c : Int} (ha : 1 ≤ a) (hc : 1 ≤ c) {g : G6} : ∀ i, okSet a c (cyS a b c g ((cl a c).take i)).1 ∧ (cyS a b c g ((cl a c).take i)).2 ≤ i
  | 0 => by simp [cyS, okSet]
  | i + 1 => by
    obtain ⟨h1, h2⟩ := cyS_ok ha hc (g := g) i
    cases hv : (cl a c)[i]? with
    | none =>
      rw [List.take_of_length_le (by have := List.getElem?_eq_none_iff.1 hv; omega)]
      rw [List.take_of_length_le (by have := List.getElem?_eq_none_iff.1 hv; omega)] at h1 h2
      exact ⟨h1, by omega⟩
    | some v =>
      rw [cyS_succ hv]
      unfold cy1
      split
      · exact ⟨h1, by omega⟩
      · exact ⟨wk_ok ha hc _ _ _ h1 (cl_at ha hc hv).1, by simp only; omega⟩
end Go.Proofs.YtgkhakhkebjbpaaGreatEv
