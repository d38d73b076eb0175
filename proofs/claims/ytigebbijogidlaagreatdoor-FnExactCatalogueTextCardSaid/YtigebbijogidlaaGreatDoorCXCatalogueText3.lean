/- What the code computes, and what it means: part 3 of the proof of FnExactCatalogueText. No condition of its own. -/
import Derived.Test.YtigebbijogidlaaGreatDoorProg
import Derived.WalkKit
import Derived.Ground.NamesProg
import Derived.Shelf.Lay
import Derived.Shelf.Strings.AsciiSet
import Derived.Lib.SlTrimSet
import Derived.Test.YtigebbijogidlaaGreatDoorCXCatalogueText2
namespace Go.Proofs.YtigebbijogidlaaGreatDoorFv
open Go Go.Proofs
def q (d : Nat) (o : O) : AO := ⟨some d, none, o⟩
def c2 : AF := ⟨0,1,[],(.ops [q 0 (.call 1 [])])⟩
theorem k2 : cF Tryz.prog Tryz.f2 = some c2 := by kernel_rfl
def c3 : AF := ⟨2,104,[(4,none)],(.seq (.ops [q 4 (.mv (.c (.v (.bool false))))]) (.seq (.seq (.ops [q 16 (.mv (.t 1)),q 17 (.len true (.t 16)),q 18 (.bin .gtr (.t 17) (.c (.v (.int .i64 1048576))))]) (.cond (.t 18) (.seq (.ops [q 4 (.mv (.c (.v (.bool true))))]) .ret) .skip)) (.seq (.ops [q 5 (.mv (.c (.v (.int .i64 1048576))))]) (.seq (.ops [q 19 (.mv (.t 0)),q 20 (.mv (.t 5)),q 21 (.call 11 [(.t 19),(.t 20)]),q 5 (.mv (.t 21))]) (.seq (.seq (.ops [q 22 (.mv (.t 5)),q 23 (.bin .lss (.t 22) (.c (.v (.int .i64 0))))]) (.cond (.t 23) (.seq (.ops [q 4 (.mv (.c (.v (.bool true))))]) .ret) .skip)) (.seq (.ops [q 25 (.mv (.t 0)),q 26 (.call 13 [(.t 25)]),q 27 (.mv (.t 1)),q 28 (.call 12 [(.t 26),(.t 27)]),q 24 (.mv (.t 28)),q 29 (.ext (.t 24) 0),q 30 (.ext (.t 24) 1),q 6 (.al [(.v (.int .i64 0)),(.v (.int .i64 0)),(.v (.int .i64 0)),(.v (.int .i64 0)),(.nil 0)]),⟨none,none,.st (.t 6) (.t 29) 5⟩,q 7 (.mv (.t 30))]) (.seq (.ops [q 31 (.mv (.t 0)),q 32 (.call 13 [(.t 31)]),q 8 (.mv (.t 32))]) (.seq (.ops [q 34 (.mv (.t 8)),q 35 (.mv (.t 1)),q 36 (.call 14 [(.t 34),(.t 35)]),q 33 (.mv (.t 36)),q 37 (.ext (.t 33) 0),q 38 (.ext (.t 33) 1),q 9 (.al [(.v (.int .i64 0)),(.v (.int .i64 0)),(.v (.int .i64 0)),(.v (.int .i64 0)),(.nil 0)]),⟨none,none,.st (.t 9) (.t 37) 5⟩,q 10 (.mv (.t 38))]) (.seq (.seq (.ops [q 39 (.ld (.t 9) 5),q 40 (.ld (.t 6) 5),q 41 (.call 15 [(.t 39),(.t 40)]),q 42 (.un .not (.t 41)),q 43 (.mv (.t 42)),⟨(some 44),(some (43,false)),.mv (.t 10)⟩,⟨(some 45),(some (43,false)),.mv (.t 7)⟩,⟨(some 46),(some (43,false)),.bin .neq (.t 44) (.t 45)⟩,q 47 (.pick (.t 43) (.c (.v (.bool true))) (.t 46))]) (.cond (.t 47) (.seq (.ops [q 4 (.mv (.c (.v (.bool false))))]) .ret) .skip)) (.seq (.seq (.ops [q 48 (.mv (.t 8)),q 49 (.mv (.t 0)),q 50 (.call 13 [(.t 49)]),q 51 (.call 16 [(.t 48),(.t 50)]),q 52 (.un .not (.t 51))]) (.cond (.t 52) (.seq (.ops [q 4 (.mv (.c (.v (.bool false))))]) .ret) .skip)) (.seq (.ops [q 11 (.mv (.c (.v (.int .i64 1))))]) (.seq (.ops [q 53 (.mv (.t 8)),q 54 (.mv (.t 11)),q 55 (.call 17 [(.t 53),(.t 54)]),q 11 (.mv (.t 55))]) (.seq (.seq (.ops [q 56 (.mv (.t 11)),q 57 (.bin .lss (.t 56) (.c (.v (.int .i64 0)))),q 58 (.mv (.t 57)),⟨(some 59),(some (58,false)),.ld (.t 9) 5⟩,⟨(some 60),(some (58,false)),.ld (.t 6) 5⟩,⟨(some 61),(some (58,false)),.call 15 [(.t 59),(.t 60)]⟩,⟨(some 62),(some (58,false)),.un .not (.t 61)⟩,q 63 (.pick (.t 58) (.c (.v (.bool true))) (.t 62)),q 64 (.mv (.t 63)),⟨(some 65),(some (64,false)),.mv (.t 10)⟩,⟨(some 66),(some (64,false)),.mv (.t 7)⟩,⟨(some 67),(some (64,false)),.bin .neq (.t 65) (.t 66)⟩,q 68 (.pick (.t 64) (.c (.v (.bool true))) (.t 67))]) (.cond (.t 68) (.seq (.ops [q 4 (.mv (.c (.v (.bool false))))]) .ret) .skip)) (.seq (.ops [q 12 (.mv (.c (.v (.int .i64 1))))]) (.seq (.ops [q 69 (.ld (.t 9) 5),q 70 (.mv (.t 12)),q 71 (.call 18 [(.t 69),(.t 70)]),q 12 (.mv (.t 71))]) (.seq (.ops [q 13 (.mv (.c (.v (.int .i64 1))))]) (.seq (.ops [q 72 (.ld (.t 9) 5),q 73 (.mv (.t 13)),q 74 (.call 19 [(.t 72),(.t 73)]),q 13 (.mv (.t 74))]) (.seq (.seq (.ops [q 75 (.mv (.t 13)),q 76 (.bin .lss (.t 75) (.c (.v (.int .i64 0))))]) (.cond (.t 76) (.seq (.ops [q 4 (.mv (.c (.v (.bool false))))]) .ret) .skip)) (.seq (.seq (.ops [q 77 (.mv (.t 13)),q 78 (.mv (.t 12)),q 79 (.bin .neq (.t 77) (.t 78))]) (.cond (.t 79) (.seq (.ops [q 4 (.mv (.c (.v (.bool false))))]) .ret) .skip)) (.seq (.ops [q 81 (.mv (.t 0)),q 82 (.call 13 [(.t 81)]),q 83 (.mv (.t 1)),q 84 (.call 14 [(.t 82),(.t 83)]),q 80 (.mv (.t 84)),q 85 (.ext (.t 80) 0),q 86 (.ext (.t 80) 1),q 14 (.al [(.v (.int .i64 0)),(.v (.int .i64 0)),(.v (.int .i64 0)),(.v (.int .i64 0)),(.nil 0)]),⟨none,none,.st (.t 14) (.t 85) 5⟩,q 15 (.mv (.t 86))]) (.seq (.seq (.ops [q 87 (.ld (.t 14) 5),q 88 (.ld (.t 6) 5),q 89 (.call 15 [(.t 87),(.t 88)]),q 90 (.un .not (.t 89)),q 91 (.mv (.t 90)),⟨(some 92),(some (91,false)),.mv (.t 15)⟩,⟨(some 93),(some (91,false)),.mv (.t 7)⟩,⟨(some 94),(some (91,false)),.bin .neq (.t 92) (.t 93)⟩,q 95 (.pick (.t 91) (.c (.v (.bool true))) (.t 94))]) (.cond (.t 95) (.seq (.ops [q 4 (.mv (.c (.v (.bool false))))]) .ret) .skip)) (.seq (.ops [q 13 (.mv (.c (.v (.int .i64 1))))]) (.seq (.ops [q 96 (.ld (.t 9) 5),q 97 (.mv (.t 13)),q 98 (.call 19 [(.t 96),(.t 97)]),q 13 (.mv (.t 98))]) (.seq (.seq (.ops [q 99 (.mv (.t 13)),q 100 (.bin .lss (.t 99) (.c (.v (.int .i64 0))))]) (.cond (.t 100) (.seq (.ops [q 4 (.mv (.c (.v (.bool false))))]) .ret) .skip)) (.seq (.seq (.ops [q 101 (.mv (.t 13)),q 102 (.mv (.t 12)),q 103 (.bin .neq (.t 101) (.t 102))]) (.cond (.t 103) (.seq (.ops [q 4 (.mv (.c (.v (.bool false))))]) .ret) .skip)) (.seq (.ops [q 4 (.mv (.c (.v (.bool true))))]) .ret))))))))))))))))))))))))))⟩
theorem k3 : cF Tryz.prog Tryz.f3 = some c3 := by kernel_rfl
def c4 : AF := ⟨2,104,[(4,none)],(.seq (.ops [q 4 (.mv (.c (.v (.bool false))))]) (.seq (.seq (.ops [q 16 (.mv (.t 1)),q 17 (.len true (.t 16)),q 18 (.bin .gtr (.t 17) (.c (.v (.int .i64 1048576))))]) (.cond (.t 18) (.seq (.ops [q 4 (.mv (.c (.v (.bool true))))]) .ret) .skip)) (.seq (.ops [q 5 (.mv (.c (.v (.int .i64 1048576))))]) (.seq (.ops [q 19 (.mv (.t 0)),q 20 (.mv (.t 5)),q 21 (.call 11 [(.t 19),(.t 20)]),q 5 (.mv (.t 21))]) (.seq (.seq (.ops [q 22 (.mv (.t 5)),q 23 (.bin .lss (.t 22) (.c (.v (.int .i64 0))))]) (.cond (.t 23) (.seq (.ops [q 4 (.mv (.c (.v (.bool true))))]) .ret) .skip)) (.seq (.ops [q 25 (.mv (.t 0)),q 26 (.call 13 [(.t 25)]),q 27 (.mv (.t 1)),q 28 (.call 20 [(.t 26),(.t 27)]),q 24 (.mv (.t 28)),q 29 (.ext (.t 24) 0),q 30 (.ext (.t 24) 1),q 6 (.mv (.t 29)),q 7 (.mv (.t 30))]) (.seq (.ops [q 31 (.mv (.t 0)),q 32 (.call 13 [(.t 31)]),q 8 (.mv (.t 32))]) (.seq (.ops [q 34 (.mv (.t 8)),q 35 (.mv (.t 1)),q 36 (.call 21 [(.t 34),(.t 35)]),q 33 (.mv (.t 36)),q 37 (.ext (.t 33) 0),q 38 (.ext (.t 33) 1),q 9 (.mv (.t 37)),q 10 (.mv (.t 38))]) (.seq (.seq (.ops [q 39 (.mv (.t 9)),q 40 (.mv (.t 6)),q 41 (.call 16 [(.t 39),(.t 40)]),q 42 (.un .not (.t 41)),q 43 (.mv (.t 42)),⟨(some 44),(some (43,false)),.mv (.t 10)⟩,⟨(some 45),(some (43,false)),.mv (.t 7)⟩,⟨(some 46),(some (43,false)),.bin .neq (.t 44) (.t 45)⟩,q 47 (.pick (.t 43) (.c (.v (.bool true))) (.t 46))]) (.cond (.t 47) (.seq (.ops [q 4 (.mv (.c (.v (.bool false))))]) .ret) .skip)) (.seq (.seq (.ops [q 48 (.mv (.t 8)),q 49 (.mv (.t 0)),q 50 (.call 13 [(.t 49)]),q 51 (.call 16 [(.t 48),(.t 50)]),q 52 (.un .not (.t 51))]) (.cond (.t 52) (.seq (.ops [q 4 (.mv (.c (.v (.bool false))))]) .ret) .skip)) (.seq (.ops [q 11 (.mv (.c (.v (.int .i64 1))))]) (.seq (.ops [q 53 (.mv (.t 8)),q 54 (.mv (.t 11)),q 55 (.call 17 [(.t 53),(.t 54)]),q 11 (.mv (.t 55))]) (.seq (.seq (.ops [q 56 (.mv (.t 11)),q 57 (.bin .lss (.t 56) (.c (.v (.int .i64 0)))),q 58 (.mv (.t 57)),⟨(some 59),(some (58,false)),.mv (.t 9)⟩,⟨(some 60),(some (58,false)),.mv (.t 6)⟩,⟨(some 61),(some (58,false)),.call 16 [(.t 59),(.t 60)]⟩,⟨(some 62),(some (58,false)),.un .not (.t 61)⟩,q 63 (.pick (.t 58) (.c (.v (.bool true))) (.t 62)),q 64 (.mv (.t 63)),⟨(some 65),(some (64,false)),.mv (.t 10)⟩,⟨(some 66),(some (64,false)),.mv (.t 7)⟩,⟨(some 67),(some (64,false)),.bin .neq (.t 65) (.t 66)⟩,q 68 (.pick (.t 64) (.c (.v (.bool true))) (.t 67))]) (.cond (.t 68) (.seq (.ops [q 4 (.mv (.c (.v (.bool false))))]) .ret) .skip)) (.seq (.ops [q 12 (.mv (.c (.v (.int .i64 1))))]) (.seq (.ops [q 69 (.mv (.t 9)),q 70 (.mv (.t 12)),q 71 (.call 17 [(.t 69),(.t 70)]),q 12 (.mv (.t 71))]) (.seq (.ops [q 13 (.mv (.c (.v (.int .i64 1))))]) (.seq (.ops [q 72 (.mv (.t 9)),q 73 (.mv (.t 13)),q 74 (.call 22 [(.t 72),(.t 73)]),q 13 (.mv (.t 74))]) (.seq (.seq (.ops [q 75 (.mv (.t 13)),q 76 (.bin .lss (.t 75) (.c (.v (.int .i64 0))))]) (.cond (.t 76) (.seq (.ops [q 4 (.mv (.c (.v (.bool false))))]) .ret) .skip)) (.seq (.seq (.ops [q 77 (.mv (.t 13)),q 78 (.mv (.t 12)),q 79 (.bin .neq (.t 77) (.t 78))]) (.cond (.t 79) (.seq (.ops [q 4 (.mv (.c (.v (.bool false))))]) .ret) .skip)) (.seq (.ops [q 81 (.mv (.t 0)),q 82 (.call 13 [(.t 81)]),q 83 (.mv (.t 1)),q 84 (.call 21 [(.t 82),(.t 83)]),q 80 (.mv (.t 84)),q 85 (.ext (.t 80) 0),q 86 (.ext (.t 80) 1),q 14 (.mv (.t 85)),q 15 (.mv (.t 86))]) (.seq (.seq (.ops [q 87 (.mv (.t 14)),q 88 (.mv (.t 6)),q 89 (.call 16 [(.t 87),(.t 88)]),q 90 (.un .not (.t 89)),q 91 (.mv (.t 90)),⟨(some 92),(some (91,false)),.mv (.t 15)⟩,⟨(some 93),(some (91,false)),.mv (.t 7)⟩,⟨(some 94),(some (91,false)),.bin .neq (.t 92) (.t 93)⟩,q 95 (.pick (.t 91) (.c (.v (.bool true))) (.t 94))]) (.cond (.t 95) (.seq (.ops [q 4 (.mv (.c (.v (.bool false))))]) .ret) .skip)) (.seq (.ops [q 13 (.mv (.c (.v (.int .i64 1))))]) (.seq (.ops [q 96 (.mv (.t 9)),q 97 (.mv (.t 13)),q 98 (.call 22 [(.t 96),(.t 97)]),q 13 (.mv (.t 98))]) (.seq (.seq (.ops [q 99 (.mv (.t 13)),q 100 (.bin .lss (.t 99) (.c (.v (.int .i64 0))))]) (.cond (.t 100) (.seq (.ops [q 4 (.mv (.c (.v (.bool false))))]) .ret) .skip)) (.seq (.seq (.ops [q 101 (.mv (.t 13)),q 102 (.mv (.t 12)),q 103 (.bin .neq (.t 101) (.t 102))]) (.cond (.t 103) (.seq (.ops [q 4 (.mv (.c (.v (.bool false))))]) .ret) .skip)) (.seq (.ops [q 4 (.mv (.c (.v (.bool true))))]) .ret))))))))))))))))))))))))))⟩
theorem k4 : cF Tryz.prog Tryz.f4 = some c4 := by kernel_rfl
def c5 : AF := ⟨3,127,[(6,none)],(.seq (.ops [q 5 (.box (.t 2)),q 6 (.mv (.c (.v (.bool false))))]) (.seq (.seq (.ops [q 19 (.mv (.t 1)),q 20 (.len true (.t 19)),q 21 (.bin .gtr (.t 20) (.c (.v (.int .i64 1048576))))]) (.cond (.t 21) (.seq (.ops [q 6 (.mv (.c (.v (.bool true))))]) .ret) .skip)) (.seq (.ops [q 7 (.mv (.c (.v (.int .i64 1048576))))]) (.seq (.ops [q 22 (.mv (.t 0)),q 23 (.mv (.t 7)),q 24 (.call 11 [(.t 22),(.t 23)]),q 7 (.mv (.t 24))]) (.seq (.seq (.ops [q 25 (.mv (.t 7)),q 26 (.bin .lss (.t 25) (.c (.v (.int .i64 0))))]) (.cond (.t 26) (.seq (.ops [q 6 (.mv (.c (.v (.bool true))))]) .ret) .skip)) (.seq (.ops [q 27 (.ld (.t 5) 5),q 28 (.mv (.t 7)),q 29 (.call 23 [(.t 27),(.t 28)]),q 7 (.mv (.t 29))]) (.seq (.seq (.ops [q 30 (.mv (.t 7)),q 31 (.bin .lss (.t 30) (.c (.v (.int .i64 0))))]) (.cond (.t 31) (.seq (.ops [q 6 (.mv (.c (.v (.bool true))))]) .ret) .skip)) (.seq (.reg [0,1,0,0,11,31,63,127,127,255,1023] [q 33 (.mv (.t 0)),q 34 (.call 13 [(.t 33)]),q 35 (.mv (.t 1)),q 36 (.ld (.t 5) 5),q 37 (.call 25 [(.t 36)]),q 38 (.call 24 [(.t 34),(.t 35),(.t 37)]),q 32 (.mv (.t 38)),q 39 (.ext (.t 32) 0),q 40 (.ext (.t 32) 1),q 8 (.mv (.t 39)),q 9 (.mv (.t 40))]) (.seq (.ops [q 41 (.mv (.t 0)),q 42 (.call 13 [(.t 41)]),q 10 (.mv (.t 42))]) (.seq (.ops [q 43 (.ld (.t 5) 5),q 44 (.call 25 [(.t 43)]),q 11 (.al [(.v (.int .i64 0)),(.v (.int .i64 0)),(.v (.int .i64 0)),(.v (.int .i64 0)),(.nil 0)]),⟨none,none,.st (.t 11) (.t 44) 5⟩]) (.seq (.ops [q 46 (.mv (.t 10)),q 47 (.mv (.t 1)),q 48 (.ld (.t 11) 5),q 49 (.call 26 [(.t 46),(.t 47),(.t 48)]),q 45 (.mv (.t 49)),q 50 (.ext (.t 45) 0),q 51 (.ext (.t 45) 1),q 12 (.mv (.t 50)),q 13 (.mv (.t 51))]) (.seq (.seq (.ops [q 52 (.mv (.t 12)),q 53 (.mv (.t 8)),q 54 (.call 16 [(.t 52),(.t 53)]),q 55 (.un .not (.t 54)),q 56 (.mv (.t 55)),⟨(some 57),(some (56,false)),.mv (.t 13)⟩,⟨(some 58),(some (56,false)),.mv (.t 9)⟩,⟨(some 59),(some (56,false)),.bin .neq (.t 57) (.t 58)⟩,q 60 (.pick (.t 56) (.c (.v (.bool true))) (.t 59))]) (.cond (.t 60) (.seq (.ops [q 6 (.mv (.c (.v (.bool false))))]) .ret) .skip)) (.seq (.seq (.ops [q 61 (.mv (.t 10)),q 62 (.mv (.t 0)),q 63 (.call 13 [(.t 62)]),q 64 (.call 16 [(.t 61),(.t 63)]),q 65 (.un .not (.t 64))]) (.cond (.t 65) (.seq (.ops [q 6 (.mv (.c (.v (.bool false))))]) .ret) .skip)) (.seq (.seq (.reg [0,0,2,7,15] [q 66 (.ld (.t 11) 5),q 67 (.ld (.t 5) 5),q 68 (.call 25 [(.t 67)]),q 69 (.call 15 [(.t 66),(.t 68)]),q 70 (.un .not (.t 69))]) (.cond (.t 70) (.seq (.ops [q 6 (.mv (.c (.v (.bool false))))]) .ret) .skip)) (.seq (.ops [q 14 (.mv (.c (.v (.int .i64 1))))]) (.seq (.ops [q 71 (.mv (.t 10)),q 72 (.mv (.t 14)),q 73 (.call 17 [(.t 71),(.t 72)]),q 14 (.mv (.t 73))]) (.seq (.ops [q 74 (.ld (.t 11) 5),q 75 (.mv (.t 14)),q 76 (.call 18 [(.t 74),(.t 75)]),q 14 (.mv (.t 76))]) (.seq (.seq (.ops [q 77 (.mv (.t 14)),q 78 (.bin .lss (.t 77) (.c (.v (.int .i64 0)))),q 79 (.mv (.t 78)),⟨(some 80),(some (79,false)),.mv (.t 12)⟩,⟨(some 81),(some (79,false)),.mv (.t 8)⟩,⟨(some 82),(some (79,false)),.call 16 [(.t 80),(.t 81)]⟩,⟨(some 83),(some (79,false)),.un .not (.t 82)⟩,q 84 (.pick (.t 79) (.c (.v (.bool true))) (.t 83)),q 85 (.mv (.t 84)),⟨(some 86),(some (85,false)),.mv (.t 13)⟩,⟨(some 87),(some (85,false)),.mv (.t 9)⟩,⟨(some 88),(some (85,false)),.bin .neq (.t 86) (.t 87)⟩,q 89 (.pick (.t 85) (.c (.v (.bool true))) (.t 88))]) (.cond (.t 89) (.seq (.ops [q 6 (.mv (.c (.v (.bool false))))]) .ret) .skip)) (.seq (.ops [q 15 (.mv (.c (.v (.int .i64 1))))]) (.seq (.ops [q 90 (.mv (.t 12)),q 91 (.mv (.t 15)),q 92 (.call 17 [(.t 90),(.t 91)]),q 15 (.mv (.t 92))]) (.seq (.ops [q 16 (.mv (.c (.v (.int .i64 1))))]) (.seq (.ops [q 93 (.mv (.t 12)),q 94 (.mv (.t 16)),q 95 (.call 22 [(.t 93),(.t 94)]),q 16 (.mv (.t 95))]) (.seq (.seq (.ops [q 96 (.mv (.t 16)),q 97 (.bin .lss (.t 96) (.c (.v (.int .i64 0))))]) (.cond (.t 97) (.seq (.ops [q 6 (.mv (.c (.v (.bool false))))]) .ret) .skip)) (.seq (.seq (.ops [q 98 (.mv (.t 16)),q 99 (.mv (.t 15)),q 100 (.bin .neq (.t 98) (.t 99))]) (.cond (.t 100) (.seq (.ops [q 6 (.mv (.c (.v (.bool false))))]) .ret) .skip)) (.seq (.reg [0,1,0,0,11,31,63,127,127,255,1023] [q 102 (.mv (.t 0)),q 103 (.call 13 [(.t 102)]),q 104 (.mv (.t 1)),q 105 (.ld (.t 5) 5),q 106 (.call 25 [(.t 105)]),q 107 (.call 26 [(.t 103),(.t 104),(.t 106)]),q 101 (.mv (.t 107)),q 108 (.ext (.t 101) 0),q 109 (.ext (.t 101) 1),q 17 (.mv (.t 108)),q 18 (.mv (.t 109))]) (.seq (.seq (.ops [q 110 (.mv (.t 17)),q 111 (.mv (.t 8)),q 112 (.call 16 [(.t 110),(.t 111)]),q 113 (.un .not (.t 112)),q 114 (.mv (.t 113)),⟨(some 115),(some (114,false)),.mv (.t 18)⟩,⟨(some 116),(some (114,false)),.mv (.t 9)⟩,⟨(some 117),(some (114,false)),.bin .neq (.t 115) (.t 116)⟩,q 118 (.pick (.t 114) (.c (.v (.bool true))) (.t 117))]) (.cond (.t 118) (.seq (.ops [q 6 (.mv (.c (.v (.bool false))))]) .ret) .skip)) (.seq (.ops [q 16 (.mv (.c (.v (.int .i64 1))))]) (.seq (.ops [q 119 (.mv (.t 12)),q 120 (.mv (.t 16)),q 121 (.call 22 [(.t 119),(.t 120)]),q 16 (.mv (.t 121))]) (.seq (.seq (.ops [q 122 (.mv (.t 16)),q 123 (.bin .lss (.t 122) (.c (.v (.int .i64 0))))]) (.cond (.t 123) (.seq (.ops [q 6 (.mv (.c (.v (.bool false))))]) .ret) .skip)) (.seq (.seq (.ops [q 124 (.mv (.t 16)),q 125 (.mv (.t 15)),q 126 (.bin .neq (.t 124) (.t 125))]) (.cond (.t 126) (.seq (.ops [q 6 (.mv (.c (.v (.bool false))))]) .ret) .skip)) (.seq (.ops [q 6 (.mv (.c (.v (.bool true))))]) .ret)))))))))))))))))))))))))))))))⟩
theorem k5 : cF Tryz.prog Tryz.f5 = some c5 := by kernel_rfl
def c6 : AF := ⟨1,40,[(2,none)],(.seq (.ops [q 2 (.mv (.c (.v (.bool false))))]) (.seq (.ops [q 3 (.mv (.c (.v (.int .i64 1048576))))]) (.seq (.ops [q 9 (.mv (.t 0)),q 10 (.mv (.t 3)),q 11 (.call 11 [(.t 9),(.t 10)]),q 3 (.mv (.t 11))]) (.seq (.seq (.ops [q 12 (.mv (.t 3)),q 13 (.bin .lss (.t 12) (.c (.v (.int .i64 0))))]) (.cond (.t 13) (.seq (.ops [q 2 (.mv (.c (.v (.bool true))))]) .ret) .skip)) (.seq (.ops [q 15 (.mv (.t 0)),q 16 (.call 13 [(.t 15)]),q 17 (.call 27 [(.t 16)]),q 14 (.mv (.t 17)),q 18 (.ext (.t 14) 0),q 19 (.ext (.t 14) 1),q 4 (.mv (.t 18)),q 5 (.mv (.t 19))]) (.seq (.ops [q 20 (.mv (.t 0)),q 21 (.call 13 [(.t 20)]),q 6 (.mv (.t 21))]) (.seq (.ops [q 23 (.mv (.t 6)),q 24 (.call 28 [(.t 23)]),q 22 (.mv (.t 24)),q 25 (.ext (.t 22) 0),q 26 (.ext (.t 22) 1),q 7 (.mv (.t 25)),q 8 (.mv (.t 26))]) (.seq (.seq (.ops [q 27 (.mv (.t 7)),q 28 (.mv (.t 4)),q 29 (.bin .neq (.t 27) (.t 28)),q 30 (.mv (.t 29)),⟨(some 31),(some (30,false)),.mv (.t 8)⟩,⟨(some 32),(some (30,false)),.mv (.t 5)⟩,⟨(some 33),(some (30,false)),.bin .neq (.t 31) (.t 32)⟩,q 34 (.pick (.t 30) (.c (.v (.bool true))) (.t 33))]) (.cond (.t 34) (.seq (.ops [q 2 (.mv (.c (.v (.bool false))))]) .ret) .skip)) (.seq (.seq (.ops [q 35 (.mv (.t 6)),q 36 (.mv (.t 0)),q 37 (.call 13 [(.t 36)]),q 38 (.call 16 [(.t 35),(.t 37)]),q 39 (.un .not (.t 38))]) (.cond (.t 39) (.seq (.ops [q 2 (.mv (.c (.v (.bool false))))]) .ret) .skip)) (.seq (.ops [q 2 (.mv (.c (.v (.bool true))))]) .ret))))))))))⟩
theorem k6 : cF Tryz.prog Tryz.f6 = some c6 := by kernel_rfl
def c11 : AF := ⟨2,27,[(4,none)],(.seq (.ops [q 4 (.mv (.c (.v (.int .i64 0))))]) (.seq (.ops [q 6 (.mv (.t 1)),q 7 (.mv (.t 0)),q 8 (.len false (.t 7)),q 9 (.bin .sub (.t 6) (.t 8)),q 1 (.mv (.t 9))]) (.seq (.seq (.ops [q 10 (.mv (.t 1)),q 11 (.bin .lss (.t 10) (.c (.v (.int .i64 0))))]) (.cond (.t 11) (.seq (.ops [q 4 (.mv (.c (.v (.int .i64 (-1)))))]) .ret) .skip)) (.seq (.seq (.ops [q 5 (.mv (.c (.v (.int .i64 0))))]) (.block 0 (.loop (.seq (.seq (.ops [q 12 (.mv (.t 5)),q 13 (.mv (.t 0)),q 14 (.len false (.t 13)),q 15 (.bin .lss (.t 12) (.t 14))]) (.cond (.t 15) .skip (.exit 0))) (.seq (.block 1 (.seq (.ops [q 18 (.mv (.t 0)),q 19 (.mv (.t 5)),q 20 (.ia (.t 18) (.t 19) 6),q 21 (.ld (.t 20) 6),q 22 (.mv (.t 1)),q 23 (.call 54 [(.t 21),(.t 22)]),q 1 (.mv (.t 23))]) (.seq (.ops [q 24 (.mv (.t 1)),q 25 (.bin .lss (.t 24) (.c (.v (.int .i64 0))))]) (.cond (.t 25) (.seq (.ops [q 4 (.mv (.c (.v (.int .i64 (-1)))))]) .ret) .skip)))) (.ops [q 16 (.mv (.t 5)),q 17 (.bin .add (.t 16) (.c (.v (.int .i64 1)))),q 5 (.mv (.t 17))])))))) (.seq (.ops [q 26 (.mv (.t 1)),q 4 (.mv (.t 26))]) .ret)))))⟩
theorem k11 : cF Tryz.prog Tryz.f11 = some c11 := by kernel_rfl
def c13 : AF := ⟨1,23,[(2,none)],(.seq (.ops [q 2 (.mv (.c (.nil 6)))]) (.seq (.ops [q 5 (.mv (.t 0)),q 6 (.len false (.t 5)),q 7 (.mk 6 70 72 (.ag [(.str (.mk #[])),(.int .i64 0),(.int .i64 0),(.int .i64 0),(.int .i64 0),(.sl 0 [])]) (.t 6) (.t 6)),q 3 (.mv (.t 7))]) (.seq (.seq (.ops [q 4 (.mv (.c (.v (.int .i64 0))))]) (.block 0 (.loop (.seq (.seq (.ops [q 8 (.mv (.t 4)),q 9 (.mv (.t 0)),q 10 (.len false (.t 9)),q 11 (.bin .lss (.t 8) (.t 10))]) (.cond (.t 11) .skip (.exit 0))) (.seq (.block 1 (.ops [q 14 (.mv (.t 3)),q 15 (.mv (.t 4)),q 16 (.mv (.t 0)),q 17 (.mv (.t 4)),q 18 (.ia (.t 16) (.t 17) 6),q 19 (.ld (.t 18) 6),q 20 (.call 57 [(.t 19)]),q 21 (.ia (.t 14) (.t 15) 6),⟨none,none,.st (.t 21) (.t 20) 6⟩])) (.ops [q 12 (.mv (.t 4)),q 13 (.bin .add (.t 12) (.c (.v (.int .i64 1)))),q 4 (.mv (.t 13))])))))) (.seq (.ops [q 22 (.mv (.t 3)),q 2 (.mv (.t 22))]) .ret))))⟩
theorem k13 : cF Tryz.prog Tryz.f13 = some c13 := by kernel_rfl
def c15 : AF := ⟨2,22,[(4,none)],(.seq (.ops [q 2 (.box (.t 0)),q 3 (.box (.t 1)),q 4 (.mv (.c (.v (.bool false))))]) (.seq (.seq (.ops [q 5 (.fa (.t 2) 0),q 6 (.ld (.t 5) 0),q 7 (.fa (.t 3) 0),q 8 (.ld (.t 7) 0),q 9 (.bin .neq (.t 6) (.t 8))]) (.cond (.t 9) (.seq (.ops [q 4 (.mv (.c (.v (.bool false))))]) .ret) .skip)) (.seq (.seq (.ops [q 10 (.fa (.t 2) 1),q 11 (.ld (.t 10) 3),q 12 (.fa (.t 3) 1),q 13 (.ld (.t 12) 3),q 14 (.call 60 [(.t 11),(.t 13)]),q 15 (.un .not (.t 14))]) (.cond (.t 15) (.seq (.ops [q 4 (.mv (.c (.v (.bool false))))]) .ret) .skip)) (.seq (.seq (.ops [q 16 (.fa (.t 2) 4),q 17 (.ld (.t 16) 0),q 18 (.fa (.t 3) 4),q 19 (.ld (.t 18) 0),q 20 (.call 61 [(.t 17),(.t 19)]),q 21 (.un .not (.t 20))]) (.cond (.t 21) (.seq (.ops [q 4 (.mv (.c (.v (.bool false))))]) .ret) .skip)) (.seq (.ops [q 4 (.mv (.c (.v (.bool true))))]) .ret)))))⟩
theorem k15 : cF Tryz.prog Tryz.f15 = some c15 := by kernel_rfl
def c16 : AF := ⟨2,27,[(4,none)],(.seq (.ops [q 4 (.mv (.c (.v (.bool false))))]) (.seq (.seq (.ops [q 6 (.mv (.t 0)),q 7 (.len false (.t 6)),q 8 (.mv (.t 1)),q 9 (.len false (.t 8)),q 10 (.bin .neq (.t 7) (.t 9))]) (.cond (.t 10) (.seq (.ops [q 4 (.mv (.c (.v (.bool false))))]) .ret) .skip)) (.seq (.seq (.ops [q 5 (.mv (.c (.v (.int .i64 0))))]) (.block 0 (.loop (.seq (.seq (.ops [q 11 (.mv (.t 5)),q 12 (.mv (.t 0)),q 13 (.len false (.t 12)),q 14 (.bin .lss (.t 11) (.t 13))]) (.cond (.t 14) .skip (.exit 0))) (.seq (.block 1 (.seq (.reg [0,0,3,7,0,0,48,112,255,511] [q 17 (.mv (.t 0)),q 18 (.mv (.t 5)),q 19 (.ia (.t 17) (.t 18) 6),q 20 (.ld (.t 19) 6),q 21 (.mv (.t 1)),q 22 (.mv (.t 5)),q 23 (.ia (.t 21) (.t 22) 6),q 24 (.ld (.t 23) 6),q 25 (.call 62 [(.t 20),(.t 24)]),q 26 (.un .not (.t 25))]) (.cond (.t 26) (.seq (.ops [q 4 (.mv (.c (.v (.bool false))))]) .ret) .skip))) (.ops [q 15 (.mv (.t 5)),q 16 (.bin .add (.t 15) (.c (.v (.int .i64 1)))),q 5 (.mv (.t 16))])))))) (.seq (.ops [q 4 (.mv (.c (.v (.bool true))))]) .ret))))⟩
theorem k16 : cF Tryz.prog Tryz.f16 = some c16 := by kernel_rfl
def c18 : AF := ⟨2,10,[(4,none)],(.seq (.ops [q 2 (.box (.t 0)),q 4 (.mv (.c (.v (.int .i64 0))))]) (.seq (.ops [q 5 (.fa (.t 2) 4),q 6 (.ld (.t 5) 0),q 7 (.mv (.t 1)),q 8 (.call 64 [(.t 6),(.t 7)]),q 1 (.mv (.t 8))]) (.seq (.ops [q 9 (.mv (.t 1)),q 4 (.mv (.t 9))]) .ret)))⟩
theorem k18 : cF Tryz.prog Tryz.f18 = some c18 := by kernel_rfl
def c19 : AF := ⟨2,12,[(4,none)],(.seq (.ops [q 2 (.box (.t 0)),q 4 (.mv (.c (.v (.int .i64 0))))]) (.seq (.ops [q 5 (.fa (.t 2) 4),q 6 (.ld (.t 5) 0),q 7 (.mv (.t 1)),q 8 (.call 65 [(.t 6),(.t 7)]),q 1 (.mv (.t 8))]) (.seq (.seq (.ops [q 9 (.mv (.t 1)),q 10 (.bin .lss (.t 9) (.c (.v (.int .i64 0))))]) (.cond (.t 10) (.seq (.ops [q 4 (.mv (.c (.v (.int .i64 (-1)))))]) .ret) .skip)) (.seq (.ops [q 11 (.mv (.t 1)),q 4 (.mv (.t 11))]) .ret))))⟩
theorem k19 : cF Tryz.prog Tryz.f19 = some c19 := by kernel_rfl
def c23 : AF := ⟨2,12,[(4,none)],(.seq (.ops [q 2 (.box (.t 0)),q 4 (.mv (.c (.v (.int .i64 0))))]) (.seq (.ops [q 5 (.fa (.t 2) 4),q 6 (.ld (.t 5) 0),q 7 (.mv (.t 1)),q 8 (.call 69 [(.t 6),(.t 7)]),q 1 (.mv (.t 8))]) (.seq (.seq (.ops [q 9 (.mv (.t 1)),q 10 (.bin .lss (.t 9) (.c (.v (.int .i64 0))))]) (.cond (.t 10) (.seq (.ops [q 4 (.mv (.c (.v (.int .i64 (-1)))))]) .ret) .skip)) (.seq (.ops [q 11 (.mv (.t 1)),q 4 (.mv (.t 11))]) .ret))))⟩
theorem k23 : cF Tryz.prog Tryz.f23 = some c23 := by kernel_rfl
def c25 : AF := ⟨1,16,[(2,(some 5))],(.seq (.ops [q 1 (.box (.t 0)),q 2 (.al [(.v (.int .i64 0)),(.v (.int .i64 0)),(.v (.int .i64 0)),(.v (.int .i64 0)),(.nil 0)])]) (.seq (.ops [q 3 (.al [(.v (.int .i64 0)),(.v (.int .i64 0)),(.v (.int .i64 0)),(.v (.int .i64 0)),(.nil 0)])]) (.seq (.ops [q 4 (.fa (.t 1) 0),q 5 (.ld (.t 4) 0),q 6 (.fa (.t 3) 0),⟨none,none,.st (.t 6) (.t 5) 0⟩]) (.seq (.ops [q 7 (.fa (.t 1) 1),q 8 (.ld (.t 7) 3),q 9 (.call 76 [(.t 8)]),q 10 (.fa (.t 3) 1),⟨none,none,.st (.t 10) (.t 9) 3⟩]) (.seq (.ops [q 11 (.fa (.t 1) 4),q 12 (.ld (.t 11) 0),q 13 (.call 77 [(.t 12)]),q 14 (.fa (.t 3) 4),⟨none,none,.st (.t 14) (.t 13) 0⟩]) (.seq (.ops [q 15 (.ld (.t 3) 5),⟨none,none,.st (.t 2) (.t 15) 5⟩]) .ret))))))⟩
theorem k25 : cF Tryz.prog Tryz.f25 = some c25 := by kernel_rfl
def c27 : AF := ⟨1,32,[(2,none),(3,none)],(.seq (.ops [q 2 (.mv (.c (.v (.str (.mk #[]))))),q 3 (.mv (.c (.v (.int .i64 0))))]) (.seq (.seq (.ops [q 6 (.mv (.t 0)),q 7 (.call 45 [(.t 6)]),q 8 (.un .not (.t 7))]) (.cond (.t 8) (.seq (.ops [q 2 (.mv (.c (.v (.str (.mk #[]))))),q 3 (.mv (.c (.v (.int .i64 1))))]) .ret) .skip)) (.seq (.ops [q 4 (.mv (.c (.v (.str (.mk #[])))))]) (.seq (.seq (.ops [q 5 (.mv (.c (.v (.int .i64 0))))]) (.block 0 (.loop (.seq (.seq (.ops [q 9 (.mv (.t 5)),q 10 (.mv (.t 0)),q 11 (.len false (.t 10)),q 12 (.bin .lss (.t 9) (.t 11))]) (.cond (.t 12) .skip (.exit 0))) (.seq (.block 1 (.reg [0,0,0,6,14,30,63,127,0,0,768,1792,3840,7936,16383,32767,65535] [q 15 (.mv (.t 4)),q 16 (.mv (.t 0)),q 17 (.mv (.t 5)),q 18 (.ia (.t 16) (.t 17) 6),q 19 (.fa (.t 18) 0),q 20 (.ld (.t 19) 0),q 21 (.bin .add (.t 15) (.t 20)),q 22 (.bin .add (.t 21) (.c (.v (.str (.mk #[32]))))),q 23 (.mv (.t 0)),q 24 (.mv (.t 5)),q 25 (.ia (.t 23) (.t 24) 6),q 26 (.fa (.t 25) 1),q 27 (.ld (.t 26) 5),q 28 (.call 83 [(.t 27)]),q 29 (.bin .add (.t 22) (.t 28)),q 30 (.bin .add (.t 29) (.c (.v (.str (.mk #[10]))))),q 4 (.mv (.t 30))])) (.ops [q 13 (.mv (.t 5)),q 14 (.bin .add (.t 13) (.c (.v (.int .i64 1)))),q 5 (.mv (.t 14))])))))) (.seq (.ops [q 31 (.mv (.t 4)),q 2 (.mv (.t 31)),q 3 (.mv (.c (.v (.int .i64 0))))]) .ret)))))⟩
theorem k27 : cF Tryz.prog Tryz.f27 = some c27 := by kernel_rfl
def c28 : AF := ⟨1,9,[(2,none),(3,none)],(.seq (.ops [q 2 (.mv (.c (.v (.str (.mk #[]))))),q 3 (.mv (.c (.v (.int .i64 0))))]) (.seq (.seq (.ops [q 4 (.mv (.t 0)),q 5 (.call 44 [(.t 4)]),q 6 (.un .not (.t 5))]) (.cond (.t 6) (.seq (.ops [q 2 (.mv (.c (.v (.str (.mk #[]))))),q 3 (.mv (.c (.v (.int .i64 1))))]) .ret) .skip)) (.seq (.ops [q 7 (.mv (.t 0)),q 8 (.call 84 [(.t 7)]),q 2 (.mv (.t 8)),q 3 (.mv (.c (.v (.int .i64 0))))]) .ret)))⟩
theorem k28 : cF Tryz.prog Tryz.f28 = some c28 := by kernel_rfl
def c44 : AF := ⟨1,58,[(2,none)],(.seq (.ops [q 2 (.mv (.c (.v (.bool false))))]) (.seq (.seq (.ops [q 5 (.mv (.t 0)),q 6 (.len false (.t 5)),q 7 (.mv (.c (.v (.int .i64 0))))]) (.block 0 (.loop (.seq (.ops [q 8 (.bin .lss (.t 7) (.t 6))]) (.seq (.cond (.t 8) .skip (.exit 0)) (.seq (.block 1 (.seq (.ops [q 9 (.mv (.t 7)),q 10 (.ia (.t 5) (.t 7) 6),q 11 (.ld (.t 10) 6),q 4 (.al [(.v (.str (.mk #[]))),(.v (.int .i64 0)),(.v (.int .i64 0)),(.v (.int .i64 0)),(.v (.int .i64 0)),(.nil 0)]),q 3 (.mv (.t 9)),⟨none,none,.st (.t 4) (.t 11) 6⟩]) (.seq (.seq (.reg [0,1,3,7,15,31,31,127,31,287,1023,2047,4095,8191,16383,32767,65535,131071,262143,524287,1048575,2097151,4194303,1048575,9437183,33554431,67108863,134217727] [q 12 (.fa (.t 4) 0),q 13 (.ld (.t 12) 0),q 14 (.call 79 [(.t 13)]),q 15 (.un .not (.t 14)),q 16 (.mv (.t 15)),⟨(some 17),(some (16,false)),.mv (.t 0)⟩,⟨(some 18),(some (16,false)),.mv (.t 3)⟩,⟨(some 19),(some (16,false)),.sub 6 (.t 17) none (some (.t 18))⟩,⟨(some 20),(some (16,false)),.fa (.t 4) 0⟩,⟨(some 21),(some (16,false)),.ld (.t 20) 0⟩,⟨(some 22),(some (16,false)),.call 58 [(.t 19),(.t 21)]⟩,⟨(some 23),(some (16,false)),.bin .geq (.t 22) (.c (.v (.int .i64 0)))⟩,q 24 (.pick (.t 16) (.c (.v (.bool true))) (.t 23)),q 25 (.mv (.t 24)),⟨(some 26),(some (25,false)),.fa (.t 4) 1⟩,⟨(some 27),(some (25,false)),.ld (.t 26) 5⟩,⟨(some 28),(some (25,false)),.call 78 [(.t 27)]⟩,⟨(some 29),(some (25,false)),.un .not (.t 28)⟩,q 30 (.pick (.t 25) (.c (.v (.bool true))) (.t 29)),q 31 (.mv (.t 30)),⟨(some 32),(some (31,false)),.fa (.t 4) 1⟩,⟨(some 33),(some (31,false)),.ld (.t 32) 5⟩,⟨(some 34),(some (31,false)),.call 80 [(.t 33)]⟩,⟨(some 35),(some (31,false)),.fa (.t 4) 1⟩,⟨(some 36),(some (31,false)),.ld (.t 35) 5⟩,⟨(some 37),(some (31,false)),.call 104 [(.t 34),(.t 36)]⟩,⟨(some 38),(some (31,false)),.un .not (.t 37)⟩,q 39 (.pick (.t 31) (.c (.v (.bool true))) (.t 38))]) (.cond (.t 39) (.seq (.ops [q 2 (.mv (.c (.v (.bool false))))]) .ret) .skip)) (.seq (.reg [0,1,3,7,7,23,63,127,255,7,519,2047,4095,8191] [q 40 (.mv (.t 3)),q 41 (.bin .gtr (.t 40) (.c (.v (.int .i64 0)))),q 42 (.mv (.t 41)),⟨(some 43),(some (42,true)),.mv (.t 0)⟩,⟨(some 44),(some (42,true)),.mv (.t 3)⟩,⟨(some 45),(some (42,true)),.bin .sub (.t 44) (.c (.v (.int .i64 1)))⟩,⟨(some 46),(some (42,true)),.ia (.t 43) (.t 45) 6⟩,⟨(some 47),(some (42,true)),.fa (.t 46) 1⟩,⟨(some 48),(some (42,true)),.ld (.t 47) 5⟩,⟨(some 49),(some (42,true)),.fa (.t 4) 1⟩,⟨(some 50),(some (42,true)),.ld (.t 49) 5⟩,⟨(some 51),(some (42,true)),.call 105 [(.t 48),(.t 50)]⟩,⟨(some 52),(some (42,true)),.bin .geq (.t 51) (.c (.v (.int .i64 0)))⟩,q 53 (.pick (.t 42) (.t 52) (.c (.v (.bool false))))]) (.cond (.t 53) (.seq (.ops [q 2 (.mv (.c (.v (.bool false))))]) .ret) .skip))))) (.ops [q 54 (.bin .add (.t 7) (.c (.v (.int .i64 1)))),q 7 (.mv (.t 54))]))))))) (.seq (.ops [q 55 (.mv (.t 0)),q 56 (.len false (.t 55)),q 57 (.bin .leq (.t 56) (.c (.v (.int .i64 30)))),q 2 (.mv (.t 57))]) .ret)))⟩
theorem k44 : cF Tryz.prog Tryz.f44 = some c44 := by kernel_rfl
def c45 : AF := ⟨1,60,[(2,none)],(.seq (.ops [q 2 (.mv (.c (.v (.bool false))))]) (.seq (.seq (.ops [q 3 (.mv (.c (.v (.int .i64 0))))]) (.block 0 (.loop (.seq (.seq (.ops [q 5 (.mv (.t 3)),q 6 (.mv (.t 0)),q 7 (.len false (.t 6)),q 8 (.bin .lss (.t 5) (.t 7))]) (.cond (.t 8) .skip (.exit 0))) (.seq (.block 1 (.seq (.ops [q 11 (.mv (.t 0)),q 12 (.mv (.t 3)),q 13 (.ia (.t 11) (.t 12) 6),q 14 (.ld (.t 13) 6),q 4 (.al [(.v (.str (.mk #[]))),(.v (.int .i64 0)),(.v (.int .i64 0)),(.v (.int .i64 0)),(.v (.int .i64 0)),(.nil 0)]),⟨none,none,.st (.t 4) (.t 14) 6⟩]) (.seq (.seq (.reg [0,1,3,7,15,31,31,95,255,31,1023,2047,4095,8191,16383,32767,65535,131071,262143,524287,1048575,2097151,4194303,524287,8912895,33554431,67108863,134217727] [q 15 (.fa (.t 4) 0),q 16 (.ld (.t 15) 0),q 17 (.call 71 [(.t 16)]),q 18 (.un .not (.t 17)),q 19 (.mv (.t 18)),⟨(some 20),(some (19,false)),.mv (.t 0)⟩,⟨(some 21),(some (19,false)),.fa (.t 4) 0⟩,⟨(some 22),(some (19,false)),.ld (.t 21) 0⟩,⟨(some 23),(some (19,false)),.call 55 [(.t 20),(.t 22)]⟩,⟨(some 24),(some (19,false)),.mv (.t 3)⟩,⟨(some 25),(some (19,false)),.bin .neq (.t 23) (.t 24)⟩,q 26 (.pick (.t 19) (.c (.v (.bool true))) (.t 25)),q 27 (.mv (.t 26)),⟨(some 28),(some (27,false)),.fa (.t 4) 1⟩,⟨(some 29),(some (27,false)),.ld (.t 28) 5⟩,⟨(some 30),(some (27,false)),.call 70 [(.t 29)]⟩,⟨(some 31),(some (27,false)),.un .not (.t 30)⟩,q 32 (.pick (.t 27) (.c (.v (.bool true))) (.t 31)),q 33 (.mv (.t 32)),⟨(some 34),(some (33,false)),.fa (.t 4) 1⟩,⟨(some 35),(some (33,false)),.ld (.t 34) 5⟩,⟨(some 36),(some (33,false)),.call 73 [(.t 35)]⟩,⟨(some 37),(some (33,false)),.call 72 [(.t 36)]⟩,⟨(some 38),(some (33,false)),.fa (.t 4) 1⟩,⟨(some 39),(some (33,false)),.ld (.t 38) 5⟩,⟨(some 40),(some (33,false)),.call 75 [(.t 37),(.t 39)]⟩,⟨(some 41),(some (33,false)),.un .not (.t 40)⟩,q 42 (.pick (.t 33) (.c (.v (.bool true))) (.t 41))]) (.cond (.t 42) (.seq (.ops [q 2 (.mv (.c (.v (.bool false))))]) .ret) .skip)) (.seq (.reg [0,1,3,7,7,23,63,127,255,7,519,2047,4095,8191] [q 43 (.mv (.t 3)),q 44 (.bin .gtr (.t 43) (.c (.v (.int .i64 0)))),q 45 (.mv (.t 44)),⟨(some 46),(some (45,true)),.mv (.t 0)⟩,⟨(some 47),(some (45,true)),.mv (.t 3)⟩,⟨(some 48),(some (45,true)),.bin .sub (.t 47) (.c (.v (.int .i64 1)))⟩,⟨(some 49),(some (45,true)),.ia (.t 46) (.t 48) 6⟩,⟨(some 50),(some (45,true)),.fa (.t 49) 1⟩,⟨(some 51),(some (45,true)),.ld (.t 50) 5⟩,⟨(some 52),(some (45,true)),.fa (.t 4) 1⟩,⟨(some 53),(some (45,true)),.ld (.t 52) 5⟩,⟨(some 54),(some (45,true)),.call 106 [(.t 51),(.t 53)]⟩,⟨(some 55),(some (45,true)),.un .not (.t 54)⟩,q 56 (.pick (.t 45) (.t 55) (.c (.v (.bool false))))]) (.cond (.t 56) (.seq (.ops [q 2 (.mv (.c (.v (.bool false))))]) .ret) .skip))))) (.ops [q 9 (.mv (.t 3)),q 10 (.bin .add (.t 9) (.c (.v (.int .i64 1)))),q 3 (.mv (.t 10))])))))) (.seq (.ops [q 57 (.mv (.t 0)),q 58 (.len false (.t 57)),q 59 (.bin .leq (.t 58) (.c (.v (.int .i64 30)))),q 2 (.mv (.t 59))]) .ret)))⟩
theorem k45 : cF Tryz.prog Tryz.f45 = some c45 := by kernel_rfl
def c54 : AF := ⟨2,19,[(4,none)],(.seq (.ops [q 2 (.box (.t 0)),q 4 (.mv (.c (.v (.int .i64 0))))]) (.seq (.ops [q 5 (.mv (.t 1)),q 6 (.fa (.t 2) 0),q 7 (.ld (.t 6) 0),q 8 (.len true (.t 7)),q 9 (.bin .sub (.t 5) (.t 8)),q 1 (.mv (.t 9))]) (.seq (.seq (.ops [q 10 (.mv (.t 1)),q 11 (.bin .lss (.t 10) (.c (.v (.int .i64 0))))]) (.cond (.t 11) (.seq (.ops [q 4 (.mv (.c (.v (.int .i64 (-1)))))]) .ret) .skip)) (.seq (.ops [q 12 (.fa (.t 2) 1),q 13 (.ld (.t 12) 5),q 14 (.mv (.t 1)),q 15 (.call 23 [(.t 13),(.t 14)]),q 1 (.mv (.t 15))]) (.seq (.seq (.ops [q 16 (.mv (.t 1)),q 17 (.bin .lss (.t 16) (.c (.v (.int .i64 0))))]) (.cond (.t 17) (.seq (.ops [q 4 (.mv (.c (.v (.int .i64 (-1)))))]) .ret) .skip)) (.seq (.ops [q 18 (.mv (.t 1)),q 4 (.mv (.t 18))]) .ret))))))⟩
theorem k54 : cF Tryz.prog Tryz.f54 = some c54 := by kernel_rfl
def c55 : AF := ⟨2,20,[(4,none)],(.seq (.ops [q 4 (.mv (.c (.v (.int .i64 0))))]) (.seq (.seq (.ops [q 5 (.mv (.c (.v (.int .i64 0))))]) (.block 0 (.loop (.seq (.seq (.ops [q 6 (.mv (.t 5)),q 7 (.mv (.t 0)),q 8 (.len false (.t 7)),q 9 (.bin .lss (.t 6) (.t 8))]) (.cond (.t 9) .skip (.exit 0))) (.seq (.block 1 (.seq (.ops [q 12 (.mv (.t 0)),q 13 (.mv (.t 5)),q 14 (.ia (.t 12) (.t 13) 6),q 15 (.fa (.t 14) 0),q 16 (.ld (.t 15) 0),q 17 (.mv (.t 1)),q 18 (.bin .eql (.t 16) (.t 17))]) (.cond (.t 18) (.seq (.ops [q 19 (.mv (.t 5)),q 4 (.mv (.t 19))]) .ret) .skip))) (.ops [q 10 (.mv (.t 5)),q 11 (.bin .add (.t 10) (.c (.v (.int .i64 1)))),q 5 (.mv (.t 11))])))))) (.seq (.ops [q 4 (.mv (.c (.v (.int .i64 (-1)))))]) .ret)))⟩
theorem k55 : cF Tryz.prog Tryz.f55 = some c55 := by kernel_rfl
def c56 : AF := ⟨1,6,[(2,none)],(.seq (.ops [q 2 (.mv (.c (.nil 0)))]) (.seq (.ops [q 3 (.bsl 0 2 []),q 4 (.mv (.t 0)),q 5 (.app 0 2 8 (.t 3) (.t 4)),q 2 (.mv (.t 5))]) .ret))⟩
theorem k56 : cF Tryz.prog Tryz.f56 = some c56 := by kernel_rfl
def c57 : AF := ⟨1,12,[(2,(some 6))],(.seq (.ops [q 1 (.box (.t 0)),q 2 (.al [(.v (.str (.mk #[]))),(.v (.int .i64 0)),(.v (.int .i64 0)),(.v (.int .i64 0)),(.v (.int .i64 0)),(.nil 0)])]) (.seq (.ops [q 3 (.al [(.v (.str (.mk #[]))),(.v (.int .i64 0)),(.v (.int .i64 0)),(.v (.int .i64 0)),(.v (.int .i64 0)),(.nil 0)])]) (.seq (.ops [q 4 (.fa (.t 1) 0),q 5 (.ld (.t 4) 0),q 6 (.fa (.t 3) 0),⟨none,none,.st (.t 6) (.t 5) 0⟩]) (.seq (.ops [q 7 (.fa (.t 1) 1),q 8 (.ld (.t 7) 5),q 9 (.call 25 [(.t 8)]),q 10 (.fa (.t 3) 1),⟨none,none,.st (.t 10) (.t 9) 5⟩]) (.seq (.ops [q 11 (.ld (.t 3) 6),⟨none,none,.st (.t 2) (.t 11) 6⟩]) .ret)))))⟩
theorem k57 : cF Tryz.prog Tryz.f57 = some c57 := by kernel_rfl
def c58 : AF := ⟨2,8,[(4,none)],(.seq (.ops [q 3 (.box (.t 1)),q 4 (.mv (.c (.v (.int .i64 0))))]) (.seq (.ops [q 5 (.mv (.t 0)),q 6 (.mkf 113 [(.t 3)]),q 7 (.call 112 [(.t 5),(.t 6)]),q 4 (.mv (.t 7))]) .ret))⟩
theorem k58 : cF Tryz.prog Tryz.f58 = some c58 := by kernel_rfl
def c60 : AF := ⟨2,20,[(4,none)],(.seq (.ops [q 2 (.box (.t 0)),q 3 (.box (.t 1)),q 4 (.mv (.c (.v (.bool false))))]) (.seq (.seq (.ops [q 5 (.fa (.t 2) 0),q 6 (.ld (.t 5) 0),q 7 (.fa (.t 3) 0),q 8 (.ld (.t 7) 0),q 9 (.bin .neq (.t 6) (.t 8))]) (.cond (.t 9) (.seq (.ops [q 4 (.mv (.c (.v (.bool false))))]) .ret) .skip)) (.seq (.seq (.ops [q 10 (.fa (.t 2) 1),q 11 (.ld (.t 10) 0),q 12 (.fa (.t 3) 1),q 13 (.ld (.t 12) 0),q 14 (.bin .neq (.t 11) (.t 13))]) (.cond (.t 14) (.seq (.ops [q 4 (.mv (.c (.v (.bool false))))]) .ret) .skip)) (.seq (.seq (.ops [q 15 (.fa (.t 2) 2),q 16 (.ld (.t 15) 0),q 17 (.fa (.t 3) 2),q 18 (.ld (.t 17) 0),q 19 (.bin .neq (.t 16) (.t 18))]) (.cond (.t 19) (.seq (.ops [q 4 (.mv (.c (.v (.bool false))))]) .ret) .skip)) (.seq (.ops [q 4 (.mv (.c (.v (.bool true))))]) .ret)))))⟩
theorem k60 : cF Tryz.prog Tryz.f60 = some c60 := by kernel_rfl
def c61 : AF := ⟨2,26,[(4,none)],(.seq (.ops [q 4 (.mv (.c (.v (.bool false))))]) (.seq (.seq (.ops [q 6 (.mv (.t 0)),q 7 (.len false (.t 6)),q 8 (.mv (.t 1)),q 9 (.len false (.t 8)),q 10 (.bin .neq (.t 7) (.t 9))]) (.cond (.t 10) (.seq (.ops [q 4 (.mv (.c (.v (.bool false))))]) .ret) .skip)) (.seq (.seq (.ops [q 5 (.mv (.c (.v (.int .i64 0))))]) (.block 0 (.loop (.seq (.seq (.ops [q 11 (.mv (.t 5)),q 12 (.mv (.t 0)),q 13 (.len false (.t 12)),q 14 (.bin .lss (.t 11) (.t 13))]) (.cond (.t 14) .skip (.exit 0))) (.seq (.block 1 (.seq (.reg [0,0,3,7,0,0,48,112,255] [q 17 (.mv (.t 0)),q 18 (.mv (.t 5)),q 19 (.ia (.t 17) (.t 18) 0),q 20 (.ld (.t 19) 0),q 21 (.mv (.t 1)),q 22 (.mv (.t 5)),q 23 (.ia (.t 21) (.t 22) 0),q 24 (.ld (.t 23) 0),q 25 (.bin .neq (.t 20) (.t 24))]) (.cond (.t 25) (.seq (.ops [q 4 (.mv (.c (.v (.bool false))))]) .ret) .skip))) (.ops [q 15 (.mv (.t 5)),q 16 (.bin .add (.t 15) (.c (.v (.int .i64 1)))),q 5 (.mv (.t 16))])))))) (.seq (.ops [q 4 (.mv (.c (.v (.bool true))))]) .ret))))⟩
theorem k61 : cF Tryz.prog Tryz.f61 = some c61 := by kernel_rfl
def c62 : AF := ⟨2,16,[(4,none)],(.seq (.ops [q 2 (.box (.t 0)),q 3 (.box (.t 1)),q 4 (.mv (.c (.v (.bool false))))]) (.seq (.seq (.ops [q 5 (.fa (.t 2) 0),q 6 (.ld (.t 5) 0),q 7 (.fa (.t 3) 0),q 8 (.ld (.t 7) 0),q 9 (.bin .neq (.t 6) (.t 8))]) (.cond (.t 9) (.seq (.ops [q 4 (.mv (.c (.v (.bool false))))]) .ret) .skip)) (.seq (.seq (.ops [q 10 (.fa (.t 2) 1),q 11 (.ld (.t 10) 5),q 12 (.fa (.t 3) 1),q 13 (.ld (.t 12) 5),q 14 (.call 15 [(.t 11),(.t 13)]),q 15 (.un .not (.t 14))]) (.cond (.t 15) (.seq (.ops [q 4 (.mv (.c (.v (.bool false))))]) .ret) .skip)) (.seq (.ops [q 4 (.mv (.c (.v (.bool true))))]) .ret))))⟩
theorem k62 : cF Tryz.prog Tryz.f62 = some c62 := by kernel_rfl
def c64 : AF := ⟨2,19,[(4,none)],(.seq (.ops [q 4 (.mv (.c (.v (.int .i64 0))))]) (.seq (.seq (.ops [q 5 (.mv (.c (.v (.int .i64 0))))]) (.block 0 (.loop (.seq (.seq (.ops [q 6 (.mv (.t 5)),q 7 (.mv (.t 0)),q 8 (.len false (.t 7)),q 9 (.bin .lss (.t 6) (.t 8))]) (.cond (.t 9) .skip (.exit 0))) (.seq (.block 1 (.seq (.ops [q 12 (.mv (.t 0)),q 13 (.mv (.t 5)),q 14 (.mv (.t 1)),q 15 (.ia (.t 12) (.t 13) 0),⟨none,none,.st (.t 15) (.t 14) 0⟩]) (.ops [q 16 (.mv (.t 1)),q 17 (.bin .add (.t 16) (.c (.v (.int .i64 1)))),q 1 (.mv (.t 17))]))) (.ops [q 10 (.mv (.t 5)),q 11 (.bin .add (.t 10) (.c (.v (.int .i64 1)))),q 5 (.mv (.t 11))])))))) (.seq (.ops [q 18 (.mv (.t 1)),q 4 (.mv (.t 18))]) .ret)))⟩
theorem k64 : cF Tryz.prog Tryz.f64 = some c64 := by kernel_rfl
def c65 : AF := ⟨2,21,[(4,none)],(.seq (.ops [q 4 (.mv (.c (.v (.int .i64 0))))]) (.seq (.seq (.ops [q 5 (.mv (.c (.v (.int .i64 0))))]) (.block 0 (.loop (.seq (.seq (.ops [q 6 (.mv (.t 5)),q 7 (.mv (.t 0)),q 8 (.len false (.t 7)),q 9 (.bin .lss (.t 6) (.t 8))]) (.cond (.t 9) .skip (.exit 0))) (.seq (.block 1 (.seq (.seq (.ops [q 12 (.mv (.t 0)),q 13 (.mv (.t 5)),q 14 (.ia (.t 12) (.t 13) 0),q 15 (.ld (.t 14) 0),q 16 (.mv (.t 1)),q 17 (.bin .neq (.t 15) (.t 16))]) (.cond (.t 17) (.seq (.ops [q 4 (.mv (.c (.v (.int .i64 (-1)))))]) .ret) .skip)) (.ops [q 18 (.mv (.t 1)),q 19 (.bin .add (.t 18) (.c (.v (.int .i64 1)))),q 1 (.mv (.t 19))]))) (.ops [q 10 (.mv (.t 5)),q 11 (.bin .add (.t 10) (.c (.v (.int .i64 1)))),q 5 (.mv (.t 11))])))))) (.seq (.ops [q 20 (.mv (.t 1)),q 4 (.mv (.t 20))]) .ret)))⟩
theorem k65 : cF Tryz.prog Tryz.f65 = some c65 := by kernel_rfl
def c69 : AF := ⟨2,12,[(4,none)],(.seq (.ops [q 4 (.mv (.c (.v (.int .i64 0))))]) (.seq (.ops [q 5 (.mv (.t 1)),q 6 (.mv (.t 0)),q 7 (.len false (.t 6)),q 8 (.bin .sub (.t 5) (.t 7)),q 1 (.mv (.t 8))]) (.seq (.seq (.ops [q 9 (.mv (.t 1)),q 10 (.bin .lss (.t 9) (.c (.v (.int .i64 0))))]) (.cond (.t 10) (.seq (.ops [q 4 (.mv (.c (.v (.int .i64 (-1)))))]) .ret) .skip)) (.seq (.ops [q 11 (.mv (.t 1)),q 4 (.mv (.t 11))]) .ret))))⟩
theorem k69 : cF Tryz.prog Tryz.f69 = some c69 := by kernel_rfl
def c70 : AF := ⟨1,27,[(2,none)],(.seq (.ops [q 1 (.box (.t 0)),q 2 (.mv (.c (.v (.bool false))))]) (.seq (.ops [q 3 (.fa (.t 1) 0),q 4 (.ld (.t 3) 0),q 5 (.fa (.t 1) 1),q 6 (.ld (.t 5) 3),q 7 (.call 115 [(.t 4),(.t 6)]),q 8 (.bin .eql (.t 7) (.c (.v (.int .i64 0)))),q 9 (.mv (.t 8)),⟨(some 10),(some (9,true)),.fa (.t 1) 4⟩,⟨(some 11),(some (9,true)),.ld (.t 10) 0⟩,⟨(some 12),(some (9,true)),.len false (.t 11)⟩,⟨(some 13),(some (9,true)),.fa (.t 1) 1⟩,⟨(some 14),(some (9,true)),.fa (.t 13) 0⟩,⟨(some 15),(some (9,true)),.ld (.t 14) 0⟩,⟨(some 16),(some (9,true)),.fa (.t 1) 1⟩,⟨(some 17),(some (9,true)),.fa (.t 16) 2⟩,⟨(some 18),(some (9,true)),.ld (.t 17) 0⟩,⟨(some 19),(some (9,true)),.bin .mul (.t 15) (.t 18)⟩,⟨(some 20),(some (9,true)),.bin .eql (.t 12) (.t 19)⟩,q 21 (.pick (.t 9) (.t 20) (.c (.v (.bool false)))),q 22 (.mv (.t 21)),⟨(some 23),(some (22,true)),.fa (.t 1) 4⟩,⟨(some 24),(some (22,true)),.ld (.t 23) 0⟩,⟨(some 25),(some (22,true)),.call 116 [(.t 24),(.c (.v (.int .i64 64))),(.c (.v (.int .i64 0))),(.c (.v (.int .i64 9)))]⟩,q 26 (.pick (.t 22) (.t 25) (.c (.v (.bool false)))),q 2 (.mv (.t 26))]) .ret))⟩
theorem k70 : cF Tryz.prog Tryz.f70 = some c70 := by kernel_rfl
def c71 : AF := ⟨1,28,[(2,none)],(.seq (.ops [q 2 (.mv (.c (.v (.bool false))))]) (.seq (.seq (.ops [q 3 (.mv (.c (.v (.int .i64 0))))]) (.block 0 (.loop (.seq (.seq (.ops [q 4 (.mv (.t 3)),q 5 (.mv (.t 0)),q 6 (.len true (.t 5)),q 7 (.bin .lss (.t 4) (.t 6))]) (.cond (.t 7) .skip (.exit 0))) (.seq (.block 1 (.seq (.ops [q 10 (.mv (.t 0)),q 11 (.mv (.t 3)),q 12 (.si (.t 10) (.t 11)),q 13 (.bin .lss (.t 12) (.c (.v (.int .u8 97)))),q 14 (.mv (.t 13)),⟨(some 15),(some (14,false)),.mv (.t 0)⟩,⟨(some 16),(some (14,false)),.mv (.t 3)⟩,⟨(some 17),(some (14,false)),.si (.t 15) (.t 16)⟩,⟨(some 18),(some (14,false)),.bin .gtr (.t 17) (.c (.v (.int .u8 122)))⟩,q 19 (.pick (.t 14) (.c (.v (.bool true))) (.t 18))]) (.cond (.t 19) (.seq (.ops [q 2 (.mv (.c (.v (.bool false))))]) .ret) .skip))) (.ops [q 8 (.mv (.t 3)),q 9 (.bin .add (.t 8) (.c (.v (.int .i64 1)))),q 3 (.mv (.t 9))])))))) (.seq (.ops [q 20 (.mv (.t 0)),q 21 (.len true (.t 20)),q 22 (.bin .geq (.t 21) (.c (.v (.int .i64 1)))),q 23 (.mv (.t 22)),⟨(some 24),(some (23,true)),.mv (.t 0)⟩,⟨(some 25),(some (23,true)),.len true (.t 24)⟩,⟨(some 26),(some (23,true)),.bin .leq (.t 25) (.c (.v (.int .i64 12)))⟩,q 27 (.pick (.t 23) (.t 26) (.c (.v (.bool false)))),q 2 (.mv (.t 27))]) .ret)))⟩
theorem k71 : cF Tryz.prog Tryz.f71 = some c71 := by kernel_rfl
def c72 : AF := ⟨1,25,[(2,(some 5))],(.seq (.ops [q 2 (.al [(.v (.int .i64 0)),(.v (.int .i64 0)),(.v (.int .i64 0)),(.v (.int .i64 0)),(.nil 0)])]) (.seq (.ops [q 5 (.mv (.t 0)),q 6 (.ia (.t 5) (.c (.v (.int .i64 0))) 5),q 7 (.ld (.t 6) 5),q 3 (.al [(.v (.int .i64 0)),(.v (.int .i64 0)),(.v (.int .i64 0)),(.v (.int .i64 0)),(.nil 0)]),⟨none,none,.st (.t 3) (.t 7) 5⟩]) (.seq (.seq (.ops [q 4 (.mv (.c (.v (.int .i64 1))))]) (.block 0 (.loop (.seq (.seq (.ops [q 8 (.mv (.t 4)),q 9 (.mv (.t 0)),q 10 (.len false (.t 9)),q 11 (.bin .lss (.t 8) (.t 10))]) (.cond (.t 11) .skip (.exit 0))) (.seq (.block 1 (.seq (.reg [0,0,3,7,0,31] [q 14 (.mv (.t 0)),q 15 (.mv (.t 4)),q 16 (.ia (.t 14) (.t 15) 5),q 17 (.ld (.t 16) 5),q 18 (.ld (.t 3) 5),q 19 (.call 106 [(.t 17),(.t 18)])]) (.cond (.t 19) (.ops [q 20 (.mv (.t 0)),q 21 (.mv (.t 4)),q 22 (.ia (.t 20) (.t 21) 5),q 23 (.ld (.t 22) 5),⟨none,none,.st (.t 3) (.t 23) 5⟩]) .skip))) (.ops [q 12 (.mv (.t 4)),q 13 (.bin .add (.t 12) (.c (.v (.int .i64 1)))),q 4 (.mv (.t 13))])))))) (.seq (.ops [q 24 (.ld (.t 3) 5),⟨none,none,.st (.t 2) (.t 24) 5⟩]) .ret))))⟩
theorem k72 : cF Tryz.prog Tryz.f72 = some c72 := by kernel_rfl
def c73 : AF := ⟨1,50,[(2,none)],(.seq (.ops [q 1 (.box (.t 0)),q 2 (.mv (.c (.nil 5)))]) (.seq (.ops [q 9 (.ld (.t 1) 5),q 10 (.call 117 [(.t 9)]),q 3 (.al [(.v (.int .i64 0)),(.v (.int .i64 0)),(.v (.int .i64 0)),(.v (.int .i64 0)),(.nil 0)]),⟨none,none,.st (.t 3) (.t 10) 5⟩]) (.seq (.reg [0,1,3,0,8,31,63,127] [q 11 (.fa (.t 3) 0),q 12 (.ld (.t 11) 0),q 13 (.call 118 [(.t 12)]),q 14 (.fa (.t 3) 1),q 15 (.ld (.t 14) 3),q 16 (.call 119 [(.t 15)]),q 4 (.mv (.t 13)),q 5 (.mv (.t 16))]) (.seq (.ops [q 17 (.bsl 5 28 []),q 6 (.mv (.t 17))]) (.seq (.seq (.ops [q 7 (.mv (.c (.v (.int .i64 0))))]) (.block 0 (.loop (.seq (.seq (.ops [q 18 (.mv (.t 7)),q 19 (.mv (.t 4)),q 20 (.len false (.t 19)),q 21 (.bin .lss (.t 18) (.t 20))]) (.cond (.t 21) .skip (.exit 0))) (.seq (.block 1 (.seq (.ops [q 8 (.mv (.c (.v (.int .i64 0))))]) (.block 2 (.loop (.seq (.seq (.ops [q 24 (.mv (.t 8)),q 25 (.mv (.t 5)),q 26 (.len false (.t 25)),q 27 (.bin .lss (.t 24) (.t 26))]) (.cond (.t 27) .skip (.exit 2))) (.seq (.block 3 (.reg [0,0,0,0,12,28,0,0,192,448,0,0,3072,7168,16320,32764,65534,131070,262143,524287] [q 30 (.mv (.t 6)),q 31 (.ld (.t 3) 5),q 32 (.mv (.t 4)),q 33 (.mv (.t 7)),q 34 (.ia (.t 32) (.t 33) 4),q 35 (.ld (.t 34) 4),q 36 (.mv (.t 4)),q 37 (.mv (.t 7)),q 38 (.ia (.t 36) (.t 37) 4),q 39 (.ld (.t 38) 4),q 40 (.mv (.t 5)),q 41 (.mv (.t 8)),q 42 (.ia (.t 40) (.t 41) 2),q 43 (.ld (.t 42) 2),q 44 (.call 120 [(.t 39),(.t 43)]),q 45 (.bld [(.v (.int .i64 0)),(.v (.int .i64 0)),(.v (.int .i64 0)),(.v (.int .i64 0)),(.v (.int .i64 0)),(.v (.int .i64 0))] [(0,4,(.t 35)),(4,2,(.t 44))]),q 46 (.call 100 [(.t 31),(.t 45)]),q 47 (.bsl 5 28 [(.t 46)]),q 48 (.app 5 28 56 (.t 30) (.t 47)),q 6 (.mv (.t 48))])) (.ops [q 28 (.mv (.t 8)),q 29 (.bin .add (.t 28) (.c (.v (.int .i64 1)))),q 8 (.mv (.t 29))]))))))) (.ops [q 22 (.mv (.t 7)),q 23 (.bin .add (.t 22) (.c (.v (.int .i64 1)))),q 7 (.mv (.t 23))])))))) (.seq (.ops [q 49 (.mv (.t 6)),q 2 (.mv (.t 49))]) .ret))))))⟩
theorem k73 : cF Tryz.prog Tryz.f73 = some c73 := by kernel_rfl
def c75 : AF := ⟨2,24,[(4,none)],(.seq (.ops [q 2 (.box (.t 0)),q 3 (.box (.t 1)),q 4 (.mv (.c (.v (.bool false))))]) (.seq (.ops [q 5 (.fa (.t 2) 0),q 6 (.ld (.t 5) 0),q 7 (.fa (.t 3) 0),q 8 (.ld (.t 7) 0),q 9 (.bin .eql (.t 6) (.t 8)),q 10 (.mv (.t 9)),⟨(some 11),(some (10,true)),.fa (.t 2) 1⟩,⟨(some 12),(some (10,true)),.ld (.t 11) 3⟩,⟨(some 13),(some (10,true)),.fa (.t 3) 1⟩,⟨(some 14),(some (10,true)),.ld (.t 13) 3⟩,⟨(some 15),(some (10,true)),.eq false 3 [1,1,1] (.t 12) (.t 14)⟩,q 16 (.pick (.t 10) (.t 15) (.c (.v (.bool false)))),q 17 (.mv (.t 16)),⟨(some 18),(some (17,true)),.fa (.t 2) 4⟩,⟨(some 19),(some (17,true)),.ld (.t 18) 0⟩,⟨(some 20),(some (17,true)),.fa (.t 3) 4⟩,⟨(some 21),(some (17,true)),.ld (.t 20) 0⟩,⟨(some 22),(some (17,true)),.call 121 [(.t 19),(.t 21)]⟩,q 23 (.pick (.t 17) (.t 22) (.c (.v (.bool false)))),q 4 (.mv (.t 23))]) .ret))⟩
theorem k75 : cF Tryz.prog Tryz.f75 = some c75 := by kernel_rfl
def c76 : AF := ⟨1,14,[(2,(some 3))],(.seq (.ops [q 1 (.box (.t 0)),q 2 (.al [(.v (.int .i64 0)),(.v (.int .i64 0)),(.v (.int .i64 0))])]) (.seq (.ops [q 3 (.al [(.v (.int .i64 0)),(.v (.int .i64 0)),(.v (.int .i64 0))])]) (.seq (.ops [q 4 (.fa (.t 1) 0),q 5 (.ld (.t 4) 0),q 6 (.fa (.t 3) 0),⟨none,none,.st (.t 6) (.t 5) 0⟩]) (.seq (.ops [q 7 (.fa (.t 1) 1),q 8 (.ld (.t 7) 0),q 9 (.fa (.t 3) 1),⟨none,none,.st (.t 9) (.t 8) 0⟩]) (.seq (.ops [q 10 (.fa (.t 1) 2),q 11 (.ld (.t 10) 0),q 12 (.fa (.t 3) 2),⟨none,none,.st (.t 12) (.t 11) 0⟩]) (.seq (.ops [q 13 (.ld (.t 3) 3),⟨none,none,.st (.t 2) (.t 13) 3⟩]) .ret))))))⟩
theorem k76 : cF Tryz.prog Tryz.f76 = some c76 := by kernel_rfl
def c77 : AF := ⟨1,22,[(2,none)],(.seq (.ops [q 2 (.mv (.c (.nil 0)))]) (.seq (.ops [q 5 (.mv (.t 0)),q 6 (.len false (.t 5)),q 7 (.mk 0 2 8 (.int .i64 0) (.t 6) (.t 6)),q 3 (.mv (.t 7))]) (.seq (.seq (.ops [q 4 (.mv (.c (.v (.int .i64 0))))]) (.block 0 (.loop (.seq (.seq (.ops [q 8 (.mv (.t 4)),q 9 (.mv (.t 0)),q 10 (.len false (.t 9)),q 11 (.bin .lss (.t 8) (.t 10))]) (.cond (.t 11) .skip (.exit 0))) (.seq (.block 1 (.ops [q 14 (.mv (.t 3)),q 15 (.mv (.t 4)),q 16 (.mv (.t 0)),q 17 (.mv (.t 4)),q 18 (.ia (.t 16) (.t 17) 0),q 19 (.ld (.t 18) 0),q 20 (.ia (.t 14) (.t 15) 0),⟨none,none,.st (.t 20) (.t 19) 0⟩])) (.ops [q 12 (.mv (.t 4)),q 13 (.bin .add (.t 12) (.c (.v (.int .i64 1)))),q 4 (.mv (.t 13))])))))) (.seq (.ops [q 21 (.mv (.t 3)),q 2 (.mv (.t 21))]) .ret))))⟩
theorem k77 : cF Tryz.prog Tryz.f77 = some c77 := by kernel_rfl
def c78 : AF := ⟨1,25,[(2,none)],(.seq (.ops [q 1 (.box (.t 0)),q 2 (.mv (.c (.v (.bool false))))]) (.seq (.reg [0,1,3,7,15,31,63,127,255,511,1023,2047,511,4607,12799,32767,65535,131071,262143,524287,1048575,2097151,4194303] [q 3 (.fa (.t 1) 0),q 4 (.ld (.t 3) 0),q 5 (.call 122 [(.t 4)]),q 6 (.mv (.t 5)),⟨(some 7),(some (6,true)),.fa (.t 1) 1⟩,⟨(some 8),(some (6,true)),.ld (.t 7) 3⟩,⟨(some 9),(some (6,true)),.call 123 [(.t 8)]⟩,q 10 (.pick (.t 6) (.t 9) (.c (.v (.bool false)))),q 11 (.mv (.t 10)),⟨(some 12),(some (11,true)),.fa (.t 1) 4⟩,⟨(some 13),(some (11,true)),.ld (.t 12) 0⟩,⟨(some 14),(some (11,true)),.len false (.t 13)⟩,⟨(some 15),(some (11,true)),.fa (.t 1) 1⟩,⟨(some 16),(some (11,true)),.ld (.t 15) 3⟩,⟨(some 17),(some (11,true)),.call 124 [(.t 16)]⟩,⟨(some 18),(some (11,true)),.bin .eql (.t 14) (.t 17)⟩,q 19 (.pick (.t 11) (.t 18) (.c (.v (.bool false)))),q 20 (.mv (.t 19)),⟨(some 21),(some (20,true)),.fa (.t 1) 4⟩,⟨(some 22),(some (20,true)),.ld (.t 21) 0⟩,⟨(some 23),(some (20,true)),.call 125 [(.t 22),(.c (.v (.int .i64 0))),(.c (.v (.int .i64 9)))]⟩,q 24 (.pick (.t 20) (.t 23) (.c (.v (.bool false)))),q 2 (.mv (.t 24))]) .ret))⟩
theorem k78 : cF Tryz.prog Tryz.f78 = some c78 := by kernel_rfl
def c79 : AF := ⟨1,16,[(2,none)],(.seq (.ops [q 2 (.mv (.c (.v (.bool false))))]) (.seq (.ops [q 3 (.mv (.t 0)),q 4 (.len true (.t 3)),q 5 (.bin .geq (.t 4) (.c (.v (.int .i64 1)))),q 6 (.mv (.t 5)),⟨(some 7),(some (6,true)),.mv (.t 0)⟩,⟨(some 8),(some (6,true)),.len true (.t 7)⟩,⟨(some 9),(some (6,true)),.bin .leq (.t 8) (.c (.v (.int .i64 12)))⟩,q 10 (.pick (.t 6) (.t 9) (.c (.v (.bool false)))),q 11 (.mv (.t 10)),⟨(some 12),(some (11,true)),.mv (.t 0)⟩,⟨(some 13),(some (11,true)),.call 126 [(.t 12),(.c (.v (.str (.mk #[97,98,99,100,101,102,103,104,105,106,107,108,109,110,111,112,113,114,115,116,117,118,119,120,121,122]))))]⟩,⟨(some 14),(some (11,true)),.bin .eql (.t 13) (.c (.v (.str (.mk #[]))))⟩,q 15 (.pick (.t 11) (.t 14) (.c (.v (.bool false)))),q 2 (.mv (.t 15))]) .ret))⟩
theorem k79 : cF Tryz.prog Tryz.f79 = some c79 := by kernel_rfl
def c80 : AF := ⟨1,6,[(2,(some 5))],(.seq (.ops [q 1 (.box (.t 0)),q 2 (.al [(.v (.int .i64 0)),(.v (.int .i64 0)),(.v (.int .i64 0)),(.v (.int .i64 0)),(.nil 0)])]) (.seq (.ops [q 3 (.ld (.t 1) 5),q 4 (.call 128 [(.t 3)]),q 5 (.call 127 [(.t 4),(.c (.fn 105 []))]),⟨none,none,.st (.t 2) (.t 5) 5⟩]) .ret))⟩
theorem k80 : cF Tryz.prog Tryz.f80 = some c80 := by kernel_rfl
def c83 : AF := ⟨1,19,[(2,none)],(.seq (.ops [q 1 (.box (.t 0)),q 2 (.mv (.c (.v (.str (.mk #[])))))]) (.seq (.reg [0,1,0,4,12,31,63,0,128,384,1023,2047,0,4096,13184,32767,65535] [q 3 (.fa (.t 1) 0),q 4 (.ld (.t 3) 0),q 5 (.fa (.t 1) 0),q 6 (.ld (.t 5) 0),q 7 (.bin .add (.t 6) (.c (.v (.int .i64 1)))),q 8 (.ssub (.c (.v (.str (.mk #[83,72])))) (some (.t 4)) (some (.t 7))),q 9 (.bin .add (.t 8) (.c (.v (.str (.mk #[32]))))),q 10 (.fa (.t 1) 1),q 11 (.ld (.t 10) 3),q 12 (.call 133 [(.t 11)]),q 13 (.bin .add (.t 9) (.t 12)),q 14 (.bin .add (.t 13) (.c (.v (.str (.mk #[32]))))),q 15 (.fa (.t 1) 4),q 16 (.ld (.t 15) 0),q 17 (.call 134 [(.t 16),(.c (.v (.str (.mk #[]))))]),q 18 (.bin .add (.t 14) (.t 17)),q 2 (.mv (.t 18))]) .ret))⟩
theorem k83 : cF Tryz.prog Tryz.f83 = some c83 := by kernel_rfl
def c84 : AF := ⟨1,24,[(2,none)],(.seq (.ops [q 2 (.mv (.c (.v (.str (.mk #[])))))]) (.seq (.ops [q 3 (.mv (.c (.v (.str (.mk #[])))))]) (.seq (.seq (.ops [q 6 (.mv (.t 0)),q 7 (.len false (.t 6)),q 8 (.mv (.c (.v (.int .i64 0))))]) (.block 0 (.loop (.seq (.ops [q 9 (.bin .lss (.t 8) (.t 7))]) (.seq (.cond (.t 9) .skip (.exit 0)) (.seq (.block 1 (.seq (.ops [q 10 (.ia (.t 6) (.t 8) 6),q 11 (.ld (.t 10) 6),q 5 (.al [(.v (.str (.mk #[]))),(.v (.int .i64 0)),(.v (.int .i64 0)),(.v (.int .i64 0)),(.v (.int .i64 0)),(.nil 0)]),⟨none,none,.st (.t 5) (.t 11) 6⟩]) (.reg [0,0,2,6,0,16,48,126,254,511,1023] [q 12 (.mv (.t 3)),q 13 (.fa (.t 5) 0),q 14 (.ld (.t 13) 0),q 15 (.bin .add (.t 14) (.c (.v (.str (.mk #[32]))))),q 16 (.fa (.t 5) 1),q 17 (.ld (.t 16) 5),q 18 (.call 135 [(.t 17)]),q 19 (.bin .add (.t 15) (.t 18)),q 20 (.bin .add (.t 19) (.c (.v (.str (.mk #[10]))))),q 21 (.bin .add (.t 12) (.t 20)),q 3 (.mv (.t 21))]))) (.ops [q 22 (.bin .add (.t 8) (.c (.v (.int .i64 1)))),q 8 (.mv (.t 22))]))))))) (.seq (.ops [q 23 (.mv (.t 3)),q 2 (.mv (.t 23))]) .ret))))⟩
theorem k84 : cF Tryz.prog Tryz.f84 = some c84 := by kernel_rfl
def c89 : AF := ⟨1,7,[(2,(some 5))],(.seq (.ops [q 1 (.box (.t 0)),q 2 (.al [(.v (.int .i64 0)),(.v (.int .i64 0)),(.v (.int .i64 0)),(.v (.int .i64 0)),(.nil 0)])]) (.seq (.reg [0,0,2,7,15] [q 3 (.ld (.t 1) 5),q 4 (.ld (.t 1) 5),q 5 (.call 141 [(.t 4)]),q 6 (.call 140 [(.t 3),(.t 5)]),⟨none,none,.st (.t 2) (.t 6) 5⟩]) .ret))⟩
theorem k89 : cF Tryz.prog Tryz.f89 = some c89 := by kernel_rfl
def c100 : AF := ⟨2,47,[(4,(some 5))],(.seq (.ops [q 2 (.box (.t 0)),q 3 (.box (.t 1)),q 4 (.al [(.v (.int .i64 0)),(.v (.int .i64 0)),(.v (.int .i64 0)),(.v (.int .i64 0)),(.nil 0)])]) (.seq (.ops [q 9 (.fa (.t 3) 0),q 10 (.ld (.t 9) 4),q 11 (.fa (.t 2) 1),q 12 (.ld (.t 11) 3),q 13 (.call 152 [(.t 10),(.t 12)]),q 5 (.al [(.v (.int .i64 0)),(.v (.int .i64 0)),(.v (.int .i64 0))]),⟨none,none,.st (.t 5) (.t 13) 3⟩]) (.seq (.ops [q 14 (.fa (.t 2) 1),q 15 (.ld (.t 14) 3),q 16 (.call 119 [(.t 15)]),q 6 (.mv (.t 16))]) (.seq (.reg [0,1,0,0,8,24,63,0,255] [q 17 (.fa (.t 2) 0),q 18 (.ld (.t 17) 0),q 19 (.ld (.t 5) 3),q 20 (.mv (.t 6)),q 21 (.len false (.t 20)),q 22 (.mk 0 2 8 (.int .i64 0) (.t 21) (.t 21)),q 23 (.bld [(.v (.int .i64 0)),(.v (.int .i64 0)),(.v (.int .i64 0)),(.v (.int .i64 0)),(.nil 0)] [(0,1,(.t 18)),(1,3,(.t 19)),(4,1,(.t 22))]),q 7 (.al [(.v (.int .i64 0)),(.v (.int .i64 0)),(.v (.int .i64 0)),(.v (.int .i64 0)),(.nil 0)]),⟨none,none,.st (.t 7) (.t 23) 5⟩]) (.seq (.seq (.ops [q 8 (.mv (.c (.v (.int .i64 0))))]) (.block 0 (.loop (.seq (.seq (.ops [q 24 (.mv (.t 8)),q 25 (.mv (.t 6)),q 26 (.len false (.t 25)),q 27 (.bin .lss (.t 24) (.t 26))]) (.cond (.t 27) .skip (.exit 0))) (.seq (.block 1 (.reg [0,1,0,0,0,0,48,112,248,508,0,1024,0,7168,15360,32767,65535] [q 30 (.fa (.t 7) 4),q 31 (.ld (.t 30) 0),q 32 (.ld (.t 5) 3),q 33 (.ld (.t 3) 6),q 34 (.mv (.t 6)),q 35 (.mv (.t 8)),q 36 (.ia (.t 34) (.t 35) 2),q 37 (.ld (.t 36) 2),q 38 (.call 154 [(.t 33),(.t 37)]),q 39 (.call 153 [(.t 32),(.t 38)]),q 40 (.fa (.t 2) 4),q 41 (.ld (.t 40) 0),q 42 (.mv (.t 8)),q 43 (.ia (.t 41) (.t 42) 0),q 44 (.ld (.t 43) 0),q 45 (.ia (.t 31) (.t 39) 0),⟨none,none,.st (.t 45) (.t 44) 0⟩])) (.ops [q 28 (.mv (.t 8)),q 29 (.bin .add (.t 28) (.c (.v (.int .i64 1)))),q 8 (.mv (.t 29))])))))) (.seq (.ops [q 46 (.ld (.t 7) 5),⟨none,none,.st (.t 4) (.t 46) 5⟩]) .ret))))))⟩
theorem k100 : cF Tryz.prog Tryz.f100 = some c100 := by kernel_rfl
def c104 : AF := ⟨2,24,[(4,none)],(.seq (.ops [q 2 (.box (.t 0)),q 3 (.box (.t 1)),q 4 (.mv (.c (.v (.bool false))))]) (.seq (.ops [q 5 (.fa (.t 2) 0),q 6 (.ld (.t 5) 0),q 7 (.fa (.t 3) 0),q 8 (.ld (.t 7) 0),q 9 (.bin .eql (.t 6) (.t 8)),q 10 (.mv (.t 9)),⟨(some 11),(some (10,true)),.fa (.t 2) 1⟩,⟨(some 12),(some (10,true)),.ld (.t 11) 3⟩,⟨(some 13),(some (10,true)),.fa (.t 3) 1⟩,⟨(some 14),(some (10,true)),.ld (.t 13) 3⟩,⟨(some 15),(some (10,true)),.eq false 3 [1,1,1] (.t 12) (.t 14)⟩,q 16 (.pick (.t 10) (.t 15) (.c (.v (.bool false)))),q 17 (.mv (.t 16)),⟨(some 18),(some (17,true)),.fa (.t 2) 4⟩,⟨(some 19),(some (17,true)),.ld (.t 18) 0⟩,⟨(some 20),(some (17,true)),.fa (.t 3) 4⟩,⟨(some 21),(some (17,true)),.ld (.t 20) 0⟩,⟨(some 22),(some (17,true)),.call 157 [(.t 19),(.t 21)]⟩,q 23 (.pick (.t 17) (.t 22) (.c (.v (.bool false)))),q 4 (.mv (.t 23))]) .ret))⟩
theorem k104 : cF Tryz.prog Tryz.f104 = some c104 := by kernel_rfl
def c105 : AF := ⟨2,31,[(4,none)],(.seq (.ops [q 2 (.box (.t 0)),q 3 (.box (.t 1)),q 4 (.mv (.c (.v (.int .i64 0))))]) (.seq (.seq (.ops [q 6 (.fa (.t 2) 0),q 7 (.ld (.t 6) 0),q 8 (.fa (.t 3) 0),q 9 (.ld (.t 8) 0),q 10 (.bin .neq (.t 7) (.t 9))]) (.cond (.t 10) (.seq (.ops [q 11 (.fa (.t 2) 0),q 12 (.ld (.t 11) 0),q 13 (.bsl 0 2 [(.t 12)]),q 14 (.fa (.t 3) 0),q 15 (.ld (.t 14) 0),q 16 (.bsl 0 2 [(.t 15)]),q 17 (.call 158 [(.t 13),(.t 16)]),q 4 (.mv (.t 17))]) .ret) .skip)) (.seq (.seq (.ops [q 18 (.fa (.t 2) 1),q 19 (.ld (.t 18) 3),q 20 (.fa (.t 3) 1),q 21 (.ld (.t 20) 3),q 22 (.call 159 [(.t 19),(.t 21)]),q 5 (.mv (.t 22))]) (.seq (.ops [q 23 (.mv (.t 5)),q 24 (.bin .neq (.t 23) (.c (.v (.int .i64 0))))]) (.cond (.t 24) (.seq (.ops [q 25 (.mv (.t 5)),q 4 (.mv (.t 25))]) .ret) .skip))) (.seq (.ops [q 26 (.fa (.t 2) 4),q 27 (.ld (.t 26) 0),q 28 (.fa (.t 3) 4),q 29 (.ld (.t 28) 0),q 30 (.call 160 [(.t 27),(.t 29)]),q 4 (.mv (.t 30))]) .ret))))⟩
theorem k105 : cF Tryz.prog Tryz.f105 = some c105 := by kernel_rfl
def c106 : AF := ⟨2,40,[(4,none)],(.seq (.ops [q 2 (.box (.t 0)),q 3 (.box (.t 1)),q 4 (.mv (.c (.v (.bool false))))]) (.seq (.ops [q 7 (.fa (.t 2) 0),q 8 (.ld (.t 7) 0),q 9 (.fa (.t 2) 1),q 10 (.fa (.t 9) 0),q 11 (.ld (.t 10) 0),q 12 (.fa (.t 2) 1),q 13 (.fa (.t 12) 1),q 14 (.ld (.t 13) 0),q 15 (.fa (.t 2) 1),q 16 (.fa (.t 15) 2),q 17 (.ld (.t 16) 0),q 18 (.bsl 0 2 [(.t 8),(.t 11),(.t 14),(.t 17)]),q 19 (.fa (.t 2) 4),q 20 (.ld (.t 19) 0),q 21 (.app 0 2 8 (.t 18) (.t 20)),q 5 (.mv (.t 21))]) (.seq (.ops [q 22 (.fa (.t 3) 0),q 23 (.ld (.t 22) 0),q 24 (.fa (.t 3) 1),q 25 (.fa (.t 24) 0),q 26 (.ld (.t 25) 0),q 27 (.fa (.t 3) 1),q 28 (.fa (.t 27) 1),q 29 (.ld (.t 28) 0),q 30 (.fa (.t 3) 1),q 31 (.fa (.t 30) 2),q 32 (.ld (.t 31) 0),q 33 (.bsl 0 2 [(.t 23),(.t 26),(.t 29),(.t 32)]),q 34 (.fa (.t 3) 4),q 35 (.ld (.t 34) 0),q 36 (.app 0 2 8 (.t 33) (.t 35)),q 6 (.mv (.t 36))]) (.seq (.ops [q 37 (.mv (.t 5)),q 38 (.mv (.t 6)),q 39 (.call 161 [(.t 37),(.t 38)]),q 4 (.mv (.t 39))]) .ret))))⟩
theorem k106 : cF Tryz.prog Tryz.f106 = some c106 := by kernel_rfl
def c108 : AF := ⟨1,11,[(2,none)],(.seq (.ops [q 1 (.box (.t 0)),q 2 (.mv (.c (.v (.bool false))))]) (.seq (.ops [q 3 (.fa (.t 1) 0),q 4 (.ld (.t 3) 0),q 5 (.call 164 [(.t 4)]),q 6 (.mv (.t 5)),⟨(some 7),(some (6,true)),.fa (.t 1) 1⟩,⟨(some 8),(some (6,true)),.ld (.t 7) 0⟩,⟨(some 9),(some (6,true)),.call 164 [(.t 8)]⟩,q 10 (.pick (.t 6) (.t 9) (.c (.v (.bool false)))),q 2 (.mv (.t 10))]) .ret))⟩
theorem k108 : cF Tryz.prog Tryz.f108 = some c108 := by kernel_rfl
def c109 : AF := ⟨2,52,[(4,(some 5))],(.seq (.ops [q 2 (.box (.t 0)),q 3 (.box (.t 1)),q 4 (.al [(.v (.int .i64 0)),(.v (.int .i64 0)),(.v (.int .i64 0)),(.v (.int .i64 0)),(.nil 0)])]) (.seq (.ops [q 12 (.fa (.t 2) 1),q 13 (.ld (.t 12) 3),q 14 (.call 165 [(.t 13)]),q 11 (.mv (.t 14)),q 15 (.ext (.t 11) 0),q 16 (.ext (.t 11) 1),q 5 (.al [(.v (.int .i64 0)),(.v (.int .i64 0))]),q 6 (.al [(.v (.int .i64 0)),(.v (.int .i64 0))]),⟨none,none,.st (.t 5) (.t 15) 2⟩,⟨none,none,.st (.t 6) (.t 16) 2⟩]) (.seq (.reg [0,1,0,4,0,28,0,64,0,508,1020,2044,4095,0,12284,0,0,131071,262143] [q 17 (.fa (.t 2) 0),q 18 (.ld (.t 17) 0),q 19 (.fa (.t 3) 0),q 20 (.ld (.t 19) 4),q 21 (.ld (.t 5) 2),q 22 (.call 167 [(.t 20),(.t 21)]),q 23 (.fa (.t 3) 0),q 24 (.ld (.t 23) 4),q 25 (.ld (.t 6) 2),q 26 (.call 167 [(.t 24),(.t 25)]),q 27 (.bsl 2 75 [(.t 22),(.t 26)]),q 28 (.call 166 [(.t 27)]),q 29 (.bld [(.v (.int .i64 0)),(.v (.int .i64 0)),(.v (.int .i64 0)),(.v (.int .i64 0)),(.nil 0)] [(0,1,(.t 18)),(1,3,(.t 28))]),q 30 (.ld (.t 3) 6),q 31 (.call 168 [(.t 30)]),q 7 (.al [(.v (.int .i64 0)),(.v (.int .i64 0)),(.v (.int .i64 0)),(.v (.int .i64 0)),(.nil 0)]),q 8 (.al [(.v (.int .i64 0)),(.v (.int .i64 0)),(.v (.int .i64 0)),(.v (.int .i64 0)),(.v (.int .i64 0)),(.v (.int .i64 0))]),⟨none,none,.st (.t 7) (.t 29) 5⟩,⟨none,none,.st (.t 8) (.t 31) 6⟩]) (.seq (.seq (.ops [q 32 (.fa (.t 7) 1),q 33 (.ld (.t 32) 3),q 34 (.call 169 [(.t 33)]),q 35 (.len false (.t 34)),q 36 (.mv (.c (.v (.int .i64 0))))]) (.block 0 (.loop (.seq (.ops [q 37 (.bin .lss (.t 36) (.t 35))]) (.seq (.cond (.t 37) .skip (.exit 0)) (.seq (.block 1 (.seq (.ops [q 38 (.ia (.t 34) (.t 36) 2),q 39 (.ld (.t 38) 2),q 10 (.al [(.v (.int .i64 0)),(.v (.int .i64 0))]),⟨none,none,.st (.t 10) (.t 39) 2⟩]) (.reg [0,1,0,0,0,24,60,124,255,511,1023] [q 40 (.fa (.t 7) 4),q 41 (.ld (.t 40) 0),q 42 (.ld (.t 2) 5),q 43 (.ld (.t 8) 6),q 44 (.ld (.t 10) 2),q 45 (.call 171 [(.t 43),(.t 44)]),q 46 (.call 170 [(.t 42),(.t 45)]),q 47 (.bsl 0 2 [(.t 46)]),q 48 (.app 0 2 8 (.t 41) (.t 47)),q 49 (.fa (.t 7) 4),⟨none,none,.st (.t 49) (.t 48) 0⟩]))) (.ops [q 50 (.bin .add (.t 36) (.c (.v (.int .i64 1)))),q 36 (.mv (.t 50))]))))))) (.seq (.ops [q 51 (.ld (.t 7) 5),⟨none,none,.st (.t 4) (.t 51) 5⟩]) .ret)))))⟩
theorem k109 : cF Tryz.prog Tryz.f109 = some c109 := by kernel_rfl
def c112 : AF := ⟨2,19,[(4,none)],(.seq (.ops [q 4 (.mv (.c (.v (.int .i64 0))))]) (.seq (.seq (.ops [q 6 (.mv (.t 0)),q 7 (.len false (.t 6)),q 8 (.mv (.c (.v (.int .i64 0))))]) (.block 0 (.loop (.seq (.ops [q 9 (.bin .lss (.t 8) (.t 7))]) (.seq (.cond (.t 9) .skip (.exit 0)) (.seq (.block 1 (.seq (.ops [q 10 (.mv (.t 8)),q 5 (.mv (.t 10))]) (.seq (.ops [q 11 (.mv (.t 1)),q 12 (.mv (.t 0)),q 13 (.mv (.t 5)),q 14 (.ia (.t 12) (.t 13) 6),q 15 (.ld (.t 14) 6),q 16 (.callv (.t 11) [(.t 15)])]) (.cond (.t 16) (.seq (.ops [q 17 (.mv (.t 5)),q 4 (.mv (.t 17))]) .ret) .skip)))) (.ops [q 18 (.bin .add (.t 8) (.c (.v (.int .i64 1)))),q 8 (.mv (.t 18))]))))))) (.seq (.ops [q 4 (.mv (.c (.v (.int .i64 (-1)))))]) .ret)))⟩
theorem k112 : cF Tryz.prog Tryz.f112 = some c112 := by kernel_rfl
def c113 : AF := ⟨1,8,[(3,none)],(.seq (.ops [q 2 (.box (.t 0)),q 3 (.mv (.c (.v (.bool false))))]) (.seq (.ops [q 4 (.fa (.t 2) 0),q 5 (.ld (.t 4) 0),q 6 (.ld (.t 1) 0),q 7 (.bin .eql (.t 5) (.t 6)),q 3 (.mv (.t 7))]) .ret))⟩
theorem k113 : cF Tryz.prog Tryz.f113 = some c113 := by kernel_rfl
def c114 : AF := ⟨1,8,[(2,none)],(.seq (.ops [q 2 (.mv (.c (.nil 0)))]) (.seq (.seq (.ops [q 3 (.mv (.t 0)),q 4 (.eqn false (.t 3))]) (.cond (.t 4) (.seq (.ops [q 2 (.mv (.c (.nil 0)))]) .ret) .skip)) (.seq (.ops [q 5 (.bsl 0 2 []),q 6 (.mv (.t 0)),q 7 (.app 0 2 8 (.t 5) (.t 6)),q 2 (.mv (.t 7))]) .ret)))⟩
theorem k114 : cF Tryz.prog Tryz.f114 = some c114 := by kernel_rfl
def c115 : AF := ⟨2,13,[(4,none)],(.seq (.ops [q 3 (.box (.t 1)),q 4 (.mv (.c (.v (.int .i64 0))))]) (.seq (.seq (.ops [q 5 (.mv (.t 0)),q 6 (.call 155 [(.t 5)]),q 7 (.un .not (.t 6)),q 8 (.mv (.t 7)),⟨(some 9),(some (8,false)),.ld (.t 3) 3⟩,⟨(some 10),(some (8,false)),.call 172 [(.t 9)]⟩,⟨(some 11),(some (8,false)),.un .not (.t 10)⟩,q 12 (.pick (.t 8) (.c (.v (.bool true))) (.t 11))]) (.cond (.t 12) (.seq (.ops [q 4 (.mv (.c (.v (.int .i64 1))))]) .ret) .skip)) (.seq (.ops [q 4 (.mv (.c (.v (.int .i64 0))))]) .ret)))⟩
theorem k115 : cF Tryz.prog Tryz.f115 = some c115 := by kernel_rfl
def c116 : AF := ⟨4,28,[(8,none)],(.seq (.ops [q 8 (.mv (.c (.v (.bool false))))]) (.seq (.seq (.ops [q 9 (.mv (.c (.v (.int .i64 0))))]) (.block 0 (.loop (.seq (.seq (.ops [q 10 (.mv (.t 9)),q 11 (.mv (.t 0)),q 12 (.len false (.t 11)),q 13 (.bin .lss (.t 10) (.t 12))]) (.cond (.t 13) .skip (.exit 0))) (.seq (.block 1 (.seq (.ops [q 16 (.mv (.t 0)),q 17 (.mv (.t 9)),q 18 (.ia (.t 16) (.t 17) 0),q 19 (.ld (.t 18) 0),q 20 (.mv (.t 2)),q 21 (.mv (.t 3)),q 22 (.call 173 [(.t 19),(.t 20),(.t 21)]),q 23 (.un .not (.t 22))]) (.cond (.t 23) (.seq (.ops [q 8 (.mv (.c (.v (.bool false))))]) .ret) .skip))) (.ops [q 14 (.mv (.t 9)),q 15 (.bin .add (.t 14) (.c (.v (.int .i64 1)))),q 9 (.mv (.t 15))])))))) (.seq (.ops [q 24 (.mv (.t 0)),q 25 (.len false (.t 24)),q 26 (.mv (.t 1)),q 27 (.bin .leq (.t 25) (.t 26)),q 8 (.mv (.t 27))]) .ret)))⟩
theorem k116 : cF Tryz.prog Tryz.f116 = some c116 := by kernel_rfl
def c117 : AF := ⟨1,7,[(2,(some 5))],(.seq (.ops [q 1 (.box (.t 0)),q 2 (.al [(.v (.int .i64 0)),(.v (.int .i64 0)),(.v (.int .i64 0)),(.v (.int .i64 0)),(.nil 0)])]) (.seq (.reg [0,0,2,7,15] [q 3 (.ld (.t 1) 5),q 4 (.ld (.t 1) 5),q 5 (.call 175 [(.t 4)]),q 6 (.call 174 [(.t 3),(.t 5)]),⟨none,none,.st (.t 2) (.t 6) 5⟩]) .ret))⟩
theorem k117 : cF Tryz.prog Tryz.f117 = some c117 := by kernel_rfl
def c118 : AF := ⟨1,34,[(2,none)],(.seq (.ops [q 2 (.mv (.c (.nil 4)))]) (.seq (.ops [q 6 (.bsl 4 73 []),q 3 (.mv (.t 6))]) (.seq (.seq (.ops [q 4 (.mv (.c (.v (.int .i64 0))))]) (.block 0 (.loop (.seq (.seq (.ops [q 7 (.mv (.t 4)),q 8 (.bin .lss (.t 7) (.c (.v (.int .i64 81))))]) (.cond (.t 8) .skip (.exit 0))) (.seq (.block 1 (.seq (.ops [q 11 (.mv (.t 4)),q 12 (.bin .quo (.t 11) (.c (.v (.int .i64 27)))),q 13 (.bin .sub (.t 12) (.c (.v (.int .i64 1)))),q 14 (.mv (.t 4)),q 15 (.bin .quo (.t 14) (.c (.v (.int .i64 9)))),q 16 (.bin .rem (.t 15) (.c (.v (.int .i64 3)))),q 17 (.bin .sub (.t 16) (.c (.v (.int .i64 1)))),q 18 (.mv (.t 4)),q 19 (.bin .quo (.t 18) (.c (.v (.int .i64 3)))),q 20 (.bin .rem (.t 19) (.c (.v (.int .i64 3)))),q 21 (.bin .sub (.t 20) (.c (.v (.int .i64 1)))),q 22 (.mv (.t 4)),q 23 (.bin .rem (.t 22) (.c (.v (.int .i64 3)))),q 24 (.bin .sub (.t 23) (.c (.v (.int .i64 1)))),q 25 (.bld [(.v (.int .i64 0)),(.v (.int .i64 0)),(.v (.int .i64 0)),(.v (.int .i64 0))] [(0,1,(.t 13)),(1,1,(.t 17)),(2,1,(.t 21)),(3,1,(.t 24))]),q 5 (.al [(.v (.int .i64 0)),(.v (.int .i64 0)),(.v (.int .i64 0)),(.v (.int .i64 0))]),⟨none,none,.st (.t 5) (.t 25) 4⟩]) (.seq (.ops [q 26 (.mv (.t 0)),q 27 (.ld (.t 5) 4),q 28 (.call 176 [(.t 26),(.t 27)])]) (.cond (.t 28) (.ops [q 29 (.mv (.t 3)),q 30 (.ld (.t 5) 4),q 31 (.bsl 4 73 [(.t 30)]),q 32 (.app 4 73 32 (.t 29) (.t 31)),q 3 (.mv (.t 32))]) .skip)))) (.ops [q 9 (.mv (.t 4)),q 10 (.bin .add (.t 9) (.c (.v (.int .i64 1)))),q 4 (.mv (.t 10))])))))) (.seq (.ops [q 33 (.mv (.t 3)),q 2 (.mv (.t 33))]) .ret))))⟩
theorem k118 : cF Tryz.prog Tryz.f118 = some c118 := by kernel_rfl
def c119 : AF := ⟨1,26,[(2,none)],(.seq (.ops [q 1 (.box (.t 0)),q 2 (.mv (.c (.nil 2)))]) (.seq (.ops [q 6 (.bsl 2 75 []),q 3 (.mv (.t 6))]) (.seq (.seq (.ops [q 4 (.mv (.c (.v (.int .i64 0))))]) (.block 0 (.loop (.seq (.seq (.ops [q 7 (.mv (.t 4)),q 8 (.fa (.t 1) 0),q 9 (.ld (.t 8) 0),q 10 (.bin .lss (.t 7) (.t 9))]) (.cond (.t 10) .skip (.exit 0))) (.seq (.block 1 (.seq (.ops [q 5 (.mv (.c (.v (.int .i64 0))))]) (.block 2 (.loop (.seq (.seq (.ops [q 13 (.mv (.t 5)),q 14 (.fa (.t 1) 2),q 15 (.ld (.t 14) 0),q 16 (.bin .lss (.t 13) (.t 15))]) (.cond (.t 16) .skip (.exit 2))) (.seq (.block 3 (.ops [q 19 (.mv (.t 3)),q 20 (.mv (.t 4)),q 21 (.mv (.t 5)),q 22 (.bld [(.v (.int .i64 0)),(.v (.int .i64 0))] [(0,1,(.t 20)),(1,1,(.t 21))]),q 23 (.bsl 2 75 [(.t 22)]),q 24 (.app 2 75 16 (.t 19) (.t 23)),q 3 (.mv (.t 24))])) (.ops [q 17 (.mv (.t 5)),q 18 (.bin .add (.t 17) (.c (.v (.int .i64 1)))),q 5 (.mv (.t 18))]))))))) (.ops [q 11 (.mv (.t 4)),q 12 (.bin .add (.t 11) (.c (.v (.int .i64 1)))),q 4 (.mv (.t 12))])))))) (.seq (.ops [q 25 (.mv (.t 3)),q 2 (.mv (.t 25))]) .ret))))⟩
theorem k119 : cF Tryz.prog Tryz.f119 = some c119 := by kernel_rfl
def c120 : AF := ⟨2,28,[(4,(some 2))],(.seq (.ops [q 2 (.box (.t 0)),q 3 (.box (.t 1)),q 4 (.al [(.v (.int .i64 0)),(.v (.int .i64 0))])]) (.seq (.ops [q 5 (.fa (.t 2) 0),q 6 (.ld (.t 5) 0),q 7 (.fa (.t 3) 0),q 8 (.ld (.t 7) 0),q 9 (.bin .mul (.t 6) (.t 8)),q 10 (.fa (.t 2) 1),q 11 (.ld (.t 10) 0),q 12 (.fa (.t 3) 1),q 13 (.ld (.t 12) 0),q 14 (.bin .mul (.t 11) (.t 13)),q 15 (.bin .add (.t 9) (.t 14)),q 16 (.fa (.t 2) 2),q 17 (.ld (.t 16) 0),q 18 (.fa (.t 3) 0),q 19 (.ld (.t 18) 0),q 20 (.bin .mul (.t 17) (.t 19)),q 21 (.fa (.t 2) 3),q 22 (.ld (.t 21) 0),q 23 (.fa (.t 3) 1),q 24 (.ld (.t 23) 0),q 25 (.bin .mul (.t 22) (.t 24)),q 26 (.bin .add (.t 20) (.t 25)),q 27 (.bld [(.v (.int .i64 0)),(.v (.int .i64 0))] [(0,1,(.t 15)),(1,1,(.t 26))]),⟨none,none,.st (.t 4) (.t 27) 2⟩]) .ret))⟩
theorem k120 : cF Tryz.prog Tryz.f120 = some c120 := by kernel_rfl
def c121 : AF := ⟨2,26,[(4,none)],(.seq (.ops [q 4 (.mv (.c (.v (.bool false))))]) (.seq (.seq (.ops [q 6 (.mv (.t 0)),q 7 (.len false (.t 6)),q 8 (.mv (.t 1)),q 9 (.len false (.t 8)),q 10 (.bin .neq (.t 7) (.t 9))]) (.cond (.t 10) (.seq (.ops [q 4 (.mv (.c (.v (.bool false))))]) .ret) .skip)) (.seq (.seq (.ops [q 5 (.mv (.c (.v (.int .i64 0))))]) (.block 0 (.loop (.seq (.seq (.ops [q 11 (.mv (.t 5)),q 12 (.mv (.t 0)),q 13 (.len false (.t 12)),q 14 (.bin .lss (.t 11) (.t 13))]) (.cond (.t 14) .skip (.exit 0))) (.seq (.block 1 (.seq (.reg [0,0,3,7,0,0,48,112,255] [q 17 (.mv (.t 0)),q 18 (.mv (.t 5)),q 19 (.ia (.t 17) (.t 18) 0),q 20 (.ld (.t 19) 0),q 21 (.mv (.t 1)),q 22 (.mv (.t 5)),q 23 (.ia (.t 21) (.t 22) 0),q 24 (.ld (.t 23) 0),q 25 (.bin .neq (.t 20) (.t 24))]) (.cond (.t 25) (.seq (.ops [q 4 (.mv (.c (.v (.bool false))))]) .ret) .skip))) (.ops [q 15 (.mv (.t 5)),q 16 (.bin .add (.t 15) (.c (.v (.int .i64 1)))),q 5 (.mv (.t 16))])))))) (.seq (.ops [q 4 (.mv (.c (.v (.bool true))))]) .ret))))⟩
theorem k121 : cF Tryz.prog Tryz.f121 = some c121 := by kernel_rfl
def c122 : AF := ⟨1,5,[(2,none)],(.seq (.ops [q 2 (.mv (.c (.v (.bool false))))]) (.seq (.ops [q 3 (.mv (.t 0)),q 4 (.call 177 [(.t 3),(.c (.v (.int .i64 0))),(.c (.v (.int .i64 1)))]),q 2 (.mv (.t 4))]) .ret))⟩
theorem k122 : cF Tryz.prog Tryz.f122 = some c122 := by kernel_rfl
def c123 : AF := ⟨1,24,[(2,none)],(.seq (.ops [q 1 (.box (.t 0)),q 2 (.mv (.c (.v (.bool false))))]) (.seq (.ops [q 3 (.fa (.t 1) 0),q 4 (.ld (.t 3) 0),q 5 (.call 177 [(.t 4),(.c (.v (.int .i64 1))),(.c (.v (.int .i64 64)))]),q 6 (.mv (.t 5)),⟨(some 7),(some (6,true)),.fa (.t 1) 2⟩,⟨(some 8),(some (6,true)),.ld (.t 7) 0⟩,⟨(some 9),(some (6,true)),.call 177 [(.t 8),(.c (.v (.int .i64 1))),(.c (.v (.int .i64 64)))]⟩,q 10 (.pick (.t 6) (.t 9) (.c (.v (.bool false)))),q 11 (.mv (.t 10)),⟨(some 12),(some (11,true)),.fa (.t 1) 1⟩,⟨(some 13),(some (11,true)),.ld (.t 12) 0⟩,⟨(some 14),(some (11,true)),.fa (.t 1) 0⟩,⟨(some 15),(some (11,true)),.ld (.t 14) 0⟩,⟨(some 16),(some (11,true)),.bin .sub (.t 15) (.c (.v (.int .i64 1)))⟩,⟨(some 17),(some (11,true)),.call 177 [(.t 13),(.c (.v (.int .i64 0))),(.t 16)]⟩,q 18 (.pick (.t 11) (.t 17) (.c (.v (.bool false)))),q 19 (.mv (.t 18)),⟨(some 20),(some (19,true)),.ld (.t 1) 3⟩,⟨(some 21),(some (19,true)),.call 124 [(.t 20)]⟩,⟨(some 22),(some (19,true)),.bin .leq (.t 21) (.c (.v (.int .i64 64)))⟩,q 23 (.pick (.t 19) (.t 22) (.c (.v (.bool false)))),q 2 (.mv (.t 23))]) .ret))⟩
theorem k123 : cF Tryz.prog Tryz.f123 = some c123 := by kernel_rfl
def c124 : AF := ⟨1,8,[(2,none)],(.seq (.ops [q 1 (.box (.t 0)),q 2 (.mv (.c (.v (.int .i64 0))))]) (.seq (.ops [q 3 (.fa (.t 1) 0),q 4 (.ld (.t 3) 0),q 5 (.fa (.t 1) 2),q 6 (.ld (.t 5) 0),q 7 (.bin .mul (.t 4) (.t 6)),q 2 (.mv (.t 7))]) .ret))⟩
theorem k124 : cF Tryz.prog Tryz.f124 = some c124 := by kernel_rfl
def c125 : AF := ⟨3,11,[(6,none)],(.seq (.ops [q 4 (.box (.t 1)),q 5 (.box (.t 2)),q 6 (.mv (.c (.v (.bool false))))]) (.seq (.ops [q 7 (.mv (.t 0)),q 8 (.mkf 179 [(.t 4),(.t 5)]),q 9 (.call 178 [(.t 7),(.t 8)]),q 10 (.un .not (.t 9)),q 6 (.mv (.t 10))]) .ret))⟩
theorem k125 : cF Tryz.prog Tryz.f125 = some c125 := by kernel_rfl
def c127 : AF := ⟨2,33,[(4,(some 5))],(.seq (.ops [q 4 (.al [(.v (.int .i64 0)),(.v (.int .i64 0)),(.v (.int .i64 0)),(.v (.int .i64 0)),(.nil 0)])]) (.seq (.seq (.ops [q 7 (.mv (.t 0)),q 8 (.len false (.t 7)),q 9 (.bin .lss (.t 8) (.c (.v (.int .i64 1))))]) (.cond (.t 9) (.ops [q 10 (.bad),⟨none,none,.bad⟩]) .skip)) (.seq (.ops [q 11 (.mv (.t 0)),q 12 (.ia (.t 11) (.c (.v (.int .i64 0))) 5),q 13 (.ld (.t 12) 5),q 5 (.al [(.v (.int .i64 0)),(.v (.int .i64 0)),(.v (.int .i64 0)),(.v (.int .i64 0)),(.nil 0)]),⟨none,none,.st (.t 5) (.t 13) 5⟩]) (.seq (.seq (.ops [q 6 (.mv (.c (.v (.int .i64 1))))]) (.block 0 (.loop (.seq (.seq (.ops [q 14 (.mv (.t 6)),q 15 (.mv (.t 0)),q 16 (.len false (.t 15)),q 17 (.bin .lss (.t 14) (.t 16))]) (.cond (.t 17) .skip (.exit 0))) (.seq (.block 1 (.seq (.reg [0,0,0,6,14,0,63,127] [q 20 (.mv (.t 1)),q 21 (.mv (.t 0)),q 22 (.mv (.t 6)),q 23 (.ia (.t 21) (.t 22) 5),q 24 (.ld (.t 23) 5),q 25 (.ld (.t 5) 5),q 26 (.callv (.t 20) [(.t 24),(.t 25)]),q 27 (.bin .lss (.t 26) (.c (.v (.int .i64 0))))]) (.cond (.t 27) (.ops [q 28 (.mv (.t 0)),q 29 (.mv (.t 6)),q 30 (.ia (.t 28) (.t 29) 5),q 31 (.ld (.t 30) 5),⟨none,none,.st (.t 5) (.t 31) 5⟩]) .skip))) (.ops [q 18 (.mv (.t 6)),q 19 (.bin .add (.t 18) (.c (.v (.int .i64 1)))),q 6 (.mv (.t 19))])))))) (.seq (.ops [q 32 (.ld (.t 5) 5),⟨none,none,.st (.t 4) (.t 32) 5⟩]) .ret)))))⟩
theorem k127 : cF Tryz.prog Tryz.f127 = some c127 := by kernel_rfl
def c128 : AF := ⟨1,44,[(2,none)],(.seq (.ops [q 1 (.box (.t 0)),q 2 (.mv (.c (.nil 5)))]) (.seq (.ops [q 10 (.bsl 5 28 []),q 11 (.ld (.t 1) 5),q 12 (.call 89 [(.t 11)]),q 4 (.al [(.v (.int .i64 0)),(.v (.int .i64 0)),(.v (.int .i64 0)),(.v (.int .i64 0)),(.nil 0)]),q 3 (.mv (.t 10)),⟨none,none,.st (.t 4) (.t 12) 5⟩]) (.seq (.seq (.ops [q 13 (.fa (.t 1) 0),q 14 (.ld (.t 13) 0),q 15 (.call 163 [(.t 14)]),q 16 (.len false (.t 15)),q 17 (.mv (.c (.v (.int .i64 0))))]) (.block 0 (.loop (.seq (.ops [q 18 (.bin .lss (.t 17) (.t 16))]) (.seq (.cond (.t 18) .skip (.exit 0)) (.seq (.block 1 (.seq (.ops [q 19 (.ia (.t 15) (.t 17) 4),q 20 (.ld (.t 19) 4),q 6 (.al [(.v (.int .i64 0)),(.v (.int .i64 0)),(.v (.int .i64 0)),(.v (.int .i64 0))]),⟨none,none,.st (.t 6) (.t 20) 4⟩]) (.seq (.ops [q 21 (.ld (.t 4) 5),q 22 (.ld (.t 6) 4),q 23 (.bld [(.v (.int .i64 0)),(.v (.int .i64 0)),(.v (.int .i64 0)),(.v (.int .i64 0)),(.v (.int .i64 0)),(.v (.int .i64 0))] [(0,4,(.t 22))]),q 24 (.call 109 [(.t 21),(.t 23)]),q 7 (.al [(.v (.int .i64 0)),(.v (.int .i64 0)),(.v (.int .i64 0)),(.v (.int .i64 0)),(.nil 0)]),⟨none,none,.st (.t 7) (.t 24) 5⟩]) (.seq (.ops [q 25 (.fa (.t 7) 1),q 26 (.ld (.t 25) 3),q 27 (.call 169 [(.t 26)]),q 28 (.len false (.t 27)),q 29 (.mv (.c (.v (.int .i64 0))))]) (.block 2 (.loop (.seq (.ops [q 30 (.bin .lss (.t 29) (.t 28))]) (.seq (.cond (.t 30) .skip (.exit 2)) (.seq (.block 3 (.seq (.ops [q 31 (.ia (.t 27) (.t 29) 2),q 32 (.ld (.t 31) 2),q 9 (.al [(.v (.int .i64 0)),(.v (.int .i64 0))]),⟨none,none,.st (.t 9) (.t 32) 2⟩]) (.reg [0,0,0,0,12,30,62,127,255] [q 33 (.mv (.t 3)),q 34 (.ld (.t 7) 5),q 35 (.call 187 []),q 36 (.ld (.t 9) 2),q 37 (.bld [(.v (.int .i64 0)),(.v (.int .i64 0)),(.v (.int .i64 0)),(.v (.int .i64 0)),(.v (.int .i64 0)),(.v (.int .i64 0))] [(0,4,(.t 35)),(4,2,(.t 36))]),q 38 (.call 109 [(.t 34),(.t 37)]),q 39 (.bsl 5 28 [(.t 38)]),q 40 (.app 5 28 56 (.t 33) (.t 39)),q 3 (.mv (.t 40))]))) (.ops [q 41 (.bin .add (.t 29) (.c (.v (.int .i64 1)))),q 29 (.mv (.t 41))])))))))))) (.ops [q 42 (.bin .add (.t 17) (.c (.v (.int .i64 1)))),q 17 (.mv (.t 42))]))))))) (.seq (.ops [q 43 (.mv (.t 3)),q 2 (.mv (.t 43))]) .ret))))⟩
theorem k128 : cF Tryz.prog Tryz.f128 = some c128 := by kernel_rfl
def c133 : AF := ⟨1,14,[(2,none)],(.seq (.ops [q 1 (.box (.t 0)),q 2 (.mv (.c (.v (.str (.mk #[])))))]) (.seq (.seq (.ops [q 3 (.ld (.t 1) 3),q 4 (.call 172 [(.t 3)]),q 5 (.un .not (.t 4))]) (.cond (.t 5) (.seq (.ops [q 2 (.mv (.c (.v (.str (.mk #[])))))]) .ret) .skip)) (.seq (.ops [q 6 (.fa (.t 1) 0),q 7 (.ld (.t 6) 0),q 8 (.fa (.t 1) 1),q 9 (.ld (.t 8) 0),q 10 (.fa (.t 1) 2),q 11 (.ld (.t 10) 0),q 12 (.bsl 0 2 [(.t 7),(.t 9),(.t 11)]),q 13 (.call 134 [(.t 12),(.c (.v (.str (.mk #[44]))))]),q 2 (.mv (.t 13))]) .ret)))⟩
theorem k133 : cF Tryz.prog Tryz.f133 = some c133 := by kernel_rfl
def c134 : AF := ⟨2,26,[(4,none)],(.seq (.ops [q 4 (.mv (.c (.v (.str (.mk #[])))))]) (.seq (.ops [q 5 (.mv (.c (.v (.str (.mk #[])))))]) (.seq (.seq (.ops [q 6 (.mv (.c (.v (.int .i64 0))))]) (.block 0 (.loop (.seq (.seq (.ops [q 7 (.mv (.t 6)),q 8 (.mv (.t 0)),q 9 (.len false (.t 8)),q 10 (.bin .lss (.t 7) (.t 9))]) (.cond (.t 10) .skip (.exit 0))) (.seq (.block 1 (.seq (.seq (.ops [q 13 (.mv (.t 6)),q 14 (.bin .gtr (.t 13) (.c (.v (.int .i64 0))))]) (.cond (.t 14) (.ops [q 15 (.mv (.t 5)),q 16 (.mv (.t 1)),q 17 (.bin .add (.t 15) (.t 16)),q 5 (.mv (.t 17))]) .skip)) (.ops [q 18 (.mv (.t 5)),q 19 (.mv (.t 0)),q 20 (.mv (.t 6)),q 21 (.ia (.t 19) (.t 20) 0),q 22 (.ld (.t 21) 0),q 23 (.call 189 [(.t 22)]),q 24 (.bin .add (.t 18) (.t 23)),q 5 (.mv (.t 24))]))) (.ops [q 11 (.mv (.t 6)),q 12 (.bin .add (.t 11) (.c (.v (.int .i64 1)))),q 6 (.mv (.t 12))])))))) (.seq (.ops [q 25 (.mv (.t 5)),q 4 (.mv (.t 25))]) .ret))))⟩
theorem k134 : cF Tryz.prog Tryz.f134 = some c134 := by kernel_rfl
def c135 : AF := ⟨1,19,[(2,none)],(.seq (.ops [q 1 (.box (.t 0)),q 2 (.mv (.c (.v (.str (.mk #[])))))]) (.seq (.reg [0,1,0,4,12,31,63,0,128,384,1023,2047,0,4096,13184,32767,65535] [q 3 (.fa (.t 1) 0),q 4 (.ld (.t 3) 0),q 5 (.fa (.t 1) 0),q 6 (.ld (.t 5) 0),q 7 (.bin .add (.t 6) (.c (.v (.int .i64 1)))),q 8 (.ssub (.c (.v (.str (.mk #[83,72])))) (some (.t 4)) (some (.t 7))),q 9 (.bin .add (.t 8) (.c (.v (.str (.mk #[32]))))),q 10 (.fa (.t 1) 1),q 11 (.ld (.t 10) 3),q 12 (.call 190 [(.t 11)]),q 13 (.bin .add (.t 9) (.t 12)),q 14 (.bin .add (.t 13) (.c (.v (.str (.mk #[32]))))),q 15 (.fa (.t 1) 4),q 16 (.ld (.t 15) 0),q 17 (.call 191 [(.t 16)]),q 18 (.bin .add (.t 14) (.t 17)),q 2 (.mv (.t 18))]) .ret))⟩
theorem k135 : cF Tryz.prog Tryz.f135 = some c135 := by kernel_rfl
def c138 : AF := ⟨1,47,[(2,none)],(.seq (.ops [q 1 (.box (.t 0)),q 2 (.mv (.c (.nil 6)))]) (.seq (.reg [0,1,0,4,15,0,32,127,255,511] [q 9 (.fa (.t 1) 0),q 10 (.ld (.t 9) 0),q 11 (.fa (.t 1) 1),q 12 (.ld (.t 11) 3),q 13 (.call 201 [(.t 10),(.t 12)]),q 14 (.fa (.t 1) 1),q 15 (.ld (.t 14) 3),q 16 (.call 119 [(.t 15)]),q 3 (.mv (.t 13)),q 4 (.mv (.t 16))]) (.seq (.ops [q 17 (.bsl 6 77 []),q 5 (.mv (.t 17))]) (.seq (.seq (.ops [q 6 (.mv (.c (.v (.int .i64 0))))]) (.block 0 (.loop (.seq (.seq (.ops [q 18 (.mv (.t 6)),q 19 (.mv (.t 3)),q 20 (.len false (.t 19)),q 21 (.bin .lss (.t 18) (.t 20))]) (.cond (.t 21) .skip (.exit 0))) (.seq (.block 1 (.seq (.ops [q 7 (.mv (.c (.v (.int .i64 0))))]) (.block 2 (.loop (.seq (.seq (.ops [q 24 (.mv (.t 7)),q 25 (.mv (.t 4)),q 26 (.len false (.t 25)),q 27 (.bin .lss (.t 24) (.t 26))]) (.cond (.t 27) .skip (.exit 2))) (.seq (.block 3 (.seq (.reg [0,0,3,7,0,0,48,112,255,0,1023] [q 30 (.mv (.t 3)),q 31 (.mv (.t 6)),q 32 (.ia (.t 30) (.t 31) 4),q 33 (.ld (.t 32) 4),q 34 (.mv (.t 4)),q 35 (.mv (.t 7)),q 36 (.ia (.t 34) (.t 35) 2),q 37 (.ld (.t 36) 2),q 38 (.bld [(.v (.int .i64 0)),(.v (.int .i64 0)),(.v (.int .i64 0)),(.v (.int .i64 0)),(.v (.int .i64 0)),(.v (.int .i64 0))] [(0,4,(.t 33)),(4,2,(.t 37))]),q 8 (.al [(.v (.int .i64 0)),(.v (.int .i64 0)),(.v (.int .i64 0)),(.v (.int .i64 0)),(.v (.int .i64 0)),(.v (.int .i64 0))]),⟨none,none,.st (.t 8) (.t 38) 6⟩]) (.seq (.ops [q 39 (.ld (.t 1) 5),q 40 (.ld (.t 8) 6),q 41 (.call 202 [(.t 39),(.t 40)])]) (.cond (.t 41) (.ops [q 42 (.mv (.t 5)),q 43 (.ld (.t 8) 6),q 44 (.bsl 6 77 [(.t 43)]),q 45 (.app 6 77 48 (.t 42) (.t 44)),q 5 (.mv (.t 45))]) .skip)))) (.ops [q 28 (.mv (.t 7)),q 29 (.bin .add (.t 28) (.c (.v (.int .i64 1)))),q 7 (.mv (.t 29))]))))))) (.ops [q 22 (.mv (.t 6)),q 23 (.bin .add (.t 22) (.c (.v (.int .i64 1)))),q 6 (.mv (.t 23))])))))) (.seq (.ops [q 46 (.mv (.t 5)),q 2 (.mv (.t 46))]) .ret)))))⟩
theorem k138 : cF Tryz.prog Tryz.f138 = some c138 := by kernel_rfl
def c140 : AF := ⟨2,29,[(4,(some 5))],(.seq (.ops [q 2 (.box (.t 0)),q 3 (.box (.t 1)),q 4 (.al [(.v (.int .i64 0)),(.v (.int .i64 0)),(.v (.int .i64 0)),(.v (.int .i64 0)),(.nil 0)])]) (.seq (.ops [q 8 (.fa (.t 2) 0),q 9 (.ld (.t 8) 0),q 10 (.ld (.t 3) 3),q 11 (.bld [(.v (.int .i64 0)),(.v (.int .i64 0)),(.v (.int .i64 0)),(.v (.int .i64 0)),(.nil 0)] [(0,1,(.t 9)),(1,3,(.t 10))]),q 5 (.al [(.v (.int .i64 0)),(.v (.int .i64 0)),(.v (.int .i64 0)),(.v (.int .i64 0)),(.nil 0)]),⟨none,none,.st (.t 5) (.t 11) 5⟩]) (.seq (.seq (.ops [q 12 (.ld (.t 3) 3),q 13 (.call 169 [(.t 12)]),q 14 (.len false (.t 13)),q 15 (.mv (.c (.v (.int .i64 0))))]) (.block 0 (.loop (.seq (.ops [q 16 (.bin .lss (.t 15) (.t 14))]) (.seq (.cond (.t 16) .skip (.exit 0)) (.seq (.block 1 (.seq (.ops [q 17 (.ia (.t 13) (.t 15) 2),q 18 (.ld (.t 17) 2),q 7 (.al [(.v (.int .i64 0)),(.v (.int .i64 0))]),⟨none,none,.st (.t 7) (.t 18) 2⟩]) (.reg [0,1,0,0,12,28,63,127,255] [q 19 (.fa (.t 5) 4),q 20 (.ld (.t 19) 0),q 21 (.ld (.t 2) 5),q 22 (.ld (.t 7) 2),q 23 (.call 170 [(.t 21),(.t 22)]),q 24 (.bsl 0 2 [(.t 23)]),q 25 (.app 0 2 8 (.t 20) (.t 24)),q 26 (.fa (.t 5) 4),⟨none,none,.st (.t 26) (.t 25) 0⟩]))) (.ops [q 27 (.bin .add (.t 15) (.c (.v (.int .i64 1)))),q 15 (.mv (.t 27))]))))))) (.seq (.ops [q 28 (.ld (.t 5) 5),⟨none,none,.st (.t 4) (.t 28) 5⟩]) .ret))))⟩
theorem k140 : cF Tryz.prog Tryz.f140 = some c140 := by kernel_rfl
def c141 : AF := ⟨1,37,[(2,(some 3))],(.seq (.ops [q 1 (.box (.t 0)),q 2 (.al [(.v (.int .i64 0)),(.v (.int .i64 0)),(.v (.int .i64 0))])]) (.seq (.ops [q 9 (.fa (.t 1) 1),q 10 (.ld (.t 9) 3),q 11 (.call 165 [(.t 10)]),q 8 (.mv (.t 11)),q 12 (.ext (.t 8) 0),q 13 (.ext (.t 8) 1),q 3 (.al [(.v (.int .i64 0)),(.v (.int .i64 0))]),q 4 (.al [(.v (.int .i64 0)),(.v (.int .i64 0))]),⟨none,none,.st (.t 3) (.t 12) 2⟩,⟨none,none,.st (.t 4) (.t 13) 2⟩]) (.seq (.ops [q 14 (.ld (.t 3) 2),q 15 (.ld (.t 4) 2),q 16 (.bsl 2 75 [(.t 14),(.t 15)]),q 5 (.mv (.t 16))]) (.seq (.seq (.ops [q 17 (.fa (.t 1) 1),q 18 (.ld (.t 17) 3),q 19 (.call 169 [(.t 18)]),q 20 (.len false (.t 19)),q 21 (.mv (.c (.v (.int .i64 0))))]) (.block 0 (.loop (.seq (.ops [q 22 (.bin .lss (.t 21) (.t 20))]) (.seq (.cond (.t 22) .skip (.exit 0)) (.seq (.block 1 (.seq (.ops [q 23 (.ia (.t 19) (.t 21) 2),q 24 (.ld (.t 23) 2),q 7 (.al [(.v (.int .i64 0)),(.v (.int .i64 0))]),⟨none,none,.st (.t 7) (.t 24) 2⟩]) (.seq (.reg [0,0,0,6,15] [q 25 (.ld (.t 1) 5),q 26 (.call 187 []),q 27 (.ld (.t 7) 2),q 28 (.bld [(.v (.int .i64 0)),(.v (.int .i64 0)),(.v (.int .i64 0)),(.v (.int .i64 0)),(.v (.int .i64 0)),(.v (.int .i64 0))] [(0,4,(.t 26)),(4,2,(.t 27))]),q 29 (.call 203 [(.t 25),(.t 28)])]) (.cond (.t 29) (.ops [q 30 (.mv (.t 5)),q 31 (.ld (.t 7) 2),q 32 (.bsl 2 75 [(.t 31)]),q 33 (.app 2 75 16 (.t 30) (.t 32)),q 5 (.mv (.t 33))]) .skip)))) (.ops [q 34 (.bin .add (.t 21) (.c (.v (.int .i64 1)))),q 21 (.mv (.t 34))]))))))) (.seq (.ops [q 35 (.mv (.t 5)),q 36 (.call 166 [(.t 35)]),⟨none,none,.st (.t 2) (.t 36) 3⟩]) .ret)))))⟩
theorem k141 : cF Tryz.prog Tryz.f141 = some c141 := by kernel_rfl
def c144 : AF := ⟨1,41,[(2,none)],(.seq (.ops [q 1 (.box (.t 0)),q 2 (.mv (.c (.nil 6)))]) (.seq (.ops [q 8 (.bsl 6 77 []),q 3 (.mv (.t 8))]) (.seq (.seq (.ops [q 9 (.fa (.t 1) 0),q 10 (.ld (.t 9) 0),q 11 (.fa (.t 1) 1),q 12 (.ld (.t 11) 3),q 13 (.call 215 [(.t 10),(.t 12)]),q 14 (.len false (.t 13)),q 15 (.mv (.c (.v (.int .i64 0))))]) (.block 0 (.loop (.seq (.ops [q 16 (.bin .lss (.t 15) (.t 14))]) (.seq (.cond (.t 16) .skip (.exit 0)) (.seq (.block 1 (.seq (.ops [q 17 (.ia (.t 13) (.t 15) 4),q 18 (.ld (.t 17) 4),q 5 (.al [(.v (.int .i64 0)),(.v (.int .i64 0)),(.v (.int .i64 0)),(.v (.int .i64 0))]),⟨none,none,.st (.t 5) (.t 18) 4⟩]) (.seq (.ops [q 19 (.fa (.t 1) 1),q 20 (.ld (.t 19) 3),q 21 (.call 169 [(.t 20)]),q 22 (.len false (.t 21)),q 23 (.mv (.c (.v (.int .i64 0))))]) (.block 2 (.loop (.seq (.ops [q 24 (.bin .lss (.t 23) (.t 22))]) (.seq (.cond (.t 24) .skip (.exit 2)) (.seq (.block 3 (.seq (.ops [q 25 (.ia (.t 21) (.t 23) 2),q 26 (.ld (.t 25) 2),q 7 (.al [(.v (.int .i64 0)),(.v (.int .i64 0))]),⟨none,none,.st (.t 7) (.t 26) 2⟩]) (.seq (.ops [q 27 (.ld (.t 1) 5),q 28 (.ld (.t 5) 4),q 29 (.ld (.t 7) 2),q 30 (.bld [(.v (.int .i64 0)),(.v (.int .i64 0)),(.v (.int .i64 0)),(.v (.int .i64 0)),(.v (.int .i64 0)),(.v (.int .i64 0))] [(0,4,(.t 28)),(4,2,(.t 29))]),q 31 (.call 203 [(.t 27),(.t 30)])]) (.cond (.t 31) (.ops [q 32 (.mv (.t 3)),q 33 (.ld (.t 5) 4),q 34 (.ld (.t 7) 2),q 35 (.bld [(.v (.int .i64 0)),(.v (.int .i64 0)),(.v (.int .i64 0)),(.v (.int .i64 0)),(.v (.int .i64 0)),(.v (.int .i64 0))] [(0,4,(.t 33)),(4,2,(.t 34))]),q 36 (.bsl 6 77 [(.t 35)]),q 37 (.app 6 77 48 (.t 32) (.t 36)),q 3 (.mv (.t 37))]) .skip)))) (.ops [q 38 (.bin .add (.t 23) (.c (.v (.int .i64 1)))),q 23 (.mv (.t 38))]))))))))) (.ops [q 39 (.bin .add (.t 15) (.c (.v (.int .i64 1)))),q 15 (.mv (.t 39))]))))))) (.seq (.ops [q 40 (.mv (.t 3)),q 2 (.mv (.t 40))]) .ret))))⟩
theorem k144 : cF Tryz.prog Tryz.f144 = some c144 := by kernel_rfl
def c152 : AF := ⟨2,20,[(4,(some 3))],(.seq (.ops [q 2 (.box (.t 0)),q 3 (.box (.t 1)),q 4 (.al [(.v (.int .i64 0)),(.v (.int .i64 0)),(.v (.int .i64 0))])]) (.seq (.ops [q 6 (.ld (.t 3) 3),q 7 (.call 225 [(.t 6)]),q 5 (.mv (.t 7))]) (.seq (.reg [0,0,2,6,15,0,0,64,192,511,1023,2047,4095] [q 8 (.ld (.t 2) 4),q 9 (.mv (.t 5)),q 10 (.ia (.t 9) (.c (.v (.int .i64 0))) 2),q 11 (.ld (.t 10) 2),q 12 (.call 120 [(.t 8),(.t 11)]),q 13 (.ld (.t 2) 4),q 14 (.mv (.t 5)),q 15 (.ia (.t 14) (.c (.v (.int .i64 1))) 2),q 16 (.ld (.t 15) 2),q 17 (.call 120 [(.t 13),(.t 16)]),q 18 (.bsl 2 75 [(.t 12),(.t 17)]),q 19 (.call 226 [(.t 18)]),⟨none,none,.st (.t 4) (.t 19) 3⟩]) .ret)))⟩
theorem k152 : cF Tryz.prog Tryz.f152 = some c152 := by kernel_rfl
def c153 : AF := ⟨2,16,[(4,none)],(.seq (.ops [q 2 (.box (.t 0)),q 3 (.box (.t 1)),q 4 (.mv (.c (.v (.int .i64 0))))]) (.seq (.ops [q 5 (.ld (.t 2) 3),q 6 (.ld (.t 3) 2),q 7 (.call 227 [(.t 5),(.t 6)]),⟨none,none,.st (.t 3) (.t 7) 2⟩]) (.seq (.ops [q 8 (.fa (.t 3) 0),q 9 (.ld (.t 8) 0),q 10 (.fa (.t 2) 2),q 11 (.ld (.t 10) 0),q 12 (.bin .mul (.t 9) (.t 11)),q 13 (.fa (.t 3) 1),q 14 (.ld (.t 13) 0),q 15 (.bin .add (.t 12) (.t 14)),q 4 (.mv (.t 15))]) .ret)))⟩
theorem k153 : cF Tryz.prog Tryz.f153 = some c153 := by kernel_rfl
def c154 : AF := ⟨2,12,[(4,(some 2))],(.seq (.ops [q 2 (.box (.t 0)),q 3 (.box (.t 1)),q 4 (.al [(.v (.int .i64 0)),(.v (.int .i64 0))])]) (.seq (.reg [0,1,0,7,0,16,63,127] [q 5 (.fa (.t 2) 0),q 6 (.ld (.t 5) 4),q 7 (.ld (.t 3) 2),q 8 (.call 120 [(.t 6),(.t 7)]),q 9 (.fa (.t 2) 4),q 10 (.ld (.t 9) 2),q 11 (.call 228 [(.t 8),(.t 10)]),⟨none,none,.st (.t 4) (.t 11) 2⟩]) .ret))⟩
theorem k154 : cF Tryz.prog Tryz.f154 = some c154 := by kernel_rfl
def c155 : AF := ⟨1,9,[(2,none)],(.seq (.ops [q 2 (.mv (.c (.v (.bool false))))]) (.seq (.ops [q 3 (.mv (.t 0)),q 4 (.bin .eql (.t 3) (.c (.v (.int .i64 0)))),q 5 (.mv (.t 4)),⟨(some 6),(some (5,false)),.mv (.t 0)⟩,⟨(some 7),(some (5,false)),.bin .eql (.t 6) (.c (.v (.int .i64 1)))⟩,q 8 (.pick (.t 5) (.c (.v (.bool true))) (.t 7)),q 2 (.mv (.t 8))]) .ret))⟩
theorem k155 : cF Tryz.prog Tryz.f155 = some c155 := by kernel_rfl
def c156 : AF := ⟨0,2,[(0,(some 4))],(.seq (.ops [q 0 (.al [(.v (.int .i64 0)),(.v (.int .i64 0)),(.v (.int .i64 0)),(.v (.int .i64 0))])]) (.seq (.ops [q 1 (.bld [(.v (.int .i64 0)),(.v (.int .i64 0)),(.v (.int .i64 0)),(.v (.int .i64 0))] [(0,1,(.c (.v (.int .i64 1)))),(3,1,(.c (.v (.int .i64 1))))]),⟨none,none,.st (.t 0) (.t 1) 4⟩]) .ret))⟩
theorem k156 : cF Tryz.prog Tryz.f156 = some c156 := by kernel_rfl
def c157 : AF := ⟨2,26,[(4,none)],(.seq (.ops [q 4 (.mv (.c (.v (.bool false))))]) (.seq (.seq (.ops [q 6 (.mv (.t 0)),q 7 (.len false (.t 6)),q 8 (.mv (.t 1)),q 9 (.len false (.t 8)),q 10 (.bin .neq (.t 7) (.t 9))]) (.cond (.t 10) (.seq (.ops [q 4 (.mv (.c (.v (.bool false))))]) .ret) .skip)) (.seq (.seq (.ops [q 11 (.mv (.t 0)),q 12 (.len false (.t 11)),q 13 (.mv (.c (.v (.int .i64 0))))]) (.block 0 (.loop (.seq (.ops [q 14 (.bin .lss (.t 13) (.t 12))]) (.seq (.cond (.t 14) .skip (.exit 0)) (.seq (.block 1 (.seq (.ops [q 15 (.mv (.t 13)),q 5 (.mv (.t 15))]) (.seq (.reg [0,0,3,7,0,0,48,112,255] [q 16 (.mv (.t 0)),q 17 (.mv (.t 5)),q 18 (.ia (.t 16) (.t 17) 0),q 19 (.ld (.t 18) 0),q 20 (.mv (.t 1)),q 21 (.mv (.t 5)),q 22 (.ia (.t 20) (.t 21) 0),q 23 (.ld (.t 22) 0),q 24 (.bin .neq (.t 19) (.t 23))]) (.cond (.t 24) (.seq (.ops [q 4 (.mv (.c (.v (.bool false))))]) .ret) .skip)))) (.ops [q 25 (.bin .add (.t 13) (.c (.v (.int .i64 1)))),q 13 (.mv (.t 25))]))))))) (.seq (.ops [q 4 (.mv (.c (.v (.bool true))))]) .ret))))⟩
theorem k157 : cF Tryz.prog Tryz.f157 = some c157 := by kernel_rfl
def c158 : AF := ⟨2,30,[(4,none)],(.seq (.ops [q 4 (.mv (.c (.v (.int .i64 0))))]) (.seq (.seq (.ops [q 6 (.mv (.t 0)),q 7 (.len false (.t 6)),q 8 (.mv (.c (.v (.int .i64 0))))]) (.block 0 (.loop (.seq (.ops [q 9 (.bin .lss (.t 8) (.t 7))]) (.seq (.cond (.t 9) .skip (.exit 0)) (.seq (.block 1 (.seq (.ops [q 10 (.mv (.t 8)),q 5 (.mv (.t 10))]) (.seq (.reg [0,0,3,7,0,0,48,112,255] [q 11 (.mv (.t 0)),q 12 (.mv (.t 5)),q 13 (.ia (.t 11) (.t 12) 0),q 14 (.ld (.t 13) 0),q 15 (.mv (.t 1)),q 16 (.mv (.t 5)),q 17 (.ia (.t 15) (.t 16) 0),q 18 (.ld (.t 17) 0),q 19 (.bin .neq (.t 14) (.t 18))]) (.cond (.t 19) (.seq (.seq (.reg [0,0,3,7,0,0,48,112,255] [q 20 (.mv (.t 0)),q 21 (.mv (.t 5)),q 22 (.ia (.t 20) (.t 21) 0),q 23 (.ld (.t 22) 0),q 24 (.mv (.t 1)),q 25 (.mv (.t 5)),q 26 (.ia (.t 24) (.t 25) 0),q 27 (.ld (.t 26) 0),q 28 (.bin .lss (.t 23) (.t 27))]) (.cond (.t 28) (.seq (.ops [q 4 (.mv (.c (.v (.int .i64 (-1)))))]) .ret) .skip)) (.seq (.ops [q 4 (.mv (.c (.v (.int .i64 1))))]) .ret)) .skip)))) (.ops [q 29 (.bin .add (.t 8) (.c (.v (.int .i64 1)))),q 8 (.mv (.t 29))]))))))) (.seq (.ops [q 4 (.mv (.c (.v (.int .i64 0))))]) .ret)))⟩
theorem k158 : cF Tryz.prog Tryz.f158 = some c158 := by kernel_rfl
def c159 : AF := ⟨2,20,[(4,none)],(.seq (.ops [q 2 (.box (.t 0)),q 3 (.box (.t 1)),q 4 (.mv (.c (.v (.int .i64 0))))]) (.seq (.ops [q 5 (.fa (.t 2) 0),q 6 (.ld (.t 5) 0),q 7 (.fa (.t 2) 1),q 8 (.ld (.t 7) 0),q 9 (.fa (.t 2) 2),q 10 (.ld (.t 9) 0),q 11 (.bsl 0 2 [(.t 6),(.t 8),(.t 10)]),q 12 (.fa (.t 3) 0),q 13 (.ld (.t 12) 0),q 14 (.fa (.t 3) 1),q 15 (.ld (.t 14) 0),q 16 (.fa (.t 3) 2),q 17 (.ld (.t 16) 0),q 18 (.bsl 0 2 [(.t 13),(.t 15),(.t 17)]),q 19 (.call 158 [(.t 11),(.t 18)]),q 4 (.mv (.t 19))]) .ret))⟩
theorem k159 : cF Tryz.prog Tryz.f159 = some c159 := by kernel_rfl
def c160 : AF := ⟨2,36,[(4,none)],(.seq (.ops [q 4 (.mv (.c (.v (.int .i64 0))))]) (.seq (.seq (.ops [q 9 (.mv (.t 0)),q 10 (.len false (.t 9)),q 11 (.mv (.c (.v (.int .i64 0))))]) (.block 0 (.loop (.seq (.ops [q 12 (.bin .lss (.t 11) (.t 10))]) (.seq (.cond (.t 12) .skip (.exit 0)) (.seq (.block 1 (.seq (.ops [q 13 (.mv (.t 11)),q 14 (.ia (.t 9) (.t 11) 0),q 15 (.ld (.t 14) 0),q 5 (.mv (.t 13)),q 6 (.mv (.t 15))]) (.seq (.seq (.ops [q 16 (.mv (.t 5)),q 17 (.mv (.t 1)),q 18 (.len false (.t 17)),q 19 (.bin .geq (.t 16) (.t 18))]) (.cond (.t 19) (.seq (.ops [q 4 (.mv (.c (.v (.int .i64 1))))]) .ret) .skip)) (.seq (.ops [q 20 (.mv (.t 1)),q 21 (.mv (.t 5)),q 22 (.ia (.t 20) (.t 21) 0),q 23 (.ld (.t 22) 0),q 7 (.mv (.t 23))]) (.seq (.ops [q 24 (.mv (.t 6)),q 25 (.mv (.t 7)),q 26 (.call 229 [(.t 24),(.t 25)]),q 8 (.mv (.t 26))]) (.seq (.ops [q 27 (.mv (.t 8)),q 28 (.bin .neq (.t 27) (.c (.v (.int .i64 0))))]) (.cond (.t 28) (.seq (.ops [q 29 (.mv (.t 8)),q 4 (.mv (.t 29))]) .ret) .skip))))))) (.ops [q 30 (.bin .add (.t 11) (.c (.v (.int .i64 1)))),q 11 (.mv (.t 30))]))))))) (.seq (.seq (.ops [q 31 (.mv (.t 0)),q 32 (.len false (.t 31)),q 33 (.mv (.t 1)),q 34 (.len false (.t 33)),q 35 (.bin .lss (.t 32) (.t 34))]) (.cond (.t 35) (.seq (.ops [q 4 (.mv (.c (.v (.int .i64 (-1)))))]) .ret) .skip)) (.seq (.ops [q 4 (.mv (.c (.v (.int .i64 0))))]) .ret))))⟩
theorem k160 : cF Tryz.prog Tryz.f160 = some c160 := by kernel_rfl
def c161 : AF := ⟨2,41,[(4,none)],(.seq (.ops [q 4 (.mv (.c (.v (.bool false))))]) (.seq (.seq (.ops [q 5 (.mv (.c (.v (.int .i64 0))))]) (.block 0 (.loop (.seq (.seq (.ops [q 6 (.mv (.t 5)),q 7 (.mv (.t 0)),q 8 (.len false (.t 7)),q 9 (.bin .lss (.t 6) (.t 8)),q 10 (.mv (.t 9)),⟨(some 11),(some (10,true)),.mv (.t 5)⟩,⟨(some 12),(some (10,true)),.mv (.t 1)⟩,⟨(some 13),(some (10,true)),.len false (.t 12)⟩,⟨(some 14),(some (10,true)),.bin .lss (.t 11) (.t 13)⟩,q 15 (.pick (.t 10) (.t 14) (.c (.v (.bool false))))]) (.cond (.t 15) .skip (.exit 0))) (.seq (.block 1 (.seq (.reg [0,0,3,7,0,0,48,112,255] [q 18 (.mv (.t 0)),q 19 (.mv (.t 5)),q 20 (.ia (.t 18) (.t 19) 0),q 21 (.ld (.t 20) 0),q 22 (.mv (.t 1)),q 23 (.mv (.t 5)),q 24 (.ia (.t 22) (.t 23) 0),q 25 (.ld (.t 24) 0),q 26 (.bin .neq (.t 21) (.t 25))]) (.cond (.t 26) (.seq (.reg [0,0,3,7,0,0,48,112,255,511] [q 27 (.mv (.t 0)),q 28 (.mv (.t 5)),q 29 (.ia (.t 27) (.t 28) 0),q 30 (.ld (.t 29) 0),q 31 (.mv (.t 1)),q 32 (.mv (.t 5)),q 33 (.ia (.t 31) (.t 32) 0),q 34 (.ld (.t 33) 0),q 35 (.bin .lss (.t 30) (.t 34)),q 4 (.mv (.t 35))]) .ret) .skip))) (.ops [q 16 (.mv (.t 5)),q 17 (.bin .add (.t 16) (.c (.v (.int .i64 1)))),q 5 (.mv (.t 17))])))))) (.seq (.ops [q 36 (.mv (.t 0)),q 37 (.len false (.t 36)),q 38 (.mv (.t 1)),q 39 (.len false (.t 38)),q 40 (.bin .lss (.t 37) (.t 39)),q 4 (.mv (.t 40))]) .ret)))⟩
theorem k161 : cF Tryz.prog Tryz.f161 = some c161 := by kernel_rfl
def c162 : AF := ⟨2,9,[(4,none)],(.seq (.ops [q 3 (.box (.t 1)),q 4 (.mv (.c (.v (.bool false))))]) (.seq (.ops [q 5 (.mv (.t 0)),q 6 (.ld (.t 3) 4),q 7 (.call 230 [(.t 5),(.t 6)]),q 8 (.bin .geq (.t 7) (.c (.v (.int .i64 0)))),q 4 (.mv (.t 8))]) .ret))⟩
theorem k162 : cF Tryz.prog Tryz.f162 = some c162 := by kernel_rfl
def c163 : AF := ⟨1,61,[(2,none)],(.seq (.ops [q 2 (.mv (.c (.nil 4)))]) (.seq (.ops [q 9 (.bsl 4 73 []),q 3 (.mv (.t 9))]) (.seq (.seq (.ops [q 10 (.mv (.c (.v (.int .i64 0))))]) (.block 0 (.loop (.seq (.ops [q 11 (.bin .lss (.t 10) (.c (.v (.int .i64 81))))]) (.seq (.cond (.t 11) .skip (.exit 0)) (.seq (.block 1 (.seq (.ops [q 12 (.mv (.t 10)),q 4 (.mv (.t 12))]) (.seq (.ops [q 13 (.mv (.t 4)),q 14 (.bin .quo (.t 13) (.c (.v (.int .i64 27)))),q 15 (.bin .sub (.t 14) (.c (.v (.int .i64 1)))),q 16 (.mv (.t 4)),q 17 (.bin .quo (.t 16) (.c (.v (.int .i64 9)))),q 18 (.bin .rem (.t 17) (.c (.v (.int .i64 3)))),q 19 (.bin .sub (.t 18) (.c (.v (.int .i64 1)))),q 20 (.mv (.t 4)),q 21 (.bin .quo (.t 20) (.c (.v (.int .i64 3)))),q 22 (.bin .rem (.t 21) (.c (.v (.int .i64 3)))),q 23 (.bin .sub (.t 22) (.c (.v (.int .i64 1)))),q 24 (.mv (.t 4)),q 25 (.bin .rem (.t 24) (.c (.v (.int .i64 3)))),q 26 (.bin .sub (.t 25) (.c (.v (.int .i64 1)))),q 27 (.bld [(.v (.int .i64 0)),(.v (.int .i64 0)),(.v (.int .i64 0)),(.v (.int .i64 0))] [(0,1,(.t 15)),(1,1,(.t 19)),(2,1,(.t 23)),(3,1,(.t 26))]),q 5 (.al [(.v (.int .i64 0)),(.v (.int .i64 0)),(.v (.int .i64 0)),(.v (.int .i64 0))]),⟨none,none,.st (.t 5) (.t 27) 4⟩]) (.seq (.reg [0,0,3,0,0,31,0,0,255,0,0,0,4095,8191,16383] [q 28 (.ld (.t 5) 4),q 29 (.bld [(.v (.int .i64 0)),(.v (.int .i64 0))] [(0,1,(.c (.v (.int .i64 1)))),(1,1,(.c (.v (.int .i64 0))))]),q 30 (.call 167 [(.t 28),(.t 29)]),q 31 (.ld (.t 5) 4),q 32 (.bld [(.v (.int .i64 0)),(.v (.int .i64 0))] [(0,1,(.c (.v (.int .i64 0)))),(1,1,(.c (.v (.int .i64 1))))]),q 33 (.call 167 [(.t 31),(.t 32)]),q 34 (.ld (.t 5) 4),q 35 (.bld [(.v (.int .i64 0)),(.v (.int .i64 0))] [(0,1,(.c (.v (.int .i64 1)))),(1,1,(.c (.v (.int .i64 1))))]),q 36 (.call 167 [(.t 34),(.t 35)]),q 6 (.al [(.v (.int .i64 0)),(.v (.int .i64 0))]),q 7 (.al [(.v (.int .i64 0)),(.v (.int .i64 0))]),q 8 (.al [(.v (.int .i64 0)),(.v (.int .i64 0))]),⟨none,none,.st (.t 6) (.t 30) 2⟩,⟨none,none,.st (.t 7) (.t 33) 2⟩,⟨none,none,.st (.t 8) (.t 36) 2⟩]) (.seq (.ops [q 37 (.mv (.t 0)),q 38 (.ld (.t 6) 2),q 39 (.call 231 [(.t 37),(.t 38)]),q 40 (.bin .eql (.t 39) (.c (.v (.int .i64 1)))),q 41 (.mv (.t 40)),⟨(some 42),(some (41,true)),.mv (.t 0)⟩,⟨(some 43),(some (41,true)),.ld (.t 7) 2⟩,⟨(some 44),(some (41,true)),.call 231 [(.t 42),(.t 43)]⟩,⟨(some 45),(some (41,true)),.bin .eql (.t 44) (.c (.v (.int .i64 1)))⟩,q 46 (.pick (.t 41) (.t 45) (.c (.v (.bool false)))),q 47 (.mv (.t 46)),⟨(some 48),(some (47,true)),.mv (.t 0)⟩,⟨(some 49),(some (47,true)),.ld (.t 8) 2⟩,⟨(some 50),(some (47,true)),.call 231 [(.t 48),(.t 49)]⟩,⟨(some 51),(some (47,true)),.mv (.t 0)⟩,⟨(some 52),(some (47,true)),.bin .add (.c (.v (.int .i64 2))) (.t 51)⟩,⟨(some 53),(some (47,true)),.bin .eql (.t 50) (.t 52)⟩,q 54 (.pick (.t 47) (.t 53) (.c (.v (.bool false))))]) (.cond (.t 54) (.ops [q 55 (.mv (.t 3)),q 56 (.ld (.t 5) 4),q 57 (.bsl 4 73 [(.t 56)]),q 58 (.app 4 73 32 (.t 55) (.t 57)),q 3 (.mv (.t 58))]) .skip)))))) (.ops [q 59 (.bin .add (.t 10) (.c (.v (.int .i64 1)))),q 10 (.mv (.t 59))]))))))) (.seq (.ops [q 60 (.mv (.t 3)),q 2 (.mv (.t 60))]) .ret))))⟩
theorem k163 : cF Tryz.prog Tryz.f163 = some c163 := by kernel_rfl
def c164 : AF := ⟨1,5,[(2,none)],(.seq (.ops [q 2 (.mv (.c (.v (.bool false))))]) (.seq (.ops [q 3 (.mv (.t 0)),q 4 (.call 177 [(.t 3),(.c (.v (.int .i64 (-1000)))),(.c (.v (.int .i64 1000)))]),q 2 (.mv (.t 4))]) .ret))⟩
theorem k164 : cF Tryz.prog Tryz.f164 = some c164 := by kernel_rfl
def c165 : AF := ⟨1,12,[(2,(some 2)),(3,(some 2))],(.seq (.ops [q 1 (.box (.t 0)),q 2 (.al [(.v (.int .i64 0)),(.v (.int .i64 0))]),q 3 (.al [(.v (.int .i64 0)),(.v (.int .i64 0))])]) (.seq (.reg [0,1,3,0,8,0,32,120,7,511] [q 4 (.fa (.t 1) 0),q 5 (.ld (.t 4) 0),q 6 (.bld [(.v (.int .i64 0)),(.v (.int .i64 0))] [(0,1,(.t 5)),(1,1,(.c (.v (.int .i64 0))))]),q 7 (.fa (.t 1) 1),q 8 (.ld (.t 7) 0),q 9 (.fa (.t 1) 2),q 10 (.ld (.t 9) 0),q 11 (.bld [(.v (.int .i64 0)),(.v (.int .i64 0))] [(0,1,(.t 8)),(1,1,(.t 10))]),⟨none,none,.st (.t 2) (.t 6) 2⟩,⟨none,none,.st (.t 3) (.t 11) 2⟩]) .ret))⟩
theorem k165 : cF Tryz.prog Tryz.f165 = some c165 := by kernel_rfl
def c166 : AF := ⟨1,48,[(2,(some 3))],(.seq (.ops [q 2 (.al [(.v (.int .i64 0)),(.v (.int .i64 0)),(.v (.int .i64 0))])]) (.seq (.ops [q 8 (.bld [(.v (.int .i64 0)),(.v (.int .i64 0))] []),q 4 (.al [(.v (.int .i64 0)),(.v (.int .i64 0))]),q 3 (.mv (.c (.v (.int .i64 0)))),⟨none,none,.st (.t 4) (.t 8) 2⟩]) (.seq (.seq (.ops [q 9 (.mv (.t 0)),q 10 (.len false (.t 9)),q 11 (.mv (.c (.v (.int .i64 0))))]) (.block 0 (.loop (.seq (.ops [q 12 (.bin .lss (.t 11) (.t 10))]) (.seq (.cond (.t 12) .skip (.exit 0)) (.seq (.block 1 (.seq (.ops [q 13 (.ia (.t 9) (.t 11) 2),q 14 (.ld (.t 13) 2),q 6 (.al [(.v (.int .i64 0)),(.v (.int .i64 0))]),⟨none,none,.st (.t 6) (.t 14) 2⟩]) (.seq (.block 2 (.loop (.seq (.seq (.ops [q 15 (.fa (.t 6) 1),q 16 (.ld (.t 15) 0),q 17 (.bin .neq (.t 16) (.c (.v (.int .i64 0))))]) (.cond (.t 17) .skip (.exit 2))) (.block 3 (.seq (.ops [q 18 (.fa (.t 4) 1),q 19 (.ld (.t 18) 0),q 20 (.fa (.t 6) 1),q 21 (.ld (.t 20) 0),q 22 (.bin .quo (.t 19) (.t 21)),q 7 (.mv (.t 22))]) (.reg [0,0,0,0,8,28,62,127,255] [q 23 (.ld (.t 6) 2),q 24 (.ld (.t 4) 2),q 25 (.ld (.t 6) 2),q 26 (.mv (.t 7)),q 27 (.un .neg (.t 26)),q 28 (.call 212 [(.t 25),(.t 27)]),q 29 (.call 232 [(.t 24),(.t 28)]),⟨none,none,.st (.t 4) (.t 23) 2⟩,⟨none,none,.st (.t 6) (.t 29) 2⟩])))))) (.ops [q 30 (.mv (.t 3)),q 31 (.fa (.t 6) 0),q 32 (.ld (.t 31) 0),q 33 (.call 233 [(.t 30),(.t 32)]),q 3 (.mv (.t 33))])))) (.ops [q 34 (.bin .add (.t 11) (.c (.v (.int .i64 1)))),q 11 (.mv (.t 34))]))))))) (.seq (.seq (.ops [q 35 (.fa (.t 4) 1),q 36 (.ld (.t 35) 0),q 37 (.bin .lss (.t 36) (.c (.v (.int .i64 0))))]) (.cond (.t 37) (.ops [q 38 (.ld (.t 4) 2),q 39 (.call 212 [(.t 38),(.c (.v (.int .i64 (-1))))]),⟨none,none,.st (.t 4) (.t 39) 2⟩]) .skip)) (.seq (.reg [0,0,2,0,14,0,32,127,255] [q 40 (.mv (.t 3)),q 41 (.fa (.t 4) 0),q 42 (.ld (.t 41) 0),q 43 (.mv (.t 3)),q 44 (.call 234 [(.t 42),(.t 43)]),q 45 (.fa (.t 4) 1),q 46 (.ld (.t 45) 0),q 47 (.bld [(.v (.int .i64 0)),(.v (.int .i64 0)),(.v (.int .i64 0))] [(0,1,(.t 40)),(1,1,(.t 44)),(2,1,(.t 46))]),⟨none,none,.st (.t 2) (.t 47) 3⟩]) .ret)))))⟩
theorem k166 : cF Tryz.prog Tryz.f166 = some c166 := by kernel_rfl
def c167 : AF := ⟨2,28,[(4,(some 2))],(.seq (.ops [q 2 (.box (.t 0)),q 3 (.box (.t 1)),q 4 (.al [(.v (.int .i64 0)),(.v (.int .i64 0))])]) (.seq (.ops [q 5 (.fa (.t 2) 0),q 6 (.ld (.t 5) 0),q 7 (.fa (.t 3) 0),q 8 (.ld (.t 7) 0),q 9 (.bin .mul (.t 6) (.t 8)),q 10 (.fa (.t 2) 1),q 11 (.ld (.t 10) 0),q 12 (.fa (.t 3) 1),q 13 (.ld (.t 12) 0),q 14 (.bin .mul (.t 11) (.t 13)),q 15 (.bin .add (.t 9) (.t 14)),q 16 (.fa (.t 2) 2),q 17 (.ld (.t 16) 0),q 18 (.fa (.t 3) 0),q 19 (.ld (.t 18) 0),q 20 (.bin .mul (.t 17) (.t 19)),q 21 (.fa (.t 2) 3),q 22 (.ld (.t 21) 0),q 23 (.fa (.t 3) 1),q 24 (.ld (.t 23) 0),q 25 (.bin .mul (.t 22) (.t 24)),q 26 (.bin .add (.t 20) (.t 25)),q 27 (.bld [(.v (.int .i64 0)),(.v (.int .i64 0))] [(0,1,(.t 15)),(1,1,(.t 26))]),⟨none,none,.st (.t 4) (.t 27) 2⟩]) .ret))⟩
theorem k167 : cF Tryz.prog Tryz.f167 = some c167 := by kernel_rfl
def c168 : AF := ⟨1,14,[(2,(some 6))],(.seq (.ops [q 1 (.box (.t 0)),q 2 (.al [(.v (.int .i64 0)),(.v (.int .i64 0)),(.v (.int .i64 0)),(.v (.int .i64 0)),(.v (.int .i64 0)),(.v (.int .i64 0))])]) (.seq (.ops [q 4 (.fa (.t 1) 0),q 5 (.ld (.t 4) 4),q 6 (.call 235 [(.t 5)]),q 3 (.al [(.v (.int .i64 0)),(.v (.int .i64 0)),(.v (.int .i64 0)),(.v (.int .i64 0))]),⟨none,none,.st (.t 3) (.t 6) 4⟩]) (.seq (.reg [0,0,0,4,14,30,63,127] [q 7 (.ld (.t 3) 4),q 8 (.ld (.t 3) 4),q 9 (.fa (.t 1) 4),q 10 (.ld (.t 9) 2),q 11 (.call 167 [(.t 8),(.t 10)]),q 12 (.call 212 [(.t 11),(.c (.v (.int .i64 (-1))))]),q 13 (.bld [(.v (.int .i64 0)),(.v (.int .i64 0)),(.v (.int .i64 0)),(.v (.int .i64 0)),(.v (.int .i64 0)),(.v (.int .i64 0))] [(0,4,(.t 7)),(4,2,(.t 12))]),⟨none,none,.st (.t 2) (.t 13) 6⟩]) .ret)))⟩
theorem k168 : cF Tryz.prog Tryz.f168 = some c168 := by kernel_rfl
def c169 : AF := ⟨1,26,[(2,none)],(.seq (.ops [q 1 (.box (.t 0)),q 2 (.mv (.c (.nil 2)))]) (.seq (.ops [q 6 (.bsl 2 75 []),q 3 (.mv (.t 6))]) (.seq (.seq (.ops [q 7 (.fa (.t 1) 0),q 8 (.ld (.t 7) 0),q 9 (.mv (.c (.v (.int .i64 0))))]) (.block 0 (.loop (.seq (.ops [q 10 (.bin .lss (.t 9) (.t 8))]) (.seq (.cond (.t 10) .skip (.exit 0)) (.seq (.block 1 (.seq (.ops [q 11 (.mv (.t 9)),q 4 (.mv (.t 11))]) (.seq (.ops [q 12 (.fa (.t 1) 2),q 13 (.ld (.t 12) 0),q 14 (.mv (.c (.v (.int .i64 0))))]) (.block 2 (.loop (.seq (.ops [q 15 (.bin .lss (.t 14) (.t 13))]) (.seq (.cond (.t 15) .skip (.exit 2)) (.seq (.block 3 (.seq (.ops [q 16 (.mv (.t 14)),q 5 (.mv (.t 16))]) (.ops [q 17 (.mv (.t 3)),q 18 (.mv (.t 4)),q 19 (.mv (.t 5)),q 20 (.bld [(.v (.int .i64 0)),(.v (.int .i64 0))] [(0,1,(.t 18)),(1,1,(.t 19))]),q 21 (.bsl 2 75 [(.t 20)]),q 22 (.app 2 75 16 (.t 17) (.t 21)),q 3 (.mv (.t 22))]))) (.ops [q 23 (.bin .add (.t 14) (.c (.v (.int .i64 1)))),q 14 (.mv (.t 23))]))))))))) (.ops [q 24 (.bin .add (.t 9) (.c (.v (.int .i64 1)))),q 9 (.mv (.t 24))]))))))) (.seq (.ops [q 25 (.mv (.t 3)),q 2 (.mv (.t 25))]) .ret))))⟩
theorem k169 : cF Tryz.prog Tryz.f169 = some c169 := by kernel_rfl
def c170 : AF := ⟨2,16,[(4,none)],(.seq (.ops [q 2 (.box (.t 0)),q 3 (.box (.t 1)),q 4 (.mv (.c (.v (.int .i64 0))))]) (.seq (.reg [0,1,0,4,0,16,0,112,252,511,1023,2047] [q 5 (.fa (.t 2) 4),q 6 (.ld (.t 5) 0),q 7 (.fa (.t 2) 1),q 8 (.ld (.t 7) 3),q 9 (.fa (.t 2) 1),q 10 (.ld (.t 9) 3),q 11 (.ld (.t 3) 2),q 12 (.call 237 [(.t 10),(.t 11)]),q 13 (.call 236 [(.t 8),(.t 12)]),q 14 (.ia (.t 6) (.t 13) 0),q 15 (.ld (.t 14) 0),q 4 (.mv (.t 15))]) .ret))⟩
theorem k170 : cF Tryz.prog Tryz.f170 = some c170 := by kernel_rfl
def c171 : AF := ⟨2,12,[(4,(some 2))],(.seq (.ops [q 2 (.box (.t 0)),q 3 (.box (.t 1)),q 4 (.al [(.v (.int .i64 0)),(.v (.int .i64 0))])]) (.seq (.reg [0,1,0,7,0,16,63,127] [q 5 (.fa (.t 2) 0),q 6 (.ld (.t 5) 4),q 7 (.ld (.t 3) 2),q 8 (.call 167 [(.t 6),(.t 7)]),q 9 (.fa (.t 2) 4),q 10 (.ld (.t 9) 2),q 11 (.call 232 [(.t 8),(.t 10)]),⟨none,none,.st (.t 4) (.t 11) 2⟩]) .ret))⟩
theorem k171 : cF Tryz.prog Tryz.f171 = some c171 := by kernel_rfl
def c172 : AF := ⟨1,27,[(2,none)],(.seq (.ops [q 1 (.box (.t 0)),q 2 (.mv (.c (.v (.bool false))))]) (.seq (.ops [q 3 (.fa (.t 1) 0),q 4 (.ld (.t 3) 0),q 5 (.call 173 [(.t 4),(.c (.v (.int .i64 1))),(.c (.v (.int .i64 64)))]),q 6 (.mv (.t 5)),⟨(some 7),(some (6,true)),.fa (.t 1) 2⟩,⟨(some 8),(some (6,true)),.ld (.t 7) 0⟩,⟨(some 9),(some (6,true)),.call 173 [(.t 8),(.c (.v (.int .i64 1))),(.c (.v (.int .i64 64)))]⟩,q 10 (.pick (.t 6) (.t 9) (.c (.v (.bool false)))),q 11 (.mv (.t 10)),⟨(some 12),(some (11,true)),.fa (.t 1) 1⟩,⟨(some 13),(some (11,true)),.ld (.t 12) 0⟩,⟨(some 14),(some (11,true)),.fa (.t 1) 0⟩,⟨(some 15),(some (11,true)),.ld (.t 14) 0⟩,⟨(some 16),(some (11,true)),.bin .sub (.t 15) (.c (.v (.int .i64 1)))⟩,⟨(some 17),(some (11,true)),.call 173 [(.t 13),(.c (.v (.int .i64 0))),(.t 16)]⟩,q 18 (.pick (.t 11) (.t 17) (.c (.v (.bool false)))),q 19 (.mv (.t 18)),⟨(some 20),(some (19,true)),.fa (.t 1) 0⟩,⟨(some 21),(some (19,true)),.ld (.t 20) 0⟩,⟨(some 22),(some (19,true)),.fa (.t 1) 2⟩,⟨(some 23),(some (19,true)),.ld (.t 22) 0⟩,⟨(some 24),(some (19,true)),.bin .mul (.t 21) (.t 23)⟩,⟨(some 25),(some (19,true)),.bin .leq (.t 24) (.c (.v (.int .i64 64)))⟩,q 26 (.pick (.t 19) (.t 25) (.c (.v (.bool false)))),q 2 (.mv (.t 26))]) .ret))⟩
theorem k172 : cF Tryz.prog Tryz.f172 = some c172 := by kernel_rfl
def c173 : AF := ⟨3,15,[(6,none)],(.seq (.ops [q 6 (.mv (.c (.v (.bool false))))]) (.seq (.ops [q 7 (.mv (.t 0)),q 8 (.mv (.t 1)),q 9 (.bin .geq (.t 7) (.t 8)),q 10 (.mv (.t 9)),⟨(some 11),(some (10,true)),.mv (.t 0)⟩,⟨(some 12),(some (10,true)),.mv (.t 2)⟩,⟨(some 13),(some (10,true)),.bin .leq (.t 11) (.t 12)⟩,q 14 (.pick (.t 10) (.t 13) (.c (.v (.bool false)))),q 6 (.mv (.t 14))]) .ret))⟩
theorem k173 : cF Tryz.prog Tryz.f173 = some c173 := by kernel_rfl
def c174 : AF := ⟨2,33,[(4,(some 5))],(.seq (.ops [q 2 (.box (.t 0)),q 3 (.box (.t 1)),q 4 (.al [(.v (.int .i64 0)),(.v (.int .i64 0)),(.v (.int .i64 0)),(.v (.int .i64 0)),(.nil 0)])]) (.seq (.ops [q 8 (.ld (.t 3) 3),q 9 (.call 119 [(.t 8)]),q 5 (.mv (.t 9))]) (.seq (.ops [q 10 (.fa (.t 2) 0),q 11 (.ld (.t 10) 0),q 12 (.ld (.t 3) 3),q 13 (.bsl 0 2 []),q 14 (.bld [(.v (.int .i64 0)),(.v (.int .i64 0)),(.v (.int .i64 0)),(.v (.int .i64 0)),(.nil 0)] [(0,1,(.t 11)),(1,3,(.t 12)),(4,1,(.t 13))]),q 6 (.al [(.v (.int .i64 0)),(.v (.int .i64 0)),(.v (.int .i64 0)),(.v (.int .i64 0)),(.nil 0)]),⟨none,none,.st (.t 6) (.t 14) 5⟩]) (.seq (.seq (.ops [q 7 (.mv (.c (.v (.int .i64 0))))]) (.block 0 (.loop (.seq (.seq (.ops [q 15 (.mv (.t 7)),q 16 (.mv (.t 5)),q 17 (.len false (.t 16)),q 18 (.bin .lss (.t 15) (.t 17))]) (.cond (.t 18) .skip (.exit 0))) (.seq (.block 1 (.reg [0,1,0,0,0,24,56,124,252,511,1023,2047] [q 21 (.fa (.t 6) 4),q 22 (.ld (.t 21) 0),q 23 (.ld (.t 2) 5),q 24 (.mv (.t 5)),q 25 (.mv (.t 7)),q 26 (.ia (.t 24) (.t 25) 2),q 27 (.ld (.t 26) 2),q 28 (.call 238 [(.t 23),(.t 27)]),q 29 (.bsl 0 2 [(.t 28)]),q 30 (.app 0 2 8 (.t 22) (.t 29)),q 31 (.fa (.t 6) 4),⟨none,none,.st (.t 31) (.t 30) 0⟩])) (.ops [q 19 (.mv (.t 7)),q 20 (.bin .add (.t 19) (.c (.v (.int .i64 1)))),q 7 (.mv (.t 20))])))))) (.seq (.ops [q 32 (.ld (.t 6) 5),⟨none,none,.st (.t 4) (.t 32) 5⟩]) .ret)))))⟩
theorem k174 : cF Tryz.prog Tryz.f174 = some c174 := by kernel_rfl
def c175 : AF := ⟨1,35,[(2,(some 3))],(.seq (.ops [q 1 (.box (.t 0)),q 2 (.al [(.v (.int .i64 0)),(.v (.int .i64 0)),(.v (.int .i64 0))])]) (.seq (.ops [q 6 (.fa (.t 1) 1),q 7 (.ld (.t 6) 3),q 8 (.call 119 [(.t 7)]),q 3 (.mv (.t 8))]) (.seq (.ops [q 9 (.fa (.t 1) 1),q 10 (.ld (.t 9) 3),q 11 (.call 225 [(.t 10)]),q 4 (.mv (.t 11))]) (.seq (.seq (.ops [q 5 (.mv (.c (.v (.int .i64 0))))]) (.block 0 (.loop (.seq (.seq (.ops [q 12 (.mv (.t 5)),q 13 (.mv (.t 3)),q 14 (.len false (.t 13)),q 15 (.bin .lss (.t 12) (.t 14))]) (.cond (.t 15) .skip (.exit 0))) (.seq (.block 1 (.seq (.reg [0,0,0,0,12,28,62,127] [q 18 (.ld (.t 1) 5),q 19 (.call 156 []),q 20 (.mv (.t 3)),q 21 (.mv (.t 5)),q 22 (.ia (.t 20) (.t 21) 2),q 23 (.ld (.t 22) 2),q 24 (.bld [(.v (.int .i64 0)),(.v (.int .i64 0)),(.v (.int .i64 0)),(.v (.int .i64 0)),(.v (.int .i64 0)),(.v (.int .i64 0))] [(0,4,(.t 19)),(4,2,(.t 23))]),q 25 (.call 202 [(.t 18),(.t 24)])]) (.cond (.t 25) (.ops [q 26 (.mv (.t 4)),q 27 (.mv (.t 3)),q 28 (.mv (.t 5)),q 29 (.ia (.t 27) (.t 28) 2),q 30 (.ld (.t 29) 2),q 31 (.bsl 2 75 [(.t 30)]),q 32 (.app 2 75 16 (.t 26) (.t 31)),q 4 (.mv (.t 32))]) .skip))) (.ops [q 16 (.mv (.t 5)),q 17 (.bin .add (.t 16) (.c (.v (.int .i64 1)))),q 5 (.mv (.t 17))])))))) (.seq (.ops [q 33 (.mv (.t 4)),q 34 (.call 226 [(.t 33)]),⟨none,none,.st (.t 2) (.t 34) 3⟩]) .ret)))))⟩
theorem k175 : cF Tryz.prog Tryz.f175 = some c175 := by kernel_rfl
def c176 : AF := ⟨2,37,[(4,none)],(.seq (.ops [q 3 (.box (.t 1)),q 4 (.mv (.c (.v (.bool false))))]) (.seq (.reg [0,1,0,4,15,0,32,0,128,480,0,0,3103,8191] [q 7 (.fa (.t 3) 0),q 8 (.ld (.t 7) 0),q 9 (.fa (.t 3) 2),q 10 (.ld (.t 9) 0),q 11 (.bld [(.v (.int .i64 0)),(.v (.int .i64 0))] [(0,1,(.t 8)),(1,1,(.t 10))]),q 12 (.fa (.t 3) 1),q 13 (.ld (.t 12) 0),q 14 (.fa (.t 3) 3),q 15 (.ld (.t 14) 0),q 16 (.bld [(.v (.int .i64 0)),(.v (.int .i64 0))] [(0,1,(.t 13)),(1,1,(.t 15))]),q 5 (.al [(.v (.int .i64 0)),(.v (.int .i64 0))]),q 6 (.al [(.v (.int .i64 0)),(.v (.int .i64 0))]),⟨none,none,.st (.t 5) (.t 11) 2⟩,⟨none,none,.st (.t 6) (.t 16) 2⟩]) (.seq (.ops [q 17 (.mv (.t 0)),q 18 (.ld (.t 5) 2),q 19 (.call 196 [(.t 17),(.t 18)]),q 20 (.bin .eql (.t 19) (.c (.v (.int .i64 1)))),q 21 (.mv (.t 20)),⟨(some 22),(some (21,true)),.mv (.t 0)⟩,⟨(some 23),(some (21,true)),.ld (.t 6) 2⟩,⟨(some 24),(some (21,true)),.call 196 [(.t 22),(.t 23)]⟩,⟨(some 25),(some (21,true)),.bin .eql (.t 24) (.c (.v (.int .i64 1)))⟩,q 26 (.pick (.t 21) (.t 25) (.c (.v (.bool false)))),q 27 (.mv (.t 26)),⟨(some 28),(some (27,true)),.mv (.t 0)⟩,⟨(some 29),(some (27,true)),.ld (.t 5) 2⟩,⟨(some 30),(some (27,true)),.ld (.t 6) 2⟩,⟨(some 31),(some (27,true)),.call 228 [(.t 29),(.t 30)]⟩,⟨(some 32),(some (27,true)),.call 196 [(.t 28),(.t 31)]⟩,⟨(some 33),(some (27,true)),.mv (.t 0)⟩,⟨(some 34),(some (27,true)),.bin .add (.c (.v (.int .i64 2))) (.t 33)⟩,⟨(some 35),(some (27,true)),.bin .eql (.t 32) (.t 34)⟩,q 36 (.pick (.t 27) (.t 35) (.c (.v (.bool false)))),q 4 (.mv (.t 36))]) .ret)))⟩
theorem k176 : cF Tryz.prog Tryz.f176 = some c176 := by kernel_rfl
def c177 : AF := ⟨3,15,[(6,none)],(.seq (.ops [q 6 (.mv (.c (.v (.bool false))))]) (.seq (.ops [q 7 (.mv (.t 0)),q 8 (.mv (.t 1)),q 9 (.bin .geq (.t 7) (.t 8)),q 10 (.mv (.t 9)),⟨(some 11),(some (10,true)),.mv (.t 0)⟩,⟨(some 12),(some (10,true)),.mv (.t 2)⟩,⟨(some 13),(some (10,true)),.bin .leq (.t 11) (.t 12)⟩,q 14 (.pick (.t 10) (.t 13) (.c (.v (.bool false)))),q 6 (.mv (.t 14))]) .ret))⟩
theorem k177 : cF Tryz.prog Tryz.f177 = some c177 := by kernel_rfl
def c178 : AF := ⟨2,9,[(4,none)],(.seq (.ops [q 4 (.mv (.c (.v (.bool false))))]) (.seq (.ops [q 5 (.mv (.t 0)),q 6 (.mv (.t 1)),q 7 (.call 239 [(.t 5),(.t 6)]),q 8 (.bin .geq (.t 7) (.c (.v (.int .i64 0)))),q 4 (.mv (.t 8))]) .ret))⟩
theorem k178 : cF Tryz.prog Tryz.f178 = some c178 := by kernel_rfl
def c179 : AF := ⟨1,10,[(4,none)],(.seq (.ops [q 4 (.mv (.c (.v (.bool false))))]) (.seq (.ops [q 5 (.mv (.t 0)),q 6 (.ld (.t 1) 0),q 7 (.ld (.t 2) 0),q 8 (.call 177 [(.t 5),(.t 6),(.t 7)]),q 9 (.un .not (.t 8)),q 4 (.mv (.t 9))]) .ret))⟩
theorem k179 : cF Tryz.prog Tryz.f179 = some c179 := by kernel_rfl
def c187 : AF := ⟨0,2,[(0,(some 4))],(.seq (.ops [q 0 (.al [(.v (.int .i64 0)),(.v (.int .i64 0)),(.v (.int .i64 0)),(.v (.int .i64 0))])]) (.seq (.ops [q 1 (.bld [(.v (.int .i64 0)),(.v (.int .i64 0)),(.v (.int .i64 0)),(.v (.int .i64 0))] [(0,1,(.c (.v (.int .i64 1)))),(1,1,(.c (.v (.int .i64 0)))),(2,1,(.c (.v (.int .i64 0)))),(3,1,(.c (.v (.int .i64 1))))]),⟨none,none,.st (.t 0) (.t 1) 4⟩]) .ret))⟩
theorem k187 : cF Tryz.prog Tryz.f187 = some c187 := by kernel_rfl
def c189 : AF := ⟨1,11,[(2,none)],(.seq (.ops [q 2 (.mv (.c (.v (.str (.mk #[])))))]) (.seq (.seq (.ops [q 3 (.mv (.t 0)),q 4 (.bin .lss (.t 3) (.c (.v (.int .i64 0))))]) (.cond (.t 4) (.seq (.ops [q 5 (.mv (.t 0)),q 6 (.un .neg (.t 5)),q 7 (.call 245 [(.t 6)]),q 8 (.bin .add (.c (.v (.str (.mk #[45])))) (.t 7)),q 2 (.mv (.t 8))]) .ret) .skip)) (.seq (.ops [q 9 (.mv (.t 0)),q 10 (.call 245 [(.t 9)]),q 2 (.mv (.t 10))]) .ret)))⟩
theorem k189 : cF Tryz.prog Tryz.f189 = some c189 := by kernel_rfl
def c190 : AF := ⟨1,14,[(2,none)],(.seq (.ops [q 1 (.box (.t 0)),q 2 (.mv (.c (.v (.str (.mk #[])))))]) (.seq (.seq (.ops [q 3 (.ld (.t 1) 3),q 4 (.call 123 [(.t 3)]),q 5 (.un .not (.t 4))]) (.cond (.t 5) (.seq (.ops [q 2 (.mv (.c (.v (.str (.mk #[])))))]) .ret) .skip)) (.seq (.ops [q 6 (.fa (.t 1) 0),q 7 (.ld (.t 6) 0),q 8 (.fa (.t 1) 1),q 9 (.ld (.t 8) 0),q 10 (.fa (.t 1) 2),q 11 (.ld (.t 10) 0),q 12 (.bsl 0 2 [(.t 7),(.t 9),(.t 11)]),q 13 (.call 246 [(.c (.v (.str (.mk #[44])))),(.t 12)]),q 2 (.mv (.t 13))]) .ret)))⟩
theorem k190 : cF Tryz.prog Tryz.f190 = some c190 := by kernel_rfl
def c191 : AF := ⟨1,5,[(2,none)],(.seq (.ops [q 2 (.mv (.c (.v (.str (.mk #[])))))]) (.seq (.ops [q 3 (.mv (.t 0)),q 4 (.call 246 [(.c (.v (.str (.mk #[])))),(.t 3)]),q 2 (.mv (.t 4))]) .ret))⟩
theorem k191 : cF Tryz.prog Tryz.f191 = some c191 := by kernel_rfl
def c194 : AF := ⟨1,14,[(2,none)],(.seq (.ops [q 1 (.box (.t 0)),q 2 (.mv (.c (.v (.int .i64 0))))]) (.seq (.ops [q 3 (.fa (.t 1) 0),q 4 (.ld (.t 3) 0),q 5 (.fa (.t 1) 3),q 6 (.ld (.t 5) 0),q 7 (.bin .mul (.t 4) (.t 6)),q 8 (.fa (.t 1) 1),q 9 (.ld (.t 8) 0),q 10 (.fa (.t 1) 2),q 11 (.ld (.t 10) 0),q 12 (.bin .mul (.t 9) (.t 11)),q 13 (.bin .sub (.t 7) (.t 12)),q 2 (.mv (.t 13))]) .ret))⟩
theorem k194 : cF Tryz.prog Tryz.f194 = some c194 := by kernel_rfl
def c196 : AF := ⟨2,27,[(4,none)],(.seq (.ops [q 3 (.box (.t 1)),q 4 (.mv (.c (.v (.int .i64 0))))]) (.seq (.ops [q 6 (.fa (.t 3) 0),q 7 (.ld (.t 6) 0),q 8 (.fa (.t 3) 0),q 9 (.ld (.t 8) 0),q 10 (.bin .mul (.t 7) (.t 9)),q 11 (.fa (.t 3) 1),q 12 (.ld (.t 11) 0),q 13 (.fa (.t 3) 1),q 14 (.ld (.t 13) 0),q 15 (.bin .mul (.t 12) (.t 14)),q 16 (.bin .add (.t 10) (.t 15)),q 5 (.mv (.t 16))]) (.seq (.seq (.ops [q 17 (.mv (.t 0)),q 18 (.bin .eql (.t 17) (.c (.v (.int .i64 1))))]) (.cond (.t 18) (.ops [q 19 (.mv (.t 5)),q 20 (.fa (.t 3) 0),q 21 (.ld (.t 20) 0),q 22 (.fa (.t 3) 1),q 23 (.ld (.t 22) 0),q 24 (.bin .mul (.t 21) (.t 23)),q 25 (.bin .add (.t 19) (.t 24)),q 5 (.mv (.t 25))]) .skip)) (.seq (.ops [q 26 (.mv (.t 5)),q 4 (.mv (.t 26))]) .ret))))⟩
theorem k196 : cF Tryz.prog Tryz.f196 = some c196 := by kernel_rfl
def c201 : AF := ⟨2,33,[(4,none)],(.seq (.ops [q 3 (.box (.t 1)),q 4 (.mv (.c (.nil 4)))]) (.seq (.ops [q 8 (.mv (.t 0)),q 9 (.call 118 [(.t 8)]),q 5 (.mv (.t 9))]) (.seq (.ops [q 10 (.bsl 4 73 []),q 6 (.mv (.t 10))]) (.seq (.seq (.ops [q 7 (.mv (.c (.v (.int .i64 0))))]) (.block 0 (.loop (.seq (.seq (.ops [q 11 (.mv (.t 7)),q 12 (.mv (.t 5)),q 13 (.len false (.t 12)),q 14 (.bin .lss (.t 11) (.t 13))]) (.cond (.t 14) .skip (.exit 0))) (.seq (.block 1 (.seq (.reg [0,0,3,7,0,31,0,127] [q 17 (.mv (.t 5)),q 18 (.mv (.t 7)),q 19 (.ia (.t 17) (.t 18) 4),q 20 (.ld (.t 19) 4),q 21 (.ld (.t 3) 3),q 22 (.call 152 [(.t 20),(.t 21)]),q 23 (.ld (.t 3) 3),q 24 (.eq false 3 [1,1,1] (.t 22) (.t 23))]) (.cond (.t 24) (.ops [q 25 (.mv (.t 6)),q 26 (.mv (.t 5)),q 27 (.mv (.t 7)),q 28 (.ia (.t 26) (.t 27) 4),q 29 (.ld (.t 28) 4),q 30 (.bsl 4 73 [(.t 29)]),q 31 (.app 4 73 32 (.t 25) (.t 30)),q 6 (.mv (.t 31))]) .skip))) (.ops [q 15 (.mv (.t 7)),q 16 (.bin .add (.t 15) (.c (.v (.int .i64 1)))),q 7 (.mv (.t 16))])))))) (.seq (.ops [q 32 (.mv (.t 6)),q 4 (.mv (.t 32))]) .ret)))))⟩
theorem k201 : cF Tryz.prog Tryz.f201 = some c201 := by kernel_rfl
def c202 : AF := ⟨2,31,[(4,none)],(.seq (.ops [q 2 (.box (.t 0)),q 3 (.box (.t 1)),q 4 (.mv (.c (.v (.bool false))))]) (.seq (.ops [q 7 (.fa (.t 2) 1),q 8 (.ld (.t 7) 3),q 9 (.call 119 [(.t 8)]),q 5 (.mv (.t 9))]) (.seq (.seq (.ops [q 6 (.mv (.c (.v (.int .i64 0))))]) (.block 0 (.loop (.seq (.seq (.ops [q 10 (.mv (.t 6)),q 11 (.mv (.t 5)),q 12 (.len false (.t 11)),q 13 (.bin .lss (.t 10) (.t 12))]) (.cond (.t 13) .skip (.exit 0))) (.seq (.block 1 (.seq (.reg [0,0,0,0,12,28,62,127,0,0,0,1536,3584,8191,16383] [q 16 (.ld (.t 2) 5),q 17 (.ld (.t 3) 6),q 18 (.mv (.t 5)),q 19 (.mv (.t 6)),q 20 (.ia (.t 18) (.t 19) 2),q 21 (.ld (.t 20) 2),q 22 (.call 154 [(.t 17),(.t 21)]),q 23 (.call 238 [(.t 16),(.t 22)]),q 24 (.ld (.t 2) 5),q 25 (.mv (.t 5)),q 26 (.mv (.t 6)),q 27 (.ia (.t 25) (.t 26) 2),q 28 (.ld (.t 27) 2),q 29 (.call 238 [(.t 24),(.t 28)]),q 30 (.bin .neq (.t 23) (.t 29))]) (.cond (.t 30) (.seq (.ops [q 4 (.mv (.c (.v (.bool false))))]) .ret) .skip))) (.ops [q 14 (.mv (.t 6)),q 15 (.bin .add (.t 14) (.c (.v (.int .i64 1)))),q 6 (.mv (.t 15))])))))) (.seq (.ops [q 4 (.mv (.c (.v (.bool true))))]) .ret))))⟩
theorem k202 : cF Tryz.prog Tryz.f202 = some c202 := by kernel_rfl
def c203 : AF := ⟨2,28,[(4,none)],(.seq (.ops [q 2 (.box (.t 0)),q 3 (.box (.t 1)),q 4 (.mv (.c (.v (.bool false))))]) (.seq (.seq (.ops [q 7 (.fa (.t 2) 1),q 8 (.ld (.t 7) 3),q 9 (.call 169 [(.t 8)]),q 10 (.len false (.t 9)),q 11 (.mv (.c (.v (.int .i64 0))))]) (.block 0 (.loop (.seq (.ops [q 12 (.bin .lss (.t 11) (.t 10))]) (.seq (.cond (.t 12) .skip (.exit 0)) (.seq (.block 1 (.seq (.ops [q 13 (.mv (.t 11)),q 14 (.ia (.t 9) (.t 11) 2),q 15 (.ld (.t 14) 2),q 6 (.al [(.v (.int .i64 0)),(.v (.int .i64 0))]),q 5 (.mv (.t 13)),⟨none,none,.st (.t 6) (.t 15) 2⟩]) (.seq (.reg [0,0,0,6,15,0,32,0,224,480,1023] [q 16 (.ld (.t 2) 5),q 17 (.ld (.t 3) 6),q 18 (.ld (.t 6) 2),q 19 (.call 171 [(.t 17),(.t 18)]),q 20 (.call 170 [(.t 16),(.t 19)]),q 21 (.fa (.t 2) 4),q 22 (.ld (.t 21) 0),q 23 (.mv (.t 5)),q 24 (.ia (.t 22) (.t 23) 0),q 25 (.ld (.t 24) 0),q 26 (.bin .neq (.t 20) (.t 25))]) (.cond (.t 26) (.seq (.ops [q 4 (.mv (.c (.v (.bool false))))]) .ret) .skip)))) (.ops [q 27 (.bin .add (.t 11) (.c (.v (.int .i64 1)))),q 11 (.mv (.t 27))]))))))) (.seq (.ops [q 4 (.mv (.c (.v (.bool true))))]) .ret)))⟩
theorem k203 : cF Tryz.prog Tryz.f203 = some c203 := by kernel_rfl
def c205 : AF := ⟨1,5,[(2,none)],(.seq (.ops [q 2 (.mv (.c (.v (.str (.mk #[])))))]) (.seq (.ops [q 3 (.mv (.t 0)),q 4 (.call 257 [(.t 3),(.c (.v (.int .i64 10)))]),q 2 (.mv (.t 4))]) .ret))⟩
theorem k205 : cF Tryz.prog Tryz.f205 = some c205 := by kernel_rfl
def c207 : AF := ⟨1,14,[(2,none)],(.seq (.ops [q 1 (.box (.t 0)),q 2 (.mv (.c (.v (.int .i64 0))))]) (.seq (.ops [q 3 (.fa (.t 1) 0),q 4 (.ld (.t 3) 0),q 5 (.fa (.t 1) 3),q 6 (.ld (.t 5) 0),q 7 (.bin .mul (.t 4) (.t 6)),q 8 (.fa (.t 1) 1),q 9 (.ld (.t 8) 0),q 10 (.fa (.t 1) 2),q 11 (.ld (.t 10) 0),q 12 (.bin .mul (.t 9) (.t 11)),q 13 (.bin .sub (.t 7) (.t 12)),q 2 (.mv (.t 13))]) .ret))⟩
theorem k207 : cF Tryz.prog Tryz.f207 = some c207 := by kernel_rfl
def c212 : AF := ⟨2,14,[(4,(some 2))],(.seq (.ops [q 2 (.box (.t 0)),q 4 (.al [(.v (.int .i64 0)),(.v (.int .i64 0))])]) (.seq (.ops [q 5 (.mv (.t 1)),q 6 (.fa (.t 2) 0),q 7 (.ld (.t 6) 0),q 8 (.bin .mul (.t 5) (.t 7)),q 9 (.mv (.t 1)),q 10 (.fa (.t 2) 1),q 11 (.ld (.t 10) 0),q 12 (.bin .mul (.t 9) (.t 11)),q 13 (.bld [(.v (.int .i64 0)),(.v (.int .i64 0))] [(0,1,(.t 8)),(1,1,(.t 12))]),⟨none,none,.st (.t 4) (.t 13) 2⟩]) .ret))⟩
theorem k212 : cF Tryz.prog Tryz.f212 = some c212 := by kernel_rfl
def c215 : AF := ⟨2,16,[(4,none)],(.seq (.ops [q 3 (.box (.t 1)),q 4 (.mv (.c (.nil 4)))]) (.seq (.ops [q 8 (.ld (.t 3) 3),q 9 (.call 165 [(.t 8)]),q 7 (.mv (.t 9)),q 10 (.ext (.t 7) 0),q 11 (.ext (.t 7) 1),q 5 (.al [(.v (.int .i64 0)),(.v (.int .i64 0))]),q 6 (.al [(.v (.int .i64 0)),(.v (.int .i64 0))]),⟨none,none,.st (.t 5) (.t 10) 2⟩,⟨none,none,.st (.t 6) (.t 11) 2⟩]) (.seq (.ops [q 12 (.mv (.t 0)),q 13 (.call 163 [(.t 12)]),q 14 (.mkf 268 [(.t 3),(.t 5),(.t 6)]),q 15 (.call 267 [(.t 13),(.t 14)]),q 4 (.mv (.t 15))]) .ret)))⟩
theorem k215 : cF Tryz.prog Tryz.f215 = some c215 := by kernel_rfl
def c220 : AF := ⟨0,3,[(0,(some 6))],(.seq (.ops [q 0 (.al [(.v (.int .i64 0)),(.v (.int .i64 0)),(.v (.int .i64 0)),(.v (.int .i64 0)),(.v (.int .i64 0)),(.v (.int .i64 0))])]) (.seq (.ops [q 1 (.call 156 []),q 2 (.bld [(.v (.int .i64 0)),(.v (.int .i64 0)),(.v (.int .i64 0)),(.v (.int .i64 0)),(.v (.int .i64 0)),(.v (.int .i64 0))] [(0,4,(.t 1))]),⟨none,none,.st (.t 0) (.t 2) 6⟩]) .ret))⟩
theorem k220 : cF Tryz.prog Tryz.f220 = some c220 := by kernel_rfl
def c221 : AF := ⟨2,12,[(4,(some 6))],(.seq (.ops [q 2 (.box (.t 0)),q 3 (.box (.t 1)),q 4 (.al [(.v (.int .i64 0)),(.v (.int .i64 0)),(.v (.int .i64 0)),(.v (.int .i64 0)),(.v (.int .i64 0)),(.v (.int .i64 0))])]) (.seq (.reg [0,1,0,0,8,28,63,127] [q 5 (.fa (.t 3) 0),q 6 (.ld (.t 5) 4),q 7 (.ld (.t 2) 3),q 8 (.fa (.t 3) 4),q 9 (.ld (.t 8) 2),q 10 (.call 227 [(.t 7),(.t 9)]),q 11 (.bld [(.v (.int .i64 0)),(.v (.int .i64 0)),(.v (.int .i64 0)),(.v (.int .i64 0)),(.v (.int .i64 0)),(.v (.int .i64 0))] [(0,4,(.t 6)),(4,2,(.t 10))]),⟨none,none,.st (.t 4) (.t 11) 6⟩]) .ret))⟩
theorem k221 : cF Tryz.prog Tryz.f221 = some c221 := by kernel_rfl
def c225 : AF := ⟨1,12,[(2,none)],(.seq (.ops [q 1 (.box (.t 0)),q 2 (.mv (.c (.nil 2)))]) (.seq (.ops [q 3 (.fa (.t 1) 0),q 4 (.ld (.t 3) 0),q 5 (.bld [(.v (.int .i64 0)),(.v (.int .i64 0))] [(0,1,(.t 4))]),q 6 (.fa (.t 1) 1),q 7 (.ld (.t 6) 0),q 8 (.fa (.t 1) 2),q 9 (.ld (.t 8) 0),q 10 (.bld [(.v (.int .i64 0)),(.v (.int .i64 0))] [(0,1,(.t 7)),(1,1,(.t 9))]),q 11 (.bsl 2 75 [(.t 5),(.t 10)]),q 2 (.mv (.t 11))]) .ret))⟩
theorem k225 : cF Tryz.prog Tryz.f225 = some c225 := by kernel_rfl
def c226 : AF := ⟨1,74,[(2,(some 3))],(.seq (.ops [q 2 (.al [(.v (.int .i64 0)),(.v (.int .i64 0)),(.v (.int .i64 0))])]) (.seq (.ops [q 9 (.bld [(.v (.int .i64 0)),(.v (.int .i64 0))] []),q 3 (.al [(.v (.int .i64 0)),(.v (.int .i64 0))]),⟨none,none,.st (.t 3) (.t 9) 2⟩,q 4 (.mv (.c (.v (.int .i64 0))))]) (.seq (.seq (.ops [q 5 (.mv (.c (.v (.int .i64 0))))]) (.block 0 (.loop (.seq (.seq (.ops [q 10 (.mv (.t 5)),q 11 (.mv (.t 0)),q 12 (.len false (.t 11)),q 13 (.bin .lss (.t 10) (.t 12))]) (.cond (.t 13) .skip (.exit 0))) (.seq (.block 1 (.seq (.ops [q 16 (.mv (.t 0)),q 17 (.mv (.t 5)),q 18 (.ia (.t 16) (.t 17) 2),q 19 (.ld (.t 18) 2),q 6 (.al [(.v (.int .i64 0)),(.v (.int .i64 0))]),⟨none,none,.st (.t 6) (.t 19) 2⟩]) (.seq (.block 2 (.loop (.seq (.seq (.ops [q 20 (.fa (.t 6) 1),q 21 (.ld (.t 20) 0),q 22 (.bin .neq (.t 21) (.c (.v (.int .i64 0))))]) (.cond (.t 22) .skip (.exit 2))) (.block 3 (.seq (.ops [q 23 (.fa (.t 3) 1),q 24 (.ld (.t 23) 0),q 25 (.fa (.t 6) 1),q 26 (.ld (.t 25) 0),q 27 (.bin .quo (.t 24) (.t 26)),q 7 (.mv (.t 27))]) (.seq (.ops [q 28 (.fa (.t 3) 0),q 29 (.ld (.t 28) 0),q 30 (.mv (.t 7)),q 31 (.fa (.t 6) 0),q 32 (.ld (.t 31) 0),q 33 (.bin .mul (.t 30) (.t 32)),q 34 (.bin .sub (.t 29) (.t 33)),q 35 (.fa (.t 3) 1),q 36 (.ld (.t 35) 0),q 37 (.mv (.t 7)),q 38 (.fa (.t 6) 1),q 39 (.ld (.t 38) 0),q 40 (.bin .mul (.t 37) (.t 39)),q 41 (.bin .sub (.t 36) (.t 40)),q 42 (.bld [(.v (.int .i64 0)),(.v (.int .i64 0))] [(0,1,(.t 34)),(1,1,(.t 41))]),q 8 (.al [(.v (.int .i64 0)),(.v (.int .i64 0))]),⟨none,none,.st (.t 8) (.t 42) 2⟩]) (.seq (.ops [q 43 (.ld (.t 6) 2),⟨none,none,.st (.t 3) (.t 43) 2⟩]) (.ops [q 44 (.ld (.t 8) 2),⟨none,none,.st (.t 6) (.t 44) 2⟩])))))))) (.seq (.ops [q 45 (.mv (.t 4)),q 46 (.fa (.t 6) 0),q 47 (.ld (.t 46) 0),q 48 (.call 254 [(.t 45),(.t 47)]),q 4 (.mv (.t 48))]) (.seq (.ops [q 49 (.mv (.t 4)),q 50 (.bin .gtr (.t 49) (.c (.v (.int .i64 0))))]) (.cond (.t 50) (.ops [q 51 (.fa (.t 3) 0),q 52 (.ld (.t 51) 0),q 53 (.mv (.t 4)),q 54 (.call 255 [(.t 52),(.t 53)]),q 55 (.fa (.t 3) 0),⟨none,none,.st (.t 55) (.t 54) 0⟩]) .skip)))))) (.ops [q 14 (.mv (.t 5)),q 15 (.bin .add (.t 14) (.c (.v (.int .i64 1)))),q 5 (.mv (.t 15))])))))) (.seq (.seq (.ops [q 56 (.fa (.t 3) 1),q 57 (.ld (.t 56) 0),q 58 (.bin .lss (.t 57) (.c (.v (.int .i64 0))))]) (.cond (.t 58) (.ops [q 59 (.ld (.t 3) 2),q 60 (.call 252 [(.t 59),(.c (.v (.int .i64 (-1))))]),⟨none,none,.st (.t 3) (.t 60) 2⟩]) .skip)) (.seq (.seq (.ops [q 61 (.mv (.t 4)),q 62 (.bin .gtr (.t 61) (.c (.v (.int .i64 0))))]) (.cond (.t 62) (.ops [q 63 (.fa (.t 3) 0),q 64 (.ld (.t 63) 0),q 65 (.mv (.t 4)),q 66 (.call 255 [(.t 64),(.t 65)]),q 67 (.fa (.t 3) 0),⟨none,none,.st (.t 67) (.t 66) 0⟩]) .skip)) (.seq (.ops [q 68 (.mv (.t 4)),q 69 (.fa (.t 3) 0),q 70 (.ld (.t 69) 0),q 71 (.fa (.t 3) 1),q 72 (.ld (.t 71) 0),q 73 (.bld [(.v (.int .i64 0)),(.v (.int .i64 0)),(.v (.int .i64 0))] [(0,1,(.t 68)),(1,1,(.t 70)),(2,1,(.t 72))]),⟨none,none,.st (.t 2) (.t 73) 3⟩]) .ret))))))⟩
theorem k226 : cF Tryz.prog Tryz.f226 = some c226 := by kernel_rfl
def c227 : AF := ⟨2,31,[(4,(some 2))],(.seq (.ops [q 2 (.box (.t 0)),q 3 (.box (.t 1)),q 4 (.al [(.v (.int .i64 0)),(.v (.int .i64 0))])]) (.seq (.ops [q 7 (.fa (.t 3) 1),q 8 (.ld (.t 7) 0),q 9 (.fa (.t 2) 2),q 10 (.ld (.t 9) 0),q 11 (.call 255 [(.t 8),(.t 10)]),q 5 (.mv (.t 11))]) (.seq (.ops [q 12 (.fa (.t 3) 1),q 13 (.ld (.t 12) 0),q 14 (.mv (.t 5)),q 15 (.bin .sub (.t 13) (.t 14)),q 16 (.fa (.t 2) 2),q 17 (.ld (.t 16) 0),q 18 (.bin .quo (.t 15) (.t 17)),q 6 (.mv (.t 18))]) (.seq (.ops [q 19 (.fa (.t 3) 0),q 20 (.ld (.t 19) 0),q 21 (.mv (.t 6)),q 22 (.fa (.t 2) 1),q 23 (.ld (.t 22) 0),q 24 (.bin .mul (.t 21) (.t 23)),q 25 (.bin .sub (.t 20) (.t 24)),q 26 (.fa (.t 2) 0),q 27 (.ld (.t 26) 0),q 28 (.call 255 [(.t 25),(.t 27)]),q 29 (.mv (.t 5)),q 30 (.bld [(.v (.int .i64 0)),(.v (.int .i64 0))] [(0,1,(.t 28)),(1,1,(.t 29))]),⟨none,none,.st (.t 4) (.t 30) 2⟩]) .ret))))⟩
theorem k227 : cF Tryz.prog Tryz.f227 = some c227 := by kernel_rfl
def c228 : AF := ⟨2,16,[(4,(some 2))],(.seq (.ops [q 2 (.box (.t 0)),q 3 (.box (.t 1)),q 4 (.al [(.v (.int .i64 0)),(.v (.int .i64 0))])]) (.seq (.ops [q 5 (.fa (.t 2) 0),q 6 (.ld (.t 5) 0),q 7 (.fa (.t 3) 0),q 8 (.ld (.t 7) 0),q 9 (.bin .add (.t 6) (.t 8)),q 10 (.fa (.t 2) 1),q 11 (.ld (.t 10) 0),q 12 (.fa (.t 3) 1),q 13 (.ld (.t 12) 0),q 14 (.bin .add (.t 11) (.t 13)),q 15 (.bld [(.v (.int .i64 0)),(.v (.int .i64 0))] [(0,1,(.t 9)),(1,1,(.t 14))]),⟨none,none,.st (.t 4) (.t 15) 2⟩]) .ret))⟩
theorem k228 : cF Tryz.prog Tryz.f228 = some c228 := by kernel_rfl
def c229 : AF := ⟨2,20,[(4,none)],(.seq (.ops [q 4 (.mv (.c (.v (.int .i64 0))))]) (.seq (.ops [q 7 (.mv (.t 0)),q 8 (.call 281 [(.t 7)]),q 5 (.mv (.t 8))]) (.seq (.ops [q 9 (.mv (.t 1)),q 10 (.call 281 [(.t 9)]),q 6 (.mv (.t 10))]) (.seq (.seq (.ops [q 11 (.mv (.t 5))]) (.cond (.t 11) (.seq (.seq (.ops [q 12 (.mv (.t 6))]) (.cond (.t 12) (.seq (.ops [q 4 (.mv (.c (.v (.int .i64 0))))]) .ret) .skip)) (.seq (.ops [q 4 (.mv (.c (.v (.int .i64 (-1)))))]) .ret)) .skip)) (.seq (.seq (.ops [q 13 (.mv (.t 6))]) (.cond (.t 13) (.seq (.ops [q 4 (.mv (.c (.v (.int .i64 1))))]) .ret) .skip)) (.seq (.seq (.ops [q 14 (.mv (.t 0)),q 15 (.mv (.t 1)),q 16 (.bin .lss (.t 14) (.t 15))]) (.cond (.t 16) (.seq (.ops [q 4 (.mv (.c (.v (.int .i64 (-1)))))]) .ret) .skip)) (.seq (.seq (.ops [q 17 (.mv (.t 0)),q 18 (.mv (.t 1)),q 19 (.bin .gtr (.t 17) (.t 18))]) (.cond (.t 19) (.seq (.ops [q 4 (.mv (.c (.v (.int .i64 1))))]) .ret) .skip)) (.seq (.ops [q 4 (.mv (.c (.v (.int .i64 0))))]) .ret))))))))⟩
theorem k229 : cF Tryz.prog Tryz.f229 = some c229 := by kernel_rfl
def c230 : AF := ⟨2,19,[(4,none)],(.seq (.ops [q 3 (.box (.t 1)),q 4 (.mv (.c (.v (.int .i64 0))))]) (.seq (.seq (.ops [q 6 (.mv (.t 0)),q 7 (.len false (.t 6)),q 8 (.mv (.c (.v (.int .i64 0))))]) (.block 0 (.loop (.seq (.ops [q 9 (.bin .lss (.t 8) (.t 7))]) (.seq (.cond (.t 9) .skip (.exit 0)) (.seq (.block 1 (.seq (.ops [q 10 (.mv (.t 8)),q 5 (.mv (.t 10))]) (.seq (.reg [0,0,0,6,14,31] [q 11 (.ld (.t 3) 4),q 12 (.mv (.t 0)),q 13 (.mv (.t 5)),q 14 (.ia (.t 12) (.t 13) 4),q 15 (.ld (.t 14) 4),q 16 (.eq false 4 [1,1,1,1] (.t 11) (.t 15))]) (.cond (.t 16) (.seq (.ops [q 17 (.mv (.t 5)),q 4 (.mv (.t 17))]) .ret) .skip)))) (.ops [q 18 (.bin .add (.t 8) (.c (.v (.int .i64 1)))),q 8 (.mv (.t 18))]))))))) (.seq (.ops [q 4 (.mv (.c (.v (.int .i64 (-1)))))]) .ret)))⟩
theorem k230 : cF Tryz.prog Tryz.f230 = some c230 := by kernel_rfl
def c231 : AF := ⟨2,24,[(4,none)],(.seq (.ops [q 3 (.box (.t 1)),q 4 (.mv (.c (.v (.int .i64 0))))]) (.seq (.ops [q 5 (.fa (.t 3) 0),q 6 (.ld (.t 5) 0),q 7 (.fa (.t 3) 0),q 8 (.ld (.t 7) 0),q 9 (.bin .mul (.t 6) (.t 8)),q 10 (.mv (.t 0)),q 11 (.fa (.t 3) 0),q 12 (.ld (.t 11) 0),q 13 (.bin .mul (.t 10) (.t 12)),q 14 (.fa (.t 3) 1),q 15 (.ld (.t 14) 0),q 16 (.bin .mul (.t 13) (.t 15)),q 17 (.bin .add (.t 9) (.t 16)),q 18 (.fa (.t 3) 1),q 19 (.ld (.t 18) 0),q 20 (.fa (.t 3) 1),q 21 (.ld (.t 20) 0),q 22 (.bin .mul (.t 19) (.t 21)),q 23 (.bin .add (.t 17) (.t 22)),q 4 (.mv (.t 23))]) .ret))⟩
theorem k231 : cF Tryz.prog Tryz.f231 = some c231 := by kernel_rfl
def c232 : AF := ⟨2,16,[(4,(some 2))],(.seq (.ops [q 2 (.box (.t 0)),q 3 (.box (.t 1)),q 4 (.al [(.v (.int .i64 0)),(.v (.int .i64 0))])]) (.seq (.ops [q 5 (.fa (.t 2) 0),q 6 (.ld (.t 5) 0),q 7 (.fa (.t 3) 0),q 8 (.ld (.t 7) 0),q 9 (.bin .add (.t 6) (.t 8)),q 10 (.fa (.t 2) 1),q 11 (.ld (.t 10) 0),q 12 (.fa (.t 3) 1),q 13 (.ld (.t 12) 0),q 14 (.bin .add (.t 11) (.t 13)),q 15 (.bld [(.v (.int .i64 0)),(.v (.int .i64 0))] [(0,1,(.t 9)),(1,1,(.t 14))]),⟨none,none,.st (.t 4) (.t 15) 2⟩]) .ret))⟩
theorem k232 : cF Tryz.prog Tryz.f232 = some c232 := by kernel_rfl
def c233 : AF := ⟨2,15,[(4,none)],(.seq (.ops [q 4 (.mv (.c (.v (.int .i64 0))))]) (.seq (.block 0 (.loop (.seq (.seq (.ops [q 5 (.mv (.t 1)),q 6 (.bin .neq (.t 5) (.c (.v (.int .i64 0))))]) (.cond (.t 6) .skip (.exit 0))) (.block 1 (.reg [0,0,0,6,3,31] [q 7 (.mv (.t 1)),q 8 (.mv (.t 0)),q 9 (.mv (.t 1)),q 10 (.bin .rem (.t 8) (.t 9)),q 0 (.mv (.t 7)),q 1 (.mv (.t 10))]))))) (.seq (.ops [q 11 (.mv (.t 0)),q 12 (.mv (.t 0)),q 13 (.un .neg (.t 12)),q 14 (.mm true (.t 11) (.t 13)),q 4 (.mv (.t 14))]) .ret)))⟩
theorem k233 : cF Tryz.prog Tryz.f233 = some c233 := by kernel_rfl
def c234 : AF := ⟨2,12,[(4,none)],(.seq (.ops [q 4 (.mv (.c (.v (.int .i64 0))))]) (.seq (.ops [q 5 (.mv (.t 0)),q 6 (.mv (.t 1)),q 7 (.bin .rem (.t 5) (.t 6)),q 8 (.mv (.t 1)),q 9 (.bin .add (.t 7) (.t 8)),q 10 (.mv (.t 1)),q 11 (.bin .rem (.t 9) (.t 10)),q 4 (.mv (.t 11))]) .ret))⟩
theorem k234 : cF Tryz.prog Tryz.f234 = some c234 := by kernel_rfl
def c235 : AF := ⟨1,25,[(2,(some 4))],(.seq (.ops [q 1 (.box (.t 0)),q 2 (.al [(.v (.int .i64 0)),(.v (.int .i64 0)),(.v (.int .i64 0)),(.v (.int .i64 0))])]) (.seq (.ops [q 4 (.ld (.t 1) 4),q 5 (.call 207 [(.t 4)]),q 3 (.mv (.t 5))]) (.seq (.ops [q 6 (.mv (.t 3)),q 7 (.fa (.t 1) 3),q 8 (.ld (.t 7) 0),q 9 (.bin .mul (.t 6) (.t 8)),q 10 (.mv (.t 3)),q 11 (.un .neg (.t 10)),q 12 (.fa (.t 1) 1),q 13 (.ld (.t 12) 0),q 14 (.bin .mul (.t 11) (.t 13)),q 15 (.mv (.t 3)),q 16 (.un .neg (.t 15)),q 17 (.fa (.t 1) 2),q 18 (.ld (.t 17) 0),q 19 (.bin .mul (.t 16) (.t 18)),q 20 (.mv (.t 3)),q 21 (.fa (.t 1) 0),q 22 (.ld (.t 21) 0),q 23 (.bin .mul (.t 20) (.t 22)),q 24 (.bld [(.v (.int .i64 0)),(.v (.int .i64 0)),(.v (.int .i64 0)),(.v (.int .i64 0))] [(0,1,(.t 9)),(1,1,(.t 14)),(2,1,(.t 19)),(3,1,(.t 23))]),⟨none,none,.st (.t 2) (.t 24) 4⟩]) .ret)))⟩
theorem k235 : cF Tryz.prog Tryz.f235 = some c235 := by kernel_rfl
def c236 : AF := ⟨2,13,[(4,none)],(.seq (.ops [q 2 (.box (.t 0)),q 3 (.box (.t 1)),q 4 (.mv (.c (.v (.int .i64 0))))]) (.seq (.ops [q 5 (.fa (.t 3) 0),q 6 (.ld (.t 5) 0),q 7 (.fa (.t 2) 2),q 8 (.ld (.t 7) 0),q 9 (.bin .mul (.t 6) (.t 8)),q 10 (.fa (.t 3) 1),q 11 (.ld (.t 10) 0),q 12 (.bin .add (.t 9) (.t 11)),q 4 (.mv (.t 12))]) .ret))⟩
theorem k236 : cF Tryz.prog Tryz.f236 = some c236 := by kernel_rfl
def c237 : AF := ⟨2,29,[(4,(some 2))],(.seq (.ops [q 2 (.box (.t 0)),q 3 (.box (.t 1)),q 4 (.al [(.v (.int .i64 0)),(.v (.int .i64 0))])]) (.seq (.ops [q 6 (.fa (.t 3) 1),q 7 (.ld (.t 6) 0),q 8 (.fa (.t 2) 2),q 9 (.ld (.t 8) 0),q 10 (.call 234 [(.t 7),(.t 9)]),q 5 (.mv (.t 10))]) (.seq (.reg [0,1,0,4,0,28,0,64,252,0,512,2044,4095,0,8192,32767,0,131071,262143] [q 11 (.fa (.t 3) 0),q 12 (.ld (.t 11) 0),q 13 (.fa (.t 3) 1),q 14 (.ld (.t 13) 0),q 15 (.mv (.t 5)),q 16 (.bin .sub (.t 14) (.t 15)),q 17 (.fa (.t 2) 2),q 18 (.ld (.t 17) 0),q 19 (.bin .quo (.t 16) (.t 18)),q 20 (.fa (.t 2) 1),q 21 (.ld (.t 20) 0),q 22 (.bin .mul (.t 19) (.t 21)),q 23 (.bin .sub (.t 12) (.t 22)),q 24 (.fa (.t 2) 0),q 25 (.ld (.t 24) 0),q 26 (.call 234 [(.t 23),(.t 25)]),q 27 (.mv (.t 5)),q 28 (.bld [(.v (.int .i64 0)),(.v (.int .i64 0))] [(0,1,(.t 26)),(1,1,(.t 27))]),⟨none,none,.st (.t 4) (.t 28) 2⟩]) .ret)))⟩
theorem k237 : cF Tryz.prog Tryz.f237 = some c237 := by kernel_rfl
def c238 : AF := ⟨2,13,[(4,none)],(.seq (.ops [q 2 (.box (.t 0)),q 3 (.box (.t 1)),q 4 (.mv (.c (.v (.int .i64 0))))]) (.seq (.reg [0,1,0,4,0,28,63,127,255] [q 5 (.fa (.t 2) 4),q 6 (.ld (.t 5) 0),q 7 (.fa (.t 2) 1),q 8 (.ld (.t 7) 3),q 9 (.ld (.t 3) 2),q 10 (.call 153 [(.t 8),(.t 9)]),q 11 (.ia (.t 6) (.t 10) 0),q 12 (.ld (.t 11) 0),q 4 (.mv (.t 12))]) .ret))⟩
theorem k238 : cF Tryz.prog Tryz.f238 = some c238 := by kernel_rfl
def c239 : AF := ⟨2,19,[(4,none)],(.seq (.ops [q 4 (.mv (.c (.v (.int .i64 0))))]) (.seq (.seq (.ops [q 6 (.mv (.t 0)),q 7 (.len false (.t 6)),q 8 (.mv (.c (.v (.int .i64 0))))]) (.block 0 (.loop (.seq (.ops [q 9 (.bin .lss (.t 8) (.t 7))]) (.seq (.cond (.t 9) .skip (.exit 0)) (.seq (.block 1 (.seq (.ops [q 10 (.mv (.t 8)),q 5 (.mv (.t 10))]) (.seq (.ops [q 11 (.mv (.t 1)),q 12 (.mv (.t 0)),q 13 (.mv (.t 5)),q 14 (.ia (.t 12) (.t 13) 0),q 15 (.ld (.t 14) 0),q 16 (.callv (.t 11) [(.t 15)])]) (.cond (.t 16) (.seq (.ops [q 17 (.mv (.t 5)),q 4 (.mv (.t 17))]) .ret) .skip)))) (.ops [q 18 (.bin .add (.t 8) (.c (.v (.int .i64 1)))),q 8 (.mv (.t 18))]))))))) (.seq (.ops [q 4 (.mv (.c (.v (.int .i64 (-1)))))]) .ret)))⟩
theorem k239 : cF Tryz.prog Tryz.f239 = some c239 := by kernel_rfl
def c245 : AF := ⟨1,20,[(2,none)],(.seq (.ops [q 2 (.mv (.c (.v (.str (.mk #[])))))]) (.seq (.seq (.ops [q 3 (.mv (.t 0)),q 4 (.bin .lss (.t 3) (.c (.v (.int .i64 10))))]) (.cond (.t 4) (.seq (.ops [q 5 (.mv (.t 0)),q 6 (.bin .add (.c (.v (.int .i64 48))) (.t 5)),q 7 (.conv .u8 (.t 6)),q 8 (.bsl 0 5 [(.t 7)]),q 9 (.b2s (.t 8)),q 2 (.mv (.t 9))]) .ret) .skip)) (.seq (.reg [0,1,3,0,8,24,56,120,248,511,1023] [q 10 (.mv (.t 0)),q 11 (.bin .quo (.t 10) (.c (.v (.int .i64 10)))),q 12 (.call 245 [(.t 11)]),q 13 (.mv (.t 0)),q 14 (.bin .rem (.t 13) (.c (.v (.int .i64 10)))),q 15 (.bin .add (.c (.v (.int .i64 48))) (.t 14)),q 16 (.conv .u8 (.t 15)),q 17 (.bsl 0 5 [(.t 16)]),q 18 (.b2s (.t 17)),q 19 (.bin .add (.t 12) (.t 18)),q 2 (.mv (.t 19))]) .ret)))⟩
theorem k245 : cF Tryz.prog Tryz.f245 = some c245 := by kernel_rfl
def c246 : AF := ⟨2,24,[(4,none)],(.seq (.ops [q 4 (.mv (.c (.v (.str (.mk #[])))))]) (.seq (.ops [q 8 (.bsl 0 9 []),q 5 (.mv (.t 8))]) (.seq (.seq (.ops [q 9 (.mv (.t 1)),q 10 (.len false (.t 9)),q 11 (.mv (.c (.v (.int .i64 0))))]) (.block 0 (.loop (.seq (.ops [q 12 (.bin .lss (.t 11) (.t 10))]) (.seq (.cond (.t 12) .skip (.exit 0)) (.seq (.block 1 (.seq (.ops [q 13 (.ia (.t 9) (.t 11) 0),q 14 (.ld (.t 13) 0),q 7 (.mv (.t 14))]) (.ops [q 15 (.mv (.t 5)),q 16 (.mv (.t 7)),q 17 (.call 205 [(.t 16)]),q 18 (.bsl 0 9 [(.t 17)]),q 19 (.app 0 9 16 (.t 15) (.t 18)),q 5 (.mv (.t 19))]))) (.ops [q 20 (.bin .add (.t 11) (.c (.v (.int .i64 1)))),q 11 (.mv (.t 20))]))))))) (.seq (.ops [q 21 (.mv (.t 5)),q 22 (.mv (.t 0)),q 23 (.call 285 [(.t 21),(.t 22)]),q 4 (.mv (.t 23))]) .ret))))⟩
theorem k246 : cF Tryz.prog Tryz.f246 = some c246 := by kernel_rfl
def c247 : AF := ⟨2,50,[(4,(some 4))],(.seq (.ops [q 2 (.box (.t 0)),q 3 (.box (.t 1)),q 4 (.al [(.v (.int .i64 0)),(.v (.int .i64 0)),(.v (.int .i64 0)),(.v (.int .i64 0))])]) (.seq (.ops [q 5 (.fa (.t 2) 0),q 6 (.ld (.t 5) 0),q 7 (.fa (.t 3) 0),q 8 (.ld (.t 7) 0),q 9 (.bin .mul (.t 6) (.t 8)),q 10 (.fa (.t 2) 1),q 11 (.ld (.t 10) 0),q 12 (.fa (.t 3) 2),q 13 (.ld (.t 12) 0),q 14 (.bin .mul (.t 11) (.t 13)),q 15 (.bin .add (.t 9) (.t 14)),q 16 (.fa (.t 2) 0),q 17 (.ld (.t 16) 0),q 18 (.fa (.t 3) 1),q 19 (.ld (.t 18) 0),q 20 (.bin .mul (.t 17) (.t 19)),q 21 (.fa (.t 2) 1),q 22 (.ld (.t 21) 0),q 23 (.fa (.t 3) 3),q 24 (.ld (.t 23) 0),q 25 (.bin .mul (.t 22) (.t 24)),q 26 (.bin .add (.t 20) (.t 25)),q 27 (.fa (.t 2) 2),q 28 (.ld (.t 27) 0),q 29 (.fa (.t 3) 0),q 30 (.ld (.t 29) 0),q 31 (.bin .mul (.t 28) (.t 30)),q 32 (.fa (.t 2) 3),q 33 (.ld (.t 32) 0),q 34 (.fa (.t 3) 2),q 35 (.ld (.t 34) 0),q 36 (.bin .mul (.t 33) (.t 35)),q 37 (.bin .add (.t 31) (.t 36)),q 38 (.fa (.t 2) 2),q 39 (.ld (.t 38) 0),q 40 (.fa (.t 3) 1),q 41 (.ld (.t 40) 0),q 42 (.bin .mul (.t 39) (.t 41)),q 43 (.fa (.t 2) 3),q 44 (.ld (.t 43) 0),q 45 (.fa (.t 3) 3),q 46 (.ld (.t 45) 0),q 47 (.bin .mul (.t 44) (.t 46)),q 48 (.bin .add (.t 42) (.t 47)),q 49 (.bld [(.v (.int .i64 0)),(.v (.int .i64 0)),(.v (.int .i64 0)),(.v (.int .i64 0))] [(0,1,(.t 15)),(1,1,(.t 26)),(2,1,(.t 37)),(3,1,(.t 48))]),⟨none,none,.st (.t 4) (.t 49) 4⟩]) .ret))⟩
theorem k247 : cF Tryz.prog Tryz.f247 = some c247 := by kernel_rfl
def c248 : AF := ⟨1,17,[(2,none)],(.seq (.ops [q 1 (.box (.t 0)),q 2 (.mv (.c (.v (.bool false))))]) (.seq (.ops [q 3 (.fa (.t 1) 0),q 4 (.ld (.t 3) 0),q 5 (.fa (.t 1) 1),q 6 (.ld (.t 5) 0),q 7 (.bld [(.v (.int .i64 0)),(.v (.int .i64 0))] [(0,1,(.t 4)),(1,1,(.t 6))]),q 8 (.call 286 [(.t 7)]),q 9 (.mv (.t 8)),⟨(some 10),(some (9,true)),.fa (.t 1) 2⟩,⟨(some 11),(some (9,true)),.ld (.t 10) 0⟩,⟨(some 12),(some (9,true)),.fa (.t 1) 3⟩,⟨(some 13),(some (9,true)),.ld (.t 12) 0⟩,⟨(some 14),(some (9,true)),.bld [(.v (.int .i64 0)),(.v (.int .i64 0))] [(0,1,(.t 11)),(1,1,(.t 13))]⟩,⟨(some 15),(some (9,true)),.call 286 [(.t 14)]⟩,q 16 (.pick (.t 9) (.t 15) (.c (.v (.bool false)))),q 2 (.mv (.t 16))]) .ret))⟩
theorem k248 : cF Tryz.prog Tryz.f248 = some c248 := by kernel_rfl
def c252 : AF := ⟨2,14,[(4,(some 2))],(.seq (.ops [q 2 (.box (.t 0)),q 4 (.al [(.v (.int .i64 0)),(.v (.int .i64 0))])]) (.seq (.ops [q 5 (.mv (.t 1)),q 6 (.fa (.t 2) 0),q 7 (.ld (.t 6) 0),q 8 (.bin .mul (.t 5) (.t 7)),q 9 (.mv (.t 1)),q 10 (.fa (.t 2) 1),q 11 (.ld (.t 10) 0),q 12 (.bin .mul (.t 9) (.t 11)),q 13 (.bld [(.v (.int .i64 0)),(.v (.int .i64 0))] [(0,1,(.t 8)),(1,1,(.t 12))]),⟨none,none,.st (.t 4) (.t 13) 2⟩]) .ret))⟩
theorem k252 : cF Tryz.prog Tryz.f252 = some c252 := by kernel_rfl
def c254 : AF := ⟨2,16,[(4,none)],(.seq (.ops [q 4 (.mv (.c (.v (.int .i64 0))))]) (.seq (.seq (.ops [q 5 (.mv (.t 1)),q 6 (.bin .eql (.t 5) (.c (.v (.int .i64 0))))]) (.cond (.t 6) (.seq (.ops [q 7 (.mv (.t 0)),q 8 (.mv (.t 0)),q 9 (.un .neg (.t 8)),q 10 (.mm true (.t 7) (.t 9)),q 4 (.mv (.t 10))]) .ret) .skip)) (.seq (.ops [q 11 (.mv (.t 1)),q 12 (.mv (.t 0)),q 13 (.mv (.t 1)),q 14 (.bin .rem (.t 12) (.t 13)),q 15 (.call 254 [(.t 11),(.t 14)]),q 4 (.mv (.t 15))]) .ret)))⟩
theorem k254 : cF Tryz.prog Tryz.f254 = some c254 := by kernel_rfl
def c255 : AF := ⟨2,14,[(4,none)],(.seq (.ops [q 4 (.mv (.c (.v (.int .i64 0))))]) (.seq (.ops [q 5 (.mv (.t 0)),q 6 (.mv (.t 1)),q 7 (.bin .rem (.t 5) (.t 6)),q 0 (.mv (.t 7))]) (.seq (.seq (.ops [q 8 (.mv (.t 0)),q 9 (.bin .lss (.t 8) (.c (.v (.int .i64 0))))]) (.cond (.t 9) (.ops [q 10 (.mv (.t 0)),q 11 (.mv (.t 1)),q 12 (.bin .add (.t 10) (.t 11)),q 0 (.mv (.t 12))]) .skip)) (.seq (.ops [q 13 (.mv (.t 0)),q 4 (.mv (.t 13))]) .ret))))⟩
theorem k255 : cF Tryz.prog Tryz.f255 = some c255 := by kernel_rfl
def c259 : AF := ⟨2,10,[(4,none)],(.seq (.ops [q 2 (.box (.t 0)),q 3 (.box (.t 1)),q 4 (.mv (.c (.v (.bool false))))]) (.seq (.ops [q 5 (.ld (.t 2) 3),q 6 (.ld (.t 3) 2),q 7 (.call 237 [(.t 5),(.t 6)]),q 8 (.bld [(.v (.int .i64 0)),(.v (.int .i64 0))] []),q 9 (.eq false 2 [1,1] (.t 7) (.t 8)),q 4 (.mv (.t 9))]) .ret))⟩
theorem k259 : cF Tryz.prog Tryz.f259 = some c259 := by kernel_rfl
def c267 : AF := ⟨2,42,[(4,none)],(.seq (.ops [q 4 (.mv (.c (.nil 4)))]) (.seq (.ops [q 8 (.mv (.t 0)),q 9 (.mv (.t 1)),q 10 (.call 292 [(.t 8),(.t 9)]),q 5 (.mv (.t 10))]) (.seq (.seq (.ops [q 11 (.mv (.t 5)),q 12 (.bin .eql (.t 11) (.c (.v (.int .i64 (-1)))))]) (.cond (.t 12) (.seq (.ops [q 13 (.mv (.t 0)),q 4 (.mv (.t 13))]) .ret) .skip)) (.seq (.seq (.ops [q 14 (.mv (.t 5)),q 15 (.bin .add (.t 14) (.c (.v (.int .i64 1)))),q 6 (.mv (.t 15))]) (.block 0 (.loop (.seq (.seq (.ops [q 16 (.mv (.t 6)),q 17 (.mv (.t 0)),q 18 (.len false (.t 17)),q 19 (.bin .lss (.t 16) (.t 18))]) (.cond (.t 19) .skip (.exit 0))) (.seq (.block 1 (.seq (.ops [q 22 (.mv (.t 0)),q 23 (.mv (.t 6)),q 24 (.ia (.t 22) (.t 23) 4),q 25 (.ld (.t 24) 4),q 7 (.al [(.v (.int .i64 0)),(.v (.int .i64 0)),(.v (.int .i64 0)),(.v (.int .i64 0))]),⟨none,none,.st (.t 7) (.t 25) 4⟩]) (.seq (.ops [q 26 (.mv (.t 1)),q 27 (.ld (.t 7) 4),q 28 (.callv (.t 26) [(.t 27)]),q 29 (.un .not (.t 28))]) (.cond (.t 29) (.seq (.ops [q 30 (.mv (.t 0)),q 31 (.mv (.t 5)),q 32 (.ld (.t 7) 4),q 33 (.ia (.t 30) (.t 31) 4),⟨none,none,.st (.t 33) (.t 32) 4⟩]) (.ops [q 34 (.mv (.t 5)),q 35 (.bin .add (.t 34) (.c (.v (.int .i64 1)))),q 5 (.mv (.t 35))])) .skip)))) (.ops [q 20 (.mv (.t 6)),q 21 (.bin .add (.t 20) (.c (.v (.int .i64 1)))),q 6 (.mv (.t 21))])))))) (.seq (.ops [q 36 (.mv (.t 0)),q 37 (.mv (.t 5)),q 38 (.sub 4 (.t 36) (some (.t 37)) none),⟨none,none,.clr 4 (.ag [(.int .i64 0),(.int .i64 0),(.int .i64 0),(.int .i64 0)]) (.t 38)⟩]) (.seq (.ops [q 39 (.mv (.t 0)),q 40 (.mv (.t 5)),q 41 (.sub 4 (.t 39) none (some (.t 40))),q 4 (.mv (.t 41))]) .ret))))))⟩
theorem k267 : cF Tryz.prog Tryz.f267 = some c267 := by kernel_rfl
def c268 : AF := ⟨1,20,[(5,none)],(.seq (.ops [q 4 (.box (.t 0)),q 5 (.mv (.c (.v (.bool false))))]) (.seq (.reg [0,0,0,6,15,31,63,127,127,127,895,2047,4095,8191,16383] [q 6 (.ld (.t 1) 3),q 7 (.ld (.t 4) 4),q 8 (.ld (.t 2) 2),q 9 (.call 167 [(.t 7),(.t 8)]),q 10 (.call 259 [(.t 6),(.t 9)]),q 11 (.un .not (.t 10)),q 12 (.mv (.t 11)),⟨(some 13),(some (12,false)),.ld (.t 1) 3⟩,⟨(some 14),(some (12,false)),.ld (.t 4) 4⟩,⟨(some 15),(some (12,false)),.ld (.t 3) 2⟩,⟨(some 16),(some (12,false)),.call 167 [(.t 14),(.t 15)]⟩,⟨(some 17),(some (12,false)),.call 259 [(.t 13),(.t 16)]⟩,⟨(some 18),(some (12,false)),.un .not (.t 17)⟩,q 19 (.pick (.t 12) (.c (.v (.bool true))) (.t 18)),q 5 (.mv (.t 19))]) .ret))⟩
theorem k268 : cF Tryz.prog Tryz.f268 = some c268 := by kernel_rfl
def c277 : AF := ⟨2,19,[(4,(some 6))],(.seq (.ops [q 2 (.box (.t 0)),q 3 (.box (.t 1)),q 4 (.al [(.v (.int .i64 0)),(.v (.int .i64 0)),(.v (.int .i64 0)),(.v (.int .i64 0)),(.v (.int .i64 0)),(.v (.int .i64 0))])]) (.seq (.reg [0,1,0,4,15,0,32,0,128,511,0,1024,4095,8191,16383] [q 5 (.fa (.t 2) 0),q 6 (.ld (.t 5) 4),q 7 (.fa (.t 3) 0),q 8 (.ld (.t 7) 4),q 9 (.call 247 [(.t 6),(.t 8)]),q 10 (.fa (.t 2) 0),q 11 (.ld (.t 10) 4),q 12 (.fa (.t 3) 4),q 13 (.ld (.t 12) 2),q 14 (.call 120 [(.t 11),(.t 13)]),q 15 (.fa (.t 2) 4),q 16 (.ld (.t 15) 2),q 17 (.call 228 [(.t 14),(.t 16)]),q 18 (.bld [(.v (.int .i64 0)),(.v (.int .i64 0)),(.v (.int .i64 0)),(.v (.int .i64 0)),(.v (.int .i64 0)),(.v (.int .i64 0))] [(0,4,(.t 9)),(4,2,(.t 17))]),⟨none,none,.st (.t 4) (.t 18) 6⟩]) .ret))⟩
theorem k277 : cF Tryz.prog Tryz.f277 = some c277 := by kernel_rfl
def c278 : AF := ⟨2,21,[(4,none)],(.seq (.ops [q 3 (.box (.t 1)),q 4 (.mv (.c (.v (.bool false))))]) (.seq (.ops [q 6 (.mv (.t 0)),q 7 (.ld (.t 3) 6),q 8 (.call 299 [(.t 6),(.t 7)]),q 5 (.mv (.t 8))]) (.seq (.reg [0,0,2,7,15,31,31,127,255,31,1023,2047,4095] [q 9 (.mv (.t 5)),q 10 (.mv (.t 0)),q 11 (.len false (.t 10)),q 12 (.bin .lss (.t 9) (.t 11)),q 13 (.mv (.t 12)),⟨(some 14),(some (13,true)),.mv (.t 0)⟩,⟨(some 15),(some (13,true)),.mv (.t 5)⟩,⟨(some 16),(some (13,true)),.ia (.t 14) (.t 15) 6⟩,⟨(some 17),(some (13,true)),.ld (.t 16) 6⟩,⟨(some 18),(some (13,true)),.ld (.t 3) 6⟩,⟨(some 19),(some (13,true)),.eq false 6 [1,1,1,1,1,1] (.t 17) (.t 18)⟩,q 20 (.pick (.t 13) (.t 19) (.c (.v (.bool false)))),q 4 (.mv (.t 20))]) .ret)))⟩
theorem k278 : cF Tryz.prog Tryz.f278 = some c278 := by kernel_rfl
def c281 : AF := ⟨1,6,[(2,none)],(.seq (.ops [q 2 (.mv (.c (.v (.bool false))))]) (.seq (.ops [q 3 (.mv (.t 0)),q 4 (.mv (.t 0)),q 5 (.bin .neq (.t 3) (.t 4)),q 2 (.mv (.t 5))]) .ret))⟩
theorem k281 : cF Tryz.prog Tryz.f281 = some c281 := by kernel_rfl
def c286 : AF := ⟨1,11,[(2,none)],(.seq (.ops [q 1 (.box (.t 0)),q 2 (.mv (.c (.v (.bool false))))]) (.seq (.ops [q 3 (.fa (.t 1) 0),q 4 (.ld (.t 3) 0),q 5 (.call 173 [(.t 4),(.c (.v (.int .i64 (-1000)))),(.c (.v (.int .i64 1000)))]),q 6 (.mv (.t 5)),⟨(some 7),(some (6,true)),.fa (.t 1) 1⟩,⟨(some 8),(some (6,true)),.ld (.t 7) 0⟩,⟨(some 9),(some (6,true)),.call 173 [(.t 8),(.c (.v (.int .i64 (-1000)))),(.c (.v (.int .i64 1000)))]⟩,q 10 (.pick (.t 6) (.t 9) (.c (.v (.bool false)))),q 2 (.mv (.t 10))]) .ret))⟩
theorem k286 : cF Tryz.prog Tryz.f286 = some c286 := by kernel_rfl
def c287 : AF := ⟨2,24,[(4,none)],(.seq (.ops [q 2 (.box (.t 0)),q 3 (.box (.t 1)),q 4 (.mv (.c (.v (.bool false))))]) (.seq (.ops [q 5 (.fa (.t 2) 0),q 6 (.ld (.t 5) 0),q 7 (.fa (.t 3) 0),q 8 (.ld (.t 7) 0),q 9 (.bin .lss (.t 6) (.t 8)),q 10 (.mv (.t 9)),⟨(some 11),(some (10,false)),.fa (.t 2) 0⟩,⟨(some 12),(some (10,false)),.ld (.t 11) 0⟩,⟨(some 13),(some (10,false)),.fa (.t 3) 0⟩,⟨(some 14),(some (10,false)),.ld (.t 13) 0⟩,⟨(some 15),(some (10,false)),.bin .eql (.t 12) (.t 14)⟩,⟨(some 16),(some (10,false)),.mv (.t 15)⟩,⟨(some 17),(some (16,true)),.fa (.t 2) 1⟩,⟨(some 18),(some (16,true)),.ld (.t 17) 0⟩,⟨(some 19),(some (16,true)),.fa (.t 3) 1⟩,⟨(some 20),(some (16,true)),.ld (.t 19) 0⟩,⟨(some 21),(some (16,true)),.bin .lss (.t 18) (.t 20)⟩,⟨(some 22),(some (10,false)),.pick (.t 16) (.t 21) (.c (.v (.bool false)))⟩,q 23 (.pick (.t 10) (.c (.v (.bool true))) (.t 22)),q 4 (.mv (.t 23))]) .ret))⟩
theorem k287 : cF Tryz.prog Tryz.f287 = some c287 := by kernel_rfl
def c290 : AF := ⟨2,16,[(4,none)],(.seq (.ops [q 2 (.box (.t 0)),q 3 (.box (.t 1)),q 4 (.mv (.c (.v (.int .i64 0))))]) (.seq (.ops [q 5 (.fa (.t 2) 0),q 6 (.ld (.t 5) 0),q 7 (.fa (.t 2) 1),q 8 (.ld (.t 7) 0),q 9 (.bsl 0 2 [(.t 6),(.t 8)]),q 10 (.fa (.t 3) 0),q 11 (.ld (.t 10) 0),q 12 (.fa (.t 3) 1),q 13 (.ld (.t 12) 0),q 14 (.bsl 0 2 [(.t 11),(.t 13)]),q 15 (.call 158 [(.t 9),(.t 14)]),q 4 (.mv (.t 15))]) .ret))⟩
theorem k290 : cF Tryz.prog Tryz.f290 = some c290 := by kernel_rfl
def c292 : AF := ⟨2,19,[(4,none)],(.seq (.ops [q 4 (.mv (.c (.v (.int .i64 0))))]) (.seq (.seq (.ops [q 6 (.mv (.t 0)),q 7 (.len false (.t 6)),q 8 (.mv (.c (.v (.int .i64 0))))]) (.block 0 (.loop (.seq (.ops [q 9 (.bin .lss (.t 8) (.t 7))]) (.seq (.cond (.t 9) .skip (.exit 0)) (.seq (.block 1 (.seq (.ops [q 10 (.mv (.t 8)),q 5 (.mv (.t 10))]) (.seq (.ops [q 11 (.mv (.t 1)),q 12 (.mv (.t 0)),q 13 (.mv (.t 5)),q 14 (.ia (.t 12) (.t 13) 4),q 15 (.ld (.t 14) 4),q 16 (.callv (.t 11) [(.t 15)])]) (.cond (.t 16) (.seq (.ops [q 17 (.mv (.t 5)),q 4 (.mv (.t 17))]) .ret) .skip)))) (.ops [q 18 (.bin .add (.t 8) (.c (.v (.int .i64 1)))),q 8 (.mv (.t 18))]))))))) (.seq (.ops [q 4 (.mv (.c (.v (.int .i64 (-1)))))]) .ret)))⟩
theorem k292 : cF Tryz.prog Tryz.f292 = some c292 := by kernel_rfl
def c299 : AF := ⟨2,27,[(4,none)],(.seq (.ops [q 3 (.box (.t 1)),q 4 (.mv (.c (.v (.int .i64 0))))]) (.seq (.ops [q 8 (.mv (.t 0)),q 9 (.len false (.t 8)),q 5 (.mv (.c (.v (.int .i64 0)))),q 6 (.mv (.t 9))]) (.seq (.block 0 (.loop (.seq (.seq (.ops [q 10 (.mv (.t 5)),q 11 (.mv (.t 6)),q 12 (.bin .lss (.t 10) (.t 11))]) (.cond (.t 12) .skip (.exit 0))) (.block 1 (.seq (.ops [q 13 (.mv (.t 5)),q 14 (.mv (.t 6)),q 15 (.bin .add (.t 13) (.t 14)),q 16 (.bin .quo (.t 15) (.c (.v (.int .i64 2)))),q 7 (.mv (.t 16))]) (.seq (.reg [0,0,3,7,0,31] [q 17 (.mv (.t 0)),q 18 (.mv (.t 7)),q 19 (.ia (.t 17) (.t 18) 6),q 20 (.ld (.t 19) 6),q 21 (.ld (.t 3) 6),q 22 (.call 313 [(.t 20),(.t 21)])]) (.cond (.t 22) (.ops [q 23 (.mv (.t 7)),q 24 (.bin .add (.t 23) (.c (.v (.int .i64 1)))),q 5 (.mv (.t 24))]) (.ops [q 25 (.mv (.t 7)),q 6 (.mv (.t 25))])))))))) (.seq (.ops [q 26 (.mv (.t 5)),q 4 (.mv (.t 26))]) .ret))))⟩
theorem k299 : cF Tryz.prog Tryz.f299 = some c299 := by kernel_rfl
def c313 : AF := ⟨2,20,[(4,none)],(.seq (.ops [q 2 (.box (.t 0)),q 3 (.box (.t 1)),q 4 (.mv (.c (.v (.bool false))))]) (.seq (.seq (.ops [q 5 (.fa (.t 2) 0),q 6 (.ld (.t 5) 4),q 7 (.fa (.t 3) 0),q 8 (.ld (.t 7) 4),q 9 (.eq true 4 [1,1,1,1] (.t 6) (.t 8))]) (.cond (.t 9) (.seq (.ops [q 10 (.fa (.t 2) 0),q 11 (.ld (.t 10) 4),q 12 (.fa (.t 3) 0),q 13 (.ld (.t 12) 4),q 14 (.call 328 [(.t 11),(.t 13)]),q 4 (.mv (.t 14))]) .ret) .skip)) (.seq (.ops [q 15 (.fa (.t 2) 4),q 16 (.ld (.t 15) 2),q 17 (.fa (.t 3) 4),q 18 (.ld (.t 17) 2),q 19 (.call 287 [(.t 16),(.t 18)]),q 4 (.mv (.t 19))]) .ret)))⟩
theorem k313 : cF Tryz.prog Tryz.f313 = some c313 := by kernel_rfl
def c315 : AF := ⟨3,12,[(6,(some 2))],(.seq (.ops [q 3 (.box (.t 0)),q 4 (.box (.t 1)),q 5 (.box (.t 2)),q 6 (.al [(.v (.int .i64 0)),(.v (.int .i64 0))])]) (.seq (.reg [0,0,0,6,15,31] [q 7 (.ld (.t 3) 3),q 8 (.ld (.t 4) 6),q 9 (.ld (.t 5) 2),q 10 (.call 154 [(.t 8),(.t 9)]),q 11 (.call 227 [(.t 7),(.t 10)]),⟨none,none,.st (.t 6) (.t 11) 2⟩]) .ret))⟩
theorem k315 : cF Tryz.prog Tryz.f315 = some c315 := by kernel_rfl
def c328 : AF := ⟨2,10,[(4,none)],(.seq (.ops [q 2 (.box (.t 0)),q 3 (.box (.t 1)),q 4 (.mv (.c (.v (.bool false))))]) (.seq (.reg [0,1,0,7,15,31] [q 5 (.ld (.t 2) 4),q 6 (.call 338 [(.t 5)]),q 7 (.ld (.t 3) 4),q 8 (.call 338 [(.t 7)]),q 9 (.call 161 [(.t 6),(.t 8)]),q 4 (.mv (.t 9))]) .ret))⟩
theorem k328 : cF Tryz.prog Tryz.f328 = some c328 := by kernel_rfl
def c338 : AF := ⟨1,12,[(2,none)],(.seq (.ops [q 1 (.box (.t 0)),q 2 (.mv (.c (.nil 0)))]) (.seq (.ops [q 3 (.fa (.t 1) 0),q 4 (.ld (.t 3) 0),q 5 (.fa (.t 1) 1),q 6 (.ld (.t 5) 0),q 7 (.fa (.t 1) 2),q 8 (.ld (.t 7) 0),q 9 (.fa (.t 1) 3),q 10 (.ld (.t 9) 0),q 11 (.bsl 0 2 [(.t 4),(.t 6),(.t 8),(.t 10)]),q 2 (.mv (.t 11))]) .ret))⟩
theorem k338 : cF Tryz.prog Tryz.f338 = some c338 := by kernel_rfl
end Go.Proofs.YtigebbijogidlaaGreatDoorFv
namespace Go.Proofs
open Go.Shelf
shelf_lay Lays.n227 Nm 227 at Tryz as Tryz.lays227
shelf_lay Lays.n228 Nm 228 at Tryz as Tryz.lays228
end Go.Proofs
namespace Go.Proofs.YtigebbijogidlaaGreatDoorFv
open Go Go.Proofs Go.RowKit Go.Shelf Go.Lib
set_option maxRecDepth 100000
set_option maxHeartbeats 2000000
theorem sp_below {P : Program} {f : Nat} {fn : Func} (hf : P.funcs[f]? = some fn) (hb : fn.body.isSome = true) (hn : fn.name ≠ "runtime.NumGoroutine") {az : List A} {us : List Value} {r : V} {u : Value}
    (hus : ∀ μ S w us', ARs (fun i => ([] : List Ck)[i]?) μ S w az us' → us' = us) (hr : ∀ S w, Rep S w r u) (hc : ∀ w, Calls P f us.toArray w fun e w' => e = .returned u ∧ Below w.heap.size w w') : Sp P f az (.v r) [] := by
  refine ⟨⟨fn, hf, hb, hn⟩, fun S w us' O μ R h => ?_⟩
  rw [hus μ S w us' h]
  refine (hc w).mono fun e w' ⟨he, B⟩ => ⟨u, S, μ, he, ?_, ?_, hr S w'⟩
  · exact ⟨R.tb, B.os.trans R.os, B.tape.trans R.tape, B.output.trans R.output, Nat.le_trans R.size B.size, fun k hk ho => (B.block k hk).trans (R.keep k hk ho), R.sub, R.new, fun b hb => Nat.lt_of_lt_of_le (R.lt b hb) B.size, fun i => by simp [CR], fun i c hi => by simp at hi, fun i j c d hi => by simp at hi⟩
  · exact ⟨fun _ h => h, fun b hb => B.block b (R.lt b hb), fun i u h => by simp [AR] at h, fun i c hi => by simp at hi⟩
theorem contains_let (b : Nat) (x : UInt8) (v : Bool) (w : World) (hc : w.cell? ⟨b, x.toNat, none⟩ = some (.bool v)) : Calls Tryz.prog 240 #[.pointer (some ⟨b, 0, none⟩), .int .u8 x.toNat] w fun e w' => e = .returned (.bool v) ∧ w' = w := Any.asciiSet_contains Tryz.lays228 b x v w hc
theorem ba_eq (t : ByteArray) : (⟨t.data.toList.toArray⟩ : ByteArray) = t := by cases t; simp
theorem ba_nil {t : ByteArray} (h : ¬ 0 < t.size) : t.data.toList = [] := by
  have := Lib.size_eq t
  exact List.length_eq_zero_iff.1 (by omega)
theorem ba_cons {t : ByteArray} (h : 0 < t.size) : t.data.toList = t[0]'h :: t.data.toList.drop 1 := by
  have h1 := Lib.data_getElem? t 0 h
  cases hl : t.data.toList with
  | nil => rw [hl] at h1; simp at h1
  | cons x l =>
    rw [hl] at h1
    have h2 : x = t[0]'h := by simpa using h1
    rw [← h2]
    rfl
theorem ba_ext (t : ByteArray) : (t.extract 1 t.size).data.toList = t.data.toList.drop 1 := by
  rw [← ba_eq t, Lib.extract_mk]
  have := Lib.size_eq t
  rw [List.take_of_length_le (by simp)]
theorem trimL (cs : List UInt8) (s : ByteArray) (b : Nat) (w : World) (hset : ∀ x : UInt8, w.cell? ⟨b, x.toNat, none⟩ = some (.bool (cs.contains x))) : Calls Tryz.prog 183 #[.string s, .pointer (some ⟨b, 0, none⟩)] w fun e w' => e = .returned (.string ⟨(Lib.trimLeftS s.data.toList cs).toArray⟩) ∧ w' = w := by
  have HS : Aside _ := hset
  clear hset
  go_enter Tryz.func183, Tryz.ntmps183
  go_wp2
  go_loop [0] (fun v => ∃ t : ByteArray, v = .string t ∧ Lib.trimLeftS t.data.toList cs = Lib.trimLeftS s.data.toList cs) (fun v => Lib.strSize v)
  case atStart => exact ⟨s, rfl, rfl⟩
  case round =>
    obtain ⟨t, rfl, ht⟩ := hrel
    have HT : Aside (Lib.trimLeftS t.data.toList cs = Lib.trimLeftS s.data.toList cs) := ht
    clear ht
    by_cases h0 : 0 < t.size
    · have hcx := HS.out (t[0]'h0)
      cases hin : cs.contains (t[0]'h0) <;> rw [hin] at hcx
      · have HI : Aside (cs.contains (t[0]'h0) = false) := hin
        clear hin
        go_wp2_with (go_at_call 240; refine (contains_let _ (t[0]'h0) _ _ hcx).mono ?_; rintro e w' ⟨rfl, hw⟩; rw [hw])
        go_ret
        refine ⟨?_, rfl⟩
        rw [← HT.out, ba_cons h0, Lib.trimLeftS, List.dropWhile_cons_of_neg (by rw [HI.out]; simp), ← ba_cons h0, ba_eq]
        rfl
      · have HI : Aside (cs.contains (t[0]'h0) = true) := hin
        clear hin
        go_wp2_with (go_at_call 240; refine (contains_let _ (t[0]'h0) _ _ hcx).mono ?_; rintro e w' ⟨rfl, hw⟩; rw [hw])
        refine ⟨⟨_, rfl, ?_⟩, ?_⟩
        · rw [ba_ext, ← HT.out]
          conv => rhs; rw [ba_cons h0, Lib.trimLeftS, List.dropWhile_cons_of_pos HI.out]
          rfl
        · rw [Lib.strSize_string, Lib.strSize_string, Lib.size_eq, ba_ext, List.length_drop, ← Lib.size_eq]
          omega
    · go_wp2
      go_ret
      refine ⟨?_, rfl⟩
      rw [← HT.out, ba_nil h0, Lib.trimLeftS_nil, ← ba_nil h0, ba_eq]
      rfl
theorem ba_snoc {t : ByteArray} (h : t.size - 1 < t.size) : t.data.toList = t.data.toList.take (t.size - 1) ++ [t[t.size - 1]'h] := by
  have h1 := Lib.data_getElem? t (t.size - 1) h
  have h2 := Lib.size_eq t
  conv => lhs; rw [← List.take_append_drop (t.size - 1) t.data.toList]
  congr 1
  rw [List.drop_eq_getElem_cons (by omega), List.drop_of_length_le (by omega)]
  rw [List.getElem?_eq_getElem (by omega)] at h1
  rw [Option.some.inj h1]
theorem ba_pre (t : ByteArray) : (t.extract 0 (t.size - 1)).data.toList = t.data.toList.take (t.size - 1) := by
  have h := Lib.size_eq t
  conv => lhs; rw [← ba_eq t, Lib.extract_mk, List.drop_zero, Nat.sub_zero]
theorem trimR (cs : List UInt8) (s : ByteArray) (b : Nat) (w : World) (hs : s.size ≤ 9223372036854775807) (hset : ∀ x : UInt8, w.cell? ⟨b, x.toNat, none⟩ = some (.bool (cs.contains x))) : Calls Tryz.prog 184 #[.string s, .pointer (some ⟨b, 0, none⟩)] w fun e w' => e = .returned (.string ⟨(Lib.trimRightS s.data.toList cs).toArray⟩) ∧ w' = w := by
  have HS : Aside _ := hset
  clear hset
  go_enter Tryz.func184, Tryz.ntmps184
  go_wp2
  go_loop [0] (fun v => ∃ t : ByteArray, v = .string t ∧ t.size ≤ s.size ∧ Lib.trimRightS t.data.toList cs = Lib.trimRightS s.data.toList cs) (fun v => Lib.strSize v)
  case atStart => exact ⟨s, rfl, Nat.le_refl _, rfl⟩
  case round =>
    obtain ⟨t, rfl, hts, ht⟩ := hrel
    have HT : Aside (Lib.trimRightS t.data.toList cs = Lib.trimRightS s.data.toList cs) := ht
    clear ht
    by_cases h0 : 0 < t.size
    · have h1 : t.size - 1 < t.size := by omega
      have hcx := HS.out (t[t.size - 1]'h1)
      cases hin : cs.contains (t[t.size - 1]'h1) <;> rw [hin] at hcx
      · have HI : Aside (cs.contains (t[t.size - 1]'h1) = false) := hin
        clear hin
        go_wp2_with (go_at_call 240; refine (contains_let _ (t[t.size - 1]'h1) _ _ hcx).mono ?_; rintro e w' ⟨rfl, hw⟩; rw [hw])
        go_ret
        refine ⟨?_, rfl⟩
        have e : Lib.trimRightS t.data.toList cs = t.data.toList := by
          conv => lhs; rw [ba_snoc h1, Lib.trimRightS, List.reverse_append, List.reverse_singleton, List.singleton_append, List.dropWhile_cons_of_neg (by rw [HI.out]; simp), List.reverse_cons, List.reverse_reverse]
          rw [← ba_snoc h1]
        rw [← HT.out, e, ba_eq]
        rfl
      · have HI : Aside (cs.contains (t[t.size - 1]'h1) = true) := hin
        clear hin
        go_wp2_with (go_at_call 240; refine (contains_let _ (t[t.size - 1]'h1) _ _ hcx).mono ?_; rintro e w' ⟨rfl, hw⟩; rw [hw])
        have hz : (t.extract 0 (t.size - 1)).size = t.size - 1 := by
          have := Lib.size_eq t
          rw [Lib.size_eq, ba_pre, List.length_take]; omega
        refine ⟨⟨_, rfl, by omega, ?_⟩, ?_⟩
        · rw [ba_pre, ← HT.out]
          conv => rhs; rw [ba_snoc h1, Lib.trimRightS, List.reverse_append, List.reverse_singleton, List.singleton_append, List.dropWhile_cons_of_pos HI.out]
          rfl
        · rw [Lib.strSize_string, Lib.strSize_string, hz]
          omega
    · go_wp2
      go_ret
      refine ⟨?_, rfl⟩
      rw [← HT.out, ba_nil h0, Lib.trimRightS_nil, ← ba_nil h0, ba_eq]
      rfl
abbrev letrs : ByteArray := ⟨#[97, 98, 99, 100, 101, 102, 103, 104, 105, 106, 107, 108, 109, 110, 111, 112, 113, 114, 115, 116, 117, 118, 119, 120, 121, 122]⟩
theorem trim_let (s : ByteArray) (w : World) (hs : s.size ≤ 9223372036854775807) : Calls Tryz.prog 126 #[.string s, .string letrs] w fun e w' => e = .returned (.string ⟨(Lib.trimS s.data.toList letrs.data.toList).toArray⟩) ∧ Below w.heap.size w w' := by
  have hM := Any.strings_makeASCIISet Tryz.lays227 (fun w => by kernel_rfl) (by kernel_rfl) letrs w (by decide) (by
    intro j b hj
    match j, hj with
    | 0, hj => cases hj; decide
    | 1, hj => cases hj; decide
    | 2, hj => cases hj; decide
    | 3, hj => cases hj; decide
    | 4, hj => cases hj; decide
    | 5, hj => cases hj; decide
    | 6, hj => cases hj; decide
    | 7, hj => cases hj; decide
    | 8, hj => cases hj; decide
    | 9, hj => cases hj; decide
    | 10, hj => cases hj; decide
    | 11, hj => cases hj; decide
    | 12, hj => cases hj; decide
    | 13, hj => cases hj; decide
    | 14, hj => cases hj; decide
    | 15, hj => cases hj; decide
    | 16, hj => cases hj; decide
    | 17, hj => cases hj; decide
    | 18, hj => cases hj; decide
    | 19, hj => cases hj; decide
    | 20, hj => cases hj; decide
    | 21, hj => cases hj; decide
    | 22, hj => cases hj; decide
    | 23, hj => cases hj; decide
    | 24, hj => cases hj; decide
    | 25, hj => cases hj; decide)
  change Calls Tryz.prog 182 _ _ _ at hM
  have hsc : (storeCells ⟨w.heap.size + 1, 0, none⟩ (Lib.setCells [97, 98, 99, 100, 101, 102, 103, 104, 105, 106, 107, 108, 109, 110, 111, 112, 113, 114, 115, 116, 117, 118, 119, 120, 121, 122]).toList 0).run Tryz.prog ((w.alloc (.cells (Lib.setCells [97, 98, 99, 100, 101, 102, 103, 104, 105, 106, 107, 108, 109, 110, 111, 112, 113, 114, 115, 116, 117, 118, 119, 120, 121, 122]) (Tryz.lays227_ren.t 116))).alloc (.cells Tryz.zeroCells187 187)) = .ok () ((w.alloc (.cells (Lib.setCells [97, 98, 99, 100, 101, 102, 103, 104, 105, 106, 107, 108, 109, 110, 111, 112, 113, 114, 115, 116, 117, 118, 119, 120, 121, 122]) (Tryz.lays227_ren.t 116))).alloc (.cells (Lib.setCells [97, 98, 99, 100, 101, 102, 103, 104, 105, 106, 107, 108, 109, 110, 111, 112, 113, 114, 115, 116, 117, 118, 119, 120, 121, 122]) 187)) := by
    have := run_storeCells_new (P := Tryz.prog) (w.alloc (.cells (Lib.setCells [97, 98, 99, 100, 101, 102, 103, 104, 105, 106, 107, 108, 109, 110, 111, 112, 113, 114, 115, 116, 117, 118, 119, 120, 121, 122]) (Tryz.lays227_ren.t 116))) 187 Tryz.zeroCells187 (Lib.setCells [97, 98, 99, 100, 101, 102, 103, 104, 105, 106, 107, 108, 109, 110, 111, 112, 113, 114, 115, 116, 117, 118, 119, 120, 121, 122]) (by rw [Lib.setCells_size]; kernel_rfl) (by rw [Lib.setCells_size]; kernel_rfl) (Lib.setCells_one _)
    simpa using this
  have hcellAt : ∀ x : UInt8, ((w.alloc (.cells (Lib.setCells [97, 98, 99, 100, 101, 102, 103, 104, 105, 106, 107, 108, 109, 110, 111, 112, 113, 114, 115, 116, 117, 118, 119, 120, 121, 122]) (Tryz.lays227_ren.t 116))).alloc (.cells (Lib.setCells [97, 98, 99, 100, 101, 102, 103, 104, 105, 106, 107, 108, 109, 110, 111, 112, 113, 114, 115, 116, 117, 118, 119, 120, 121, 122]) 187)).cell? ⟨w.heap.size + 1, x.toNat, none⟩ = some (.bool (List.contains [97, 98, 99, 100, 101, 102, 103, 104, 105, 106, 107, 108, 109, 110, 111, 112, 113, 114, 115, 116, 117, 118, 119, 120, 121, 122] x)) := fun x => by
    rw [World.cell?_alloc_at _ _ _ _ (by simp), Lib.setCells_at]
  have HC : Aside (∀ x : UInt8, ((w.alloc (.cells (Lib.setCells [97, 98, 99, 100, 101, 102, 103, 104, 105, 106, 107, 108, 109, 110, 111, 112, 113, 114, 115, 116, 117, 118, 119, 120, 121, 122]) (Tryz.lays227_ren.t 116))).alloc (.cells (Lib.setCells [97, 98, 99, 100, 101, 102, 103, 104, 105, 106, 107, 108, 109, 110, 111, 112, 113, 114, 115, 116, 117, 118, 119, 120, 121, 122]) 187)).cell? ⟨w.heap.size + 1, x.toNat, none⟩ = some (.bool (List.contains [97, 98, 99, 100, 101, 102, 103, 104, 105, 106, 107, 108, 109, 110, 111, 112, 113, 114, 115, 116, 117, 118, 119, 120, 121, 122] x))) := hcellAt
  clear hcellAt
  by_cases h0 : s.size = 0
  · have hl : s.data.toList = [] := ba_nil (by omega)
    have hempt : s.toList.isEmpty = true := by rw [Lib.toList_data, hl]; rfl
    clear hM hsc
    go_enter Tryz.func126, Tryz.ntmps126
    go_wp2
    go_ret
    refine ⟨?_, Below.refl _ _⟩
    have e : (⟨(Lib.trimS s.data.toList letrs.data.toList).toArray⟩ : ByteArray) = s := by
      conv => rhs; rw [← ba_eq s]
      rw [hl]; rfl
    rw [e]
    rfl
  have hemps : s.toList.isEmpty = false := by
    rw [Lib.toList_data]
    cases h : s.data.toList with
    | nil => have := Lib.size_eq s; rw [h, List.length_nil] at this; omega
    | cons _ _ => rfl
  go_enter Tryz.func126, Tryz.ntmps126
  go_wp2_with (first
    | (go_at_call 182; refine hM.mono ?_; rintro e w' ⟨rfl, hw⟩; rw [hw])
    | (go_at_call 184; refine (trimR [97, 98, 99, 100, 101, 102, 103, 104, 105, 106, 107, 108, 109, 110, 111, 112, 113, 114, 115, 116, 117, 118, 119, 120, 121, 122] s (w.heap.size + 1) _ hs HC.out).mono ?_; rintro e w' ⟨rfl, hw⟩; rw [hw])
    | (go_at_call 183; refine (trimL [97, 98, 99, 100, 101, 102, 103, 104, 105, 106, 107, 108, 109, 110, 111, 112, 113, 114, 115, 116, 117, 118, 119, 120, 121, 122] _ (w.heap.size + 1) _ HC.out).mono ?_; rintro e w' ⟨rfl, hw⟩; rw [hw]))
  go_ret
  exact ⟨rfl, ((Below.refl _ _).alloc (Nat.le_refl _) _).alloc (by simp) _⟩
theorem s_trim (s : ByteArray) (hs : s.size ≤ 9223372036854775807) : Sp Tryz.prog 126 [.v (.str s), .v (.str letrs)] (.v (.str ⟨(Lib.trimS s.data.toList letrs.data.toList).toArray⟩)) [] :=
  sp_below Tryz.func126 (by kernel_rfl) (by decide) (us := [.string s, .string letrs]) (fun μ S w us' h => by
    simp only [ARs, AR, Rep] at h
    obtain ⟨u, us, rfl, rfl, v, us2, rfl, rfl, rfl⟩ := h
    rfl) (fun S w => rfl) (trim_let s · hs)
end Go.Proofs.YtigebbijogidlaaGreatDoorFv
namespace Go.Proofs.YtigebbijogidlaaGreatDoorFv
open Go Go.Proofs
theorem mixed : Tryz.prog.follows .mixedOrders = true := by kernel_rfl
abbrev vi (n : Int) : A := .v (.int .i64 n)
abbrev vb (b : Bool) : A := .v (.bool b)
def is (l : List Int) : List V := l.map fun y => .int .i64 y
abbrev vis (l : List Int) : V := .sl 0 (is l)
abbrev no : Nat → Bool := fun _ => false
@[simp] theorem is_nil : is [] = [] := rfl
@[simp] theorem is_one (v : Int) : is [v] = [.int .i64 v] := rfl
@[simp] theorem is_set (l : List Int) (n : Nat) (v : Int) : (is l).set n (.int .i64 v) = is (l.set n v) := by simp [is, List.map_set]
@[simp] theorem is_len (l : List Int) : (is l).length = l.length := by simp [is]
@[simp] theorem is_get (l : List Int) (n : Nat) (K : V → Prop) : fA ((is l)[n]?) K = ∀ a, l[n]? = some a → K (.int .i64 a) := by unfold is; exact fA_map
@[simp] theorem is_rep (n : Nat) (k : Int) : List.replicate n (V.int .i64 k) = is (List.replicate n k) := by simp [is]
@[simp] theorem is_app (l : List Int) (v : Int) : is l ++ [.int .i64 v] = is (l ++ [v]) := by simp [is]
@[simp] theorem is_flat (l : List Int) : (∀ x, x ∈ is l → x.flat = true) ↔ True := by
  simp only [iff_true]
  intro x hx
  obtain ⟨y, _, rfl⟩ := List.mem_map.1 hx
  rfl
@[simp] theorem is_inj (a b : List Int) : is a = is b ↔ a = b := by
  constructor
  · intro h
    exact (List.map_inj_right (fun x y e => by cases e; rfl)).1 h
  · rintro rfl; rfl
theorem fill_set {α : Type} {l : List α} {i : Nat} {z a : α} (h : l[i]? = some a) : (l.take i ++ List.replicate (l.length - i) z).set i a = l.take (i + 1) ++ List.replicate (l.length - (i + 1)) z := by
  obtain ⟨h1, rfl⟩ := List.getElem?_eq_some_iff.1 h
  have e : (l.take i).length = i := by simp; omega
  have e2 : l.take (i + 1) = l.take i ++ [l[i]] := by rw [List.take_add_one, h]; rfl
  rw [show l.length - i = (l.length - (i + 1)) + 1 by omega, List.replicate_succ, List.set_append_right _ _ (by omega), e, Nat.sub_self, List.set_cons_zero, e2, List.append_assoc]
  rfl
theorem mLen : maxLen = 9223372036854775807 := by decide
set_option maxRecDepth 10000
theorem s_sz (l : List Int) (n : Int) (h : l.length ≤ maxLen) (hn : 0 ≤ n ∧ n ≤ 1048576) : Sp Tryz.prog 69 [.v (vis l), vi n] (vi (if n < l.length then -1 else n - l.length)) [] := by
  refine sp_of (m := no) mixed Tryz.func69 k69 ?_
  rw [mLen] at h
  simp -dsimp [q]
  rw [w64 (by omega) (by omega)]
  constructor
  · intro h1 h2; omega
  · intro h1; rw [if_neg (by omega)]
theorem s_to (l : List Int) (h : l.length ≤ 1048576) : Sp Tryz.prog 77 [.v (vis l)] (.sli 0) [.row 0 2 (is l)] := by
  refine sp_of (m := no) mixed Tryz.func77 k77 ?_
  simp -dsimp [q]
  refine ⟨by omega, ?_⟩
  refine awp_it (true :: false :: false :: true :: true :: []) (fun i : Nat => [(4, vi i)]) (fun i => [(0, .row 0 2 (is (l.take i ++ List.replicate (l.length - i) 0)))]) (fun i => i ≤ l.length) (fun i => l.length - i) 0 ?_
  intro s0 e
  simp -dsimp at e
  subst e
  refine ⟨?_, ?_⟩
  · simp
  intro i hi
  simp -dsimp
  refine ⟨fun h1 => ⟨h1, fun a ha => ⟨by omega, by omega, i + 1, ⟨by rw [w64 (by omega) (by omega)]; simp, ?_⟩, by omega, by omega⟩⟩, fun h1 => ?_⟩
  · exact fill_set ha
  · have : i = l.length := by omega
    subst this
    simp
theorem s_eq (xs ys : List Int) (hx : xs.length ≤ 1048576) : Sp Tryz.prog 61 [.v (vis xs), .v (vis ys)] (vb (decide (xs = ys))) [] := by
  refine sp_of (m := no) mixed Tryz.func61 k61 ?_
  simp -dsimp [q]
  refine ⟨fun h e => h (by rw [e]), fun hl => ?_⟩
  refine awp_it (true :: true :: false :: false :: false :: true :: []) (fun i : Nat => [(5, vi i)]) (fun i => []) (fun i => i ≤ xs.length ∧ xs.take i = ys.take i) (fun i => xs.length - i) 0 ?_
  intro s0 e
  simp -dsimp at e
  subst e
  refine ⟨?_, ?_⟩
  · simp
  intro i hi
  simp -dsimp
  obtain ⟨hi, ht⟩ := hi
  refine ⟨fun h1 => ⟨h1, fun a ha => ⟨by omega, fun b hb => ⟨fun hn e => ?_, fun e => ⟨i + 1, by rw [w64 (by omega) (by omega)]; simp, ⟨by omega, ?_⟩, by omega⟩⟩⟩⟩, fun h1 => ?_⟩
  · subst e
    rw [ha] at hb
    cases hb
    exact hn rfl
  · subst e
    rw [List.take_add_one, List.take_add_one, ht, ha, hb]
  · have h2 : i = xs.length := by omega
    subst h2
    rw [List.take_length, List.take_of_length_le (by omega)] at ht
    exact ht
theorem s_mark (xs : List Int) (k : Int) (hx : xs.length ≤ 1048576) (hk : 0 ≤ k ∧ k ≤ 1000000000) (t : Nat) : SpG Tryz.prog 64 [.sli 0, vi k] [.row 0 t (is xs)] (vi (k + xs.length)) [.row 0 t (is ((List.range xs.length).map fun i : Nat => k + i))] := by
  refine sg_of (m := no) mixed Tryz.func64 k64 ?_
  simp -dsimp [q]
  refine awp_it (true :: true :: false :: false :: false :: true :: []) (fun i : Nat => [(1, vi (k + i)), (5, vi i)]) (fun i => [(0, .row 0 t (is (((List.range i).map fun i : Nat => k + i) ++ xs.drop i)))]) (fun i => i ≤ xs.length) (fun i => xs.length - i) 0 ?_
  intro s0 e
  simp -dsimp at e
  subst e
  refine ⟨?_, ?_⟩
  · simp
  intro i hi
  simp -dsimp
  refine ⟨fun h1 => ⟨h1, by omega, i + 1, ⟨⟨by rw [w64 (by omega) (by omega)]; simp; omega, by rw [w64 (by omega) (by omega)]; simp⟩, ?_⟩, by omega, by omega⟩, fun h1 => ?_⟩
  · rw [List.range_succ, List.map_append, List.append_assoc]
    congr 1
    rw [List.drop_eq_getElem_cons (show i < xs.length by omega), List.set_cons_zero]
    rfl
  · have : i = xs.length := by omega
    subst this
    simp
theorem s_held (xs : List Int) (k : Int) (hx : xs.length ≤ 1048576) (hk : 0 ≤ k ∧ k ≤ 1000000000) (h : xs = (List.range xs.length).map fun i : Nat => k + i) (t : Nat) : SpG Tryz.prog 65 [.sli 0, vi k] [.row 0 t (is xs)] (vi (k + xs.length)) [.row 0 t (is xs)] := by
  refine sg_of (m := no) mixed Tryz.func65 k65 ?_
  simp -dsimp [q]
  refine awp_it (true :: true :: false :: false :: false :: true :: []) (fun i : Nat => [(1, vi (k + i)), (5, vi i)]) (fun i => []) (fun i => i ≤ xs.length) (fun i => xs.length - i) 0 ?_
  intro s0 e
  simp -dsimp at e
  subst e
  refine ⟨?_, ?_⟩
  · simp
  intro i hi
  simp -dsimp
  have hx : ∀ a : Int, xs[i]? = some a → a = k + i := fun a ha => by
    rw [h, List.getElem?_map] at ha
    have hi : i < xs.length := by
      have := (List.getElem?_eq_some_iff.1 (show (List.map (fun i : Nat => k + (i : Int)) (List.range xs.length))[i]? = some a by rw [List.getElem?_map]; exact ha)).1
      simpa using this
    rw [List.getElem?_range hi] at ha
    simpa using ha.symm
  refine ⟨fun h1 => ⟨h1, fun a ha => ⟨fun hn => absurd (hx a ha) hn, fun _ => ⟨i + 1, ⟨by rw [w64 (by omega) (by omega)]; simp; omega, by rw [w64 (by omega) (by omega)]; simp⟩, by omega, by omega⟩⟩⟩, fun h1 => ?_⟩
  have : i = xs.length := by omega
  subst this
  simp
end Go.Proofs.YtigebbijogidlaaGreatDoorFv
namespace Go.Proofs.YtigebbijogidlaaGreatDoorFv
open Go Go.Proofs
set_option maxRecDepth 10000
abbrev aV (x y : Int) : A := .v (.ag [.int .i64 x, .int .i64 y])
abbrev aL (a b c : Int) : A := .v (.ag [.int .i64 a, .int .i64 b, .int .i64 c])
abbrev aM (a b c d : Int) : A := .v (.ag [.int .i64 a, .int .i64 b, .int .i64 c, .int .i64 d])
abbrev aG (a b c d x y : Int) : A := .v (.ag [.int .i64 a, .int .i64 b, .int .i64 c, .int .i64 d, .int .i64 x, .int .i64 y])
def vv (v : Int × Int) : V := .ag [.int .i64 v.1, .int .i64 v.2]
def vs (l : List (Int × Int)) : List V := l.map vv
@[simp] theorem vs_nil : vs [] = [] := rfl
@[simp] theorem vs_len (l : List (Int × Int)) : (vs l).length = l.length := by simp [vs]
@[simp] theorem vs_get (l : List (Int × Int)) (n : Nat) (K : V → Prop) : fA ((vs l)[n]?) K = ∀ a, l[n]? = some a → K (.ag [.int .i64 a.1, .int .i64 a.2]) := by unfold vs; exact fA_map
@[simp] theorem vs_app (l : List (Int × Int)) (x y : Int) : vs l ++ [.ag [.int .i64 x, .int .i64 y]] = vs (l ++ [(x, y)]) := by simp [vs, vv]
@[simp] theorem vs_set (l : List (Int × Int)) (n : Nat) (x y : Int) : (vs l).set n (.ag [.int .i64 x, .int .i64 y]) = vs (l.set n (x, y)) := by simp [vs, vv, List.map_set]
@[simp] theorem vs_rep (n : Nat) (x y : Int) : List.replicate n (V.ag [.int .i64 x, .int .i64 y]) = vs (List.replicate n (x, y)) := by simp [vs, vv]
@[simp] theorem vs_inj (a b : List (Int × Int)) : vs a = vs b ↔ a = b := by
  constructor
  · intro h
    exact (List.map_inj_right (fun x y e => by cases x; cases y; simp only [vv, V.ag.injEq, List.cons.injEq, V.int.injEq] at e; simp_all)).1 h
  · rintro rfl; rfl
@[simp] theorem vs_flat (l : List (Int × Int)) : (∀ x, x ∈ vs l → x.flat = true) ↔ True := by
  simp only [iff_true]
  intro x hx
  obtain ⟨y, _, rfl⟩ := List.mem_map.1 hx
  rfl
theorem s_within (n a b : Int) : Sp Tryz.prog 177 [vi n, vi a, vi b] (vb (decide (a ≤ n ∧ n ≤ b))) [] := by
  refine sp_of (m := no) mixed Tryz.func177 k177 ?_
  simp -dsimp [q]
  constructor
  · intro h _; exact h
  · intro h1 h2; omega
theorem s_in (n a b : Int) : Sp Tryz.prog 173 [vi n, vi a, vi b] (vb (decide (a ≤ n ∧ n ≤ b))) [] := by
  refine sp_of (m := no) mixed Tryz.func173 k173 ?_
  simp -dsimp [q]
  constructor
  · intro h _; exact h
  · intro h1 h2; omega
theorem s_isCo (n : Int) : Sp Tryz.prog 164 [vi n] (vb (decide (-1000 ≤ n ∧ n ≤ 1000))) [] := by
  refine sp_of (m := no) mixed Tryz.func164 k164 ?_
  simp -dsimp [q]
  refine call_of (s_within _ _ _) rfl (by simp) ?_
  try simp -dsimp
  try (first | exact fp_one (by decide) | refine fp_and (by decide) ?_)
def okV (x y : Int) : Bool := decide (-1000 ≤ x ∧ x ≤ 1000) && decide (-1000 ≤ y ∧ y ≤ 1000)
theorem okV_spec {x y : Int} : okV x y = true ↔ (-1000 ≤ x ∧ x ≤ 1000) ∧ -1000 ≤ y ∧ y ≤ 1000 := by simp [okV]
theorem s_isVec (x y : Int) : Sp Tryz.prog 108 [aV x y] (vb (okV x y)) [] := by
  refine sp_of (m := no) mixed Tryz.func108 k108 ?_
  simp -dsimp [q]
  refine call_of (s_isCo _) rfl (by simp) ?_
  unfold okV
  generalize decide (-1000 ≤ x ∧ x ≤ 1000) = b
  cases b
  · simp -dsimp
  simp -dsimp
  refine call_of (s_isCo _) rfl (by simp) ?_
  try simp -dsimp
  try (first | exact fp_one (by decide) | refine fp_and (by decide) ?_)
theorem s_sisVec (x y : Int) : Sp Tryz.prog 286 [aV x y] (vb (okV x y)) [] := by
  refine sp_of (m := no) mixed Tryz.func286 k286 ?_
  simp -dsimp [q]
  refine call_of (s_in _ _ _) rfl (by simp) ?_
  unfold okV
  generalize decide (-1000 ≤ x ∧ x ≤ 1000) = b
  cases b
  · simp -dsimp
  simp -dsimp
  refine call_of (s_in _ _ _) rfl (by simp) ?_
  try simp -dsimp
  try (first | exact fp_one (by decide) | refine fp_and (by decide) ?_)
theorem s_add (x y u v : Int) (h1 : -4000000000000 ≤ x ∧ x ≤ 4000000000000) (h2 : -4000000000000 ≤ y ∧ y ≤ 4000000000000) (h3 : -4000000000000 ≤ u ∧ u ≤ 4000000000000) (h4 : -4000000000000 ≤ v ∧ v ≤ 4000000000000) : Sp Tryz.prog 232 [aV x y, aV u v] (aV (x + u) (y + v)) [] := by
  refine sp_of (m := no) mixed Tryz.func232 k232 ?_
  simp -dsimp [q]
  rw [w64 (by omega) (by omega), w64 (by omega) (by omega)]
  exact ⟨rfl, rfl⟩
theorem s_sadd (x y u v : Int) (h1 : -4000000000000 ≤ x ∧ x ≤ 4000000000000) (h2 : -4000000000000 ≤ y ∧ y ≤ 4000000000000) (h3 : -4000000000000 ≤ u ∧ u ≤ 4000000000000) (h4 : -4000000000000 ≤ v ∧ v ≤ 4000000000000) : Sp Tryz.prog 228 [aV x y, aV u v] (aV (x + u) (y + v)) [] := by
  refine sp_of (m := no) mixed Tryz.func228 k228 ?_
  simp -dsimp [q]
  rw [w64 (by omega) (by omega), w64 (by omega) (by omega)]
  exact ⟨rfl, rfl⟩
theorem tmod_lt {a b : Int} (hb : 0 < b) : -b < a.tmod b ∧ a.tmod b < b := by
  rw [Int.tmod_eq_emod]
  have h1 := Int.emod_nonneg a (show b ≠ 0 by omega)
  have h2 := Int.emod_lt_of_pos a hb
  have h3 : (b.natAbs : Int) = b := by omega
  split <;> omega
theorem mod_a {a b : Int} (hb : 0 < b) (h : a.tmod b < 0) : a.tmod b + b = a % b := by
  rw [Int.tmod_eq_emod] at h ⊢
  have h1 := Int.emod_nonneg a (show b ≠ 0 by omega)
  have h3 : (b.natAbs : Int) = b := by omega
  split at h <;> rename_i hc
  · omega
  · rw [if_neg hc]; omega
theorem mod_b {a b : Int} (hb : 0 < b) (h : 0 ≤ a.tmod b) : a.tmod b = a % b := by
  rw [Int.tmod_eq_emod] at h ⊢
  have h1 := Int.emod_lt_of_pos a hb
  have h3 : (b.natAbs : Int) = b := by omega
  split at h <;> rename_i hc
  · rw [if_pos hc]; omega
  · rw [if_neg hc]; omega
theorem s_mod (a b : Int) (hb : 0 < b ∧ b ≤ 1000000) : Sp Tryz.prog 234 [vi a, vi b] (vi (a % b)) [] := by
  refine sp_of (m := no) mixed Tryz.func234 k234 ?_
  simp -dsimp [q]
  have h1 := tmod_lt (a := a) hb.1
  refine ⟨by omega, ?_⟩
  rw [w64 (by omega) (by omega), mod_b hb.1 (Int.tmod_nonneg _ (by omega))]
  by_cases h : a.tmod b < 0
  · rw [mod_a hb.1 h, Int.emod_emod_of_dvd _ (Int.dvd_refl b)]
  · rw [mod_b hb.1 (by omega)]
    simp
theorem s_smod (a b : Int) (hb : 0 < b ∧ b ≤ 1000000) : Sp Tryz.prog 255 [vi a, vi b] (vi (a % b)) [] := by
  refine sp_of (m := no) mixed Tryz.func255 k255 ?_
  simp -dsimp [q]
  have h1 := tmod_lt (a := a) hb.1
  refine ⟨by omega, fun h => ?_, fun h => mod_b hb.1 h⟩
  rw [w64 (by omega) (by omega), mod_a hb.1 h]
/-! lattices -/
def okL (a b c : Int) : Bool := decide (1 ≤ a ∧ a ≤ 64) && decide (1 ≤ c ∧ c ≤ 64) && decide (0 ≤ b ∧ b ≤ a - 1) && decide (a * c ≤ 64)
theorem okL_spec {a b c : Int} : okL a b c = true ↔ (1 ≤ a ∧ a ≤ 64) ∧ (1 ≤ c ∧ c ≤ 64) ∧ (0 ≤ b ∧ b < a) ∧ a * c ≤ 64 := by
  simp [okL]; omega
theorem ac_pos {a c : Int} (ha : 1 ≤ a) (hc : 1 ≤ c) : 1 ≤ a * c := by
  have := Int.mul_le_mul ha hc (by omega) (by omega)
  omega
theorem ac_hi {a c : Int} (ha : 1 ≤ a ∧ a ≤ 64) (hc : 1 ≤ c ∧ c ≤ 64) : a * c ≤ 4096 := by
  have := Int.mul_le_mul ha.2 hc.2 (by omega) (by omega)
  omega
theorem s_index (a b c : Int) (ha : 1 ≤ a ∧ a ≤ 64) (hc : 1 ≤ c ∧ c ≤ 64) : Sp Tryz.prog 124 [aL a b c] (vi (a * c)) [] := by
  refine sp_of (m := no) mixed Tryz.func124 k124 ?_
  simp -dsimp [q]
  have h1 := ac_pos ha.1 hc.1
  have h2 := ac_hi ha hc
  rw [w64 (by omega) (by omega)]
theorem s_isL (a b c : Int) : Sp Tryz.prog 123 [aL a b c] (vb (okL a b c)) [] := by
  refine sp_of (m := no) mixed Tryz.func123 k123 ?_
  have w1 := s_within a 1 64
  have w2 := s_within c 1 64
  have w3 := s_within b 0 (a - 1)
  simp -dsimp [q]
  by_cases h1 : 1 ≤ a ∧ a ≤ 64
  case neg =>
    rw [decide_eq_false h1] at w1
    refine call_of (w1) rfl (by simp) ?_
    try simp -dsimp
    try (first | exact fp_one (by decide) | refine fp_and (by decide) ?_)
    simp [okL, h1]
  rw [decide_eq_true h1] at w1
  refine call_of (w1) rfl (by simp) ?_
  try simp -dsimp
  try (first | exact fp_one (by decide) | refine fp_and (by decide) ?_)
  by_cases h2 : 1 ≤ c ∧ c ≤ 64
  case neg =>
    rw [decide_eq_false h2] at w2
    refine call_of (w2) rfl (by simp) ?_
    try simp -dsimp
    try (first | exact fp_one (by decide) | refine fp_and (by decide) ?_)
    simp [okL, h2]
  rw [decide_eq_true h2] at w2
  refine call_of (w2) rfl (by simp) ?_
  try simp -dsimp
  try (first | exact fp_one (by decide) | refine fp_and (by decide) ?_)
  rw [w64 (by omega) (by omega)]
  by_cases h3 : 0 ≤ b ∧ b ≤ a - 1
  case neg =>
    rw [decide_eq_false h3] at w3
    refine call_of (w3) rfl (by simp) ?_
    try simp -dsimp
    try (first | exact fp_one (by decide) | refine fp_and (by decide) ?_)
    simp only [okL, decide_eq_false h3, Bool.and_false, Bool.false_and]
  rw [decide_eq_true h3] at w3
  refine call_of (w3) rfl (by simp) ?_
  try simp -dsimp
  try (first | exact fp_one (by decide) | refine fp_and (by decide) ?_)
  refine call_of (s_index a b c h1 h2) rfl (by simp) ?_
  try simp -dsimp
  try (first | exact fp_one (by decide) | refine fp_and (by decide) ?_)
  simp only [okL, decide_eq_true h1, decide_eq_true h2, decide_eq_true h3, Bool.true_and]
theorem s_sisL (a b c : Int) : Sp Tryz.prog 172 [aL a b c] (vb (okL a b c)) [] := by
  refine sp_of (m := no) mixed Tryz.func172 k172 ?_
  have w1 := s_in a 1 64
  have w2 := s_in c 1 64
  have w3 := s_in b 0 (a - 1)
  simp -dsimp [q]
  by_cases h1 : 1 ≤ a ∧ a ≤ 64
  case neg =>
    rw [decide_eq_false h1] at w1
    refine call_of (w1) rfl (by simp) ?_
    try simp -dsimp
    try (first | exact fp_one (by decide) | refine fp_and (by decide) ?_)
    simp [okL, h1]
  rw [decide_eq_true h1] at w1
  refine call_of (w1) rfl (by simp) ?_
  try simp -dsimp
  try (first | exact fp_one (by decide) | refine fp_and (by decide) ?_)
  by_cases h2 : 1 ≤ c ∧ c ≤ 64
  case neg =>
    rw [decide_eq_false h2] at w2
    refine call_of (w2) rfl (by simp) ?_
    try simp -dsimp
    try (first | exact fp_one (by decide) | refine fp_and (by decide) ?_)
    simp [okL, h2]
  rw [decide_eq_true h2] at w2
  refine call_of (w2) rfl (by simp) ?_
  try simp -dsimp
  try (first | exact fp_one (by decide) | refine fp_and (by decide) ?_)
  rw [w64 (by omega) (by omega)]
  by_cases h3 : 0 ≤ b ∧ b ≤ a - 1
  case neg =>
    rw [decide_eq_false h3] at w3
    refine call_of (w3) rfl (by simp) ?_
    try simp -dsimp
    try (first | exact fp_one (by decide) | refine fp_and (by decide) ?_)
    simp only [okL, decide_eq_false h3, Bool.and_false, Bool.false_and]
  rw [decide_eq_true h3] at w3
  refine call_of (w3) rfl (by simp) ?_
  try simp -dsimp
  try (first | exact fp_one (by decide) | refine fp_and (by decide) ?_)
  have h4 := ac_pos h1.1 h2.1
  have h5 := ac_hi h1 h2
  rw [w64 (by omega) (by omega)]
  simp only [okL, decide_eq_true h1, decide_eq_true h2, decide_eq_true h3, Bool.true_and]
end Go.Proofs.YtigebbijogidlaaGreatDoorFv
namespace Go.Proofs.YtigebbijogidlaaGreatDoorFv
open Go Go.Proofs
set_option maxRecDepth 10000
def rowL (x : Int) : Nat → List (Int × Int)
  | 0 => []
  | n + 1 => rowL x n ++ [(x, (n : Int))]
def cellsL (c : Nat) : Nat → List (Int × Int)
  | 0 => []
  | n + 1 => cellsL c n ++ rowL n c
theorem rowL_len (x : Int) : ∀ n, (rowL x n).length = n
  | 0 => rfl
  | n + 1 => by simp [rowL, rowL_len x n]
theorem cellsL_len (c : Nat) : ∀ n, (cellsL c n).length = n * c
  | 0 => by simp [cellsL]
  | n + 1 => by simp [cellsL, cellsL_len c n, rowL_len, Nat.succ_mul]
theorem nat_ac {a c : Int} (ha : 1 ≤ a ∧ a ≤ 64) (hc : 1 ≤ c ∧ c ≤ 64) {x : Nat} (hx : (x : Int) ≤ a) : x * c.toNat ≤ 4096 := by
  have := Nat.mul_le_mul (show x ≤ 64 by omega) (show c.toNat ≤ 64 by omega)
  omega
theorem s_cells (a b c : Int) (ha : 1 ≤ a ∧ a ≤ 64) (hc : 1 ≤ c ∧ c ≤ 64) : Sp Tryz.prog 169 [aL a b c] (.sli 0) [.row 2 75 (vs (cellsL c.toNat a.toNat))] := by
  refine sp_of (m := no) mixed Tryz.func169 k169 ?_
  simp -dsimp [q]
  refine awp_it (false :: true :: false :: true :: false :: false :: false :: false :: true :: true :: []) (fun x : Nat => [(9, vi x)]) (fun x => [(1, .row 2 75 (vs (cellsL c.toNat x)))]) (fun x => (x : Int) ≤ a) (fun x => a.toNat - x) 0 ?_
  intro s0 e
  simp -dsimp at e
  subst e
  refine ⟨?_, ?_⟩
  · simp [cellsL]; omega
  intro x hx
  simp -dsimp
  refine ⟨fun hxa => ?_, fun hxa => ?_⟩
  · refine awp_it (false :: true :: false :: true :: true :: false :: false :: false :: true :: true :: false :: false :: false :: true :: true :: []) (fun y : Nat => [(14, vi y)]) (fun y => [(1, .row 2 75 (vs (cellsL c.toNat x ++ rowL x y)))]) (fun y => (y : Int) ≤ c) (fun y => c.toNat - y) 0 ?_
    intro s0 e
    simp -dsimp at e
    subst e
    refine ⟨?_, ?_⟩
    · simp [rowL]; omega
    intro y hy
    simp -dsimp [cellsL_len, rowL_len]
    have h1 := nat_ac ha hc hx
    refine ⟨fun hyc => ⟨⟨by omega, by omega⟩, y + 1, ⟨by rw [w64 (by omega) (by omega)]; simp, ?_⟩, by omega, by omega⟩, fun hyc => ?_⟩
    · simp [rowL]
    · refine ⟨x + 1, ⟨by rw [w64 (by omega) (by omega)]; simp, ?_⟩, by omega, by omega⟩
      rw [cellsL, show y = c.toNat by omega]
  · rw [show a.toNat = x by omega]
theorem s_scells (a b c : Int) (ha : 1 ≤ a ∧ a ≤ 64) (hc : 1 ≤ c ∧ c ≤ 64) : Sp Tryz.prog 119 [aL a b c] (.sli 0) [.row 2 75 (vs (cellsL c.toNat a.toNat))] := by
  refine sp_of (m := no) mixed Tryz.func119 k119 ?_
  simp -dsimp [q]
  refine awp_it (false :: true :: false :: true :: true :: []) (fun x : Nat => [(4, vi x)]) (fun x => [(1, .row 2 75 (vs (cellsL c.toNat x)))]) (fun x => (x : Int) ≤ a) (fun x => a.toNat - x) 0 ?_
  intro s0 e
  simp -dsimp at e
  subst e
  refine ⟨?_, ?_⟩
  · simp [cellsL]; omega
  intro x hx
  simp -dsimp
  refine ⟨fun hxa => ?_, fun hxa => ?_⟩
  · refine awp_it (false :: true :: false :: true :: true :: true :: []) (fun y : Nat => [(5, vi y)]) (fun y => [(1, .row 2 75 (vs (cellsL c.toNat x ++ rowL x y)))]) (fun y => (y : Int) ≤ c) (fun y => c.toNat - y) 0 ?_
    intro s0 e
    simp -dsimp at e
    subst e
    refine ⟨?_, ?_⟩
    · simp [rowL]; omega
    intro y hy
    simp -dsimp [cellsL_len, rowL_len]
    have h1 := nat_ac ha hc hx
    refine ⟨fun hyc => ⟨⟨by omega, by omega⟩, y + 1, ⟨by rw [w64 (by omega) (by omega)]; simp, ?_⟩, by omega, by omega⟩, fun hyc => ?_⟩
    · simp [rowL]
    · refine ⟨x + 1, ⟨by rw [w64 (by omega) (by omega)]; simp, ?_⟩, by omega, by omega⟩
      rw [cellsL, show y = c.toNat by omega]
  · rw [show a.toNat = x by omega]
/-! reduced vectors -/
def redX (a b c x y : Int) : Int := (x - y / c * b) % a
def num (a b c x y : Int) : Int := redX a b c x y * c + y % c
theorem div_sub {y c : Int} (hc : 0 < c) : (y - y % c).tdiv c = y / c := by
  have h := Int.mul_ediv_add_emod y c
  rw [show y - y % c = y / c * c by rw [Int.mul_comm]; omega, Int.mul_tdiv_cancel _ (by omega)]
theorem kb_le {y b c : Int} (hy : -1000000000 ≤ y ∧ y ≤ 1000000000) (hb : 0 ≤ b ∧ b < 64) (hc : 1 ≤ c) : (-1000000000 ≤ y / c ∧ y / c ≤ 1000000000) ∧ -64000000000 ≤ y / c * b ∧ y / c * b ≤ 64000000000 := by
  have h1 : -1000000000 ≤ y / c := Int.le_ediv_of_mul_le (by omega) (by omega)
  have h2 : y / c ≤ 1000000000 := Int.ediv_le_of_le_mul (by omega) (by omega)
  have h3 := Int.mul_le_mul_of_nonneg_right h1 hb.1
  have h4 := Int.mul_le_mul_of_nonneg_right h2 hb.1
  refine ⟨⟨h1, h2⟩, by omega, by omega⟩
theorem s_reduce (a b c x y : Int) (ha : 1 ≤ a ∧ a ≤ 64) (hb : 0 ≤ b ∧ b < a) (hc : 1 ≤ c ∧ c ≤ 64) (hx : -1000000000 ≤ x ∧ x ≤ 1000000000) (hy : -1000000000 ≤ y ∧ y ≤ 1000000000) : Sp Tryz.prog 237 [aL a b c, aV x y] (aV (redX a b c x y) (y % c)) [] := by
  refine sp_of (m := no) mixed Tryz.func237 k237 ?_
  have h1 := Int.emod_nonneg y (show c ≠ 0 by omega)
  have h2 := Int.emod_lt_of_pos y (show 0 < c by omega)
  obtain ⟨h3, h4⟩ := kb_le (b := b) hy (by omega) hc.1
  have h5 := div_sub (y := y) (show 0 < c by omega)
  simp -dsimp [q]
  refine call_of (s_mod _ _ (by omega)) rfl (by simp) ?_
  try simp -dsimp
  try (first | exact fp_one (by decide) | refine fp_and (by decide) ?_)
  rw [w64 (n := y - y % c) (by omega) (by omega), h5, w64 (n := y / c) (by omega) (by omega), w64 (n := y / c * b) (by omega) (by omega), w64 (n := x - y / c * b) (by omega) (by omega)]
  refine ⟨by omega, ?_⟩
  refine call_of (s_mod _ _ (by omega)) rfl (by simp) ?_
  try simp -dsimp
  try (first | exact fp_one (by decide) | refine fp_and (by decide) ?_)
  rfl
theorem s_sreduce (a b c x y : Int) (ha : 1 ≤ a ∧ a ≤ 64) (hb : 0 ≤ b ∧ b < a) (hc : 1 ≤ c ∧ c ≤ 64) (hx : -1000000000 ≤ x ∧ x ≤ 1000000000) (hy : -1000000000 ≤ y ∧ y ≤ 1000000000) : Sp Tryz.prog 227 [aL a b c, aV x y] (aV (redX a b c x y) (y % c)) [] := by
  refine sp_of (m := no) mixed Tryz.func227 k227 ?_
  have h1 := Int.emod_nonneg y (show c ≠ 0 by omega)
  have h2 := Int.emod_lt_of_pos y (show 0 < c by omega)
  obtain ⟨h3, h4⟩ := kb_le (b := b) hy (by omega) hc.1
  have h5 := div_sub (y := y) (show 0 < c by omega)
  simp -dsimp [q]
  refine call_of (s_smod _ _ (by omega)) rfl (by simp) ?_
  try simp -dsimp
  try (first | exact fp_one (by decide) | refine fp_and (by decide) ?_)
  rw [w64 (n := y - y % c) (by omega) (by omega), h5, w64 (n := y / c) (by omega) (by omega), w64 (n := y / c * b) (by omega) (by omega), w64 (n := x - y / c * b) (by omega) (by omega)]
  refine ⟨by omega, ?_⟩
  refine call_of (s_smod _ _ (by omega)) rfl (by simp) ?_
  try simp -dsimp
  try (first | exact fp_one (by decide) | refine fp_and (by decide) ?_)
  rfl
theorem red_lt {a b c x y : Int} (ha : 1 ≤ a) (hc : 1 ≤ c) : (0 ≤ redX a b c x y ∧ redX a b c x y < a) ∧ 0 ≤ y % c ∧ y % c < c :=
  ⟨⟨Int.emod_nonneg _ (by omega), Int.emod_lt_of_pos _ (by omega)⟩, Int.emod_nonneg _ (by omega), Int.emod_lt_of_pos _ (by omega)⟩
theorem num_lt' {a c u v : Int} (hu : 0 ≤ u ∧ u < a) (hv : 0 ≤ v ∧ v < c) : (0 ≤ u * c ∧ u * c ≤ a * c) ∧ 0 ≤ u * c + v ∧ u * c + v < a * c := by
  have h1 := Int.mul_nonneg hu.1 (show 0 ≤ c by omega)
  have h2 : (u + 1) * c ≤ a * c := Int.mul_le_mul_of_nonneg_right (by omega) (by omega)
  rw [Int.add_mul] at h2
  omega
theorem s_number (a b c u v : Int) (hc : 1 ≤ c ∧ c ≤ 64) (hu : 0 ≤ u ∧ u < 64) (hv : 0 ≤ v ∧ v < c) : Sp Tryz.prog 236 [aL a b c, aV u v] (vi (u * c + v)) [] := by
  refine sp_of (m := no) mixed Tryz.func236 k236 ?_
  have h := num_lt' hu hv
  simp -dsimp [q]
  rw [w64 (n := u * c) (by omega) (by omega), w64 (by omega) (by omega)]
theorem s_snumber (a b c x y : Int) (ha : 1 ≤ a ∧ a ≤ 64) (hb : 0 ≤ b ∧ b < a) (hc : 1 ≤ c ∧ c ≤ 64) (hx : -1000000000 ≤ x ∧ x ≤ 1000000000) (hy : -1000000000 ≤ y ∧ y ≤ 1000000000) : Sp Tryz.prog 153 [aL a b c, aV x y] (vi (num a b c x y)) [] := by
  refine sp_of (m := no) mixed Tryz.func153 k153 ?_
  have h0 := red_lt (b := b) (x := x) (y := y) ha.1 hc.1
  have h := num_lt' h0.1 h0.2
  have h2 := ac_hi ha hc
  simp -dsimp [q]
  refine call_of (s_sreduce _ _ _ _ _ ha hb hc hx hy) rfl (by simp) ?_
  try simp -dsimp
  try (first | exact fp_one (by decide) | refine fp_and (by decide) ?_)
  rw [w64 (n := redX a b c x y * c) (by omega) (by omega), w64 (by omega) (by omega)]
  rfl
end Go.Proofs.YtigebbijogidlaaGreatDoorFv
namespace Go.Proofs.YtigebbijogidlaaGreatDoorFv
open Go Go.Proofs
set_option maxRecDepth 10000
theorem mul_bd {x y : Int} {a b : Nat} (hx : x.natAbs ≤ a) (hy : y.natAbs ≤ b) : (x * y).natAbs ≤ a * b := by
  rw [Int.natAbs_mul]; exact Nat.mul_le_mul hx hy
theorem s_basis (a b c : Int) : Sp Tryz.prog 165 [aL a b c] (.tu [aV a 0, aV b c]) [] := by
  refine sp_of (m := no) mixed Tryz.func165 k165 ?_
  simp -dsimp [q]
  decide
abbrev vvs (l : List (Int × Int)) : V := .sl 2 (vs l)
theorem s_sbasis (a b c : Int) : Sp Tryz.prog 225 [aL a b c] (.v (vvs [(a, 0), (b, c)])) [] := by
  refine sp_of (m := no) mixed Tryz.func225 k225 ?_
  simp -dsimp [q]
  rfl
theorem s_sbasis' (a b c : Int) : Sp Tryz.prog 225 [aL a b c] (.sli 0) [.row 2 75 (vs [(a, 0), (b, c)])] := by
  refine sp_of (m := no) mixed Tryz.func225 k225 ?_
  simp -dsimp [q]
  rfl
theorem s_unit : Sp Tryz.prog 187 [] (aM 1 0 0 1) [] := by
  refine sp_of (m := no) mixed Tryz.func187 k187 ?_
  simp -dsimp [q]
theorem s_sunit : Sp Tryz.prog 156 [] (aM 1 0 0 1) [] := by
  refine sp_of (m := no) mixed Tryz.func156 k156 ?_
  simp -dsimp [q]
section
variable (p q' r s x y : Int) (hm : (p.natAbs ≤ 1000 ∧ q'.natAbs ≤ 1000) ∧ r.natAbs ≤ 1000 ∧ s.natAbs ≤ 1000) (hv : x.natAbs ≤ 1000000 ∧ y.natAbs ≤ 1000000)
include hm hv
theorem s_apply : Sp Tryz.prog 167 [aM p q' r s, aV x y] (aV (p * x + q' * y) (r * x + s * y)) [] := by
  refine sp_of (m := no) mixed Tryz.func167 k167 ?_
  have h1 := mul_bd hm.1.1 hv.1
  have h2 := mul_bd hm.1.2 hv.2
  have h3 := mul_bd hm.2.1 hv.1
  have h4 := mul_bd hm.2.2 hv.2
  simp -dsimp [q]
  rw [w64 (n := p * x) (by omega) (by omega), w64 (n := q' * y) (by omega) (by omega), w64 (n := r * x) (by omega) (by omega), w64 (n := s * y) (by omega) (by omega), w64 (by omega) (by omega), w64 (by omega) (by omega)]
  exact ⟨rfl, rfl⟩
theorem s_sapply : Sp Tryz.prog 120 [aM p q' r s, aV x y] (aV (p * x + q' * y) (r * x + s * y)) [] := by
  refine sp_of (m := no) mixed Tryz.func120 k120 ?_
  have h1 := mul_bd hm.1.1 hv.1
  have h2 := mul_bd hm.1.2 hv.2
  have h3 := mul_bd hm.2.1 hv.1
  have h4 := mul_bd hm.2.2 hv.2
  simp -dsimp [q]
  rw [w64 (n := p * x) (by omega) (by omega), w64 (n := q' * y) (by omega) (by omega), w64 (n := r * x) (by omega) (by omega), w64 (n := s * y) (by omega) (by omega), w64 (by omega) (by omega), w64 (by omega) (by omega)]
  exact ⟨rfl, rfl⟩
end
theorem s_times (x y n : Int) (hx : x.natAbs ≤ 4000000000000) (hy : y.natAbs ≤ 4000000000000) (hn : n.natAbs ≤ 1000000) : Sp Tryz.prog 212 [aV x y, vi n] (aV (n * x) (n * y)) [] := by
  refine sp_of (m := no) mixed Tryz.func212 k212 ?_
  have h1 := mul_bd hn hx
  have h2 := mul_bd hn hy
  simp -dsimp [q]
  rw [w64 (by omega) (by omega), w64 (by omega) (by omega)]
  exact ⟨rfl, rfl⟩
theorem s_scale (x y n : Int) (hx : x.natAbs ≤ 4000000000000) (hy : y.natAbs ≤ 4000000000000) (hn : n.natAbs ≤ 1000000) : Sp Tryz.prog 252 [aV x y, vi n] (aV (n * x) (n * y)) [] := by
  refine sp_of (m := no) mixed Tryz.func252 k252 ?_
  have h1 := mul_bd hn hx
  have h2 := mul_bd hn hy
  simp -dsimp [q]
  rw [w64 (by omega) (by omega), w64 (by omega) (by omega)]
  exact ⟨rfl, rfl⟩
section
variable (p q' r s : Int) (hm : (p.natAbs ≤ 1000 ∧ q'.natAbs ≤ 1000) ∧ r.natAbs ≤ 1000 ∧ s.natAbs ≤ 1000)
include hm
theorem s_det : Sp Tryz.prog 207 [aM p q' r s] (vi (p * s - q' * r)) [] := by
  refine sp_of (m := no) mixed Tryz.func207 k207 ?_
  have h1 := mul_bd hm.1.1 hm.2.2
  have h2 := mul_bd hm.1.2 hm.2.1
  simp -dsimp [q]
  rw [w64 (n := p * s) (by omega) (by omega), w64 (n := q' * r) (by omega) (by omega), w64 (by omega) (by omega)]
end
theorem s_ginv1 (x y : Int) (hx : x.natAbs ≤ 1000000) (hy : y.natAbs ≤ 1000000) : Sp Tryz.prog 168 [aG 1 0 0 1 x y] (aG 1 0 0 1 (-x) (-y)) [] := by
  refine sp_of (m := no) mixed Tryz.func168 k168 ?_
  have hi : Sp Tryz.prog 235 [aM 1 0 0 1] (aM 1 0 0 1) [] := by
    refine sp_of (m := no) mixed Tryz.func235 k235 ?_
    simp -dsimp [q]
    refine call_of (s_det 1 0 0 1 (by decide)) rfl (by simp) ?_
    try simp -dsimp
    try (first | exact fp_one (by decide) | refine fp_and (by decide) ?_)
    decide
  simp -dsimp [q]
  refine call_of (hi) rfl (by simp) ?_
  try simp -dsimp
  try (first | exact fp_one (by decide) | refine fp_and (by decide) ?_)
  refine call_of (s_apply 1 0 0 1 x y (by decide) ⟨hx, hy⟩) rfl (by simp) ?_
  try simp -dsimp
  try (first | exact fp_one (by decide) | refine fp_and (by decide) ?_)
  refine call_of (s_times _ _ _ (by omega) (by omega) (by decide)) rfl (by simp) ?_
  try simp -dsimp
  try (first | exact fp_one (by decide) | refine fp_and (by decide) ?_)
theorem s_gapply (p q' r s t u x y : Int) (hm : (p.natAbs ≤ 1000 ∧ q'.natAbs ≤ 1000) ∧ r.natAbs ≤ 1000 ∧ s.natAbs ≤ 1000) (hv : x.natAbs ≤ 100000 ∧ y.natAbs ≤ 100000) (ht : t.natAbs ≤ 1000000 ∧ u.natAbs ≤ 1000000) : Sp Tryz.prog 171 [aG p q' r s t u, aV x y] (aV (p * x + q' * y + t) (r * x + s * y + u)) [] := by
  refine sp_of (m := no) mixed Tryz.func171 k171 ?_
  have h1 := mul_bd hm.1.1 hv.1
  have h2 := mul_bd hm.1.2 hv.2
  have h3 := mul_bd hm.2.1 hv.1
  have h4 := mul_bd hm.2.2 hv.2
  simp -dsimp [q]
  refine call_of (s_apply p q' r s x y hm ⟨by omega, by omega⟩) rfl (by simp) ?_
  try simp -dsimp
  try (first | exact fp_one (by decide) | refine fp_and (by decide) ?_)
  refine call_of (s_add _ _ _ _ (by omega) (by omega) (by omega) (by omega)) rfl (by simp) ?_
  try simp -dsimp
  try (first | exact fp_one (by decide) | refine fp_and (by decide) ?_)
theorem s_sgapply (p q' r s t u x y : Int) (hm : (p.natAbs ≤ 1000 ∧ q'.natAbs ≤ 1000) ∧ r.natAbs ≤ 1000 ∧ s.natAbs ≤ 1000) (hv : x.natAbs ≤ 100000 ∧ y.natAbs ≤ 100000) (ht : t.natAbs ≤ 1000000 ∧ u.natAbs ≤ 1000000) : Sp Tryz.prog 154 [aG p q' r s t u, aV x y] (aV (p * x + q' * y + t) (r * x + s * y + u)) [] := by
  refine sp_of (m := no) mixed Tryz.func154 k154 ?_
  have h1 := mul_bd hm.1.1 hv.1
  have h2 := mul_bd hm.1.2 hv.2
  have h3 := mul_bd hm.2.1 hv.1
  have h4 := mul_bd hm.2.2 hv.2
  simp -dsimp [q]
  refine call_of (s_sapply p q' r s x y hm ⟨by omega, by omega⟩) rfl (by simp) ?_
  try simp -dsimp
  try (first | exact fp_one (by decide) | refine fp_and (by decide) ?_)
  refine call_of (s_sadd _ _ _ _ (by omega) (by omega) (by omega) (by omega)) rfl (by simp) ?_
  try simp -dsimp
  try (first | exact fp_one (by decide) | refine fp_and (by decide) ?_)
/-! divisors -/
theorem gcd_step (a b : Int) : Int.gcd b (a.tmod b) = Int.gcd a b := by
  rw [Int.gcd_comm a b]
  have h := Int.tmod_add_mul_tdiv a b
  have : a.tmod b = a - a.tdiv b * b := by rw [Int.mul_comm]; omega
  rw [this, Int.gcd_sub_mul_right_right]
theorem tmod_abs (a : Int) {b : Int} (hb : b ≠ 0) : (a.tmod b).natAbs < b.natAbs := by
  rw [Int.natAbs_tmod]
  exact Nat.mod_lt _ (by omega)
theorem s_gcd (a b : Int) (ha : a.natAbs ≤ 1000000000000000) (hb : b.natAbs ≤ 1000000000000000) : Sp Tryz.prog 233 [vi a, vi b] (vi (Int.gcd a b)) [] := by
  refine sp_of (m := no) mixed Tryz.func233 k233 ?_
  simp -dsimp [q]
  refine awp_it (true :: true :: []) (fun s : Int × Int => [(0, vi s.1), (1, vi s.2)]) (fun _ => []) (fun s => Int.gcd s.1 s.2 = Int.gcd a b ∧ s.1.natAbs ≤ 1000000000000000 ∧ s.2.natAbs ≤ 1000000000000000) (fun s => s.2.natAbs) (a, b) ?_
  intro s0 e
  simp -dsimp at e
  subst e
  refine ⟨?_, ?_⟩
  · simp [ha, hb]
  rintro ⟨x, y⟩ ⟨h1, h2, h3⟩
  simp -dsimp
  refine ⟨fun hy => ⟨hy, y, x.tmod y, by simp, ⟨by rw [gcd_step]; exact h1, h3, ?_⟩, tmod_abs x hy⟩, fun hy => ?_⟩
  · have := tmod_abs x hy
    omega
  · subst hy
    simp only [Int.gcd_zero_right] at h1
    rw [← h1, w64 (by omega) (by omega)]
    split <;> omega
theorem s_sgcd : ∀ (n : Nat) (a b : Int), b.natAbs ≤ n → a.natAbs ≤ 1000000000000000 → b.natAbs ≤ 1000000000000000 → Sp Tryz.prog 254 [vi a, vi b] (vi (Int.gcd a b)) []
  | 0, a, b, hn, ha, hb => by
    have : b = 0 := by omega
    subst this
    refine sp_of (m := no) mixed Tryz.func254 k254 ?_
    simp -dsimp [q]
    rw [w64 (by omega) (by omega)]
    split <;> omega
  | n + 1, a, b, hn, ha, hb => by
    by_cases h0 : b = 0
    · exact s_sgcd n a b (by omega) ha hb
    have h1 := tmod_abs a h0
    have ih := s_sgcd n b (a.tmod b) (by omega) hb (by omega)
    rw [gcd_step] at ih
    refine sp_of (m := no) mixed Tryz.func254 k254 ?_
    simp -dsimp [q, h0]
    refine call_of (ih) rfl (by simp) ?_
    try simp -dsimp
    try (first | exact fp_one (by decide) | refine fp_and (by decide) ?_)
end Go.Proofs.YtigebbijogidlaaGreatDoorFv
namespace Go.Proofs.YtigebbijogidlaaGreatDoorFv
open Go Go.Proofs
set_option maxRecDepth 10000
def eu : Nat → Int × Int → Int × Int → (Int × Int) × (Int × Int)
  | 0, h, v => (h, v)
  | n + 1, h, v => if v.2 = 0 then (h, v) else eu n v (h.1 - h.2.tdiv v.2 * v.1, h.2.tmod v.2)
theorem eu_zero {n : Nat} {h v : Int × Int} (hv : v.2 = 0) : eu n h v = (h, v) := by
  cases n <;> simp [eu, hv]
theorem eu_fuel : ∀ (n m : Nat) (h v : Int × Int), v.2.natAbs ≤ n → v.2.natAbs ≤ m → eu n h v = eu m h v
  | 0, m, h, v, hn, _ => by rw [eu_zero (by omega), eu_zero (by omega)]
  | n + 1, 0, h, v, _, hm => by rw [eu_zero (by omega), eu_zero (by omega)]
  | n + 1, m + 1, h, v, hn, hm => by
    by_cases hv : v.2 = 0
    · rw [eu_zero hv, eu_zero hv]
    · have h1 := tmod_abs h.2 hv
      simp only [eu, if_neg hv]
      exact eu_fuel n m _ _ (by simp only; omega) (by simp only; omega)
theorem eu_step {h v : Int × Int} (hv : v.2 ≠ 0) : eu v.2.natAbs h v = eu (h.2.tmod v.2).natAbs v (h.1 - h.2.tdiv v.2 * v.1, h.2.tmod v.2) := by
  have h1 := tmod_abs h.2 hv
  obtain ⟨n, hn⟩ : ∃ n, v.2.natAbs = n + 1 := ⟨v.2.natAbs - 1, by omega⟩
  rw [hn]
  simp only [eu, if_neg hv]
  exact eu_fuel _ _ _ _ (by simp only; omega) (Nat.le_refl _)
def pot (h v : Int × Int) : Nat := h.1.natAbs * v.2.natAbs + v.1.natAbs * h.2.natAbs
theorem pot_step {h v : Int × Int} : pot v (h.1 - h.2.tdiv v.2 * v.1, h.2.tmod v.2) ≤ pot h v := by
  obtain ⟨a, b⟩ := h
  obtain ⟨c, d⟩ := v
  simp only [pot]
  have h1 : (a - b.tdiv d * c).natAbs ≤ a.natAbs + b.natAbs / d.natAbs * c.natAbs := by
    have := Int.natAbs_sub_le a (b.tdiv d * c)
    rw [Int.natAbs_mul, Int.natAbs_tdiv] at this
    exact this
  have h2 := Nat.mul_le_mul_right d.natAbs h1
  rw [Int.natAbs_tmod]
  have h3 := Nat.mod_add_div b.natAbs d.natAbs
  have h4 : c.natAbs * b.natAbs = c.natAbs * (b.natAbs % d.natAbs) + b.natAbs / d.natAbs * c.natAbs * d.natAbs := by
    rw [← Nat.mul_comm d.natAbs, ← Nat.mul_assoc, Nat.mul_comm _ c.natAbs, ← Nat.mul_add, h3]
  rw [Nat.add_mul] at h2
  generalize (a - b.tdiv d * c).natAbs * d.natAbs = X at *
  generalize a.natAbs * d.natAbs = Y at *
  generalize c.natAbs * (b.natAbs % d.natAbs) = Z at *
  generalize b.natAbs / d.natAbs * c.natAbs * d.natAbs = W at *
  omega
theorem eu_small {h v : Int × Int} {B : Nat} (hP : pot h v ≤ B) (hv : v.2 ≠ 0) : (h.2.tdiv v.2 * v.1).natAbs ≤ B ∧ (h.2.tdiv v.2).natAbs ≤ h.2.natAbs ∧ (h.2.tdiv v.2 * v.2).natAbs ≤ h.2.natAbs := by
  have hd : 0 < v.2.natAbs := by omega
  unfold pot at hP
  rw [Int.natAbs_mul, Int.natAbs_mul, Int.natAbs_tdiv]
  have h1 := Nat.div_mul_le_self h.2.natAbs v.2.natAbs
  have h2 := Nat.div_le_self h.2.natAbs v.2.natAbs
  refine ⟨?_, h2, h1⟩
  have h3 := Nat.mul_le_mul_right v.1.natAbs h2
  rw [Nat.mul_comm h.2.natAbs v.1.natAbs] at h3
  exact Nat.le_trans h3 (Nat.le_trans (Nat.le_add_left _ _) hP)
def lstep (s : Int × Int × Int) (v : Int × Int) : Int × Int × Int := ((Int.gcd s.1 (eu v.2.natAbs s.2 v).2.1 : Int), (eu v.2.natAbs s.2 v).1)
def lfold (l : List (Int × Int)) : Int × Int × Int := l.foldl lstep (0, 0, 0)
def lfin (s : Int × Int × Int) : Int × Int × Int := (s.1, (if s.2.2 < 0 then -s.2.1 else s.2.1) % s.1, if s.2.2 < 0 then -s.2.2 else s.2.2)
theorem lfold_snoc (l : List (Int × Int)) (v : Int × Int) : lfold (l ++ [v]) = lstep (lfold l) v := by simp [lfold]
def smallV (n : Nat) (v : Int × Int) : Prop := v.1.natAbs ≤ n ∧ v.2.natAbs ≤ n
def lsmall (l : List (Int × Int)) : Prop := (∀ v ∈ l, smallV 1000000 v) ∧ ∀ k, smallV 1000000 (lfold (l.take k)).2 ∧ (lfold (l.take k)).1.natAbs ≤ 1000000
abbrev bV (v : Int × Int) : Ck := .box [.v (.int .i64 v.1), .v (.int .i64 v.2)]
theorem s_latticeOf (l : List (Int × Int)) (hl : l.length ≤ 1048576) (hs : lsmall l) (h0 : 0 < (lfold l).1) : Sp Tryz.prog 166 [.v (vvs l)] (aL (lfin (lfold l)).1 (lfin (lfold l)).2.1 (lfin (lfold l)).2.2) [] := by
  refine sp_of (m := no) mixed Tryz.func166 k166 ?_
  simp -dsimp [q]
  refine awp_it (false :: false :: true :: true :: true :: false :: false :: false :: false :: true :: true :: true :: []) (fun i : Nat => [(3, vi (lfold (l.take i)).1), (11, vi i)]) (fun i => [(1, bV (lfold (l.take i)).2)]) (fun i => i ≤ l.length) (fun i => l.length - i) 0 ?_
  intro s0 e
  simp -dsimp at e
  subst e
  refine ⟨?_, ?_⟩
  · simp [lfold]
  intro i hi
  simp -dsimp
  refine ⟨fun h1 => ⟨h1, fun vx vy hv => ?_⟩, fun h1 => ?_⟩
  · obtain ⟨hsv, hsl⟩ := hs
    obtain ⟨v, rfl, rfl⟩ : ∃ v : Int × Int, vx = v.1 ∧ vy = v.2 := ⟨(vx, vy), rfl, rfl⟩
    obtain ⟨b1, b2⟩ := hsv v (List.mem_of_getElem? hv)
    obtain ⟨⟨b3, b4⟩, b5⟩ := hsl i
    have hst : lfold (l.take (i + 1)) = lstep (lfold (l.take i)) v := by rw [List.take_add_one, hv]; exact lfold_snoc _ _
    obtain ⟨⟨b6, b7⟩, b8⟩ := hsl (i + 1)
    rw [hst] at b6 b7 b8
    have hst' := hst
    generalize lfold (l.take i) = s at *
    have hP : pot s.2 v ≤ 2000000000000 := by
      have h1 := Nat.mul_le_mul b3 b2
      have h2 := Nat.mul_le_mul b1 b4
      unfold pot
      omega
    refine awp_it (false :: false :: true :: true :: true :: false :: true :: false :: false :: true :: true :: true :: []) (fun _ : (Int × Int) × (Int × Int) => []) (fun t => [(1, bV t.1), (2, bV t.2)]) (fun t => eu t.2.2.natAbs t.1 t.2 = eu v.2.natAbs s.2 v ∧ pot t.1 t.2 ≤ 2000000000000 ∧ (t.1.1.natAbs ≤ 2000000000000 ∧ t.1.2.natAbs ≤ 1000000) ∧ t.2.1.natAbs ≤ 2000000000000 ∧ t.2.2.natAbs ≤ 1000000) (fun t => t.2.2.natAbs) (s.2, v) ?_
    intro s0 e
    simp -dsimp at e
    subst e
    refine ⟨?_, ?_⟩
    · simp
      omega
    rintro ⟨h, u⟩ ⟨c1, c2, ⟨c3, c4⟩, c5, c6⟩
    simp -dsimp
    refine ⟨fun hu => ?_, fun hu => ?_⟩
    · have e1 := eu_small c2 hu
      have e2 := pot_step (h := h) (v := u)
      have e3 := Int.tmod_add_mul_tdiv h.2 u.2
      have e4 := tmod_abs h.2 hu
      have e5 := eu_step (h := h) hu
      simp only at e1 c1 c2 c3 c4 c5 c6
      refine ⟨hu, ?_⟩
      rw [w64 (n := h.2.tdiv u.2) (by omega) (by omega), w64 (n := -h.2.tdiv u.2) (by omega) (by omega)]
      refine call_of (s_times _ _ _ (by omega) (by omega) (by omega)) rfl (by simp) ?_
      try simp -dsimp
      try (first | exact fp_one (by decide) | refine fp_and (by decide) ?_)
      rw [Int.neg_mul, Int.neg_mul]
      rw [Int.mul_comm] at e3
      refine call_of (s_add _ _ _ _ (by omega) (by omega) (by omega) (by omega)) rfl (by simp) ?_
      try simp -dsimp
      try (first | exact fp_one (by decide) | refine fp_and (by decide) ?_)
      refine ⟨u.1, u.2, h.1 - h.2.tdiv u.2 * u.1, h.2.tmod u.2, ⟨⟨rfl, rfl⟩, by omega, by omega⟩, ⟨by rw [← c1, e5], Nat.le_trans e2 c2, ⟨c5, c6⟩, ?_, by omega⟩, e4⟩
      have e6 : (h.1 - h.2.tdiv u.2 * u.1).natAbs * u.2.natAbs ≤ 2000000000000 := by
        have := Nat.le_trans e2 c2
        unfold pot at this
        exact Nat.le_trans (Nat.le_add_left _ _) this
      have e7 := Nat.le_mul_of_pos_right (h.1 - h.2.tdiv u.2 * u.1).natAbs (show 0 < u.2.natAbs by omega)
      omega
    · simp only at c1 c2 c3 c4 c5 c6
      rw [eu_zero hu] at c1
      refine call_of (s_gcd _ _ (by omega) (by omega)) rfl (by simp) ?_
      try simp -dsimp
      try (first | exact fp_one (by decide) | refine fp_and (by decide) ?_)
      have e8 : lstep s v = ((Int.gcd s.1 u.1 : Int), h) := by simp only [lstep, ← c1]
      rw [e8] at hst
      refine ⟨i + 1, ⟨⟨by rw [hst], by rw [w64 (by omega) (by omega)]; simp⟩, by rw [hst], by rw [hst]⟩, by omega, by omega⟩
  · have e := hs.2 l.length
    rw [List.take_length] at e
    rw [List.take_of_length_le h1]
    obtain ⟨⟨b1, b2⟩, b3⟩ := e
    generalize lfold l = s at *
    unfold lfin
    by_cases hn : s.2.2 < 0
    · rw [if_pos hn, if_pos hn]
      refine br_l hn (by omega) ?_
      refine call_of (s_times _ _ _ (by omega) (by omega) (by decide)) rfl (by simp) ?_
      try simp -dsimp
      try (first | exact fp_one (by decide) | refine fp_and (by decide) ?_)
      refine call_of (s_mod _ _ (by omega)) rfl (by simp) ?_
      try simp -dsimp
      try (first | exact fp_one (by decide) | refine fp_and (by decide) ?_)
    · rw [if_neg hn, if_neg hn]
      refine br_r hn (by omega) ?_
      refine call_of (s_mod _ _ (by omega)) rfl (by simp) ?_
      try simp -dsimp
      try (first | exact fp_one (by decide) | refine fp_and (by decide) ?_)
/-! the reference's -/
def lstepS (s : Int × Int × Int) (v : Int × Int) : Int × Int × Int :=
  ((Int.gcd s.1 (eu v.2.natAbs s.2 v).2.1 : Int), if (0 : Int) < Int.gcd s.1 (eu v.2.natAbs s.2 v).2.1 then (eu v.2.natAbs s.2 v).1.1 % (Int.gcd s.1 (eu v.2.natAbs s.2 v).2.1 : Int) else (eu v.2.natAbs s.2 v).1.1, (eu v.2.natAbs s.2 v).1.2)
def lfoldS (l : List (Int × Int)) : Int × Int × Int := l.foldl lstepS (0, 0, 0)
theorem lfoldS_snoc (l : List (Int × Int)) (v : Int × Int) : lfoldS (l ++ [v]) = lstepS (lfoldS l) v := by simp [lfoldS]
def lsmallS (l : List (Int × Int)) : Prop := (∀ v ∈ l, smallV 1000000 v) ∧ ∀ k, smallV 1000000 (lfoldS (l.take k)).2 ∧ (lfoldS (l.take k)).1.natAbs ≤ 1000000
theorem s_hermite (l : List (Int × Int)) (hl : l.length ≤ 1048576) (hs : lsmallS l) (h0 : 0 < (lfoldS l).1) : Sp Tryz.prog 226 [.v (vvs l)] (aL (lfin (lfoldS l)).1 (lfin (lfoldS l)).2.1 (lfin (lfoldS l)).2.2) [] := by
  refine sp_of (m := no) mixed Tryz.func226 k226 ?_
  simp -dsimp [q]
  refine awp_it (true :: false :: true :: true :: true :: true :: []) (fun i : Nat => [(4, vi (lfoldS (l.take i)).1), (5, vi i)]) (fun i => [(1, bV (lfoldS (l.take i)).2)]) (fun i => i ≤ l.length) (fun i => l.length - i) 0 ?_
  intro s0 e
  simp -dsimp at e
  subst e
  refine ⟨?_, ?_⟩
  · simp [lfoldS]
  intro i hi
  simp -dsimp
  refine ⟨fun h1 => ⟨h1, fun vx vy hv => ?_⟩, fun h1 => ?_⟩
  · obtain ⟨hsv, hsl⟩ := hs
    obtain ⟨v, rfl, rfl⟩ : ∃ v : Int × Int, vx = v.1 ∧ vy = v.2 := ⟨(vx, vy), rfl, rfl⟩
    obtain ⟨b1, b2⟩ := hsv v (List.mem_of_getElem? hv)
    obtain ⟨⟨b3, b4⟩, b5⟩ := hsl i
    have hst : lfoldS (l.take (i + 1)) = lstepS (lfoldS (l.take i)) v := by rw [List.take_add_one, hv]; exact lfoldS_snoc _ _
    obtain ⟨⟨b6, b7⟩, b8⟩ := hsl (i + 1)
    rw [hst] at b6 b7 b8
    generalize lfoldS (l.take i) = s at *
    have hP : pot s.2 v ≤ 2000000000000 := by
      have h1 := Nat.mul_le_mul b3 b2
      have h2 := Nat.mul_le_mul b1 b4
      unfold pot
      omega
    refine awp_it (true :: false :: true :: true :: true :: true :: true :: []) (fun _ : (Int × Int) × (Int × Int) => []) (fun t => [(1, bV t.1), (2, bV t.2)]) (fun t => eu t.2.2.natAbs t.1 t.2 = eu v.2.natAbs s.2 v ∧ pot t.1 t.2 ≤ 2000000000000 ∧ (t.1.1.natAbs ≤ 2000000000000 ∧ t.1.2.natAbs ≤ 1000000) ∧ t.2.1.natAbs ≤ 2000000000000 ∧ t.2.2.natAbs ≤ 1000000) (fun t => t.2.2.natAbs) (s.2, v) ?_
    intro s0 e
    simp -dsimp at e
    subst e
    refine ⟨?_, ?_⟩
    · simp
      omega
    rintro ⟨h, u⟩ ⟨c1, c2, ⟨c3, c4⟩, c5, c6⟩
    simp -dsimp
    refine ⟨fun hu => ?_, fun hu => ?_⟩
    · have e1 := eu_small c2 hu
      have e2 := pot_step (h := h) (v := u)
      have e3 := Int.tmod_add_mul_tdiv h.2 u.2
      have e4 := tmod_abs h.2 hu
      have e5 := eu_step (h := h) hu
      simp only at e1 c1 c2 c3 c4 c5 c6
      rw [Int.mul_comm] at e3
      have e6 : (h.1 - h.2.tdiv u.2 * u.1).natAbs * u.2.natAbs ≤ 2000000000000 := by
        have := Nat.le_trans e2 c2
        unfold pot at this
        exact Nat.le_trans (Nat.le_add_left _ _) this
      have e7 := Nat.le_mul_of_pos_right (h.1 - h.2.tdiv u.2 * u.1).natAbs (show 0 < u.2.natAbs by omega)
      rw [w64 (n := h.2.tdiv u.2) (by omega) (by omega), w64 (n := h.2.tdiv u.2 * u.1) (by omega) (by omega), w64 (n := h.2.tdiv u.2 * u.2) (by omega) (by omega)]
      refine ⟨hu, u.1, u.2, h.1 - h.2.tdiv u.2 * u.1, h.2.tmod u.2, ⟨⟨rfl, rfl⟩, ?_, ?_⟩, ⟨by rw [← c1, e5], Nat.le_trans e2 c2, ⟨c5, c6⟩, by omega, by omega⟩, e4⟩
      · rw [w64 (by omega) (by omega)]
      · rw [w64 (by omega) (by omega)]; omega
    · simp only at c1 c2 c3 c4 c5 c6
      rw [eu_zero hu] at c1
      have wg := s_sgcd _ s.1 u.1 (Nat.le_refl _) (by omega) (by omega)
      have e8 : lstepS s v = ((Int.gcd s.1 u.1 : Int), if (0 : Int) < Int.gcd s.1 u.1 then h.1 % (Int.gcd s.1 u.1 : Int) else h.1, h.2) := by simp only [lstepS, ← c1]
      generalize (Int.gcd s.1 u.1 : Int) = g at wg e8
      rw [e8] at hst b6 b7 b8
      simp only at b8
      refine call_of (wg) rfl (by simp) ?_
      try simp -dsimp
      try (first | exact fp_one (by decide) | refine fp_and (by decide) ?_)
      by_cases hg : 0 < g
      · rw [if_pos hg] at hst
        refine br_l hg (by omega) ?_
        refine call_of (s_smod _ _ (by omega)) rfl (by simp) ?_
        try simp -dsimp
        try (first | exact fp_one (by decide) | refine fp_and (by decide) ?_)
        refine ⟨i + 1, ⟨⟨by rw [hst], by rw [w64 (by omega) (by omega)]; simp⟩, by rw [hst], by rw [hst]⟩, by omega, by omega⟩
      · rw [if_neg hg] at hst
        refine br_r hg (by omega) ?_
        refine ⟨i + 1, ⟨⟨by rw [hst], by rw [w64 (by omega) (by omega)]; simp⟩, by rw [hst], by rw [hst]⟩, by omega, by omega⟩
  · have e := hs.2 l.length
    rw [List.take_length] at e
    rw [List.take_of_length_le h1]
    obtain ⟨⟨b1, b2⟩, b3⟩ := e
    generalize lfoldS l = s at *
    unfold lfin
    by_cases hn : s.2.2 < 0
    · rw [if_pos hn, if_pos hn]
      refine br_l hn (by omega) ?_
      refine call_of (s_scale _ _ _ (by omega) (by omega) (by decide)) rfl (by simp) ?_
      try simp -dsimp
      try (first | exact fp_one (by decide) | refine fp_and (by decide) ?_)
      refine br_l h0 (by omega) ?_
      refine call_of (s_smod _ _ (by omega)) rfl (by simp) ?_
      try simp -dsimp
      try (first | exact fp_one (by decide) | refine fp_and (by decide) ?_)
    · rw [if_neg hn, if_neg hn]
      refine br_r hn (by omega) ?_
      refine br_l h0 (by omega) ?_
      refine call_of (s_smod _ _ (by omega)) rfl (by simp) ?_
      try simp -dsimp
      try (first | exact fp_one (by decide) | refine fp_and (by decide) ?_)
end Go.Proofs.YtigebbijogidlaaGreatDoorFv
namespace Go.Proofs.YtigebbijogidlaaGreatDoorFv
open Go Go.Proofs
theorem rowL_get (x : Int) : ∀ (n k : Nat), k < n → (rowL x n)[k]? = some (x, (k : Int))
  | n + 1, k, h => by
    simp only [rowL]
    by_cases e : k < n
    · rw [List.getElem?_append_left (by rw [rowL_len]; exact e)]; exact rowL_get x n k e
    · have : k = n := by omega
      subst this
      rw [List.getElem?_append_right (by rw [rowL_len]; omega), rowL_len]
      simp
theorem cellsL_get (c : Nat) (hc : 0 < c) : ∀ (n k : Nat), k < n * c → (cellsL c n)[k]? = some (((k / c : Nat) : Int), ((k % c : Nat) : Int))
  | 0, k, h => by simp at h
  | n + 1, k, h => by
    simp only [cellsL]
    by_cases e : k < n * c
    · rw [List.getElem?_append_left (by rw [cellsL_len]; exact e)]; exact cellsL_get c hc n k e
    · rw [List.getElem?_append_right (by rw [cellsL_len]; omega), cellsL_len]
      rw [Nat.succ_mul] at h
      rw [rowL_get _ _ _ (by omega)]
      have h1 : k / c = n := by
        rw [Nat.div_eq_iff hc]
        refine ⟨by omega, by omega⟩
      have h2 : k % c = k - n * c := by
        have := Nat.div_add_mod k c
        rw [h1, Nat.mul_comm] at this
        omega
      rw [h1, h2]
theorem num_cell {a b c : Int} (hc : 0 < c) {k : Nat} (hk : (k : Int) < a * c) : num a b c ((k / c.toNat : Nat) : Int) ((k % c.toNat : Nat) : Int) = k := by
  obtain ⟨n, rfl⟩ : ∃ n : Nat, c = n := ⟨c.toNat, by omega⟩
  have hn : 0 < n := by omega
  have h1 := Nat.mod_lt k hn
  have h2 := Nat.div_add_mod k n
  have h3 : ((k % n : Nat) : Int) / (n : Int) = 0 := Int.ediv_eq_zero_of_lt (by omega) (by omega)
  have h4 : ((k % n : Nat) : Int) % (n : Int) = (k % n : Nat) := Int.emod_eq_of_lt (by omega) (by omega)
  have h5 : ((k / n : Nat) : Int) < a := by
    rcases Int.lt_or_le ((k / n : Nat) : Int) a with h | h
    · exact h
    · exfalso
      have h6 := Int.mul_le_mul_of_nonneg_right h (show (0 : Int) ≤ n by omega)
      have h7 : ((k / n : Nat) : Int) * (n : Int) = ((n * (k / n) : Nat) : Int) := by rw [Int.mul_comm]; simp
      omega
  simp only [num, redX, Int.toNat_natCast, h3, h4, Int.zero_mul, Int.sub_zero]
  rw [Int.emod_eq_of_lt (Int.natCast_nonneg _) h5]
  have h7 : ((k / n : Nat) : Int) * (n : Int) = ((n * (k / n) : Nat) : Int) := by rw [Int.mul_comm]; simp
  omega
theorem num_range {a b c x y : Int} (ha : 0 < a) (hc : 0 < c) : 0 ≤ num a b c x y ∧ num a b c x y < a * c := by
  have h := red_lt (a := a) (b := b) (c := c) (x := x) (y := y) ha hc
  exact (num_lt' h.1 h.2).2
theorem cell_num {a b c x y : Int} (ha : 0 < a) (hc : 0 < c) : (((num a b c x y).toNat / c.toNat : Nat) : Int) = redX a b c x y ∧ (((num a b c x y).toNat % c.toNat : Nat) : Int) = y % c := by
  have h := red_lt (a := a) (b := b) (c := c) (x := x) (y := y) ha hc
  have h1 := (num_lt' h.1 h.2).2
  have h2 : ((num a b c x y).toNat : Int) = num a b c x y := Int.toNat_of_nonneg h1.1
  have h3 : ((c.toNat : Nat) : Int) = c := Int.toNat_of_nonneg (by omega)
  constructor
  · rw [Int.natCast_ediv, h2, h3]
    unfold num
    rw [Int.add_comm, Int.add_mul_ediv_right _ _ (by omega), Int.ediv_eq_zero_of_lt h.2.1 h.2.2, Int.zero_add]
  · rw [Int.natCast_emod, h2, h3]
    unfold num
    rw [Int.add_comm, Int.add_mul_emod_self_right, Int.emod_eq_of_lt h.2.1 h.2.2]
theorem num_add {a b c x y u v : Int} (hc : 0 < c) : num a b c (redX a b c x y + u) (y % c + v) = num a b c (x + u) (y + v) := by
  have h1 : (y + v) % c = (y % c + v) % c := by rw [Int.emod_add_emod]
  have h2 : (y + v) / c = y / c + (y % c + v) / c := by
    have h3 := Int.mul_ediv_add_emod y c
    rw [show y + v = (y % c + v) + c * (y / c) by omega, Int.add_mul_ediv_left _ _ (by omega)]
    omega
  have h4 : redX a b c (redX a b c x y + u) (y % c + v) = redX a b c (x + u) (y + v) := by
    unfold redX
    rw [h2, Int.add_mul]
    rw [show (x - y / c * b) % a + u - (y % c + v) / c * b = (x - y / c * b) % a + (u - (y % c + v) / c * b) by omega, Int.emod_add_emod]
    congr 1
    omega
  unfold num
  rw [h4, h1]
theorem num_shift {a b c x y u v : Int} (ha : 0 < a) (hc : 0 < c) : num a b c ((((num a b c x y).toNat / c.toNat : Nat) : Int) + u) ((((num a b c x y).toNat % c.toNat : Nat) : Int) + v) = num a b c (x + u) (y + v) := by
  obtain ⟨h1, h2⟩ := cell_num (b := b) (x := x) (y := y) ha hc
  rw [h1, h2, num_add hc]
theorem num_back {a b c u v : Int} (ha : 0 < a) (hc : 0 < c) {k : Nat} (hk : (k : Int) < a * c) : num a b c ((((num a b c ((k / c.toNat : Nat) + u) ((k % c.toNat : Nat) + v)).toNat / c.toNat : Nat) : Int) + -u) ((((num a b c ((k / c.toNat : Nat) + u) ((k % c.toNat : Nat) + v)).toNat % c.toNat : Nat) : Int) + -v) = k := by
  rw [num_shift ha hc]
  rw [show ((k / c.toNat : Nat) : Int) + u + -u = ((k / c.toNat : Nat) : Int) by omega, show ((k % c.toNat : Nat) : Int) + v + -v = ((k % c.toNat : Nat) : Int) by omega]
  exact num_cell hc hk
/-! entries set one behind the other -/
def setN (p : Nat → Bool) (ix : Nat → Nat) (val : Nat → Int) (l : List Int) : Nat → List Int
  | 0 => l
  | n + 1 => if p n = true then (setN p ix val l n).set (ix n) (val n) else setN p ix val l n
theorem setN_len (p : Nat → Bool) (ix : Nat → Nat) (val : Nat → Int) (l : List Int) : ∀ n, (setN p ix val l n).length = l.length
  | 0 => rfl
  | n + 1 => by simp only [setN]; split <;> simp [setN_len p ix val l n]
theorem setN_get {p : Nat → Bool} {ix : Nat → Nat} {val : Nat → Int} {l : List Int} {m j i : Nat} (hj : j < l.length) (hi : i < m) (hix : ∀ k, k < m → (ix k = j ↔ k = i)) : ∀ n, n ≤ m → (setN p ix val l n)[j]? = if i < n ∧ p i = true then some (val i) else l[j]?
  | 0, _ => by simp [setN]
  | n + 1, hn => by
    have ih := setN_get (p := p) (val := val) hj hi hix n (by omega)
    simp only [setN]
    by_cases hp : p n = true
    · rw [if_pos hp]
      by_cases e : ix n = j
      · have := (hix n (by omega)).1 e
        subst this
        rw [e, List.getElem?_set_self (by rw [setN_len]; exact hj), if_pos ⟨by omega, hp⟩]
      · rw [List.getElem?_set_ne e, ih]
        have : n ≠ i := fun h => e ((hix n (by omega)).2 h)
        by_cases h2 : i < n ∧ p i = true
        · rw [if_pos h2, if_pos ⟨by omega, h2.2⟩]
        · rw [if_neg h2, if_neg (fun h => h2 ⟨by omega, h.2⟩)]
    · rw [if_neg hp, ih]
      by_cases h2 : i < n ∧ p i = true
      · rw [if_pos h2, if_pos ⟨by omega, h2.2⟩]
      · rw [if_neg h2, if_neg (fun h => by
          have : i ≠ n := fun e => hp (e ▸ h.2)
          exact h2 ⟨by omega, h.2⟩)]
def mv (a b c u v : Int) (k : Nat) : Nat := (num a b c ((k / c.toNat : Nat) + u) ((k % c.toNat : Nat) + v)).toNat
theorem mv_lt {a b c u v : Int} (ha : 0 < a) (hc : 0 < c) (k : Nat) : mv a b c u v k < (a * c).toNat := by
  have := num_range (b := b) (x := (k / c.toNat : Nat) + u) (y := (k % c.toNat : Nat) + v) ha hc
  unfold mv
  omega
theorem mv_iff {a b c u v : Int} (ha : 0 < a) (hc : 0 < c) {k j : Nat} (hk : (k : Int) < a * c) (hj : (j : Int) < a * c) : mv a b c u v k = j ↔ k = mv a b c (-u) (-v) j := by
  constructor
  · rintro rfl
    have := num_back (b := b) (u := u) (v := v) ha hc hk
    unfold mv
    omega
  · rintro rfl
    have := num_back (b := b) (u := -u) (v := -v) ha hc hj
    rw [Int.neg_neg, Int.neg_neg] at this
    unfold mv
    omega
theorem cell_of {a c x y : Int} {i : Nat} (ha : 1 ≤ a) (hc : 1 ≤ c) (h : (cellsL c.toNat a.toNat)[i]? = some (x, y)) : ((0 ≤ x ∧ x < a) ∧ 0 ≤ y ∧ y < c) ∧ (∀ b u v, mv a b c u v i = (num a b c (x + u) (y + v)).toNat) ∧ x * c + y = i := by
  have hi : i < a.toNat * c.toNat := by
    have := (List.getElem?_eq_some_iff.1 h).1
    rwa [cellsL_len] at this
  rw [cellsL_get _ (by omega) _ _ hi] at h
  simp only [Option.some.injEq, Prod.mk.injEq] at h
  obtain ⟨rfl, rfl⟩ := h
  have h1 := Nat.mod_lt i (show 0 < c.toNat by omega)
  have h2 : i / c.toNat < a.toNat := Nat.div_lt_of_lt_mul (by rw [Nat.mul_comm]; exact hi)
  refine ⟨⟨⟨Int.natCast_nonneg _, by omega⟩, Int.natCast_nonneg _, by omega⟩, fun b u v => rfl, ?_⟩
  have h3 := Nat.div_add_mod i c.toNat
  have h4 : ((i / c.toNat : Nat) : Int) * c = ((c.toNat * (i / c.toNat) : Nat) : Int) := by rw [Int.natCast_mul, Int.toNat_of_nonneg (by omega), Int.mul_comm]
  omega
theorem nat_n {a c : Int} (ha : 1 ≤ a) (hc : 1 ≤ c) {n : Nat} (h : (n : Int) = a * c) : a.toNat * c.toNat = n := by
  have h2 : ((a.toNat * c.toNat : Nat) : Int) = a * c := by rw [Int.natCast_mul, Int.toNat_of_nonneg (by omega), Int.toNat_of_nonneg (by omega)]
  omega
end Go.Proofs.YtigebbijogidlaaGreatDoorFv
namespace Go.Proofs.YtigebbijogidlaaGreatDoorFv
open Go Go.Proofs
set_option maxRecDepth 10000
theorem toArgs_shut {h : List Ck} : ∀ {cs : List A}, cs.all A.shut = true → toArgs h cs = some (cs, [])
  | [], _ => rfl
  | c :: cs, hc => by
    simp only [List.all_cons, Bool.and_eq_true] at hc
    have := toArgs_shut (h := h) hc.2
    cases c <;> first | (simp [toArgs, toArg, toArg1, this]; done) | (have := hc.1; cases this)
theorem s_nw (n lo hi : Int) : Sp Tryz.prog 179 [vi n, .fq [.int .i64 lo], .fq [.int .i64 hi]] (vb (!decide (lo ≤ n ∧ n ≤ hi))) [] := by
  refine sp_of (m := no) mixed Tryz.func179 k179 ?_
  simp -dsimp [q]
  exact call_of (s_within n lo hi) rfl (by simp) (by simp -dsimp)
theorem s_fi (l : List Int) (f : Nat) (cs : List A) (p : Int → Bool) (h : l.length ≤ 1048576) (hc : cs.all A.shut = true) (hf : ∀ n ∈ l, Sp Tryz.prog f (vi n :: cs) (vb (p n)) []) : Sp Tryz.prog 239 [.v (vis l), .fn f cs] (vi (if l.any p = true then l.findIdx p else -1)) [] := by
  refine sp_of (m := no) mixed Tryz.func239 k239 ?_
  simp -dsimp [q]
  refine awp_it (true :: true :: false :: false :: false :: false :: false :: true :: true :: []) (fun i : Nat => [(8, vi i)]) (fun i => []) (fun i => i ≤ l.length ∧ (l.take i).any p = false) (fun i => l.length - i) 0 ?_
  intro s0 e
  simp -dsimp [hc] at e
  subst e
  refine ⟨?_, ?_⟩
  · simp [hc]
  intro i hi
  simp -dsimp [hc]
  refine ⟨fun h1 => ⟨h1, fun a ha => call_of (rd := []) (hf a (List.mem_of_getElem? ha)) (by simp [toArgs_shut hc]) (by simp) ?_⟩, fun h1 => ?_⟩
  · simp -dsimp [hc]
    have hi2 : ∀ x ∈ l.take i, p x = false := fun x hx => by
      have := List.any_eq_false.1 hi.2 x hx
      simpa using this
    obtain ⟨_, hal⟩ := List.getElem?_eq_some_iff.1 ha
    refine ⟨fun hp => ?_, fun hp => ⟨i + 1, by rw [w64 (by omega) (by omega)]; simp, ⟨by omega, fun x hx => ?_⟩, by omega⟩⟩
    · rw [if_pos ⟨a, List.mem_of_getElem? ha, hp⟩, (List.findIdx_eq h1).2 ⟨by rw [hal]; exact hp, fun j hj => hi2 _ (List.mem_iff_getElem.2 ⟨j, by simp; omega, by simp⟩)⟩]
    · rw [List.take_add_one, ha] at hx
      rcases List.mem_append.1 hx with hx | hx
      · exact hi2 x hx
      · simp at hx; rw [hx]; exact hp
  · have := hi.2
    rw [List.take_of_length_le h1] at this
    intro x hx
    simpa using List.any_eq_false.1 this x hx
theorem s_has (l : List Int) (f : Nat) (cs : List A) (p : Int → Bool) (h : l.length ≤ 1048576) (hc : cs.all A.shut = true) (hf : ∀ n ∈ l, Sp Tryz.prog f (vi n :: cs) (vb (p n)) []) : Sp Tryz.prog 178 [.v (vis l), .fn f cs] (vb (l.any p)) [] := by
  refine sp_of (m := no) mixed Tryz.func178 k178 ?_
  simp -dsimp [q]
  refine call_of (rd := []) (s_fi l f cs p h hc hf) (by simp [hc]) (by simp) ?_
  simp -dsimp
  by_cases hp : l.any p = true
  · rw [hp, if_pos (by simpa using hp)]
    simp
  · rw [if_neg (by simpa using hp)]
    simp at hp
    simpa using hp
theorem s_all (l : List Int) (lo hi : Int) (h : l.length ≤ 1048576) : Sp Tryz.prog 125 [.v (vis l), vi lo, vi hi] (vb (l.all fun n => decide (lo ≤ n ∧ n ≤ hi))) [] := by
  refine sp_of (m := no) mixed Tryz.func125 k125 ?_
  simp -dsimp [q]
  refine call_of (rd := []) (s_has l _ _ _ h rfl fun n _ => s_nw n lo hi) rfl (by simp) ?_
  simp -dsimp
  induction l with
  | nil => rfl
  | cons x l ih => simp [ih (by simp at h; omega)]
theorem s_sall (l : List Int) (n lo hi : Int) (h : l.length ≤ 1048576) : Sp Tryz.prog 116 [.v (vis l), vi n, vi lo, vi hi] (vb ((l.all fun n => decide (lo ≤ n ∧ n ≤ hi)) && decide ((l.length : Int) ≤ n))) [] := by
  refine sp_of (m := no) mixed Tryz.func116 k116 ?_
  simp -dsimp [q]
  refine awp_it (true :: true :: true :: true :: false :: false :: false :: false :: false :: true :: []) (fun i : Nat => [(9, vi i)]) (fun i => []) (fun i => i ≤ l.length ∧ ∀ x ∈ l.take i, lo ≤ x ∧ x ≤ hi) (fun i => l.length - i) 0 ?_
  intro s0 e
  simp -dsimp at e
  subst e
  refine ⟨?_, ?_⟩
  · simp
  intro i hk
  simp -dsimp
  refine ⟨fun h1 => ⟨h1, fun a ha => call_of (rd := []) (s_in a lo hi) (by simp) (by simp) ?_⟩, fun h1 => ?_⟩
  · generalize hb : decide (lo ≤ a ∧ a ≤ hi) = b
    cases b
    · simp -dsimp
      have hn := of_decide_eq_false hb
      intro hall
      exact absurd (hall a (List.mem_of_getElem? ha)) hn
    · simp -dsimp
      have hn := of_decide_eq_true hb
      refine ⟨i + 1, by rw [w64 (by omega) (by omega)]; simp, ⟨by omega, fun x hx => ?_⟩, by omega⟩
      rw [List.take_add_one, ha] at hx
      rcases List.mem_append.1 hx with hx | hx
      · exact hk.2 x hx
      · simp at hx; rw [hx]; exact hn
  · have h2 := hk.2
    rw [List.take_of_length_le h1] at h2
    exact fun _ => h2
end Go.Proofs.YtigebbijogidlaaGreatDoorFv
namespace Go.Proofs.YtigebbijogidlaaGreatDoorFv
open Go Go.Proofs
set_option maxRecDepth 10000
abbrev aP (f a b c : Int) (l : List Int) : A := .v (.ag [.int .i64 f, .int .i64 a, .int .i64 b, .int .i64 c, vis l])
abbrev oP (f a b c : Int) (i : Nat) : A := .ag [vi f, vi a, vi b, vi c, .sli i]
def okP (f a b c : Int) (l : List Int) : Bool := decide (0 ≤ f ∧ f ≤ 1) && okL a b c && decide ((l.length : Int) = a * c) && l.all fun n => decide (0 ≤ n ∧ n ≤ 9)
theorem okP_spec {f a b c : Int} {l : List Int} : okP f a b c l = true ↔ (0 ≤ f ∧ f ≤ 1) ∧ okL a b c = true ∧ (l.length : Int) = a * c ∧ ∀ n ∈ l, 0 ≤ n ∧ n ≤ 9 := by
  simp [okP, and_assoc]
theorem s_isFr (f : Int) : Sp Tryz.prog 122 [vi f] (vb (decide (0 ≤ f ∧ f ≤ 1))) [] := by
  refine sp_of (m := no) mixed Tryz.func122 k122 ?_
  simp -dsimp [q]
  refine call_of (s_within _ _ _) rfl (by simp) ?_
  try simp -dsimp
  try (first | exact fp_one (by decide) | refine fp_and (by decide) ?_)
theorem s_sisFr (f : Int) : Sp Tryz.prog 155 [vi f] (vb (decide (0 ≤ f ∧ f ≤ 1))) [] := by
  refine sp_of (m := no) mixed Tryz.func155 k155 ?_
  simp -dsimp [q]
  by_cases h : f = 0
  · subst h; simp
  · by_cases h1 : f = 1
    · subst h1; simp
    · simp [h, h1]
      intro h2; omega
theorem s_isP (f a b c : Int) (l : List Int) (hl : l.length ≤ 1048576) : Sp Tryz.prog 78 [aP f a b c l] (vb (okP f a b c l)) [] := by
  refine sp_of (m := no) mixed Tryz.func78 k78 ?_
  have w1 := s_isFr f
  have w2 := s_isL a b c
  have w4 := s_all l 0 9 hl
  simp -dsimp [q]
  by_cases h1 : 0 ≤ f ∧ f ≤ 1
  case neg =>
    rw [decide_eq_false h1] at w1
    refine call_of (w1) rfl (by simp) ?_
    try simp -dsimp
    try (first | exact fp_one (by decide) | refine fp_and (by decide) ?_)
    simp only [okP, decide_eq_false h1, Bool.false_and]
  rw [decide_eq_true h1] at w1
  refine call_of (w1) rfl (by simp) ?_
  try simp -dsimp
  try (first | exact fp_one (by decide) | refine fp_and (by decide) ?_)
  by_cases h2 : okL a b c = true
  case neg =>
    simp only [Bool.not_eq_true] at h2
    rw [h2] at w2
    refine call_of (w2) rfl (by simp) ?_
    try simp -dsimp
    try (first | exact fp_one (by decide) | refine fp_and (by decide) ?_)
    simp only [okP, h2, Bool.and_false, Bool.false_and]
  rw [h2] at w2
  refine call_of (w2) rfl (by simp) ?_
  try simp -dsimp
  try (first | exact fp_one (by decide) | refine fp_and (by decide) ?_)
  obtain ⟨ha, hc, _⟩ := okL_spec.1 h2
  refine call_of (s_index a b c ha hc) rfl (by simp) ?_
  try simp -dsimp
  try (first | exact fp_one (by decide) | refine fp_and (by decide) ?_)
  refine ⟨fun e => ?_, fun e => by simp only [okP, decide_eq_false e, Bool.and_false, Bool.false_and]⟩
  refine call_of (w4) rfl (by simp) ?_
  try simp -dsimp
  try (first | exact fp_one (by decide) | refine fp_and (by decide) ?_)
  simp only [okP, decide_eq_true h1, h2, decide_eq_true e, Bool.true_and, Bool.decide_and]
theorem s_scode (f a b c : Int) : Sp Tryz.prog 115 [vi f, aL a b c] (vi (if 0 ≤ f ∧ f ≤ 1 ∧ okL a b c = true then 0 else 1)) [] := by
  refine sp_of (m := no) mixed Tryz.func115 k115 ?_
  have w1 := s_sisFr f
  have w2 := s_sisL a b c
  simp -dsimp [q]
  by_cases h1 : 0 ≤ f ∧ f ≤ 1
  case neg =>
    rw [decide_eq_false h1] at w1
    rw [if_neg (fun h => h1 ⟨h.1, h.2.1⟩)]
    refine call_of (w1) rfl (by simp) ?_
    try simp -dsimp
    try (first | exact fp_one (by decide) | refine fp_and (by decide) ?_)
  rw [decide_eq_true h1] at w1
  refine call_of (w1) rfl (by simp) ?_
  try simp -dsimp
  try (first | exact fp_one (by decide) | refine fp_and (by decide) ?_)
  refine call_of (w2) rfl (by simp) ?_
  try simp -dsimp
  try (first | exact fp_one (by decide) | refine fp_and (by decide) ?_)
  by_cases h2 : okL a b c = true
  · simp [h1, h2]
  · simp [h2]
theorem s_sisP (f a b c : Int) (l : List Int) (hl : l.length ≤ 1048576) : Sp Tryz.prog 70 [aP f a b c l] (vb (okP f a b c l)) [] := by
  refine sp_of (m := no) mixed Tryz.func70 k70 ?_
  have w1 := s_scode f a b c
  have w4 := s_sall l 64 0 9 hl
  simp -dsimp [q]
  by_cases h1 : 0 ≤ f ∧ f ≤ 1 ∧ okL a b c = true
  case neg =>
    rw [if_neg h1] at w1
    refine call_of (w1) rfl (by simp) ?_
    try simp -dsimp
    try (first | exact fp_one (by decide) | refine fp_and (by decide) ?_)
    have : (decide (0 ≤ f ∧ f ≤ 1) && okL a b c) = false := by
      rw [Bool.eq_false_iff]; intro h; simp only [Bool.and_eq_true, decide_eq_true_eq] at h; exact h1 ⟨h.1.1, h.1.2, h.2⟩
    simp only [okP, this, Bool.false_and]
  rw [if_pos h1] at w1
  refine call_of (w1) rfl (by simp) ?_
  try simp -dsimp
  try (first | exact fp_one (by decide) | refine fp_and (by decide) ?_)
  obtain ⟨ha, hc, _, hac⟩ := okL_spec.1 h1.2.2
  have h4 := ac_pos ha.1 hc.1
  rw [w64 (by omega) (by omega)]
  refine ⟨fun e => ?_, fun e => by simp only [okP, decide_eq_false e, Bool.and_false, Bool.false_and]⟩
  refine call_of (w4) rfl (by simp) ?_
  try simp -dsimp
  try (first | exact fp_one (by decide) | refine fp_and (by decide) ?_)
  simp only [okP, decide_eq_true (show 0 ≤ f ∧ f ≤ 1 from ⟨h1.1, h1.2.1⟩), h1.2.2, decide_eq_true e, Bool.true_and, decide_eq_true (show (l.length : Int) ≤ 64 by omega), Bool.and_true, Bool.decide_and]
theorem s_at (f a b c x y : Int) (l : List Int) (hf : okP f a b c l = true) (hx : -1000000000 ≤ x ∧ x ≤ 1000000000) (hy : -1000000000 ≤ y ∧ y ≤ 1000000000) : Sp Tryz.prog 170 [aP f a b c l, aV x y] (vi (l.getD (num a b c x y).toNat 0)) [] := by
  refine sp_of (m := no) mixed Tryz.func170 k170 ?_
  obtain ⟨_, h2, h3, _⟩ := okP_spec.1 hf
  obtain ⟨ha, hc, hb, hac⟩ := okL_spec.1 h2
  have h0 := red_lt (b := b) (x := x) (y := y) ha.1 hc.1
  have h := num_lt' h0.1 h0.2
  simp -dsimp [q]
  refine call_of (s_reduce _ _ _ _ _ ha hb hc hx hy) rfl (by simp) ?_
  try simp -dsimp
  try (first | exact fp_one (by decide) | refine fp_and (by decide) ?_)
  refine call_of (s_number _ _ _ _ _ hc (by omega) h0.2) rfl (by simp) ?_
  try simp -dsimp
  try (first | exact fp_one (by decide) | refine fp_and (by decide) ?_)
  refine ⟨⟨by omega, by omega⟩, fun z hz => ?_⟩
  simp [num, hz]
theorem s_sat (f a b c x y : Int) (l : List Int) (hf : okP f a b c l = true) (hx : -1000000000 ≤ x ∧ x ≤ 1000000000) (hy : -1000000000 ≤ y ∧ y ≤ 1000000000) : Sp Tryz.prog 238 [aP f a b c l, aV x y] (vi (l.getD (num a b c x y).toNat 0)) [] := by
  refine sp_of (m := no) mixed Tryz.func238 k238 ?_
  obtain ⟨_, h2, h3, _⟩ := okP_spec.1 hf
  obtain ⟨ha, hc, hb, hac⟩ := okL_spec.1 h2
  have h0 := red_lt (b := b) (x := x) (y := y) ha.1 hc.1
  have h := num_lt' h0.1 h0.2
  simp -dsimp [q]
  refine call_of (s_snumber _ _ _ _ _ ha hb hc hx hy) rfl (by simp) ?_
  try simp -dsimp
  try (first | exact fp_one (by decide) | refine fp_and (by decide) ?_)
  unfold num at *
  refine ⟨⟨by omega, by omega⟩, fun z hz => ?_⟩
  simp [num, hz]
end Go.Proofs.YtigebbijogidlaaGreatDoorFv
namespace Go.Proofs.YtigebbijogidlaaGreatDoorFv
open Go Go.Proofs
set_option maxRecDepth 10000
abbrev M4 := Int × Int × Int × Int
def vm (m : M4) : V := .ag [.int .i64 m.1, .int .i64 m.2.1, .int .i64 m.2.2.1, .int .i64 m.2.2.2]
def ms (l : List M4) : List V := l.map vm
abbrev aM4 (m : M4) : A := aM m.1 m.2.1 m.2.2.1 m.2.2.2
@[simp] theorem ms_nil : ms [] = [] := rfl
@[simp] theorem ms_len (l : List M4) : (ms l).length = l.length := by simp [ms]
@[simp] theorem ms_get (l : List M4) (n : Nat) (K : V → Prop) : fA ((ms l)[n]?) K = ∀ m, l[n]? = some m → K (.ag [.int .i64 m.1, .int .i64 m.2.1, .int .i64 m.2.2.1, .int .i64 m.2.2.2]) := by unfold ms; exact fA_map
@[simp] theorem ms_app (l : List M4) (a b c d : Int) : ms l ++ [.ag [.int .i64 a, .int .i64 b, .int .i64 c, .int .i64 d]] = ms (l ++ [(a, b, c, d)]) := by simp [ms, vm]
@[simp] theorem ms_set (l : List M4) (n : Nat) (a b c d : Int) : (ms l).set n (.ag [.int .i64 a, .int .i64 b, .int .i64 c, .int .i64 d]) = ms (l.set n (a, b, c, d)) := by simp [ms, vm, List.map_set]
@[simp] theorem ms_take (l : List M4) (n : Nat) : (ms l).take n = ms (l.take n) := by simp [ms, List.map_take]
@[simp] theorem ms_drop (l : List M4) (n : Nat) : (ms l).drop n = ms (l.drop n) := by simp [ms, List.map_drop]
@[simp] theorem ms_flat (l : List M4) : (∀ x, x ∈ ms l → x.flat = true) ↔ True := by
  simp only [iff_true]
  intro x hx
  obtain ⟨y, _, rfl⟩ := List.mem_map.1 hx
  rfl
theorem vm_inj {m n : M4} (h : vm m = vm n) : m = n := by
  obtain ⟨a, b, c, d⟩ := m
  obtain ⟨a', b', c', d'⟩ := n
  simp only [vm, V.ag.injEq, List.cons.injEq, V.int.injEq, true_and, and_true] at h
  obtain ⟨rfl, rfl, rfl, rfl⟩ := h
  rfl
@[simp] theorem ms_inj (a b : List M4) : ms a = ms b ↔ a = b := by
  constructor
  · exact fun h => (List.map_inj_right (fun x y e => vm_inj e)).1 h
  · rintro rfl; rfl
abbrev vms (l : List M4) : V := .sl 4 (ms l)
theorem s_fiM (l : List M4) (f : Nat) (cs : List A) (p : M4 → Bool) (h : l.length ≤ 1048576) (hc : cs.all A.shut = true) (hf : ∀ v ∈ l, Sp Tryz.prog f (aM4 v :: cs) (vb (p v)) []) : Sp Tryz.prog 292 [.v (vms l), .fn f cs] (vi (if l.any p = true then l.findIdx p else -1)) [] := by
  refine sp_of (m := no) mixed Tryz.func292 k292 ?_
  simp -dsimp [q, -Prod.forall, -Prod.exists]
  refine awp_it (true :: true :: false :: false :: false :: false :: false :: true :: true :: []) (fun i : Nat => [(8, vi i)]) (fun i => []) (fun i => i ≤ l.length ∧ ∀ x ∈ l.take i, p x = false) (fun i => l.length - i) 0 ?_
  intro s0 e
  simp -dsimp [hc] at e
  subst e
  refine ⟨?_, ?_⟩
  · simp [hc]
  rintro i ⟨hi, hi2⟩
  simp -dsimp [hc, -Prod.forall, -Prod.exists]
  refine ⟨fun h1 => ⟨h1, fun x ha => call_of (rd := []) (hf x (List.mem_of_getElem? ha)) (by simp [toArgs_shut hc]) (by simp) ?_⟩, fun h1 => ?_⟩
  · simp -dsimp [hc, -Prod.forall, -Prod.exists]
    obtain ⟨_, hal⟩ := List.getElem?_eq_some_iff.1 ha
    refine ⟨fun hp => ?_, fun hp => ⟨i + 1, by rw [w64 (by omega) (by omega)]; simp, ⟨by omega, fun x' hx => ?_⟩, by omega⟩⟩
    · rw [if_pos ⟨x, List.mem_of_getElem? ha, hp⟩, (List.findIdx_eq h1).2 ⟨by rw [hal]; exact hp, fun j hj => hi2 _ (List.mem_iff_getElem.2 ⟨j, by simp; omega, by simp⟩)⟩]
    · rw [List.take_add_one, ha] at hx
      rcases List.mem_append.1 hx with hx | hx
      · exact hi2 _ hx
      · simp only [Option.toList_some, List.mem_singleton] at hx; rw [hx]; exact hp
  · rw [List.take_of_length_le h1] at hi2
    exact hi2
theorem s_delM0 (l : List M4) (f : Nat) (cs : List A) (p : M4 → Bool) (t : Nat) (h : l.length ≤ 1048576) (hc : cs.all A.shut = true) (hf : ∀ v ∈ l, Sp Tryz.prog f (aM4 v :: cs) (vb (p v)) []) (hno : l.any p = false) : SpG Tryz.prog 267 [.sli 0, .fn f cs] [.row 4 t (ms l)] (.sli 0) [.row 4 t (ms l)] := by
  have w := s_fiM l f cs p h hc hf
  rw [if_neg (by rw [hno]; simp)] at w
  refine sg_of (m := no) mixed Tryz.func267 k267 ?_
  simp -dsimp [q]
  refine call_of (rd := [0]) w (by simp [hc]) (by simp) ?_
  simp -dsimp [hc]
def keptM (p : M4 → Bool) (l : List M4) (j : Nat) : List M4 := (l.take j).filter fun v => !p v
theorem keptM_succ {p : M4 → Bool} {l : List M4} {j : Nat} {x : M4} (hx : l[j]? = some x) : keptM p l (j + 1) = keptM p l j ++ if p x = true then [] else [x] := by
  unfold keptM
  rw [List.take_add_one, hx, List.filter_append]
  cases h : p x <;> simp [h]
theorem keptM_first {p : M4 → Bool} {l : List M4} (h : l.any p = true) : keptM p l (l.findIdx p + 1) = l.take (l.findIdx p) ∧ l.findIdx p < l.length := by
  have hlt : l.findIdx p < l.length := List.findIdx_lt_length.2 (by simpa using h)
  have hx := List.getElem?_eq_getElem hlt
  have hp : p l[l.findIdx p] = true := List.findIdx_getElem
  refine ⟨?_, hlt⟩
  rw [keptM_succ hx, if_pos hp, List.append_nil]
  unfold keptM
  rw [List.filter_eq_self]
  intro x hx
  obtain ⟨j, hj, rfl⟩ := List.mem_take_iff_getElem.1 hx
  have := List.not_of_lt_findIdx (p := p) (xs := l) (i := j) (by omega)
  simp [this]
theorem s_delM1 (l : List M4) (f : Nat) (cs : List A) (p : M4 → Bool) (t : Nat) (h : l.length ≤ 1048576) (hc : cs.all A.shut = true) (hf : ∀ v ∈ l, Sp Tryz.prog f (aM4 v :: cs) (vb (p v)) []) (hyes : l.any p = true) : SpG Tryz.prog 267 [.sli 0, .fn f cs] [.row 4 t (ms l)] (.sli 1) [.gone, .row 4 t (ms (l.filter fun v => !p v))] := by
  have w := s_fiM l f cs p h hc hf
  rw [if_pos hyes] at w
  refine sg_of (m := fun f => f == 1000000) mixed Tryz.func267 k267 ?_
  simp -dsimp [q]
  refine call_of (rd := [0]) w (by simp [hc]) (by simp) ?_
  simp -dsimp [hc]
  obtain ⟨k1, k2⟩ := keptM_first hyes
  rw [w64 (by omega) (by omega)]
  refine awp_it (true :: true :: false :: false :: false :: true :: true :: []) (fun s : Nat × List M4 => [(5, vi (keptM p l s.1).length), (6, vi s.1)]) (fun s => [(0, .row 4 t (ms s.2))]) (fun s => s.2.length = l.length ∧ s.2.take (keptM p l s.1).length = keptM p l s.1 ∧ s.2.drop s.1 = l.drop s.1 ∧ s.1 ≤ l.length ∧ (keptM p l s.1).length < s.1) (fun s => l.length - s.1) (l.findIdx p + 1, l) ?_
  intro s0 e
  simp -dsimp [hc] at e
  subst e
  refine ⟨?_, ?_⟩
  · simp [hc, k1]
    omega
  rintro ⟨j, r⟩ ⟨r1, r2, r3, r4, r5⟩
  simp -dsimp [hc, r1, -Prod.forall, -Prod.exists]
  simp only at r1 r2 r3 r4 r5
  refine ⟨fun h1 => ?_, fun h1 => ?_⟩
  · refine ⟨h1, fun x hx => ?_⟩
    have hlx : l[j]? = some x := by
      have e := congrArg (fun l => l[0]?) r3
      simp only [List.getElem?_drop, Nat.add_zero] at e
      rw [← e, hx]
    have hk := keptM_succ (p := p) hlx
    have hr3 : r.drop (j + 1) = l.drop (j + 1) := by
      have e := congrArg (List.drop 1) r3
      simpa [List.drop_drop, Nat.add_comm] using e
    refine call_of (rd := []) (hf x (List.mem_of_getElem? hlx)) (by simp [toArgs_shut hc]) (by simp) ?_
    simp -dsimp [hc, r1, -Prod.forall, -Prod.exists]
    refine ⟨fun hp => ?_, fun hp => ?_⟩
    · rw [if_neg (by simp [hp])] at hk
      have hi : (keptM p l j).length < r.length := by omega
      have ht : (r.set (keptM p l j).length x).take ((keptM p l j).length + 1) = keptM p l j ++ [x] := by
        rw [List.take_add_one, List.take_set_of_le (Nat.le_refl _), r2, List.getElem?_set_self hi]
        rfl
      refine ⟨by omega, (j + 1, r.set (keptM p l j).length x), ⟨⟨?_, by rw [w64 (by omega) (by omega)]; simp⟩, rfl⟩, ⟨by simp [r1], ?_, ?_, by simp only; omega, ?_⟩, by simp only; omega⟩
      · simp only [hk, List.length_append, List.length_singleton]
        rw [w64 (by omega) (by omega)]; simp
      · simp only [hk, List.length_append, List.length_singleton]
        exact ht
      · simp only
        rw [List.drop_set_of_lt (by omega), hr3]
      · simp only [hk, List.length_append, List.length_singleton]
        omega
    · rw [if_pos hp, List.append_nil] at hk
      refine ⟨(j + 1, r), ⟨⟨by simp only [hk], by rw [w64 (by omega) (by omega)]; simp⟩, rfl⟩, ⟨r1, by simp only [hk]; exact r2, hr3, by simp only; omega, by simp only [hk]; omega⟩, by simp only; omega⟩
  · have e1 : keptM p l j = l.filter fun v => !p v := by unfold keptM; rw [List.take_of_length_le h1]
    refine ⟨by omega, by omega, by omega, ?_⟩
    rw [r2, ← e1, List.take_left' (by simp)]
end Go.Proofs.YtigebbijogidlaaGreatDoorFv
namespace Go.Proofs.YtigebbijogidlaaGreatDoorFv
open Go Go.Proofs
set_option maxRecDepth 10000
def normF (f x y : Int) : Int := x * x + f * x * y + y * y
theorem normF_bd {f x y : Int} (hf : 0 ≤ f ∧ f ≤ 1) (hx : x.natAbs ≤ 10000) (hy : y.natAbs ≤ 10000) : (x * x).natAbs ≤ 100000000 ∧ (f * x).natAbs ≤ 10000 ∧ (f * x * y).natAbs ≤ 100000000 ∧ (y * y).natAbs ≤ 100000000 ∧ (x * y).natAbs ≤ 100000000 := by
  have h1 := mul_bd hx hx
  have h2 := mul_bd (show f.natAbs ≤ 1 by omega) hx
  have h3 := mul_bd h2 hy
  have h4 := mul_bd hy hy
  have h5 := mul_bd hx hy
  exact ⟨by omega, by omega, by omega, by omega, by omega⟩
theorem s_norm (f x y : Int) (hf : 0 ≤ f ∧ f ≤ 1) (hx : x.natAbs ≤ 10000) (hy : y.natAbs ≤ 10000) : Sp Tryz.prog 231 [vi f, aV x y] (vi (normF f x y)) [] := by
  refine sp_of (m := no) mixed Tryz.func231 k231 ?_
  obtain ⟨h1, h2, h3, h4, _⟩ := normF_bd hf hx hy
  simp -dsimp [q]
  rw [w64 (n := x * x) (by omega) (by omega), w64 (n := f * x) (by omega) (by omega), w64 (n := f * x * y) (by omega) (by omega), w64 (n := y * y) (by omega) (by omega), w64 (n := x * x + f * x * y) (by omega) (by omega), w64 (by omega) (by omega)]
  rfl
theorem s_snorm (f x y : Int) (hf : 0 ≤ f ∧ f ≤ 1) (hx : x.natAbs ≤ 10000) (hy : y.natAbs ≤ 10000) : Sp Tryz.prog 196 [vi f, aV x y] (vi (normF f x y)) [] := by
  refine sp_of (m := no) mixed Tryz.func196 k196 ?_
  obtain ⟨h1, h2, h3, h4, h5⟩ := normF_bd hf hx hy
  simp -dsimp [q]
  rw [w64 (n := x * x) (by omega) (by omega), w64 (n := y * y) (by omega) (by omega), w64 (n := x * y) (by omega) (by omega), w64 (n := x * x + y * y) (by omega) (by omega), w64 (by omega) (by omega)]
  unfold normF
  refine ⟨fun e => ?_, fun e => ?_⟩
  · subst e
    rw [Int.one_mul]
    omega
  · have : f = 0 := by omega
    subst this
    simp
def pmOk (f : Int) (m : M4) : Bool := decide (normF f m.1 m.2.2.1 = 1) && decide (normF f m.2.1 m.2.2.2 = 1) && decide (normF f (m.1 + m.2.1) (m.2.2.1 + m.2.2.2) = 2 + f)
theorem s_skeeps (f a b c d : Int) (hf : 0 ≤ f ∧ f ≤ 1) (hm : (a.natAbs ≤ 1000 ∧ b.natAbs ≤ 1000) ∧ c.natAbs ≤ 1000 ∧ d.natAbs ≤ 1000) : Sp Tryz.prog 176 [vi f, aM a b c d] (vb (pmOk f (a, b, c, d))) [] := by
  refine sp_of (m := no) mixed Tryz.func176 k176 ?_
  have w1 := s_snorm f a c hf (by omega) (by omega)
  have w2 := s_snorm f b d hf (by omega) (by omega)
  have w3 := s_snorm f (a + b) (c + d) hf (by omega) (by omega)
  simp -dsimp [q]
  refine ⟨by decide, ?_⟩
  refine call_of (w1) rfl (by simp) ?_
  try simp -dsimp
  try (first | exact fp_one (by decide) | refine fp_and (by decide) ?_)
  refine ⟨fun e1 => ?_, fun e1 => ?_⟩
  · refine call_of (w2) rfl (by simp) ?_
    try simp -dsimp
    try (first | exact fp_one (by decide) | refine fp_and (by decide) ?_)
    refine ⟨fun e2 => ?_, fun e2 => ?_⟩
    · refine call_of (s_sadd _ _ _ _ (by omega) (by omega) (by omega) (by omega)) rfl (by simp) ?_
      try simp -dsimp
      try (first | exact fp_one (by decide) | refine fp_and (by decide) ?_)
      refine call_of (w3) rfl (by simp) ?_
      try simp -dsimp
      try (first | exact fp_one (by decide) | refine fp_and (by decide) ?_)
      rw [w64 (by omega) (by omega)]
      simp only [pmOk, decide_eq_true e1, decide_eq_true e2, Bool.true_and]
    · simp only [pmOk, decide_eq_false e2, Bool.and_false, Bool.false_and]
  · simp only [pmOk, decide_eq_false e1, Bool.false_and]
def matOk (a b c d : Int) : Bool := okV a b && okV c d && (decide (a * d - b * c = 1) || decide (a * d - b * c = -1))
theorem s_ssmall (a b c d : Int) : Sp Tryz.prog 248 [aM a b c d] (vb (okV a b && okV c d)) [] := by
  refine sp_of (m := no) mixed Tryz.func248 k248 ?_
  have w1 := s_sisVec a b
  have w2 := s_sisVec c d
  generalize okV a b = p at *
  generalize okV c d = r at *
  simp -dsimp [q]
  refine call_of (w1) rfl (by simp) ?_
  cases p
  · simp -dsimp
  · simp -dsimp
    refine call_of (w2) rfl (by simp) ?_
    try simp -dsimp
    try (first | exact fp_one (by decide) | refine fp_and (by decide) ?_)
theorem s_sdet (a b c d : Int) (hm : (a.natAbs ≤ 1000 ∧ b.natAbs ≤ 1000) ∧ c.natAbs ≤ 1000 ∧ d.natAbs ≤ 1000) : Sp Tryz.prog 194 [aM a b c d] (vi (a * d - b * c)) [] := by
  refine sp_of (m := no) mixed Tryz.func194 k194 ?_
  have h1 := mul_bd hm.1.1 hm.2.2
  have h2 := mul_bd hm.1.2 hm.2.1
  simp -dsimp [q]
  rw [w64 (n := a * d) (by omega) (by omega), w64 (n := b * c) (by omega) (by omega), w64 (by omega) (by omega)]
theorem matOk_small {a b c d : Int} (h : matOk a b c d = true) : (a.natAbs ≤ 1000 ∧ b.natAbs ≤ 1000) ∧ c.natAbs ≤ 1000 ∧ d.natAbs ≤ 1000 := by
  simp only [matOk, Bool.and_eq_true, okV_spec] at h
  omega
/-! all of a frame -/
def mat81 (k : Nat) : M4 := ((k : Int) / 27 - 1, (k : Int) / 9 % 3 - 1, (k : Int) / 3 % 3 - 1, (k : Int) % 3 - 1)
def pmL (f : Int) (n : Nat) : List M4 := ((List.range n).map mat81).filter fun m => pmOk f m
theorem pmL_succ (f : Int) (n : Nat) : pmL f (n + 1) = pmL f n ++ if pmOk f (mat81 n) = true then [mat81 n] else [] := by
  unfold pmL
  rw [List.range_succ, List.map_append, List.filter_append]
  cases h : pmOk f (mat81 n) <;> simp [h]
theorem pmL_len (f : Int) (n : Nat) : (pmL f n).length ≤ n := by
  unfold pmL
  exact Nat.le_trans (List.length_filter_le _ _) (by simp)
theorem s_pm (f : Int) (hf : 0 ≤ f ∧ f ≤ 1) : Sp Tryz.prog 163 [vi f] (.sli 0) [.row 4 73 (ms (pmL f 81))] := by
  refine sp_of (m := no) mixed Tryz.func163 k163 ?_
  simp -dsimp [q]
  refine awp_it (true :: false :: false :: true :: false :: false :: false :: false :: false :: false :: true :: []) (fun i : Nat => [(10, vi i)]) (fun i => [(0, .row 4 73 (ms (pmL f i)))]) (fun i => i ≤ 81) (fun i => 81 - i) 0 ?_
  intro s0 e
  simp -dsimp at e
  subst e
  refine ⟨?_, ?_⟩
  · simp [pmL]
  intro i hi
  have hlen := pmL_len f i
  have hs := pmL_succ f i
  have a1 : IntKind.i64.wrap ((i : Int) / 27) = (i : Int) / 27 := w64 (by omega) (by omega)
  have a2 : IntKind.i64.wrap ((i : Int) / 9) = (i : Int) / 9 := w64 (by omega) (by omega)
  have a3 : IntKind.i64.wrap ((i : Int) / 3) = (i : Int) / 3 := w64 (by omega) (by omega)
  have b2 : ((i : Int) / 9).tmod 3 = (i : Int) / 9 % 3 := Int.tmod_eq_emod_of_nonneg (by omega)
  have b3 : ((i : Int) / 3).tmod 3 = (i : Int) / 3 % 3 := Int.tmod_eq_emod_of_nonneg (by omega)
  have b4 : (i : Int).tmod 3 = (i : Int) % 3 := Int.tmod_eq_emod_of_nonneg (by omega)
  have c1 : IntKind.i64.wrap ((i : Int) / 27 - 1) = (i : Int) / 27 - 1 := w64 (by omega) (by omega)
  have c2 : IntKind.i64.wrap ((i : Int) / 9 % 3 - 1) = (i : Int) / 9 % 3 - 1 := w64 (by omega) (by omega)
  have c3 : IntKind.i64.wrap ((i : Int) / 3 % 3 - 1) = (i : Int) / 3 % 3 - 1 := w64 (by omega) (by omega)
  have c4 : IntKind.i64.wrap ((i : Int) % 3 - 1) = (i : Int) % 3 - 1 := w64 (by omega) (by omega)
  have d1 : -1 ≤ (i : Int) / 27 - 1 ∧ ((i : Int) < 81 → (i : Int) / 27 - 1 ≤ 1) := ⟨by omega, by omega⟩
  have d2 : -1 ≤ (i : Int) / 9 % 3 - 1 ∧ (i : Int) / 9 % 3 - 1 ≤ 1 := ⟨by omega, by omega⟩
  have d3 : -1 ≤ (i : Int) / 3 % 3 - 1 ∧ (i : Int) / 3 % 3 - 1 ≤ 1 := ⟨by omega, by omega⟩
  have d4 : -1 ≤ (i : Int) % 3 - 1 ∧ (i : Int) % 3 - 1 ≤ 1 := ⟨by omega, by omega⟩
  have hmat : mat81 i = ((i : Int) / 27 - 1, (i : Int) / 9 % 3 - 1, (i : Int) / 3 % 3 - 1, (i : Int) % 3 - 1) := rfl
  simp -dsimp [a1, a2, a3, b2, b3, b4, c1, c2, c3, c4]
  refine ⟨fun h1 => ?_, fun h1 => ?_⟩
  · generalize (i : Int) / 27 - 1 = a at *
    generalize (i : Int) / 9 % 3 - 1 = b at *
    generalize (i : Int) / 3 % 3 - 1 = c at *
    generalize (i : Int) % 3 - 1 = d at *
    have d1' := d1.2 (by omega)
    rw [hmat] at hs
    have w1 := s_norm f a c hf (by omega) (by omega)
    have w2 := s_norm f b d hf (by omega) (by omega)
    have w3 := s_norm f (a + b) (c + d) hf (by omega) (by omega)
    refine call_of (s_apply a b c d 1 0 ⟨⟨by omega, by omega⟩, by omega, by omega⟩ (by decide)) rfl (by simp) ?_
    try simp -dsimp
    try (first | exact fp_one (by decide) | refine fp_and (by decide) ?_)
    refine call_of (s_apply a b c d 0 1 ⟨⟨by omega, by omega⟩, by omega, by omega⟩ (by decide)) rfl (by simp) ?_
    try simp -dsimp
    try (first | exact fp_one (by decide) | refine fp_and (by decide) ?_)
    refine call_of (s_apply a b c d 1 1 ⟨⟨by omega, by omega⟩, by omega, by omega⟩ (by decide)) rfl (by simp) ?_
    try simp -dsimp
    try (first | exact fp_one (by decide) | refine fp_and (by decide) ?_)
    have bad : pmOk f (a, b, c, d) = false → ∃ y : Nat, (IntKind.i64.wrap ((i : Int) + 1) = (y : Int) ∧ pmL f i = pmL f y) ∧ y ≤ 81 ∧ 81 - y < 81 - i := fun e => by
      rw [e] at hs
      refine ⟨i + 1, ⟨by rw [w64 (by omega) (by omega)]; simp, by rw [hs]; simp⟩, by omega, by omega⟩
    refine call_of (w1) rfl (by simp) ?_
    try simp -dsimp
    try (first | exact fp_one (by decide) | refine fp_and (by decide) ?_)
    refine ⟨fun e1 => ?_, fun e1 => ?_⟩
    · refine call_of (w2) rfl (by simp) ?_
      try simp -dsimp
      try (first | exact fp_one (by decide) | refine fp_and (by decide) ?_)
      refine ⟨fun e2 => ?_, fun e2 => ?_⟩
      · refine call_of (w3) rfl (by simp) ?_
        try simp -dsimp
        try (first | exact fp_one (by decide) | refine fp_and (by decide) ?_)
        rw [w64 (n := 2 + f) (by omega) (by omega)]
        refine ⟨fun e3 => ?_, fun e3 => ?_⟩
        · have e : pmOk f (a, b, c, d) = true := by simp only [pmOk, decide_eq_true e1, decide_eq_true e2, decide_eq_true e3, Bool.true_and]
          rw [e] at hs
          refine ⟨⟨by omega, by omega⟩, i + 1, ?_, by omega, by omega⟩
          exact ⟨by rw [w64 (by omega) (by omega)]; simp, by rw [hs]; simp⟩
        · exact bad (by simp only [pmOk, decide_eq_false e3, Bool.and_false])
      · exact bad (by simp only [pmOk, decide_eq_false e2, Bool.and_false, Bool.false_and])
    · exact bad (by simp only [pmOk, decide_eq_false e1, Bool.false_and])
  · rw [show i = 81 by omega]
end Go.Proofs.YtigebbijogidlaaGreatDoorFv
namespace Go.Proofs.YtigebbijogidlaaGreatDoorFv
open Go Go.Proofs
set_option maxRecDepth 10000
def inL (a b c x y : Int) : Bool := decide (redX a b c x y = 0) && decide (y % c = 0)
theorem s_has1 (a b c x y : Int) (ha : 1 ≤ a ∧ a ≤ 64) (hb : 0 ≤ b ∧ b < a) (hc : 1 ≤ c ∧ c ≤ 64) (hx : -1000000000 ≤ x ∧ x ≤ 1000000000) (hy : -1000000000 ≤ y ∧ y ≤ 1000000000) : Sp Tryz.prog 259 [aL a b c, aV x y] (vb (inL a b c x y)) [] := by
  refine sp_of (m := no) mixed Tryz.func259 k259 ?_
  simp -dsimp [q]
  refine call_of (s_reduce _ _ _ _ _ ha hb hc hx hy) rfl (by simp) ?_
  try simp -dsimp
  try (first | exact fp_one (by decide) | refine fp_and (by decide) ?_)
  have e : inL a b c x y = true ↔ (redX a b c x y = 0 ∧ y % c = 0) := by simp [inL]
  rw [Bool.eq_iff_iff, cdec_true, e]
def keepL (a b c : Int) (m : M4) : Bool := inL a b c (m.1 * a) (m.2.2.1 * a) && inL a b c (m.1 * b + m.2.1 * c) (m.2.2.1 * b + m.2.2.2 * c)
theorem s_lm1 (a b c p q' r s : Int) (ha : 1 ≤ a ∧ a ≤ 64) (hb : 0 ≤ b ∧ b < a) (hc : 1 ≤ c ∧ c ≤ 64) (hm : (p.natAbs ≤ 1000 ∧ q'.natAbs ≤ 1000) ∧ r.natAbs ≤ 1000 ∧ s.natAbs ≤ 1000) : Sp Tryz.prog 268 [aM p q' r s, .fq [.int .i64 a, .int .i64 b, .int .i64 c], .fq [.int .i64 a, .int .i64 0], .fq [.int .i64 b, .int .i64 c]] (vb (!keepL a b c (p, q', r, s))) [] := by
  refine sp_of (m := no) mixed Tryz.func268 k268 ?_
  have h1 := mul_bd hm.1.1 (show a.natAbs ≤ 64 by omega)
  have h2 := mul_bd hm.2.1 (show a.natAbs ≤ 64 by omega)
  have h3 := mul_bd hm.1.1 (show b.natAbs ≤ 64 by omega)
  have h4 := mul_bd hm.1.2 (show c.natAbs ≤ 64 by omega)
  have h5 := mul_bd hm.2.1 (show b.natAbs ≤ 64 by omega)
  have h6 := mul_bd hm.2.2 (show c.natAbs ≤ 64 by omega)
  have w1 := s_has1 a b c (p * a) (r * a) ha hb hc (by omega) (by omega)
  have w2 := s_has1 a b c (p * b + q' * c) (r * b + s * c) ha hb hc (by omega) (by omega)
  simp -dsimp [q]
  refine call_of (s_apply p q' r s a 0 hm ⟨by omega, by omega⟩) rfl (by simp) ?_
  try simp -dsimp
  try (first | exact fp_one (by decide) | refine fp_and (by decide) ?_)
  unfold keepL
  simp only
  generalize inL a b c (p * a) (r * a) = t1 at *
  generalize inL a b c (p * b + q' * c) (r * b + s * c) = t2 at *
  refine call_of (w1) rfl (by simp) ?_
  try simp -dsimp
  try (first | exact fp_one (by decide) | refine fp_and (by decide) ?_)
  cases t1
  · simp -dsimp
  · simp -dsimp
    refine call_of (s_apply p q' r s b c hm ⟨by omega, by omega⟩) rfl (by simp) ?_
    try simp -dsimp
    try (first | exact fp_one (by decide) | refine fp_and (by decide) ?_)
    refine call_of (w2) rfl (by simp) ?_
    try simp -dsimp
    try (first | exact fp_one (by decide) | refine fp_and (by decide) ?_)
theorem pmL_small {f : Int} {n : Nat} (hn : n ≤ 81) {m : M4} (h : m ∈ pmL f n) : (m.1.natAbs ≤ 1 ∧ m.2.1.natAbs ≤ 1) ∧ m.2.2.1.natAbs ≤ 1 ∧ m.2.2.2.natAbs ≤ 1 := by
  unfold pmL at h
  obtain ⟨h1, _⟩ := List.mem_filter.1 h
  obtain ⟨k, hk, rfl⟩ := List.mem_map.1 h1
  have := List.mem_range.1 hk
  simp only [mat81]
  omega
theorem s_lm (f a b c : Int) (hf : 0 ≤ f ∧ f ≤ 1) (ha : 1 ≤ a ∧ a ≤ 64) (hb : 0 ≤ b ∧ b < a) (hc : 1 ≤ c ∧ c ≤ 64) : Sp Tryz.prog 215 [vi f, aL a b c] (.v (vms ((pmL f 81).filter fun m => keepL a b c m))) [] := by
  refine sp_of (m := fun f => f == 267) mixed Tryz.func215 k215 ?_
  have hlen := pmL_len f 81
  have hcl : ∀ v ∈ pmL f 81, Sp Tryz.prog 268 (aM4 v :: [.fq [.int .i64 a, .int .i64 b, .int .i64 c], .fq [.int .i64 a, .int .i64 0], .fq [.int .i64 b, .int .i64 c]]) (vb (!keepL a b c v)) [] := fun v hv => by
    have := pmL_small (Nat.le_refl _) hv
    exact s_lm1 a b c v.1 v.2.1 v.2.2.1 v.2.2.2 ha hb hc ⟨⟨by omega, by omega⟩, by omega, by omega⟩
  simp -dsimp [q]
  refine call_of (s_basis a b c) rfl (by simp) ?_
  try simp -dsimp
  try (first | exact fp_one (by decide) | refine fp_and (by decide) ?_)
  refine call_of (s_pm f hf) rfl (by simp) ?_
  try simp -dsimp
  try (first | exact fp_one (by decide) | refine fp_and (by decide) ?_)
  by_cases hany : (pmL f 81).any (fun v => !keepL a b c v) = true
  · have w := s_delM1 (pmL f 81) _ _ _ 73 (by omega) (by rfl) hcl hany
    simp only [Bool.not_not] at w
    refine callM_of rfl (w) (by simp) ?_
    try simp -dsimp
    try (first | exact fp_one (by decide) | refine fp_and (by decide) ?_)
  · have w := s_delM0 (pmL f 81) _ _ _ 73 (by omega) (by rfl) hcl (by simpa using hany)
    have e : ((pmL f 81).filter fun m => keepL a b c m) = pmL f 81 := by
      rw [List.filter_eq_self]
      intro m hm
      simp only [Bool.not_eq_true] at hany
      simpa using List.any_eq_false.1 hany m hm
    rw [e]
    refine callM_of rfl (w) (by simp) ?_
    try simp -dsimp
    try (first | exact fp_one (by decide) | refine fp_and (by decide) ?_)
end Go.Proofs.YtigebbijogidlaaGreatDoorFv
namespace Go.Proofs.YtigebbijogidlaaGreatDoorFv
open Go Go.Proofs
set_option maxRecDepth 10000
/-- Closed under adding multiples. -/
structure Sub (L : Int → Int → Prop) : Prop where
  z : L 0 0
  a : ∀ {x y u v : Int} (n : Int), L x y → L u v → L (x + n * u) (y + n * v)
theorem Sub.m {L : Int → Int → Prop} (s : Sub L) {x y : Int} (n : Int) (h : L x y) : L (n * x) (n * y) := by
  have := s.a n s.z h
  simpa using this
theorem Sub.s {L : Int → Int → Prop} (s : Sub L) {x y u v : Int} (n : Int) (h : L x y) (k : L u v) : L (x - n * u) (y - n * v) := by
  have := s.a (-n) h k
  rwa [Int.neg_mul, Int.neg_mul, ← Int.sub_eq_add_neg, ← Int.sub_eq_add_neg] at this
theorem sub_gcd {L : Int → Int → Prop} (s : Sub L) : ∀ (n : Nat) (a b : Int), b.natAbs ≤ n → L a 0 → L b 0 → L (Int.gcd a b : Int) 0
  | 0, a, b, hn, ha, hb => by
    have : b = 0 := by omega
    subst this
    rw [Int.gcd_zero_right]
    rcases Int.natAbs_eq a with h | h
    · rwa [← h]
    · have := s.m (-1) ha
      rw [show ((a.natAbs : Nat) : Int) = -1 * a by omega]
      simpa using this
  | n + 1, a, b, hn, ha, hb => by
    by_cases h0 : b = 0
    · exact sub_gcd s n a b (by omega) ha hb
    have h1 := tmod_abs a h0
    rw [← gcd_step]
    refine sub_gcd s n b _ (by omega) hb ?_
    have h2 := s.s (a.tdiv b) ha hb
    have h3 := Int.tmod_add_mul_tdiv a b
    rw [Int.mul_comm] at h3
    rw [show a.tmod b = a - a.tdiv b * b by omega]
    simpa using h2
theorem sub_of_gcd {L : Int → Int → Prop} (s : Sub L) {a b : Int} (h : L (Int.gcd a b : Int) 0) : L a 0 ∧ L b 0 := by
  obtain ⟨k, hk⟩ := Int.gcd_dvd_left (a := a) (b := b)
  obtain ⟨j, hj⟩ := Int.gcd_dvd_right (a := a) (b := b)
  constructor
  · have := s.m k h
    rw [Int.mul_comm, ← hk] at this
    simpa using this
  · have := s.m j h
    rw [Int.mul_comm, ← hj] at this
    simpa using this
theorem eu_row0 : ∀ (n : Nat) (h v : Int × Int), v.2.natAbs ≤ n → (eu n h v).2.2 = 0
  | 0, h, v, hn => by simp only [eu]; omega
  | n + 1, h, v, hn => by
    simp only [eu]
    by_cases hv : v.2 = 0
    · rw [if_pos hv]; exact hv
    · rw [if_neg hv]
      have := tmod_abs h.2 hv
      exact eu_row0 n _ _ (by simp only; omega)
theorem sub_eu {L : Int → Int → Prop} (s : Sub L) : ∀ (n : Nat) (h v : Int × Int), (L (eu n h v).1.1 (eu n h v).1.2 ∧ L (eu n h v).2.1 (eu n h v).2.2) ↔ (L h.1 h.2 ∧ L v.1 v.2)
  | 0, h, v => by simp [eu]
  | n + 1, h, v => by
    simp only [eu]
    by_cases hv : v.2 = 0
    · rw [if_pos hv]
    · rw [if_neg hv, sub_eu s n]
      have h3 := Int.tmod_add_mul_tdiv h.2 v.2
      rw [Int.mul_comm] at h3
      have e : h.2.tmod v.2 = h.2 - h.2.tdiv v.2 * v.2 := by omega
      simp only [e]
      constructor
      · rintro ⟨h1, h2⟩
        refine ⟨?_, h1⟩
        have := s.a (h.2.tdiv v.2) h2 h1
        rwa [Int.sub_add_cancel, Int.sub_add_cancel] at this
      · rintro ⟨h1, h2⟩
        exact ⟨h2, s.s _ h1 h2⟩
theorem sub_lstep {L : Int → Int → Prop} (s : Sub L) (t : Int × Int × Int) (v : Int × Int) : (L (lstep t v).1 0 ∧ L (lstep t v).2.1 (lstep t v).2.2) ↔ ((L t.1 0 ∧ L t.2.1 t.2.2) ∧ L v.1 v.2) := by
  have e1 := sub_eu s v.2.natAbs t.2 v
  have e2 := eu_row0 v.2.natAbs t.2 v (Nat.le_refl _)
  rw [e2] at e1
  simp only [lstep]
  constructor
  · rintro ⟨h1, h2⟩
    obtain ⟨h3, h4⟩ := sub_of_gcd s h1
    have := e1.1 ⟨h2, h4⟩
    exact ⟨⟨h3, this.1⟩, this.2⟩
  · rintro ⟨⟨h1, h2⟩, h3⟩
    have := e1.2 ⟨h2, h3⟩
    exact ⟨sub_gcd s _ _ _ (Nat.le_refl _) h1 this.2, this.1⟩
theorem sub_lstepS {L : Int → Int → Prop} (s : Sub L) (t : Int × Int × Int) (v : Int × Int) : (L (lstepS t v).1 0 ∧ L (lstepS t v).2.1 (lstepS t v).2.2) ↔ ((L t.1 0 ∧ L t.2.1 t.2.2) ∧ L v.1 v.2) := by
  rw [← sub_lstep s]
  simp only [lstep, lstepS]
  generalize (Int.gcd t.1 (eu v.2.natAbs t.2 v).2.1 : Int) = g
  generalize (eu v.2.natAbs t.2 v).1 = h
  refine and_congr_right fun hg => ?_
  split
  · have e := Int.emod_add_mul_ediv h.1 g
    rw [Int.mul_comm] at e
    constructor
    · intro h1
      have := s.a (h.1 / g) h1 hg
      rw [e] at this
      simpa using this
    · intro h1
      have := s.s (h.1 / g) h1 hg
      rw [show h.1 % g = h.1 - h.1 / g * g by omega]
      simpa using this
  · exact Iff.rfl
theorem sub_foldl {L : Int → Int → Prop} {st : Int × Int × Int → Int × Int → Int × Int × Int} (hst : ∀ t v, (L (st t v).1 0 ∧ L (st t v).2.1 (st t v).2.2) ↔ ((L t.1 0 ∧ L t.2.1 t.2.2) ∧ L v.1 v.2)) : ∀ (l : List (Int × Int)) (t : Int × Int × Int), (L (l.foldl st t).1 0 ∧ L (l.foldl st t).2.1 (l.foldl st t).2.2) ↔ ((L t.1 0 ∧ L t.2.1 t.2.2) ∧ ∀ v ∈ l, L v.1 v.2)
  | [], t => by simp
  | v :: l, t => by
    rw [List.foldl_cons, sub_foldl hst l, hst]
    simp only [List.mem_cons, forall_eq_or_imp, and_assoc]
theorem sub_lfold {L : Int → Int → Prop} (s : Sub L) (l : List (Int × Int)) : (L (lfold l).1 0 ∧ L (lfold l).2.1 (lfold l).2.2) ↔ ∀ v ∈ l, L v.1 v.2 := by
  rw [lfold, sub_foldl (sub_lstep s)]
  simp [s.z]
theorem sub_lfoldS {L : Int → Int → Prop} (s : Sub L) (l : List (Int × Int)) : (L (lfoldS l).1 0 ∧ L (lfoldS l).2.1 (lfoldS l).2.2) ↔ ∀ v ∈ l, L v.1 v.2 := by
  rw [lfoldS, sub_foldl (sub_lstepS s)]
  simp [s.z]
theorem sub_lfin {L : Int → Int → Prop} (s : Sub L) (t : Int × Int × Int) : (L (lfin t).1 0 ∧ L (lfin t).2.1 (lfin t).2.2) ↔ (L t.1 0 ∧ L t.2.1 t.2.2) := by
  simp only [lfin]
  refine and_congr_right fun hg => ?_
  have key : ∀ x y : Int, L (x % t.1) y ↔ L x y := fun x y => by
    have e := Int.emod_add_mul_ediv x t.1
    rw [Int.mul_comm] at e
    constructor
    · intro h1
      have := s.a (x / t.1) h1 hg
      rw [e] at this
      simpa using this
    · intro h1
      have := s.s (x / t.1) h1 hg
      rw [show x % t.1 = x - x / t.1 * t.1 by omega]
      simpa using this
  split
  · rw [key]
    constructor
    · intro h
      have := s.m (-1) h
      simpa using this
    · intro h
      have := s.m (-1) h
      simpa using this
  · rw [key]
def spn (a b c x y : Int) : Prop := ∃ i j : Int, x = i * a + j * b ∧ y = j * c
theorem spn_sub (a b c : Int) : Sub (spn a b c) where
  z := ⟨0, 0, by simp, by simp⟩
  a := by
    rintro x y u v n ⟨i, j, rfl, rfl⟩ ⟨k, l, rfl, rfl⟩
    refine ⟨i + n * k, j + n * l, ?_, ?_⟩
    · simp only [Int.add_mul, Int.mul_add, Int.mul_assoc]; omega
    · simp only [Int.add_mul, Int.mul_assoc]
theorem spn_l (a b c : Int) : spn a b c a 0 := ⟨1, 0, by simp, by simp⟩
theorem spn_r (a b c : Int) : spn a b c b c := ⟨0, 1, by simp, by simp⟩
theorem spn_det {a b c x y u v : Int} (h1 : spn a b c x y) (h2 : spn a b c u v) : a * c ∣ x * v - y * u := by
  obtain ⟨i, j, rfl, rfl⟩ := h1
  obtain ⟨k, l, rfl, rfl⟩ := h2
  refine ⟨i * l - j * k, ?_⟩
  simp only [Int.mul_sub, Int.add_mul, Int.mul_add]
  have e1 : i * a * (l * c) = a * c * (i * l) := by ac_rfl
  have e2 : j * b * (l * c) = j * c * (l * b) := by ac_rfl
  have e3 : j * c * (k * a) = a * c * (j * k) := by ac_rfl
  rw [e1, e2, e3]
  omega
theorem spn_uniq {a b c A B C : Int} (ha : 0 < a) (hb : 0 ≤ b ∧ b < a) (hc : 0 < c) (hA : 0 < A) (hB : 0 ≤ B ∧ B < A) (hC : 0 < C) (h1 : spn A B C a 0) (h2 : spn A B C b c) (h3 : spn a b c A 0) (h4 : spn a b c B C) : (a, b, c) = (A, B, C) := by
  obtain ⟨i1, j1, e1, f1⟩ := h1
  obtain ⟨i2, j2, e2, f2⟩ := h2
  obtain ⟨i3, j3, e3, f3⟩ := h3
  obtain ⟨i4, j4, e4, f4⟩ := h4
  have j1z : j1 = 0 := by
    rcases Int.mul_eq_zero.1 f1.symm with h | h <;> omega
  have j3z : j3 = 0 := by
    rcases Int.mul_eq_zero.1 f3.symm with h | h <;> omega
  subst j1z j3z
  simp only [Int.zero_mul, Int.add_zero] at e1 e3
  have eA : A = a := Int.le_antisymm (Int.le_of_dvd ha ⟨i1, by rw [Int.mul_comm]; exact e1⟩) (Int.le_of_dvd hA ⟨i3, by rw [Int.mul_comm]; exact e3⟩)
  have eC : C = c := Int.le_antisymm (Int.le_of_dvd hc ⟨j2, by rw [Int.mul_comm]; exact f2⟩) (Int.le_of_dvd hC ⟨j4, by rw [Int.mul_comm]; exact f4⟩)
  subst eA eC
  have : j2 = 1 := by
    have : (j2 - 1) * C = 0 := by rw [Int.sub_mul, Int.one_mul]; omega
    rcases Int.mul_eq_zero.1 this with h | h <;> omega
  subst this
  rw [Int.one_mul] at e2
  have : b % A = B % A := by rw [e2, Int.add_comm, Int.add_mul_emod_self_right]
  rw [Int.emod_eq_of_lt hb.1 hb.2, Int.emod_eq_of_lt hB.1 hB.2] at this
  rw [this]
end Go.Proofs.YtigebbijogidlaaGreatDoorFv
namespace Go.Proofs.YtigebbijogidlaaGreatDoorFv
open Go Go.Proofs
set_option maxRecDepth 10000
theorem inL_iff {a b c x y : Int} : inL a b c x y = true ↔ (x - y / c * b) % a = 0 ∧ y % c = 0 := by
  unfold inL
  rw [Bool.and_eq_true, decide_eq_true_iff, decide_eq_true_iff]
  exact Iff.rfl
theorem inL_spn {a b c x y : Int} (hc : 1 ≤ c) : inL a b c x y = true ↔ spn a b c x y := by
  rw [inL_iff]
  constructor
  · rintro ⟨h1, h2⟩
    have e1 := Int.emod_add_mul_ediv (x - y / c * b) a
    have e2 := Int.emod_add_mul_ediv y c
    refine ⟨(x - y / c * b) / a, y / c, ?_, ?_⟩
    · rw [h1, Int.mul_comm] at e1; omega
    · rw [h2, Int.mul_comm] at e2; omega
  · rintro ⟨i, j, rfl, rfl⟩
    rw [Int.mul_ediv_cancel _ (show c ≠ 0 by omega)]
    refine ⟨?_, Int.mul_emod_left _ _⟩
    rw [Int.add_sub_cancel]
    exact Int.mul_emod_left _ _
theorem lfS_one (x y : Int) : lfoldS [(x, y)] = if y = 0 then ((x.natAbs : Int), 0, 0) else (0, x, y) := by
  simp only [lfoldS, List.foldl_cons, List.foldl_nil, lstepS]
  by_cases hy : y = 0
  · subst hy
    simp [eu]
  · have h := eu_step (h := (0, 0)) (v := (x, y)) hy
    simp only at h
    rw [if_neg hy, h]
    simp [eu]
theorem lfS_g (l : List (Int × Int)) (v : Int × Int) : 0 ≤ (lfoldS (l ++ [v])).1 ∧ (0 < (lfoldS (l ++ [v])).1 → 0 ≤ (lfoldS (l ++ [v])).2.1 ∧ (lfoldS (l ++ [v])).2.1 < (lfoldS (l ++ [v])).1) := by
  rw [lfoldS_snoc]
  simp only [lstepS]
  refine ⟨by omega, fun h => ?_⟩
  rw [if_pos h]
  exact ⟨Int.emod_nonneg _ (by omega), Int.emod_lt_of_pos _ h⟩
structure Two (x y u w : Int) : Prop where
  h : 0 < (lfoldS [(x, y), (u, w)]).1
  r : 0 ≤ (lfoldS [(x, y), (u, w)]).2.1 ∧ (lfoldS [(x, y), (u, w)]).2.1 < (lfoldS [(x, y), (u, w)]).1
  k : (lfoldS [(x, y), (u, w)]).2.2 ≠ 0
  d : (lfoldS [(x, y), (u, w)]).1 * (lfoldS [(x, y), (u, w)]).2.2 ∣ x * w - y * u
  s : lsmallS [(x, y), (u, w)]
theorem dvd_bd {a b : Int} {D : Nat} (h : a ∣ b) (h0 : b ≠ 0) (hb : b.natAbs ≤ D) : a.natAbs ≤ D := by
  have := Int.natAbs_dvd_natAbs.2 h
  exact Nat.le_trans (Nat.le_of_dvd (by omega) this) hb
theorem takeTwo {α : Type} (x y : α) (P : List α → Prop) (h0 : P []) (h1 : P [x]) (h2 : P [x, y]) : ∀ k, P (([x, y] : List α).take k)
  | 0 => h0
  | 1 => h1
  | k + 2 => by simpa using h2
theorem two {x y u w : Int} (hx : x.natAbs ≤ 1000) (hy : y.natAbs ≤ 1000) (hu : u.natAbs ≤ 1000) (hw : w.natAbs ≤ 1000) (hd : x * w - y * u ≠ 0) (hD : (x * w - y * u).natAbs ≤ 1000000) : Two x y u w := by
  have g := lfS_g [(x, y)] (u, w)
  have sp := (sub_lfoldS (spn_sub (lfoldS [(x, y), (u, w)]).1 (lfoldS [(x, y), (u, w)]).2.1 (lfoldS [(x, y), (u, w)]).2.2) [(x, y), (u, w)]).1 ⟨spn_l _ _ _, spn_r _ _ _⟩
  have s1 := sp (x, y) (by simp)
  have s2 := sp (u, w) (by simp)
  have dv := spn_det s1 s2
  have e1 := lfS_one x y
  rw [List.singleton_append] at g
  have e2 : smallV 1000000 (lfoldS [(x, y)]).2 ∧ (lfoldS [(x, y)]).1.natAbs ≤ 1000000 := by
    rw [e1]
    split
    · exact ⟨⟨by simp, by simp⟩, by simp only; omega⟩
    · exact ⟨⟨by simp only; omega, by simp only; omega⟩, by simp⟩
  have hv : ∀ v ∈ ([(x, y), (u, w)] : List (Int × Int)), smallV 1000000 v := by
    intro v hv
    simp only [List.mem_cons, List.not_mem_nil, or_false] at hv
    rcases hv with rfl | rfl <;> exact ⟨by simp only; omega, by simp only; omega⟩
  have gz : (lfoldS [(x, y), (u, w)]).1 ≠ 0 := fun e => by rw [e, Int.zero_mul, Int.zero_dvd] at dv; exact hd dv
  have kz : (lfoldS [(x, y), (u, w)]).2.2 ≠ 0 := fun e => by rw [e, Int.mul_zero, Int.zero_dvd] at dv; exact hd dv
  have d1 := dvd_bd (Int.dvd_trans (Int.dvd_mul_right _ _) dv) hd hD
  have d2 := dvd_bd (Int.dvd_trans (Int.dvd_mul_left _ _) dv) hd hD
  have gp : 0 < (lfoldS [(x, y), (u, w)]).1 := by omega
  have gr := g.2 gp
  refine ⟨gp, gr, kz, dv, hv, takeTwo _ _ (fun l => smallV 1000000 (lfoldS l).2 ∧ (lfoldS l).1.natAbs ≤ 1000000) ?_ e2 ?_⟩
  · exact ⟨⟨by decide, by decide⟩, by decide⟩
  · exact ⟨⟨by omega, d2⟩, d1⟩
theorem image_eq {a b c x y u w : Int} (ha : 1 ≤ a) (hb : 0 ≤ b ∧ b < a) (hc : 1 ≤ c) (t : Two x y u w) (hd : x * w - y * u = a * c ∨ x * w - y * u = -(a * c)) : lfin (lfoldS [(x, y), (u, w)]) = (a, b, c) ↔ (spn a b c x y ∧ spn a b c u w) := by
  have e := (sub_lfin (spn_sub a b c) (lfoldS [(x, y), (u, w)])).trans (sub_lfoldS (spn_sub a b c) [(x, y), (u, w)])
  simp only [List.mem_cons, List.not_mem_nil, or_false, forall_eq_or_imp, forall_eq] at e
  rw [← e]
  obtain ⟨t1, t2, t3, t4, _⟩ := t
  have f1 : (lfin (lfoldS [(x, y), (u, w)])).1 = (lfoldS [(x, y), (u, w)]).1 := rfl
  have f2 : 0 ≤ (lfin (lfoldS [(x, y), (u, w)])).2.1 ∧ (lfin (lfoldS [(x, y), (u, w)])).2.1 < (lfoldS [(x, y), (u, w)]).1 := ⟨Int.emod_nonneg _ (by omega), Int.emod_lt_of_pos _ t1⟩
  have f3 : 0 < (lfin (lfoldS [(x, y), (u, w)])).2.2 := by
    simp only [lfin]
    split <;> omega
  have f4 : (lfin (lfoldS [(x, y), (u, w)])).1 * (lfin (lfoldS [(x, y), (u, w)])).2.2 ∣ a * c := by
    have : (lfoldS [(x, y), (u, w)]).1 * (lfoldS [(x, y), (u, w)]).2.2 ∣ a * c := by
      rcases hd with h | h
      · rwa [h] at t4
      · rw [h] at t4; exact Int.dvd_neg.1 t4
    simp only [lfin]
    split
    · rw [Int.mul_neg]; exact Int.neg_dvd.2 this
    · exact this
  rw [← f1] at f2 t1
  generalize lfin (lfoldS [(x, y), (u, w)]) = r at *
  obtain ⟨A, B, C⟩ := r
  simp only at *
  constructor
  · intro h
    cases h
    exact ⟨spn_l _ _ _, spn_r _ _ _⟩
  · rintro ⟨⟨i3, j3, e3, g3⟩, ⟨i4, j4, e4, g4⟩⟩
    have j3z : j3 = 0 := by rcases Int.mul_eq_zero.1 g3.symm with h | h <;> omega
    subst j3z
    simp only [Int.zero_mul, Int.add_zero] at e3
    obtain ⟨n, hn⟩ := f4
    have hp : 0 < a * c := Int.mul_pos (by omega) (by omega)
    have h1 : a * c * (i3 * j4 * n - 1) = 0 := by subst e3 g4; grind
    have h2 : i3 * j4 * n = 1 := by rcases Int.mul_eq_zero.1 h1 with h | h <;> omega
    have i3p : 0 < i3 := by
      rcases Int.lt_trichotomy i3 0 with h | h | h
      · have := Int.mul_neg_of_neg_of_pos h (show 0 < a by omega); omega
      · subst h; simp at e3; omega
      · exact h
    have j4p : 0 < j4 := by
      rcases Int.lt_trichotomy j4 0 with h | h | h
      · have := Int.mul_neg_of_neg_of_pos h (show 0 < c by omega); omega
      · subst h; simp at g4; omega
      · exact h
    have q1 : i3 = 1 := by
      have := Int.le_of_dvd (by decide) (show i3 ∣ 1 from ⟨j4 * n, by rw [← h2, Int.mul_assoc]⟩)
      omega
    have q2 : j4 = 1 := by
      have := Int.le_of_dvd (by decide) (show j4 ∣ 1 from ⟨i3 * n, by rw [← h2]; ac_rfl⟩)
      omega
    subst q1 q2
    simp only [Int.one_mul] at e3 e4 g4
    subst e3 g4
    have : B % A = b % A := by rw [e4, Int.add_comm, Int.add_mul_emod_self_right]
    rw [Int.emod_eq_of_lt hb.1 hb.2, Int.emod_eq_of_lt f2.1 f2.2] at this
    rw [this]
/-! point matrices -/
theorem sq_le {x : Int} {n : Nat} (h : x * x ≤ n) : x.natAbs ≤ n := by
  have h1 : (x * x).natAbs = x.natAbs * x.natAbs := Int.natAbs_mul _ _
  have h0 : 0 ≤ x * x := by rcases Int.le_total 0 x with h | h; exact Int.mul_nonneg h h; exact Int.mul_nonneg_of_nonpos_of_nonpos h h
  rcases Nat.eq_zero_or_pos x.natAbs with h2 | h2
  · omega
  · have := Nat.le_mul_of_pos_right x.natAbs h2
    omega
theorem norm_one {f x y : Int} (hf : 0 ≤ f ∧ f ≤ 1) (h : normF f x y = 1) : x.natAbs ≤ 1 ∧ y.natAbs ≤ 1 := by
  unfold normF at h
  have hsq : ∀ z : Int, 0 ≤ z * z := fun z => by rcases Int.le_total 0 z with h | h; exact Int.mul_nonneg h h; exact Int.mul_nonneg_of_nonpos_of_nonpos h h
  rcases (by omega : f = 0 ∨ f = 1) with rfl | rfl
  · have := hsq x; have := hsq y
    rw [Int.zero_mul, Int.zero_mul] at h
    exact ⟨sq_le (by omega), sq_le (by omega)⟩
  · rw [Int.one_mul] at h
    have e1 := hsq (2 * x + y)
    have e2 := hsq (x + 2 * y)
    have e3 : (2 * x + y) * (2 * x + y) + 3 * (y * y) = 4 := by grind
    have e4 : (x + 2 * y) * (x + 2 * y) + 3 * (x * x) = 4 := by grind
    exact ⟨sq_le (by omega), sq_le (by omega)⟩
theorem one_cases {x : Int} (h : x.natAbs ≤ 1) : x = -1 ∨ x = 0 ∨ x = 1 := by omega
theorem pmL_mem {f : Int} (hf : 0 ≤ f ∧ f ≤ 1) (a b c d : Int) : (a, b, c, d) ∈ pmL f 81 ↔ pmOk f (a, b, c, d) = true := by
  constructor
  · intro h
    unfold pmL at h
    exact (List.mem_filter.1 h).2
  · intro h
    unfold pmL
    refine List.mem_filter.2 ⟨?_, h⟩
    simp only [pmOk, Bool.and_eq_true, decide_eq_true_eq] at h
    obtain ⟨h1, h2⟩ := norm_one hf h.1.1
    obtain ⟨h3, h4⟩ := norm_one hf h.1.2
    refine List.mem_map.2 ⟨((a + 1) * 27 + (b + 1) * 9 + (c + 1) * 3 + (d + 1)).toNat, List.mem_range.2 (by omega), ?_⟩
    simp only [mat81, Prod.mk.injEq]
    omega
theorem pm_facts {f a b c d : Int} (hf : 0 ≤ f ∧ f ≤ 1) (h : pmOk f (a, b, c, d) = true) : (a.natAbs ≤ 1 ∧ b.natAbs ≤ 1) ∧ (c.natAbs ≤ 1 ∧ d.natAbs ≤ 1) ∧ (a * d - b * c = 1 ∨ a * d - b * c = -1) := by
  have h' := h
  simp only [pmOk, Bool.and_eq_true, decide_eq_true_eq] at h
  obtain ⟨h1, h2⟩ := norm_one hf h.1.1
  obtain ⟨h3, h4⟩ := norm_one hf h.1.2
  refine ⟨⟨h1, h3⟩, ⟨h2, h4⟩, ?_⟩
  rcases (by omega : f = 0 ∨ f = 1) with rfl | rfl <;> rcases one_cases h1 with rfl | rfl | rfl <;> rcases one_cases h2 with rfl | rfl | rfl <;> rcases one_cases h3 with rfl | rfl | rfl <;> rcases one_cases h4 with rfl | rfl | rfl <;> first | decide | (exfalso; revert h'; decide)
theorem pm_mat {f a b c d : Int} (hf : 0 ≤ f ∧ f ≤ 1) (h : pmOk f (a, b, c, d) = true) : matOk a b c d = true := by
  obtain ⟨⟨h1, h2⟩, ⟨h3, h4⟩, h5⟩ := pm_facts hf h
  have e1 : okV a b = true := okV_spec.2 (by omega)
  have e2 : okV c d = true := okV_spec.2 (by omega)
  simp only [matOk, e1, e2, Bool.true_and, Bool.or_eq_true, decide_eq_true_eq]
  exact h5
end Go.Proofs.YtigebbijogidlaaGreatDoorFv
namespace Go.Proofs.YtigebbijogidlaaGreatDoorFv
open Go Go.Proofs
set_option maxRecDepth 10000
theorem s_idxM (l : List M4) (m : M4) (h : l.length ≤ 1048576) : Sp Tryz.prog 230 [.v (vms l), aM4 m] (vi (if m ∈ l then l.idxOf m else -1)) [] := by
  refine sp_of (m := no) mixed Tryz.func230 k230 ?_
  simp -dsimp [q, -Prod.forall, -Prod.exists]
  refine awp_it (true :: false :: false :: true :: false :: false :: false :: true :: true :: []) (fun i : Nat => [(8, vi i)]) (fun i => []) (fun i => i ≤ l.length ∧ ∀ x ∈ l.take i, x ≠ m) (fun i => l.length - i) 0 ?_
  intro s0 e
  simp -dsimp at e
  subst e
  refine ⟨?_, ?_⟩
  · simp
  rintro i ⟨hi, hi2⟩
  simp -dsimp [-Prod.forall, -Prod.exists]
  refine ⟨fun h1 => ⟨h1, fun x ha => ?_⟩, fun h1 => ?_⟩
  · obtain ⟨_, hal⟩ := List.getElem?_eq_some_iff.1 ha
    refine ⟨fun e1 e2 e3 e4 => ?_, fun hn => ⟨i + 1, by rw [w64 (by omega) (by omega)]; simp, ⟨by omega, fun x' hx => ?_⟩, by omega⟩⟩
    · have e : x = m := Prod.ext e1.symm (Prod.ext e2.symm (Prod.ext e3.symm e4.symm))
      rw [if_pos (e ▸ List.mem_of_getElem? ha), List.idxOf, (List.findIdx_eq h1).2 ⟨by rw [hal, e]; simp, fun j hj => by
        have := hi2 l[j] (List.mem_iff_getElem.2 ⟨j, by simp; omega, by simp⟩)
        simpa using this⟩]
    · rw [List.take_add_one, ha] at hx
      rcases List.mem_append.1 hx with hx | hx
      · exact hi2 _ hx
      · simp only [Option.toList_some, List.mem_singleton] at hx
        rw [hx]
        rintro rfl
        exact hn rfl rfl rfl rfl
  · rw [List.take_of_length_le h1] at hi2
    exact fun hm => hi2 m hm rfl
theorem s_contM (l : List M4) (m : M4) (h : l.length ≤ 1048576) : Sp Tryz.prog 162 [.v (vms l), aM4 m] (vb (decide (m ∈ l))) [] := by
  refine sp_of (m := no) mixed Tryz.func162 k162 ?_
  have w := s_idxM l m h
  simp -dsimp [q]
  refine call_of (w) rfl (by simp) ?_
  try simp -dsimp
  try (first | exact fp_one (by decide) | refine fp_and (by decide) ?_)
  by_cases hm : m ∈ l
  · rw [if_pos hm]
    simp [hm]
  · rw [if_neg hm]
    simp [hm]
def suit (f a b c p q' r s t u : Int) : Bool := pmOk f (p, q', r, s) && keepL a b c (p, q', r, s) && okV t u
theorem s_simage (a b c p q' r s : Int) (h : okL a b c = true) (hm : (p.natAbs ≤ 1 ∧ q'.natAbs ≤ 1) ∧ (r.natAbs ≤ 1 ∧ s.natAbs ≤ 1) ∧ (p * s - q' * r = 1 ∨ p * s - q' * r = -1)) : ∃ A B C, ((A, B, C) = (a, b, c) ↔ keepL a b c (p, q', r, s) = true) ∧ Sp Tryz.prog 152 [aM p q' r s, aL a b c] (aL A B C) [] := by
  obtain ⟨ha, hc, hb, hac⟩ := okL_spec.1 h
  obtain ⟨⟨m1, m2⟩, ⟨m3, m4⟩, hd⟩ := hm
  have h1 := mul_bd m1 (show a.natAbs ≤ 64 by omega)
  have h2 := mul_bd m3 (show a.natAbs ≤ 64 by omega)
  have h3 := mul_bd m1 (show b.natAbs ≤ 64 by omega)
  have h4 := mul_bd m2 (show c.natAbs ≤ 64 by omega)
  have h5 := mul_bd m3 (show b.natAbs ≤ 64 by omega)
  have h6 := mul_bd m4 (show c.natAbs ≤ 64 by omega)
  have hdet : p * a * (r * b + s * c) - r * a * (p * b + q' * c) = a * c ∨ p * a * (r * b + s * c) - r * a * (p * b + q' * c) = -(a * c) := by
    have e : p * a * (r * b + s * c) - r * a * (p * b + q' * c) = a * c * (p * s - q' * r) := by grind
    rw [e]
    rcases hd with e | e
    · left; rw [e, Int.mul_one]
    · right; rw [e, Int.mul_neg, Int.mul_one]
  have hp : 0 < a * c := Int.mul_pos (by omega) (by omega)
  have t := two (x := p * a) (y := r * a) (u := p * b + q' * c) (w := r * b + s * c) (by omega) (by omega) (by omega) (by omega) (by omega) (by omega)
  have w := s_hermite [(p * a, r * a), (p * b + q' * c, r * b + s * c)] (by simp) t.s t.h
  have e := image_eq (a := a) (b := b) (c := c) (by omega) hb (by omega) t hdet
  rw [← inL_spn (by omega), ← inL_spn (by omega), ← Bool.and_eq_true] at e
  generalize lfin (lfoldS [(p * a, r * a), (p * b + q' * c, r * b + s * c)]) = R at w e
  obtain ⟨A, B, C⟩ := R
  refine ⟨A, B, C, e, ?_⟩
  refine sp_of (m := no) mixed Tryz.func152 k152 ?_
  simp -dsimp [q]
  refine call_of ((s_sbasis a b c : Sp Tryz.prog 225 [aL a b c] (.v (.sl 2 [.ag [.int .i64 a, .int .i64 0], .ag [.int .i64 b, .int .i64 c]])) [])) rfl (by simp) ?_
  try simp -dsimp
  try (first | exact fp_one (by decide) | refine fp_and (by decide) ?_)
  refine call_of (s_sapply p q' r s a 0 ⟨⟨by omega, by omega⟩, by omega, by omega⟩ ⟨by omega, by omega⟩) rfl (by simp) ?_
  try simp -dsimp
  try (first | exact fp_one (by decide) | refine fp_and (by decide) ?_)
  refine call_of (s_sapply p q' r s b c ⟨⟨by omega, by omega⟩, by omega, by omega⟩ ⟨by omega, by omega⟩) rfl (by simp) ?_
  try simp -dsimp
  try (first | exact fp_one (by decide) | refine fp_and (by decide) ?_)
  refine call_of (w) rfl (by simp) ?_
  try simp -dsimp
  try (first | exact fp_one (by decide) | refine fp_and (by decide) ?_)
end Go.Proofs.YtigebbijogidlaaGreatDoorFv
namespace Go.Proofs.YtigebbijogidlaaGreatDoorFv
open Go Go.Proofs
set_option maxRecDepth 10000
theorem s_szP (f a b c : Int) (l : List Int) (n : Int) (hc : l.length ≤ maxLen) (hn : 0 ≤ n ∧ n ≤ 1048576) : Sp Tryz.prog 23 [aP f a b c l, vi n] (vi (if n < l.length then -1 else n - l.length)) [] := by
  refine sp_of (m := no) mixed Tryz.func23 k23 ?_
  simp -dsimp [q]
  refine call_of (s_sz l n hc hn) rfl (by simp) ?_
  try simp -dsimp
  try (first | exact fp_one (by decide) | refine fp_and (by decide) ?_)
  split <;> omega
theorem s_toL (a b c : Int) : Sp Tryz.prog 76 [aL a b c] (aL a b c) [] := by
  refine sp_of (m := no) mixed Tryz.func76 k76 ?_
  simp -dsimp [q]
theorem s_toP (f a b c : Int) (l : List Int) (hc : l.length ≤ 1048576) : Sp Tryz.prog 25 [aP f a b c l] (oP f a b c 0) [.row 0 2 (is l)] := by
  refine sp_of (m := no) mixed Tryz.func25 k25 ?_
  simp -dsimp [q]
  refine call_of (s_toL a b c) rfl (by simp) ?_
  try simp -dsimp
  try (first | exact fp_one (by decide) | refine fp_and (by decide) ?_)
  refine call_of (s_to l hc) rfl (by simp) ?_
  try simp -dsimp
  try (first | exact fp_one (by decide) | refine fp_and (by decide) ?_)
theorem s_eqL (a b c a' b' c' : Int) : Sp Tryz.prog 60 [aL a b c, aL a' b' c'] (vb (decide (a = a' ∧ b = b' ∧ c = c'))) [] := by
  refine sp_of (m := no) mixed Tryz.func60 k60 ?_
  simp -dsimp [q]
  refine ⟨fun h e => absurd e h, fun h => ⟨fun h2 _ e => absurd e h2, fun h2 => ⟨fun h3 _ _ => h3, fun h3 => ⟨h, h2, h3⟩⟩⟩⟩
theorem s_eqP (f a b c : Int) (l : List Int) (f' a' b' c' : Int) (l' : List Int) (hl : l.length ≤ 1048576) : Sp Tryz.prog 15 [aP f a b c l, aP f' a' b' c' l'] (vb (decide (f = f' ∧ (a = a' ∧ b = b' ∧ c = c') ∧ l = l'))) [] := by
  refine sp_of (m := no) mixed Tryz.func15 k15 ?_
  have w1 := s_eqL a b c a' b' c'
  generalize hp : decide (a = a' ∧ b = b' ∧ c = c') = p at w1
  simp -dsimp [q]
  refine ⟨fun h e => absurd e h, fun h => ?_⟩
  refine call_of (w1) rfl (by simp) ?_
  try simp -dsimp
  try (first | exact fp_one (by decide) | refine fp_and (by decide) ?_)
  cases p
  · simp -dsimp
    have := of_decide_eq_false hp
    intro _ e1 e2 e3
    exact absurd ⟨e1, e2, e3⟩ this
  · simp -dsimp
    have := of_decide_eq_true hp
    refine call_of (s_eq l l' hl) rfl (by simp) ?_
    try simp -dsimp
    try (first | exact fp_one (by decide) | refine fp_and (by decide) ?_)
    exact ⟨fun h3 _ _ _ _ => h3, fun h3 => ⟨h, this, h3⟩⟩
abbrev vvs' (l : List (Int × Int)) : V := .sl 2 (vs l)
def mkV (k : Int) (n : Nat) : List (Int × Int) := (List.range n).map fun i : Nat => (k + 2 * i, k + 2 * i + 1)
/-! marks on patterns -/
theorem s_markP (f a b c : Int) (l : List Int) (k : Int) (t : Nat) (hc : l.length ≤ 1048576) (hk : 0 ≤ k ∧ k ≤ 1000000000) : SpG Tryz.prog 18 [oP f a b c 0, vi k] [.row 0 t (is l)] (vi (k + l.length)) [.row 0 t (is ((List.range l.length).map fun i : Nat => k + i))] := by
  refine sg_of (m := fun f => f == 64) mixed Tryz.func18 k18 ?_
  simp -dsimp [q]
  refine callM_of rfl (s_mark l k hc hk t) (by simp) ?_
  try simp -dsimp
  try (first | exact fp_one (by decide) | refine fp_and (by decide) ?_)
theorem s_heldP (f a b c : Int) (l : List Int) (k : Int) (t : Nat) (hc : l.length ≤ 1048576) (hk : 0 ≤ k ∧ k ≤ 1000000000) (hh : l = (List.range l.length).map fun i : Nat => k + i) : SpG Tryz.prog 19 [oP f a b c 0, vi k] [.row 0 t (is l)] (vi (k + l.length)) [.row 0 t (is l)] := by
  refine sg_of (m := fun f => f == 65) mixed Tryz.func19 k19 ?_
  simp -dsimp [q]
  refine callM_of rfl (s_held l k hc hk hh t) (by simp) ?_
  try simp -dsimp
  try (first | exact fp_one (by decide) | refine fp_and (by decide) ?_)
  intro hneg
  omega
theorem s_mark0 (k : Int) : SpG Tryz.prog 64 [.nil 0, vi k] [] (vi k) [] := by
  refine sg_of (m := no) mixed Tryz.func64 k64 ?_
  simp -dsimp [q]
  refine awp_it (true :: true :: false :: false :: false :: true :: []) (fun i : Nat => [(5, vi i)]) (fun i => []) (fun i => i = 0) (fun i => 0) 0 ?_
  intro s0 e
  simp -dsimp at e
  subst e
  refine ⟨?_, ?_⟩
  · simp
  rintro i rfl
  simp -dsimp
theorem s_held0 (k : Int) : SpG Tryz.prog 65 [.nil 0, vi k] [] (vi k) [] := by
  refine sg_of (m := no) mixed Tryz.func65 k65 ?_
  simp -dsimp [q]
  refine awp_it (true :: true :: false :: false :: false :: true :: []) (fun i : Nat => [(5, vi i)]) (fun i => []) (fun i => i = 0) (fun i => 0) 0 ?_
  intro s0 e
  simp -dsimp at e
  subst e
  refine ⟨?_, ?_⟩
  · simp
  rintro i rfl
  simp -dsimp
abbrev zP' : A := .ag [vi 0, vi 0, vi 0, vi 0, .nil 0]
theorem s_markP0 (k : Int) : SpG Tryz.prog 18 [zP', vi k] [] (vi k) [] := by
  refine sg_of (m := fun f => f == 64) mixed Tryz.func18 k18 ?_
  simp -dsimp [q]
  refine callM_of rfl (s_mark0 k) (by simp) ?_
  try simp -dsimp
  try (first | exact fp_one (by decide) | refine fp_and (by decide) ?_)
theorem s_heldP0 (k : Int) (hk : 0 ≤ k) : SpG Tryz.prog 19 [zP', vi k] [] (vi k) [] := by
  refine sg_of (m := fun f => f == 65) mixed Tryz.func19 k19 ?_
  simp -dsimp [q]
  refine callM_of rfl (s_held0 k) (by simp) ?_
  try simp -dsimp
  try (first | exact fp_one (by decide) | refine fp_and (by decide) ?_)
  intro hneg
  omega
end Go.Proofs.YtigebbijogidlaaGreatDoorFv
