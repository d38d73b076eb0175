/- What the code computes, and what it means: part 3 of the proof of FnJournals. No condition of its own. -/
import Derived.Test.YtcnhcilpaplpcaaGreatDoorProg
import Derived.WalkKit
import Derived.WalkSmall
import Derived.Ground.NamesProg
import Derived.Shelf.Lay
import Derived.Shelf.Strconv.Itoa4
import Derived.Shelf.Strings.OnBuilder
import Derived.Sort.Grow
import Derived.Deep.Slices
import Derived.OpenShut
import Derived.ShutString
import Derived.ChangeOld
import Derived.SizedLaws
import Derived.Shelf.Strings.Cut
import Derived.Shelf.Strings.Split
import Derived.Shelf.Strconv.ParseIntPublic10
import Derived.Test.YtcnhcilpaplpcaaGreatDoorCFnJournals2
namespace Go.Proofs.YtcnhcilpaplpcaaGreatDoorEv
open Go Go.Proofs
def q (d : Nat) (o : O) : AO := ⟨some d, none, o⟩
def c2 : AF := ⟨0,1,[],(.ops [q 0 (.call 1 [])])⟩
theorem k2 : cF Tryz.prog Tryz.f2 = some c2 := by kernel_rfl
def c3 : AF := ⟨3,51,[(6,none)],(.seq (.ops [q 6 (.mv (.c (.v (.bool false))))]) (.seq (.seq (.ops [q 13 (.mv (.t 0)),q 14 (.len true (.t 13)),q 15 (.bin .gtr (.t 14) (.c (.v (.int .i64 1048576))))]) (.cond (.t 15) (.seq (.ops [q 6 (.mv (.c (.v (.bool true))))]) .ret) .skip)) (.seq (.ops [q 7 (.mv (.c (.v (.int .i64 1048576))))]) (.seq (.ops [q 16 (.mv (.t 2)),q 17 (.mv (.t 7)),q 18 (.call 6 [(.t 16),(.t 17)]),q 7 (.mv (.t 18))]) (.seq (.seq (.ops [q 19 (.mv (.t 7)),q 20 (.bin .lss (.t 19) (.c (.v (.int .i64 0))))]) (.cond (.t 20) (.seq (.ops [q 6 (.mv (.c (.v (.bool true))))]) .ret) .skip)) (.seq (.ops [q 22 (.mv (.t 0)),q 23 (.mv (.t 1)),q 24 (.mv (.t 2)),q 25 (.call 8 [(.t 24)]),q 26 (.call 7 [(.t 22),(.t 23),(.t 25)]),q 21 (.mv (.t 26)),q 27 (.ext (.t 21) 0),q 28 (.ext (.t 21) 1),q 8 (.mv (.t 27)),q 9 (.mv (.t 28))]) (.seq (.ops [q 29 (.mv (.t 2)),q 30 (.call 8 [(.t 29)]),q 10 (.mv (.t 30))]) (.seq (.ops [q 32 (.mv (.t 0)),q 33 (.mv (.t 1)),q 34 (.mv (.t 10)),q 35 (.call 9 [(.t 32),(.t 33),(.t 34)]),q 31 (.mv (.t 35)),q 36 (.ext (.t 31) 0),q 37 (.ext (.t 31) 1),q 11 (.mv (.t 36)),q 12 (.mv (.t 37))]) (.seq (.seq (.ops [q 38 (.mv (.t 11)),q 39 (.mv (.t 8)),q 40 (.bin .neq (.t 38) (.t 39)),q 41 (.mv (.t 40)),⟨(some 42),(some (41,false)),.mv (.t 12)⟩,⟨(some 43),(some (41,false)),.mv (.t 9)⟩,⟨(some 44),(some (41,false)),.bin .neq (.t 42) (.t 43)⟩,q 45 (.pick (.t 41) (.c (.v (.bool true))) (.t 44))]) (.cond (.t 45) (.seq (.ops [q 6 (.mv (.c (.v (.bool false))))]) .ret) .skip)) (.seq (.seq (.ops [q 46 (.mv (.t 10)),q 47 (.mv (.t 2)),q 48 (.call 8 [(.t 47)]),q 49 (.call 10 [(.t 46),(.t 48)]),q 50 (.un .not (.t 49))]) (.cond (.t 50) (.seq (.ops [q 6 (.mv (.c (.v (.bool false))))]) .ret) .skip)) (.seq (.ops [q 6 (.mv (.c (.v (.bool true))))]) .ret)))))))))))⟩
theorem k3 : cF Tryz.prog Tryz.f3 = some c3 := by kernel_rfl
def c4 : AF := ⟨3,79,[(6,none)],(.seq (.ops [q 6 (.mv (.c (.v (.bool false))))]) (.seq (.seq (.ops [q 15 (.mv (.t 0)),q 16 (.len true (.t 15)),q 17 (.bin .gtr (.t 16) (.c (.v (.int .i64 1048576))))]) (.cond (.t 17) (.seq (.ops [q 6 (.mv (.c (.v (.bool true))))]) .ret) .skip)) (.seq (.seq (.ops [q 18 (.mv (.t 2)),q 19 (.len true (.t 18)),q 20 (.bin .gtr (.t 19) (.c (.v (.int .i64 1048576))))]) (.cond (.t 20) (.seq (.ops [q 6 (.mv (.c (.v (.bool true))))]) .ret) .skip)) (.seq (.ops [q 22 (.mv (.t 0)),q 23 (.mv (.t 1)),q 24 (.mv (.t 2)),q 25 (.call 11 [(.t 22),(.t 23),(.t 24)]),q 21 (.mv (.t 25)),q 26 (.ext (.t 21) 0),q 27 (.ext (.t 21) 1),q 7 (.mv (.t 26)),q 8 (.mv (.t 27))]) (.seq (.ops [q 29 (.mv (.t 0)),q 30 (.mv (.t 1)),q 31 (.mv (.t 2)),q 32 (.call 12 [(.t 29),(.t 30),(.t 31)]),q 28 (.mv (.t 32)),q 33 (.ext (.t 28) 0),q 34 (.ext (.t 28) 1),q 9 (.mv (.t 33)),q 10 (.mv (.t 34))]) (.seq (.seq (.ops [q 35 (.mv (.t 9)),q 36 (.mv (.t 7)),q 37 (.call 10 [(.t 35),(.t 36)]),q 38 (.un .not (.t 37)),q 39 (.mv (.t 38)),⟨(some 40),(some (39,false)),.mv (.t 10)⟩,⟨(some 41),(some (39,false)),.mv (.t 8)⟩,⟨(some 42),(some (39,false)),.bin .neq (.t 40) (.t 41)⟩,q 43 (.pick (.t 39) (.c (.v (.bool true))) (.t 42))]) (.cond (.t 43) (.seq (.ops [q 6 (.mv (.c (.v (.bool false))))]) .ret) .skip)) (.seq (.ops [q 11 (.mv (.c (.v (.int .i64 1))))]) (.seq (.ops [q 44 (.mv (.t 9)),q 45 (.mv (.t 11)),q 46 (.call 13 [(.t 44),(.t 45)]),q 11 (.mv (.t 46))]) (.seq (.ops [q 12 (.mv (.c (.v (.int .i64 1))))]) (.seq (.ops [q 47 (.mv (.t 9)),q 48 (.mv (.t 12)),q 49 (.call 14 [(.t 47),(.t 48)]),q 12 (.mv (.t 49))]) (.seq (.seq (.ops [q 50 (.mv (.t 12)),q 51 (.bin .lss (.t 50) (.c (.v (.int .i64 0))))]) (.cond (.t 51) (.seq (.ops [q 6 (.mv (.c (.v (.bool false))))]) .ret) .skip)) (.seq (.seq (.ops [q 52 (.mv (.t 12)),q 53 (.mv (.t 11)),q 54 (.bin .neq (.t 52) (.t 53))]) (.cond (.t 54) (.seq (.ops [q 6 (.mv (.c (.v (.bool false))))]) .ret) .skip)) (.seq (.ops [q 56 (.mv (.t 0)),q 57 (.mv (.t 1)),q 58 (.mv (.t 2)),q 59 (.call 12 [(.t 56),(.t 57),(.t 58)]),q 55 (.mv (.t 59)),q 60 (.ext (.t 55) 0),q 61 (.ext (.t 55) 1),q 13 (.mv (.t 60)),q 14 (.mv (.t 61))]) (.seq (.seq (.ops [q 62 (.mv (.t 13)),q 63 (.mv (.t 7)),q 64 (.call 10 [(.t 62),(.t 63)]),q 65 (.un .not (.t 64)),q 66 (.mv (.t 65)),⟨(some 67),(some (66,false)),.mv (.t 14)⟩,⟨(some 68),(some (66,false)),.mv (.t 8)⟩,⟨(some 69),(some (66,false)),.bin .neq (.t 67) (.t 68)⟩,q 70 (.pick (.t 66) (.c (.v (.bool true))) (.t 69))]) (.cond (.t 70) (.seq (.ops [q 6 (.mv (.c (.v (.bool false))))]) .ret) .skip)) (.seq (.ops [q 12 (.mv (.c (.v (.int .i64 1))))]) (.seq (.ops [q 71 (.mv (.t 9)),q 72 (.mv (.t 12)),q 73 (.call 14 [(.t 71),(.t 72)]),q 12 (.mv (.t 73))]) (.seq (.seq (.ops [q 74 (.mv (.t 12)),q 75 (.bin .lss (.t 74) (.c (.v (.int .i64 0))))]) (.cond (.t 75) (.seq (.ops [q 6 (.mv (.c (.v (.bool false))))]) .ret) .skip)) (.seq (.seq (.ops [q 76 (.mv (.t 12)),q 77 (.mv (.t 11)),q 78 (.bin .neq (.t 76) (.t 77))]) (.cond (.t 78) (.seq (.ops [q 6 (.mv (.c (.v (.bool false))))]) .ret) .skip)) (.seq (.ops [q 6 (.mv (.c (.v (.bool true))))]) .ret)))))))))))))))))))⟩
theorem k4 : cF Tryz.prog Tryz.f4 = some c4 := by kernel_rfl
def c5 : AF := ⟨1,138,[(2,none)],(.seq (.ops [q 2 (.mv (.c (.v (.bool false))))]) (.seq (.seq (.ops [q 24 (.mv (.t 0)),q 25 (.call 15 [(.t 24)])]) (.cond (.t 25) (.seq (.ops [q 2 (.mv (.c (.v (.bool true))))]) .ret) .skip)) (.seq (.ops [q 27 (.mv (.t 0)),q 28 (.call 16 [(.t 27)]),q 26 (.mv (.t 28)),q 29 (.ext (.t 26) 0),q 30 (.ext (.t 26) 1),q 31 (.ext (.t 26) 2),q 3 (.mv (.t 29)),q 4 (.mv (.t 30)),q 5 (.mv (.t 31))]) (.seq (.ops [q 33 (.mv (.t 3)),q 34 (.mv (.t 4)),q 35 (.mv (.t 5)),q 36 (.call 9 [(.t 33),(.t 34),(.t 35)]),q 32 (.mv (.t 36)),q 37 (.ext (.t 32) 0),q 38 (.ext (.t 32) 1),q 6 (.mv (.t 37)),q 7 (.mv (.t 38))]) (.seq (.ops [q 40 (.mv (.t 3)),q 41 (.mv (.t 4)),q 42 (.mv (.t 5)),q 43 (.call 7 [(.t 40),(.t 41),(.t 42)]),q 39 (.mv (.t 43)),q 44 (.ext (.t 39) 0),q 45 (.ext (.t 39) 1),q 8 (.mv (.t 44)),q 9 (.mv (.t 45))]) (.seq (.ops [q 47 (.mv (.t 0)),q 48 (.call 17 [(.t 47)]),q 46 (.mv (.t 48)),q 49 (.ext (.t 46) 0),q 50 (.ext (.t 46) 1),q 51 (.ext (.t 46) 2),q 10 (.mv (.t 49)),q 11 (.mv (.t 50)),q 12 (.mv (.t 51))]) (.seq (.ops [q 53 (.mv (.t 10)),q 54 (.mv (.t 11)),q 55 (.mv (.t 12)),q 56 (.call 12 [(.t 53),(.t 54),(.t 55)]),q 52 (.mv (.t 56)),q 57 (.ext (.t 52) 0),q 58 (.ext (.t 52) 1),q 13 (.mv (.t 57)),q 14 (.mv (.t 58))]) (.seq (.ops [q 60 (.mv (.t 10)),q 61 (.mv (.t 11)),q 62 (.mv (.t 12)),q 63 (.call 11 [(.t 60),(.t 61),(.t 62)]),q 59 (.mv (.t 63)),q 64 (.ext (.t 59) 0),q 65 (.ext (.t 59) 1),q 15 (.mv (.t 64)),q 16 (.mv (.t 65))]) (.seq (.seq (.ops [q 66 (.mv (.t 7)),q 67 (.mv (.t 9)),q 68 (.bin .neq (.t 66) (.t 67)),q 69 (.mv (.t 68)),⟨(some 70),(some (69,false)),.mv (.t 6)⟩,⟨(some 71),(some (69,false)),.mv (.t 8)⟩,⟨(some 72),(some (69,false)),.bin .neq (.t 70) (.t 71)⟩,q 73 (.pick (.t 69) (.c (.v (.bool true))) (.t 72)),q 74 (.mv (.t 73)),⟨(some 75),(some (74,false)),.mv (.t 14)⟩,⟨(some 76),(some (74,false)),.mv (.t 16)⟩,⟨(some 77),(some (74,false)),.bin .neq (.t 75) (.t 76)⟩,q 78 (.pick (.t 74) (.c (.v (.bool true))) (.t 77)),q 79 (.mv (.t 78)),⟨(some 80),(some (79,false)),.mv (.t 13)⟩,⟨(some 81),(some (79,false)),.mv (.t 15)⟩,⟨(some 82),(some (79,false)),.call 18 [(.t 80),(.t 81)]⟩,⟨(some 83),(some (79,false)),.un .not (.t 82)⟩,q 84 (.pick (.t 79) (.c (.v (.bool true))) (.t 83))]) (.cond (.t 84) (.seq (.ops [q 2 (.mv (.c (.v (.bool false))))]) .ret) .skip)) (.seq (.seq (.ops [q 85 (.mv (.t 7)),q 86 (.bin .neq (.t 85) (.c (.v (.int .i64 0))))]) (.cond (.t 86) (.seq (.ops [q 2 (.mv (.c (.v (.bool true))))]) .ret) .skip)) (.seq (.ops [q 87 (.mv (.t 0)),q 88 (.call 19 [(.t 87),(.c (.v (.int .u64 2701)))]),q 89 (.mv (.t 6)),q 90 (.len true (.t 89)),q 91 (.bin .add (.t 90) (.c (.v (.int .i64 1)))),q 92 (.call 20 [(.t 88),(.t 91)]),q 17 (.mv (.t 92))]) (.seq (.ops [q 18 (.mv (.c (.v (.int .i64 0))))]) (.seq (.seq (.ops [q 19 (.mv (.c (.v (.int .i64 0))))]) (.block 0 (.loop (.seq (.seq (.ops [q 93 (.mv (.t 19)),q 94 (.mv (.t 17)),q 95 (.bin .lss (.t 93) (.t 94))]) (.cond (.t 95) .skip (.exit 0))) (.seq (.block 1 (.seq (.ops [q 98 (.mv (.t 6)),q 99 (.mv (.t 19)),q 100 (.si (.t 98) (.t 99)),q 101 (.bin .eql (.t 100) (.c (.v (.int .u8 10))))]) (.cond (.t 101) (.ops [q 102 (.mv (.t 18)),q 103 (.bin .add (.t 102) (.c (.v (.int .i64 1)))),q 18 (.mv (.t 103))]) .skip))) (.ops [q 96 (.mv (.t 19)),q 97 (.bin .add (.t 96) (.c (.v (.int .i64 1)))),q 19 (.mv (.t 97))])))))) (.seq (.ops [q 105 (.mv (.t 3)),q 106 (.mv (.t 4)),q 107 (.mv (.t 6)),q 108 (.call 12 [(.t 105),(.t 106),(.t 107)]),q 104 (.mv (.t 108)),q 109 (.ext (.t 104) 0),q 110 (.ext (.t 104) 1),q 20 (.mv (.t 109)),q 21 (.mv (.t 110))]) (.seq (.ops [q 112 (.mv (.t 3)),q 113 (.mv (.t 4)),q 114 (.mv (.t 6)),q 115 (.mv (.t 17)),q 116 (.ssub (.t 114) none (some (.t 115))),q 117 (.call 12 [(.t 112),(.t 113),(.t 116)]),q 111 (.mv (.t 117)),q 118 (.ext (.t 111) 0),q 119 (.ext (.t 111) 1),q 22 (.mv (.t 118)),q 23 (.mv (.t 119))]) (.seq (.ops [q 120 (.mv (.t 21)),q 121 (.bin .eql (.t 120) (.c (.v (.int .i64 0)))),q 122 (.mv (.t 121)),⟨(some 123),(some (122,true)),.mv (.t 20)⟩,⟨(some 124),(some (122,true)),.mv (.t 5)⟩,⟨(some 125),(some (122,true)),.call 18 [(.t 123),(.t 124)]⟩,q 126 (.pick (.t 122) (.t 125) (.c (.v (.bool false)))),q 127 (.mv (.t 126)),⟨(some 128),(some (127,true)),.mv (.t 23)⟩,⟨(some 129),(some (127,true)),.bin .eql (.t 128) (.c (.v (.int .i64 0)))⟩,q 130 (.pick (.t 127) (.t 129) (.c (.v (.bool false)))),q 131 (.mv (.t 130)),⟨(some 132),(some (131,true)),.mv (.t 22)⟩,⟨(some 133),(some (131,true)),.mv (.t 5)⟩,⟨(some 134),(some (131,true)),.mv (.t 18)⟩,⟨(some 135),(some (131,true)),.sub 3 (.t 133) none (some (.t 134))⟩,⟨(some 136),(some (131,true)),.call 18 [(.t 132),(.t 135)]⟩,q 137 (.pick (.t 131) (.t 136) (.c (.v (.bool false)))),q 2 (.mv (.t 137))]) .ret))))))))))))))))⟩
theorem k5 : cF Tryz.prog Tryz.f5 = some c5 := by kernel_rfl
def c6 : AF := ⟨2,12,[(4,none)],(.seq (.ops [q 4 (.mv (.c (.v (.int .i64 0))))]) (.seq (.ops [q 5 (.mv (.t 1)),q 6 (.mv (.t 0)),q 7 (.len false (.t 6)),q 8 (.bin .sub (.t 5) (.t 7)),q 1 (.mv (.t 8))]) (.seq (.seq (.ops [q 9 (.mv (.t 1)),q 10 (.bin .lss (.t 9) (.c (.v (.int .i64 0))))]) (.cond (.t 10) (.seq (.ops [q 4 (.mv (.c (.v (.int .i64 (-1)))))]) .ret) .skip)) (.seq (.ops [q 11 (.mv (.t 1)),q 4 (.mv (.t 11))]) .ret))))⟩
theorem k6 : cF Tryz.prog Tryz.f6 = some c6 := by kernel_rfl
def c7 : AF := ⟨3,51,[(6,none),(7,none)],(.seq (.ops [q 6 (.mv (.c (.v (.str (.mk #[]))))),q 7 (.mv (.c (.v (.int .i64 0))))]) (.seq (.ops [q 15 (.mv (.t 0)),q 16 (.mv (.t 1)),q 17 (.call 21 [(.t 15),(.t 16)]),q 14 (.mv (.t 17)),q 18 (.ext (.t 14) 0),q 19 (.ext (.t 14) 1),q 20 (.ext (.t 14) 2),q 21 (.ext (.t 14) 3),q 9 (.al [(.v (.int .i64 0)),(.v (.int .i64 0)),(.v (.int .i64 0))]),q 8 (.mv (.t 18)),⟨none,none,.st (.t 9) (.t 19) 3⟩,q 10 (.mv (.t 20)),q 11 (.mv (.t 21))]) (.seq (.seq (.ops [q 22 (.mv (.t 11)),q 23 (.bin .eql (.t 22) (.c (.v (.int .i64 0)))),q 24 (.mv (.t 23)),⟨(some 25),(some (24,true)),.ld (.t 9) 3⟩,⟨(some 26),(some (24,true)),.mv (.t 2)⟩,⟨(some 27),(some (24,true)),.call 22 [(.t 25),(.t 26)]⟩,⟨(some 28),(some (24,true)),.un .not (.t 27)⟩,q 29 (.pick (.t 24) (.t 28) (.c (.v (.bool false))))]) (.cond (.t 29) (.ops [q 11 (.mv (.c (.v (.int .i64 2))))]) .skip)) (.seq (.seq (.ops [q 30 (.mv (.t 11)),q 31 (.bin .neq (.t 30) (.c (.v (.int .i64 0))))]) (.cond (.t 31) (.seq (.ops [q 32 (.mv (.t 11)),q 6 (.mv (.c (.v (.str (.mk #[]))))),q 7 (.mv (.t 32))]) .ret) .skip)) (.seq (.ops [q 33 (.bsl 0 5 []),q 12 (.mv (.t 33))]) (.seq (.seq (.ops [q 13 (.mv (.c (.v (.int .i64 0))))]) (.block 0 (.loop (.seq (.seq (.ops [q 34 (.mv (.t 13)),q 35 (.mv (.t 2)),q 36 (.len false (.t 35)),q 37 (.bin .lss (.t 34) (.t 36))]) (.cond (.t 37) .skip (.exit 0))) (.seq (.block 1 (.ops [q 40 (.mv (.t 12)),q 41 (.mv (.t 2)),q 42 (.mv (.t 13)),q 43 (.ia (.t 41) (.t 42) 3),q 44 (.ld (.t 43) 3),q 45 (.mv (.t 13)),q 46 (.call 23 [(.t 44),(.t 45)]),q 47 (.bin .add (.t 46) (.c (.v (.str (.mk #[10]))))),q 48 (.aps 5 1 (.t 40) (.t 47)),q 12 (.mv (.t 48))])) (.ops [q 38 (.mv (.t 13)),q 39 (.bin .add (.t 38) (.c (.v (.int .i64 1)))),q 13 (.mv (.t 39))])))))) (.seq (.ops [q 49 (.mv (.t 12)),q 50 (.b2s (.t 49)),q 6 (.mv (.t 50)),q 7 (.mv (.c (.v (.int .i64 0))))]) .ret)))))))⟩
theorem k7 : cF Tryz.prog Tryz.f7 = some c7 := by kernel_rfl
def c8 : AF := ⟨1,23,[(2,none)],(.seq (.ops [q 2 (.mv (.c (.nil 3)))]) (.seq (.ops [q 5 (.mv (.t 0)),q 6 (.len false (.t 5)),q 7 (.mk 3 54 24 (.ag [(.int .i64 0),(.int .i64 0),(.int .i64 0)]) (.t 6) (.t 6)),q 3 (.mv (.t 7))]) (.seq (.seq (.ops [q 4 (.mv (.c (.v (.int .i64 0))))]) (.block 0 (.loop (.seq (.seq (.ops [q 8 (.mv (.t 4)),q 9 (.mv (.t 0)),q 10 (.len false (.t 9)),q 11 (.bin .lss (.t 8) (.t 10))]) (.cond (.t 11) .skip (.exit 0))) (.seq (.block 1 (.ops [q 14 (.mv (.t 3)),q 15 (.mv (.t 4)),q 16 (.mv (.t 0)),q 17 (.mv (.t 4)),q 18 (.ia (.t 16) (.t 17) 3),q 19 (.ld (.t 18) 3),q 20 (.call 24 [(.t 19)]),q 21 (.ia (.t 14) (.t 15) 3),⟨none,none,.st (.t 21) (.t 20) 3⟩])) (.ops [q 12 (.mv (.t 4)),q 13 (.bin .add (.t 12) (.c (.v (.int .i64 1)))),q 4 (.mv (.t 13))])))))) (.seq (.ops [q 22 (.mv (.t 3)),q 2 (.mv (.t 22))]) .ret))))⟩
theorem k8 : cF Tryz.prog Tryz.f8 = some c8 := by kernel_rfl
def c9 : AF := ⟨3,43,[(6,none),(7,none)],(.seq (.ops [q 6 (.mv (.c (.v (.str (.mk #[]))))),q 7 (.mv (.c (.v (.int .i64 0))))]) (.seq (.seq (.ops [q 16 (.mv (.t 0)),q 17 (.mv (.t 1)),q 18 (.mv (.t 2)),q 19 (.bsl 0 26 [(.t 18)]),q 20 (.call 25 [(.t 16),(.t 17),(.t 19)]),q 15 (.mv (.t 20)),q 21 (.ext (.t 15) 0),q 22 (.ext (.t 15) 1),q 23 (.ext (.t 15) 2),q 24 (.ext (.t 15) 3),q 9 (.al [(.v (.int .i64 0)),(.v (.int .i64 0)),(.v (.int .i64 0))]),q 8 (.mv (.t 21)),⟨none,none,.st (.t 9) (.t 22) 3⟩,q 10 (.mv (.t 23)),q 11 (.mv (.t 24))]) (.seq (.ops [q 25 (.mv (.t 11)),q 26 (.bin .neq (.t 25) (.c (.v (.int .i64 0))))]) (.cond (.t 26) (.seq (.ops [q 27 (.mv (.t 11)),q 6 (.mv (.c (.v (.str (.mk #[]))))),q 7 (.mv (.t 27))]) .ret) .skip))) (.seq (.ops [q 12 (.mv (.c (.v (.str (.mk #[])))))]) (.seq (.seq (.ops [q 28 (.mv (.t 2)),q 29 (.len false (.t 28)),q 30 (.mv (.c (.v (.int .i64 0))))]) (.block 0 (.loop (.seq (.ops [q 31 (.bin .lss (.t 30) (.t 29))]) (.seq (.cond (.t 31) .skip (.exit 0)) (.seq (.block 1 (.seq (.ops [q 32 (.mv (.t 30)),q 33 (.ia (.t 28) (.t 30) 3),q 34 (.ld (.t 33) 3),q 14 (.al [(.v (.int .i64 0)),(.v (.int .i64 0)),(.v (.int .i64 0))]),q 13 (.mv (.t 32)),⟨none,none,.st (.t 14) (.t 34) 3⟩]) (.ops [q 35 (.mv (.t 12)),q 36 (.ld (.t 14) 3),q 37 (.mv (.t 13)),q 38 (.call 26 [(.t 36),(.t 37)]),q 39 (.bin .add (.t 38) (.c (.v (.str (.mk #[10]))))),q 40 (.bin .add (.t 35) (.t 39)),q 12 (.mv (.t 40))]))) (.ops [q 41 (.bin .add (.t 30) (.c (.v (.int .i64 1)))),q 30 (.mv (.t 41))]))))))) (.seq (.ops [q 42 (.mv (.t 12)),q 6 (.mv (.t 42)),q 7 (.mv (.c (.v (.int .i64 0))))]) .ret)))))⟩
theorem k9 : cF Tryz.prog Tryz.f9 = some c9 := by kernel_rfl
def c10 : AF := ⟨2,27,[(4,none)],(.seq (.ops [q 4 (.mv (.c (.v (.bool false))))]) (.seq (.seq (.ops [q 6 (.mv (.t 0)),q 7 (.len false (.t 6)),q 8 (.mv (.t 1)),q 9 (.len false (.t 8)),q 10 (.bin .neq (.t 7) (.t 9))]) (.cond (.t 10) (.seq (.ops [q 4 (.mv (.c (.v (.bool false))))]) .ret) .skip)) (.seq (.seq (.ops [q 5 (.mv (.c (.v (.int .i64 0))))]) (.block 0 (.loop (.seq (.seq (.ops [q 11 (.mv (.t 5)),q 12 (.mv (.t 0)),q 13 (.len false (.t 12)),q 14 (.bin .lss (.t 11) (.t 13))]) (.cond (.t 14) .skip (.exit 0))) (.seq (.block 1 (.seq (.reg [0,0,3,7,0,0,48,112,255,511] [q 17 (.mv (.t 0)),q 18 (.mv (.t 5)),q 19 (.ia (.t 17) (.t 18) 3),q 20 (.ld (.t 19) 3),q 21 (.mv (.t 1)),q 22 (.mv (.t 5)),q 23 (.ia (.t 21) (.t 22) 3),q 24 (.ld (.t 23) 3),q 25 (.call 27 [(.t 20),(.t 24)]),q 26 (.un .not (.t 25))]) (.cond (.t 26) (.seq (.ops [q 4 (.mv (.c (.v (.bool false))))]) .ret) .skip))) (.ops [q 15 (.mv (.t 5)),q 16 (.bin .add (.t 15) (.c (.v (.int .i64 1)))),q 5 (.mv (.t 16))])))))) (.seq (.ops [q 4 (.mv (.c (.v (.bool true))))]) .ret))))⟩
theorem k10 : cF Tryz.prog Tryz.f10 = some c10 := by kernel_rfl
def c11 : AF := ⟨3,106,[(6,none),(7,none)],(.seq (.ops [q 6 (.mv (.c (.nil 3))),q 7 (.mv (.c (.v (.int .i64 0))))]) (.seq (.ops [q 22 (.mv (.t 0)),q 23 (.mv (.t 1)),q 24 (.call 21 [(.t 22),(.t 23)]),q 21 (.mv (.t 24)),q 25 (.ext (.t 21) 0),q 26 (.ext (.t 21) 1),q 27 (.ext (.t 21) 2),q 28 (.ext (.t 21) 3),q 9 (.al [(.v (.int .i64 0)),(.v (.int .i64 0)),(.v (.int .i64 0))]),q 8 (.mv (.t 25)),⟨none,none,.st (.t 9) (.t 26) 3⟩,q 10 (.mv (.t 27)),q 11 (.mv (.t 28))]) (.seq (.seq (.ops [q 29 (.mv (.t 11)),q 30 (.bin .eql (.t 29) (.c (.v (.int .i64 0)))),q 31 (.mv (.t 30)),⟨(some 32),(some (31,true)),.mv (.t 2)⟩,⟨(some 33),(some (31,true)),.len true (.t 32)⟩,⟨(some 34),(some (31,true)),.bin .gtr (.t 33) (.c (.v (.int .i64 4000)))⟩,q 35 (.pick (.t 31) (.t 34) (.c (.v (.bool false))))]) (.cond (.t 35) (.ops [q 11 (.mv (.c (.v (.int .i64 3))))]) .skip)) (.seq (.seq (.ops [q 36 (.mv (.t 11)),q 37 (.bin .neq (.t 36) (.c (.v (.int .i64 0))))]) (.cond (.t 37) (.seq (.ops [q 38 (.mv (.t 11)),q 6 (.mv (.c (.nil 3))),q 7 (.mv (.t 38))]) .ret) .skip)) (.seq (.ops [q 39 (.mv (.t 2)),q 40 (.call 28 [(.t 39),(.c (.v (.int .u8 10)))]),q 12 (.mv (.t 40))]) (.seq (.ops [q 41 (.bsl 3 54 []),q 13 (.mv (.t 41))]) (.seq (.seq (.ops [q 14 (.mv (.c (.v (.int .i64 0))))]) (.block 0 (.loop (.seq (.seq (.ops [q 42 (.mv (.t 14)),q 43 (.bin .add (.t 42) (.c (.v (.int .i64 1)))),q 44 (.mv (.t 12)),q 45 (.len false (.t 44)),q 46 (.bin .lss (.t 43) (.t 45)),q 47 (.mv (.t 46)),⟨(some 48),(some (47,true)),.mv (.t 14)⟩,⟨(some 49),(some (47,true)),.bin .lss (.t 48) (.c (.v (.int .i64 100)))⟩,q 50 (.pick (.t 47) (.t 49) (.c (.v (.bool false))))]) (.cond (.t 50) .skip (.exit 0))) (.seq (.block 1 (.seq (.ops [q 53 (.mv (.t 12)),q 54 (.mv (.t 14)),q 55 (.ia (.t 53) (.t 54) 0),q 56 (.ld (.t 55) 0),q 57 (.call 28 [(.t 56),(.c (.v (.int .u8 32)))]),q 15 (.mv (.t 57))]) (.seq (.seq (.ops [q 58 (.mv (.t 15)),q 59 (.len false (.t 58)),q 60 (.bin .neq (.t 59) (.c (.v (.int .i64 3))))]) (.cond (.t 60) (.exit 0) .skip)) (.seq (.ops [q 62 (.mv (.t 15)),q 63 (.ia (.t 62) (.c (.v (.int .i64 0))) 0),q 64 (.ld (.t 63) 0),q 65 (.call 29 [(.t 64)]),q 61 (.mv (.t 65)),q 66 (.ext (.t 61) 0),q 67 (.ext (.t 61) 1),q 16 (.al [(.v (.int .i64 0)),(.v (.int .i64 0))]),⟨none,none,.st (.t 16) (.t 66) 2⟩,q 17 (.mv (.t 67))]) (.seq (.ops [q 69 (.mv (.t 15)),q 70 (.ia (.t 69) (.c (.v (.int .i64 1))) 0),q 71 (.ld (.t 70) 0),q 72 (.call 30 [(.t 71)]),q 68 (.mv (.t 72)),q 73 (.ext (.t 68) 0),q 74 (.ext (.t 68) 1),q 18 (.mv (.t 73)),q 19 (.mv (.t 74))]) (.seq (.ops [q 75 (.ld (.t 16) 2),q 76 (.mv (.t 18)),q 77 (.bld [(.v (.int .i64 0)),(.v (.int .i64 0)),(.v (.int .i64 0))] [(0,2,(.t 75)),(2,1,(.t 76))]),q 20 (.al [(.v (.int .i64 0)),(.v (.int .i64 0)),(.v (.int .i64 0))]),⟨none,none,.st (.t 20) (.t 77) 3⟩]) (.seq (.seq (.reg [0,1,3,7,15,31,63,127,127,383,1023,2047,4095,8191,16383,16383,65535,16383,16383,409599,933887,2097151,4194303] [q 78 (.mv (.t 17)),q 79 (.un .not (.t 78)),q 80 (.mv (.t 79)),⟨(some 81),(some (80,false)),.mv (.t 19)⟩,⟨(some 82),(some (80,false)),.un .not (.t 81)⟩,q 83 (.pick (.t 80) (.c (.v (.bool true))) (.t 82)),q 84 (.mv (.t 83)),⟨(some 85),(some (84,false)),.ld (.t 9) 3⟩,⟨(some 86),(some (84,false)),.ld (.t 20) 3⟩,⟨(some 87),(some (84,false)),.bsl 3 54 [(.t 86)]⟩,⟨(some 88),(some (84,false)),.call 22 [(.t 85),(.t 87)]⟩,⟨(some 89),(some (84,false)),.un .not (.t 88)⟩,q 90 (.pick (.t 84) (.c (.v (.bool true))) (.t 89)),q 91 (.mv (.t 90)),⟨(some 92),(some (91,false)),.ld (.t 20) 3⟩,⟨(some 93),(some (91,false)),.mv (.t 14)⟩,⟨(some 94),(some (91,false)),.call 23 [(.t 92),(.t 93)]⟩,⟨(some 95),(some (91,false)),.mv (.t 12)⟩,⟨(some 96),(some (91,false)),.mv (.t 14)⟩,⟨(some 97),(some (91,false)),.ia (.t 95) (.t 96) 0⟩,⟨(some 98),(some (91,false)),.ld (.t 97) 0⟩,⟨(some 99),(some (91,false)),.bin .neq (.t 94) (.t 98)⟩,q 100 (.pick (.t 91) (.c (.v (.bool true))) (.t 99))]) (.cond (.t 100) (.exit 0) .skip)) (.ops [q 101 (.mv (.t 13)),q 102 (.ld (.t 20) 3),q 103 (.bsl 3 54 [(.t 102)]),q 104 (.app 3 54 24 (.t 101) (.t 103)),q 13 (.mv (.t 104))])))))))) (.ops [q 51 (.mv (.t 14)),q 52 (.bin .add (.t 51) (.c (.v (.int .i64 1)))),q 14 (.mv (.t 52))])))))) (.seq (.ops [q 105 (.mv (.t 13)),q 6 (.mv (.t 105)),q 7 (.mv (.c (.v (.int .i64 0))))]) .ret))))))))⟩
theorem k11 : cF Tryz.prog Tryz.f11 = some c11 := by kernel_rfl
def c12 : AF := ⟨3,68,[(6,none),(7,none)],(.seq (.ops [q 6 (.mv (.c (.nil 3))),q 7 (.mv (.c (.v (.int .i64 0))))]) (.seq (.ops [q 19 (.mv (.t 0)),q 20 (.mv (.t 1)),q 21 (.call 25 [(.t 19),(.t 20),(.c (.nil 0))]),q 18 (.mv (.t 21)),q 22 (.ext (.t 18) 0),q 23 (.ext (.t 18) 1),q 24 (.ext (.t 18) 2),q 25 (.ext (.t 18) 3),q 9 (.al [(.v (.int .i64 0)),(.v (.int .i64 0)),(.v (.int .i64 0))]),q 8 (.mv (.t 22)),⟨none,none,.st (.t 9) (.t 23) 3⟩,q 10 (.mv (.t 24)),q 11 (.mv (.t 25))]) (.seq (.seq (.ops [q 26 (.mv (.t 11)),q 27 (.bin .neq (.t 26) (.c (.v (.int .i64 0))))]) (.cond (.t 27) (.seq (.ops [q 28 (.mv (.t 11)),q 6 (.mv (.c (.nil 3))),q 7 (.mv (.t 28))]) .ret) .skip)) (.seq (.seq (.ops [q 29 (.mv (.t 2)),q 30 (.len true (.t 29)),q 31 (.bin .gtr (.t 30) (.c (.v (.int .i64 4000))))]) (.cond (.t 31) (.seq (.ops [q 6 (.mv (.c (.nil 3))),q 7 (.mv (.c (.v (.int .i64 3))))]) .ret) .skip)) (.seq (.ops [q 32 (.bsl 3 54 []),q 12 (.mv (.t 32))]) (.seq (.block 0 (.loop (.seq (.seq (.ops [q 33 (.mv (.t 12)),q 34 (.len false (.t 33)),q 35 (.bin .lss (.t 34) (.c (.v (.int .i64 100))))]) (.cond (.t 35) .skip (.exit 0))) (.block 1 (.seq (.ops [q 37 (.mv (.t 2)),q 38 (.call 31 [(.t 37),(.c (.v (.str (.mk #[10]))))]),q 36 (.mv (.t 38)),q 39 (.ext (.t 36) 0),q 40 (.ext (.t 36) 1),q 41 (.ext (.t 36) 2),q 13 (.mv (.t 39)),q 14 (.mv (.t 40)),q 15 (.mv (.t 41))]) (.seq (.ops [q 43 (.mv (.t 13)),q 44 (.mv (.t 12)),q 45 (.len false (.t 44)),q 46 (.call 32 [(.t 43),(.t 45)]),q 42 (.mv (.t 46)),q 47 (.ext (.t 42) 0),q 48 (.ext (.t 42) 1),q 16 (.al [(.v (.int .i64 0)),(.v (.int .i64 0)),(.v (.int .i64 0))]),⟨none,none,.st (.t 16) (.t 47) 3⟩,q 17 (.mv (.t 48))]) (.seq (.seq (.ops [q 49 (.mv (.t 15)),q 50 (.un .not (.t 49)),q 51 (.mv (.t 50)),⟨(some 52),(some (51,false)),.mv (.t 17)⟩,⟨(some 53),(some (51,false)),.un .not (.t 52)⟩,q 54 (.pick (.t 51) (.c (.v (.bool true))) (.t 53)),q 55 (.mv (.t 54)),⟨(some 56),(some (55,false)),.ld (.t 9) 3⟩,⟨(some 57),(some (55,false)),.fa (.t 16) 0⟩,⟨(some 58),(some (55,false)),.ld (.t 57) 2⟩,⟨(some 59),(some (55,false)),.call 33 [(.t 56),(.t 58)]⟩,⟨(some 60),(some (55,false)),.un .not (.t 59)⟩,q 61 (.pick (.t 55) (.c (.v (.bool true))) (.t 60))]) (.cond (.t 61) (.exit 0) .skip)) (.ops [q 62 (.mv (.t 12)),q 63 (.ld (.t 16) 3),q 64 (.bsl 3 54 [(.t 63)]),q 65 (.app 3 54 24 (.t 62) (.t 64)),q 66 (.mv (.t 14)),q 12 (.mv (.t 65)),q 2 (.mv (.t 66))])))))))) (.seq (.ops [q 67 (.mv (.t 12)),q 6 (.mv (.t 67)),q 7 (.mv (.c (.v (.int .i64 0))))]) .ret)))))))⟩
theorem k12 : cF Tryz.prog Tryz.f12 = some c12 := by kernel_rfl
def c15 : AF := ⟨1,6,[(2,none)],(.seq (.ops [q 2 (.mv (.c (.v (.bool false))))]) (.seq (.ops [q 3 (.mv (.t 0)),q 4 (.len false (.t 3)),q 5 (.bin .gtr (.t 4) (.c (.v (.int .i64 4096)))),q 2 (.mv (.t 5))]) .ret))⟩
theorem k15 : cF Tryz.prog Tryz.f15 = some c15 := by kernel_rfl
def c16 : AF := ⟨1,11,[(2,none),(3,none),(4,none)],(.seq (.ops [q 2 (.mv (.c (.v (.str (.mk #[]))))),q 3 (.mv (.c (.v (.int .i64 0)))),q 4 (.mv (.c (.nil 3)))]) (.seq (.ops [q 5 (.mv (.t 0)),q 6 (.call 35 [(.t 5)]),q 7 (.call 34 [(.t 6)]),q 8 (.ext (.t 7) 0),q 9 (.ext (.t 7) 1),q 10 (.ext (.t 7) 2),q 2 (.mv (.t 8)),q 3 (.mv (.t 9)),q 4 (.mv (.t 10))]) .ret))⟩
theorem k16 : cF Tryz.prog Tryz.f16 = some c16 := by kernel_rfl
def c17 : AF := ⟨1,47,[(2,none),(3,none),(4,none)],(.seq (.ops [q 2 (.mv (.c (.v (.str (.mk #[]))))),q 3 (.mv (.c (.v (.int .i64 0)))),q 4 (.mv (.c (.v (.str (.mk #[])))))]) (.seq (.ops [q 11 (.mv (.t 0)),q 12 (.call 35 [(.t 11)]),q 5 (.mv (.t 12))]) (.seq (.ops [q 14 (.mv (.t 5)),q 15 (.call 34 [(.t 14)]),q 13 (.mv (.t 15)),q 16 (.ext (.t 13) 0),q 17 (.ext (.t 13) 1),q 18 (.ext (.t 13) 2),q 6 (.mv (.t 16)),q 7 (.mv (.t 17)),q 8 (.mv (.t 18))]) (.seq (.ops [q 20 (.mv (.t 6)),q 21 (.mv (.t 7)),q 22 (.mv (.t 8)),q 23 (.call 7 [(.t 20),(.t 21),(.t 22)]),q 19 (.mv (.t 23)),q 24 (.ext (.t 19) 0),q 25 (.ext (.t 19) 1),q 9 (.mv (.t 24)),q 10 (.mv (.t 25))]) (.seq (.seq (.ops [q 26 (.mv (.t 5)),q 27 (.call 36 [(.t 26),(.c (.v (.int .i64 3)))]),q 28 (.bin .eql (.t 27) (.c (.v (.int .i64 0))))]) (.cond (.t 28) (.seq (.ops [q 29 (.mv (.t 6)),q 30 (.mv (.t 7)),q 31 (.mv (.t 5)),q 32 (.mv (.t 9)),q 33 (.call 37 [(.t 31),(.t 32)]),q 2 (.mv (.t 29)),q 3 (.mv (.t 30)),q 4 (.mv (.t 33))]) .ret) .skip)) (.seq (.seq (.ops [q 34 (.mv (.t 5)),q 35 (.call 36 [(.t 34),(.c (.v (.int .i64 50)))]),q 36 (.bin .eql (.t 35) (.c (.v (.int .i64 0))))]) (.cond (.t 36) (.seq (.reg [0,0,0,4,12,28,60,13,143,511] [q 37 (.mv (.t 6)),q 38 (.mv (.t 7)),q 39 (.mv (.t 5)),q 40 (.call 36 [(.t 39),(.c (.v (.int .i64 2)))]),q 41 (.bin .add (.c (.v (.int .i64 4000))) (.t 40)),q 42 (.mk 0 5 1 (.int .u8 0) (.t 41) (.t 41)),q 43 (.b2s (.t 42)),q 2 (.mv (.t 37)),q 3 (.mv (.t 38)),q 4 (.mv (.t 43))]) .ret) .skip)) (.seq (.ops [q 44 (.mv (.t 6)),q 45 (.mv (.t 7)),q 46 (.mv (.t 9)),q 2 (.mv (.t 44)),q 3 (.mv (.t 45)),q 4 (.mv (.t 46))]) .ret)))))))⟩
theorem k17 : cF Tryz.prog Tryz.f17 = some c17 := by kernel_rfl
def c18 : AF := ⟨2,26,[(4,none)],(.seq (.ops [q 4 (.mv (.c (.v (.bool false))))]) (.seq (.seq (.ops [q 6 (.mv (.t 0)),q 7 (.len false (.t 6)),q 8 (.mv (.t 1)),q 9 (.len false (.t 8)),q 10 (.bin .neq (.t 7) (.t 9))]) (.cond (.t 10) (.seq (.ops [q 4 (.mv (.c (.v (.bool false))))]) .ret) .skip)) (.seq (.seq (.ops [q 5 (.mv (.c (.v (.int .i64 0))))]) (.block 0 (.loop (.seq (.seq (.ops [q 11 (.mv (.t 5)),q 12 (.mv (.t 0)),q 13 (.len false (.t 12)),q 14 (.bin .lss (.t 11) (.t 13))]) (.cond (.t 14) .skip (.exit 0))) (.seq (.block 1 (.seq (.reg [0,0,3,7,0,0,48,112,255] [q 17 (.mv (.t 0)),q 18 (.mv (.t 5)),q 19 (.ia (.t 17) (.t 18) 3),q 20 (.ld (.t 19) 3),q 21 (.mv (.t 1)),q 22 (.mv (.t 5)),q 23 (.ia (.t 21) (.t 22) 3),q 24 (.ld (.t 23) 3),q 25 (.eq true 3 [1,1,1] (.t 20) (.t 24))]) (.cond (.t 25) (.seq (.ops [q 4 (.mv (.c (.v (.bool false))))]) .ret) .skip))) (.ops [q 15 (.mv (.t 5)),q 16 (.bin .add (.t 15) (.c (.v (.int .i64 1)))),q 5 (.mv (.t 16))])))))) (.seq (.ops [q 4 (.mv (.c (.v (.bool true))))]) .ret))))⟩
theorem k18 : cF Tryz.prog Tryz.f18 = some c18 := by kernel_rfl
def c19 : AF := ⟨2,38,[(4,none)],(.seq (.ops [q 4 (.mv (.c .un))]) (.seq (.ops [q 7 (.mv (.t 0)),q 8 (.mv (.t 1)),q 9 (.bin .mul (.t 8) (.c (.v (.int .u64 9311)))),q 10 (.mv (.t 0)),q 11 (.len false (.t 10)),q 12 (.conv .u64 (.t 11)),q 13 (.bin .add (.t 9) (.t 12)),q 14 (.bld [(.nil 0),(.v (.int .i64 0)),(.v (.int .u64 0))] [(0,1,(.t 7)),(2,1,(.t 13))]),q 15 (.box (.t 14)),q 5 (.mv (.t 15))]) (.seq (.seq (.ops [q 6 (.mv (.c (.v (.int .i64 0))))]) (.block 0 (.loop (.seq (.seq (.ops [q 16 (.mv (.t 6)),q 17 (.mv (.t 0)),q 18 (.len false (.t 17)),q 19 (.bin .lss (.t 16) (.t 18))]) (.cond (.t 19) .skip (.exit 0))) (.seq (.block 1 (.reg [0,0,2,6,14,30,0,0,192,448,960,2046,4094,8191,16383,32767] [q 22 (.mv (.t 5)),q 23 (.mv (.t 5)),q 24 (.nck (.t 23)),q 25 (.fa (.t 24) 2),q 26 (.ld (.t 25) 0),q 27 (.bin .mul (.t 26) (.c (.v (.int .u64 1099511628211)))),q 28 (.mv (.t 0)),q 29 (.mv (.t 6)),q 30 (.ia (.t 28) (.t 29) 0),q 31 (.ld (.t 30) 0),q 32 (.conv .u64 (.t 31)),q 33 (.bin .add (.t 27) (.t 32)),q 34 (.bin .add (.t 33) (.c (.v (.int .u64 5)))),q 35 (.nck (.t 22)),q 36 (.fa (.t 35) 2),⟨none,none,.st (.t 36) (.t 34) 0⟩])) (.ops [q 20 (.mv (.t 6)),q 21 (.bin .add (.t 20) (.c (.v (.int .i64 1)))),q 6 (.mv (.t 21))])))))) (.seq (.ops [q 37 (.mv (.t 5)),q 4 (.mv (.t 37))]) .ret))))⟩
theorem k19 : cF Tryz.prog Tryz.f19 = some c19 := by kernel_rfl
def c20 : AF := ⟨2,56,[(4,none)],(.seq (.ops [q 4 (.mv (.c (.v (.int .i64 0))))]) (.seq (.ops [q 6 (.mv (.t 0)),q 7 (.mv (.t 0)),q 8 (.nck (.t 7)),q 9 (.fa (.t 8) 2),q 10 (.ld (.t 9) 0),q 11 (.bin .mul (.t 10) (.c (.v (.int .u64 6364136223846793005)))),q 12 (.bin .add (.t 11) (.c (.v (.int .u64 1442695040888963407)))),q 13 (.nck (.t 6)),q 14 (.fa (.t 13) 2),⟨none,none,.st (.t 14) (.t 12) 0⟩]) (.seq (.ops [q 15 (.mv (.t 0)),q 16 (.nck (.t 15)),q 17 (.fa (.t 16) 2),q 18 (.ld (.t 17) 0),q 19 (.bin .shr (.t 18) (.c (.v (.int .u64 33)))),q 20 (.bin .and (.t 19) (.c (.v (.int .u64 16777215)))),q 21 (.conv .i64 (.t 20)),q 5 (.mv (.t 21))]) (.seq (.seq (.reg [0,1,3,7,0,16,48,112,240,511] [q 22 (.mv (.t 0)),q 23 (.nck (.t 22)),q 24 (.fa (.t 23) 1),q 25 (.ld (.t 24) 0),q 26 (.mv (.t 0)),q 27 (.nck (.t 26)),q 28 (.fa (.t 27) 0),q 29 (.ld (.t 28) 0),q 30 (.len false (.t 29)),q 31 (.bin .lss (.t 25) (.t 30))]) (.cond (.t 31) (.seq (.reg [0,0,2,6,14,0,32,96,224,510,1022,2046,4095,8191] [q 32 (.mv (.t 5)),q 33 (.mv (.t 0)),q 34 (.nck (.t 33)),q 35 (.fa (.t 34) 0),q 36 (.ld (.t 35) 0),q 37 (.mv (.t 0)),q 38 (.nck (.t 37)),q 39 (.fa (.t 38) 1),q 40 (.ld (.t 39) 0),q 41 (.ia (.t 36) (.t 40) 0),q 42 (.ld (.t 41) 0),q 43 (.conv .i64 (.t 42)),q 44 (.bin .add (.t 32) (.t 43)),q 5 (.mv (.t 44))]) (.ops [q 45 (.mv (.t 0)),q 46 (.mv (.t 0)),q 47 (.nck (.t 46)),q 48 (.fa (.t 47) 1),q 49 (.ld (.t 48) 0),q 50 (.bin .add (.t 49) (.c (.v (.int .i64 1)))),q 51 (.nck (.t 45)),q 52 (.fa (.t 51) 1),⟨none,none,.st (.t 52) (.t 50) 0⟩])) .skip)) (.seq (.ops [q 53 (.mv (.t 5)),q 54 (.mv (.t 1)),q 55 (.bin .rem (.t 53) (.t 54)),q 4 (.mv (.t 55))]) .ret)))))⟩
theorem k20 : cF Tryz.prog Tryz.f20 = some c20 := by kernel_rfl
def c21 : AF := ⟨2,15,[(4,none),(5,(some 3)),(6,none),(7,none)],(.seq (.ops [q 4 (.mv (.c (.v (.int .i64 0)))),q 5 (.al [(.v (.int .i64 0)),(.v (.int .i64 0)),(.v (.int .i64 0))]),q 6 (.mv (.c (.nil 6))),q 7 (.mv (.c (.v (.int .i64 0))))]) (.seq (.ops [q 8 (.mv (.t 0)),q 9 (.mv (.t 1)),q 10 (.call 38 [(.t 8),(.t 9)]),q 11 (.ext (.t 10) 0),q 12 (.ext (.t 10) 1),q 13 (.ext (.t 10) 2),q 14 (.ext (.t 10) 3),q 4 (.mv (.t 11)),⟨none,none,.st (.t 5) (.t 12) 3⟩,q 6 (.mv (.t 13)),q 7 (.mv (.t 14))]) .ret))⟩
theorem k21 : cF Tryz.prog Tryz.f21 = some c21 := by kernel_rfl
def c22 : AF := ⟨2,32,[(4,none)],(.seq (.ops [q 2 (.box (.t 0)),q 4 (.mv (.c (.v (.bool false))))]) (.seq (.seq (.ops [q 5 (.mv (.c (.v (.int .i64 0))))]) (.block 0 (.loop (.seq (.seq (.ops [q 6 (.mv (.t 5)),q 7 (.mv (.t 1)),q 8 (.len false (.t 7)),q 9 (.bin .lss (.t 6) (.t 8))]) (.cond (.t 9) .skip (.exit 0))) (.seq (.block 1 (.seq (.reg [0,0,0,6,14,30,63,127,255,511,511,2047,4095,8191,16383,32767,65535] [q 12 (.ld (.t 2) 3),q 13 (.mv (.t 1)),q 14 (.mv (.t 5)),q 15 (.ia (.t 13) (.t 14) 3),q 16 (.fa (.t 15) 0),q 17 (.ld (.t 16) 2),q 18 (.call 39 [(.t 12),(.t 17)]),q 19 (.un .not (.t 18)),q 20 (.mv (.t 19)),⟨(some 21),(some (20,false)),.mv (.t 1)⟩,⟨(some 22),(some (20,false)),.mv (.t 5)⟩,⟨(some 23),(some (20,false)),.ia (.t 21) (.t 22) 3⟩,⟨(some 24),(some (20,false)),.fa (.t 23) 2⟩,⟨(some 25),(some (20,false)),.ld (.t 24) 0⟩,⟨(some 26),(some (20,false)),.call 40 [(.t 25),(.c (.v (.int .i64 0))),(.c (.v (.int .i64 9)))]⟩,⟨(some 27),(some (20,false)),.un .not (.t 26)⟩,q 28 (.pick (.t 20) (.c (.v (.bool true))) (.t 27))]) (.cond (.t 28) (.seq (.ops [q 4 (.mv (.c (.v (.bool false))))]) .ret) .skip))) (.ops [q 10 (.mv (.t 5)),q 11 (.bin .add (.t 10) (.c (.v (.int .i64 1)))),q 5 (.mv (.t 11))])))))) (.seq (.ops [q 29 (.mv (.t 1)),q 30 (.len false (.t 29)),q 31 (.bin .leq (.t 30) (.c (.v (.int .i64 100)))),q 4 (.mv (.t 31))]) .ret)))⟩
theorem k22 : cF Tryz.prog Tryz.f22 = some c22 := by kernel_rfl
def c23 : AF := ⟨2,35,[(4,none)],(.seq (.ops [q 2 (.box (.t 0)),q 4 (.mv (.c (.v (.str (.mk #[])))))]) (.seq (.ops [q 6 (.fa (.t 2) 0),q 7 (.fa (.t 6) 0),q 8 (.ld (.t 7) 0),q 9 (.bin .mul (.c (.v (.int .i64 17))) (.t 8)),q 10 (.fa (.t 2) 0),q 11 (.fa (.t 10) 1),q 12 (.ld (.t 11) 0),q 13 (.bin .mul (.c (.v (.int .i64 29))) (.t 12)),q 14 (.bin .add (.t 9) (.t 13)),q 15 (.fa (.t 2) 2),q 16 (.ld (.t 15) 0),q 17 (.bin .mul (.c (.v (.int .i64 7))) (.t 16)),q 18 (.bin .add (.t 14) (.t 17)),q 19 (.mv (.t 1)),q 20 (.bin .mul (.c (.v (.int .i64 13))) (.t 19)),q 21 (.bin .add (.t 18) (.t 20)),q 22 (.bin .rem (.t 21) (.c (.v (.int .i64 997)))),q 5 (.mv (.t 22))]) (.seq (.reg [0,1,3,7,0,16,55,127,255,0,631,2047,4095] [q 23 (.fa (.t 2) 0),q 24 (.ld (.t 23) 2),q 25 (.call 41 [(.t 24)]),q 26 (.bin .add (.t 25) (.c (.v (.str (.mk #[32]))))),q 27 (.fa (.t 2) 2),q 28 (.ld (.t 27) 0),q 29 (.call 42 [(.t 28)]),q 30 (.bin .add (.t 26) (.t 29)),q 31 (.bin .add (.t 30) (.c (.v (.str (.mk #[32]))))),q 32 (.mv (.t 5)),q 33 (.call 42 [(.t 32)]),q 34 (.bin .add (.t 31) (.t 33)),q 4 (.mv (.t 34))]) .ret)))⟩
theorem k23 : cF Tryz.prog Tryz.f23 = some c23 := by kernel_rfl
def c24 : AF := ⟨1,12,[(2,(some 3))],(.seq (.ops [q 1 (.box (.t 0)),q 2 (.al [(.v (.int .i64 0)),(.v (.int .i64 0)),(.v (.int .i64 0))])]) (.seq (.ops [q 3 (.al [(.v (.int .i64 0)),(.v (.int .i64 0)),(.v (.int .i64 0))])]) (.seq (.ops [q 4 (.fa (.t 1) 0),q 5 (.ld (.t 4) 2),q 6 (.call 43 [(.t 5)]),q 7 (.fa (.t 3) 0),⟨none,none,.st (.t 7) (.t 6) 2⟩]) (.seq (.ops [q 8 (.fa (.t 1) 2),q 9 (.ld (.t 8) 0),q 10 (.fa (.t 3) 2),⟨none,none,.st (.t 10) (.t 9) 0⟩]) (.seq (.ops [q 11 (.ld (.t 3) 3),⟨none,none,.st (.t 2) (.t 11) 3⟩]) .ret)))))⟩
theorem k24 : cF Tryz.prog Tryz.f24 = some c24 := by kernel_rfl
def c25 : AF := ⟨3,43,[(6,none),(7,(some 3)),(8,none),(9,none)],(.seq (.ops [q 6 (.mv (.c (.v (.int .i64 0)))),q 7 (.al [(.v (.int .i64 0)),(.v (.int .i64 0)),(.v (.int .i64 0))]),q 8 (.mv (.c (.nil 6))),q 9 (.mv (.c (.v (.int .i64 0))))]) (.seq (.ops [q 17 (.mv (.t 0)),q 18 (.mv (.t 1)),q 19 (.call 44 [(.t 17),(.t 18)]),q 16 (.mv (.t 19)),q 20 (.ext (.t 16) 0),q 21 (.ext (.t 16) 1),q 22 (.ext (.t 16) 2),q 23 (.ext (.t 16) 3),q 11 (.al [(.v (.int .i64 0)),(.v (.int .i64 0)),(.v (.int .i64 0))]),q 10 (.mv (.t 20)),⟨none,none,.st (.t 11) (.t 21) 3⟩,q 12 (.mv (.t 22)),q 13 (.mv (.t 23))]) (.seq (.seq (.ops [q 24 (.mv (.t 13)),q 25 (.bin .neq (.t 24) (.c (.v (.int .i64 0))))]) (.cond (.t 25) (.seq (.ops [q 26 (.bld [(.v (.int .i64 0)),(.v (.int .i64 0)),(.v (.int .i64 0))] []),q 27 (.mv (.t 13)),q 6 (.mv (.c (.v (.int .i64 0)))),⟨none,none,.st (.t 7) (.t 26) 3⟩,q 8 (.mv (.c (.nil 6))),q 9 (.mv (.t 27))]) .ret) .skip)) (.seq (.seq (.ops [q 28 (.mv (.t 2)),q 29 (.len false (.t 28)),q 30 (.mv (.c (.v (.int .i64 0))))]) (.block 0 (.loop (.seq (.ops [q 31 (.bin .lss (.t 30) (.t 29))]) (.seq (.cond (.t 31) .skip (.exit 0)) (.seq (.block 1 (.seq (.ops [q 32 (.ia (.t 28) (.t 30) 0),q 33 (.ld (.t 32) 0),q 15 (.mv (.t 33))]) (.seq (.ops [q 34 (.ld (.t 11) 3),q 35 (.mv (.t 15)),q 36 (.call 45 [(.t 34),(.t 35)]),q 37 (.un .not (.t 36))]) (.cond (.t 37) (.seq (.ops [q 38 (.bld [(.v (.int .i64 0)),(.v (.int .i64 0)),(.v (.int .i64 0))] []),q 6 (.mv (.c (.v (.int .i64 0)))),⟨none,none,.st (.t 7) (.t 38) 3⟩,q 8 (.mv (.c (.nil 6))),q 9 (.mv (.c (.v (.int .i64 2))))]) .ret) .skip)))) (.ops [q 39 (.bin .add (.t 30) (.c (.v (.int .i64 1)))),q 30 (.mv (.t 39))]))))))) (.seq (.reg [0,0,0,1,11,31,63] [q 40 (.mv (.t 10)),q 41 (.ld (.t 11) 3),q 42 (.mv (.t 12)),q 6 (.mv (.t 40)),⟨none,none,.st (.t 7) (.t 41) 3⟩,q 8 (.mv (.t 42)),q 9 (.mv (.c (.v (.int .i64 0))))]) .ret)))))⟩
theorem k25 : cF Tryz.prog Tryz.f25 = some c25 := by kernel_rfl
def c26 : AF := ⟨2,35,[(4,none)],(.seq (.ops [q 2 (.box (.t 0)),q 4 (.mv (.c (.v (.str (.mk #[])))))]) (.seq (.ops [q 6 (.fa (.t 2) 0),q 7 (.fa (.t 6) 0),q 8 (.ld (.t 7) 0),q 9 (.bin .mul (.c (.v (.int .i64 17))) (.t 8)),q 10 (.fa (.t 2) 0),q 11 (.fa (.t 10) 1),q 12 (.ld (.t 11) 0),q 13 (.bin .mul (.c (.v (.int .i64 29))) (.t 12)),q 14 (.bin .add (.t 9) (.t 13)),q 15 (.fa (.t 2) 2),q 16 (.ld (.t 15) 0),q 17 (.bin .mul (.c (.v (.int .i64 7))) (.t 16)),q 18 (.bin .add (.t 14) (.t 17)),q 19 (.mv (.t 1)),q 20 (.bin .mul (.c (.v (.int .i64 13))) (.t 19)),q 21 (.bin .add (.t 18) (.t 20)),q 22 (.bin .rem (.t 21) (.c (.v (.int .i64 997)))),q 5 (.mv (.t 22))]) (.seq (.reg [0,1,3,7,0,16,55,127,255,0,631,2047,4095] [q 23 (.fa (.t 2) 0),q 24 (.ld (.t 23) 2),q 25 (.call 46 [(.t 24)]),q 26 (.bin .add (.t 25) (.c (.v (.str (.mk #[32]))))),q 27 (.fa (.t 2) 2),q 28 (.ld (.t 27) 0),q 29 (.call 47 [(.t 28)]),q 30 (.bin .add (.t 26) (.t 29)),q 31 (.bin .add (.t 30) (.c (.v (.str (.mk #[32]))))),q 32 (.mv (.t 5)),q 33 (.call 47 [(.t 32)]),q 34 (.bin .add (.t 31) (.t 33)),q 4 (.mv (.t 34))]) .ret)))⟩
theorem k26 : cF Tryz.prog Tryz.f26 = some c26 := by kernel_rfl
def c27 : AF := ⟨2,16,[(4,none)],(.seq (.ops [q 2 (.box (.t 0)),q 3 (.box (.t 1)),q 4 (.mv (.c (.v (.bool false))))]) (.seq (.seq (.ops [q 5 (.fa (.t 2) 0),q 6 (.ld (.t 5) 2),q 7 (.fa (.t 3) 0),q 8 (.ld (.t 7) 2),q 9 (.call 48 [(.t 6),(.t 8)]),q 10 (.un .not (.t 9))]) (.cond (.t 10) (.seq (.ops [q 4 (.mv (.c (.v (.bool false))))]) .ret) .skip)) (.seq (.seq (.ops [q 11 (.fa (.t 2) 2),q 12 (.ld (.t 11) 0),q 13 (.fa (.t 3) 2),q 14 (.ld (.t 13) 0),q 15 (.bin .neq (.t 12) (.t 14))]) (.cond (.t 15) (.seq (.ops [q 4 (.mv (.c (.v (.bool false))))]) .ret) .skip)) (.seq (.ops [q 4 (.mv (.c (.v (.bool true))))]) .ret))))⟩
theorem k27 : cF Tryz.prog Tryz.f27 = some c27 := by kernel_rfl
def c28 : AF := ⟨2,36,[(4,none)],(.seq (.ops [q 4 (.mv (.c (.nil 0)))]) (.seq (.ops [q 8 (.bsl 0 9 []),q 5 (.mv (.t 8))]) (.seq (.ops [q 6 (.mv (.c (.v (.int .i64 0))))]) (.seq (.seq (.ops [q 7 (.mv (.c (.v (.int .i64 0))))]) (.block 0 (.loop (.seq (.seq (.ops [q 9 (.mv (.t 7)),q 10 (.mv (.t 0)),q 11 (.len true (.t 10)),q 12 (.bin .leq (.t 9) (.t 11))]) (.cond (.t 12) .skip (.exit 0))) (.seq (.block 1 (.seq (.ops [q 15 (.mv (.t 7)),q 16 (.mv (.t 0)),q 17 (.len true (.t 16)),q 18 (.bin .eql (.t 15) (.t 17)),q 19 (.mv (.t 18)),⟨(some 20),(some (19,false)),.mv (.t 0)⟩,⟨(some 21),(some (19,false)),.mv (.t 7)⟩,⟨(some 22),(some (19,false)),.si (.t 20) (.t 21)⟩,⟨(some 23),(some (19,false)),.mv (.t 1)⟩,⟨(some 24),(some (19,false)),.bin .eql (.t 22) (.t 23)⟩,q 25 (.pick (.t 19) (.c (.v (.bool true))) (.t 24))]) (.cond (.t 25) (.seq (.ops [q 26 (.mv (.t 5)),q 27 (.mv (.t 0)),q 28 (.mv (.t 6)),q 29 (.mv (.t 7)),q 30 (.ssub (.t 27) (some (.t 28)) (some (.t 29))),q 31 (.bsl 0 9 [(.t 30)]),q 32 (.app 0 9 16 (.t 26) (.t 31)),q 5 (.mv (.t 32))]) (.ops [q 33 (.mv (.t 7)),q 34 (.bin .add (.t 33) (.c (.v (.int .i64 1)))),q 6 (.mv (.t 34))])) .skip))) (.ops [q 13 (.mv (.t 7)),q 14 (.bin .add (.t 13) (.c (.v (.int .i64 1)))),q 7 (.mv (.t 14))])))))) (.seq (.ops [q 35 (.mv (.t 5)),q 4 (.mv (.t 35))]) .ret)))))⟩
theorem k28 : cF Tryz.prog Tryz.f28 = some c28 := by kernel_rfl
def c29 : AF := ⟨1,38,[(2,(some 2)),(3,none)],(.seq (.ops [q 2 (.al [(.v (.int .i64 0)),(.v (.int .i64 0))]),q 3 (.mv (.c (.v (.bool false))))]) (.seq (.ops [q 7 (.mv (.t 0)),q 8 (.call 28 [(.t 7),(.c (.v (.int .u8 44)))]),q 9 (.call 49 [(.t 8)]),q 6 (.mv (.t 9)),q 10 (.ext (.t 6) 0),q 11 (.ext (.t 6) 1),q 4 (.mv (.t 10)),q 5 (.mv (.t 11))]) (.seq (.seq (.reg [0,1,3,7,15,31,63,127,255,511,1023,255,2303,6399,16383,32767,65535,131071] [q 12 (.mv (.t 5)),q 13 (.un .not (.t 12)),q 14 (.mv (.t 13)),⟨(some 15),(some (14,false)),.mv (.t 4)⟩,⟨(some 16),(some (14,false)),.len false (.t 15)⟩,⟨(some 17),(some (14,false)),.bin .neq (.t 16) (.c (.v (.int .i64 2)))⟩,q 18 (.pick (.t 14) (.c (.v (.bool true))) (.t 17)),q 19 (.mv (.t 18)),⟨(some 20),(some (19,false)),.mv (.t 4)⟩,⟨(some 21),(some (19,false)),.ia (.t 20) (.c (.v (.int .i64 0))) 0⟩,⟨(some 22),(some (19,false)),.ld (.t 21) 0⟩,⟨(some 23),(some (19,false)),.mv (.t 4)⟩,⟨(some 24),(some (19,false)),.ia (.t 23) (.c (.v (.int .i64 1))) 0⟩,⟨(some 25),(some (19,false)),.ld (.t 24) 0⟩,⟨(some 26),(some (19,false)),.bld [(.v (.int .i64 0)),(.v (.int .i64 0))] [(0,1,(.t 22)),(1,1,(.t 25))]⟩,⟨(some 27),(some (19,false)),.call 50 [(.t 26)]⟩,⟨(some 28),(some (19,false)),.un .not (.t 27)⟩,q 29 (.pick (.t 19) (.c (.v (.bool true))) (.t 28))]) (.cond (.t 29) (.seq (.ops [q 30 (.bld [(.v (.int .i64 0)),(.v (.int .i64 0))] []),⟨none,none,.st (.t 2) (.t 30) 2⟩,q 3 (.mv (.c (.v (.bool false))))]) .ret) .skip)) (.seq (.reg [0,1,3,0,8,24,63,127,255] [q 31 (.mv (.t 4)),q 32 (.ia (.t 31) (.c (.v (.int .i64 0))) 0),q 33 (.ld (.t 32) 0),q 34 (.mv (.t 4)),q 35 (.ia (.t 34) (.c (.v (.int .i64 1))) 0),q 36 (.ld (.t 35) 0),q 37 (.bld [(.v (.int .i64 0)),(.v (.int .i64 0))] [(0,1,(.t 33)),(1,1,(.t 36))]),⟨none,none,.st (.t 2) (.t 37) 2⟩,q 3 (.mv (.c (.v (.bool true))))]) .ret))))⟩
theorem k29 : cF Tryz.prog Tryz.f29 = some c29 := by kernel_rfl
def c30 : AF := ⟨1,43,[(2,none),(3,none)],(.seq (.ops [q 2 (.mv (.c (.v (.int .i64 0)))),q 3 (.mv (.c (.v (.bool false))))]) (.seq (.seq (.ops [q 6 (.mv (.t 0)),q 7 (.len true (.t 6)),q 8 (.bin .lss (.t 7) (.c (.v (.int .i64 1)))),q 9 (.mv (.t 8)),⟨(some 10),(some (9,false)),.mv (.t 0)⟩,⟨(some 11),(some (9,false)),.len true (.t 10)⟩,⟨(some 12),(some (9,false)),.bin .gtr (.t 11) (.c (.v (.int .i64 10)))⟩,q 13 (.pick (.t 9) (.c (.v (.bool true))) (.t 12))]) (.cond (.t 13) (.seq (.ops [q 2 (.mv (.c (.v (.int .i64 0)))),q 3 (.mv (.c (.v (.bool false))))]) .ret) .skip)) (.seq (.ops [q 4 (.mv (.c (.v (.int .i64 0))))]) (.seq (.seq (.ops [q 5 (.mv (.c (.v (.int .i64 0))))]) (.block 0 (.loop (.seq (.seq (.ops [q 14 (.mv (.t 5)),q 15 (.mv (.t 0)),q 16 (.len true (.t 15)),q 17 (.bin .lss (.t 14) (.t 16))]) (.cond (.t 17) .skip (.exit 0))) (.seq (.block 1 (.seq (.seq (.ops [q 20 (.mv (.t 0)),q 21 (.mv (.t 5)),q 22 (.si (.t 20) (.t 21)),q 23 (.bin .lss (.t 22) (.c (.v (.int .u8 48)))),q 24 (.mv (.t 23)),⟨(some 25),(some (24,false)),.mv (.t 0)⟩,⟨(some 26),(some (24,false)),.mv (.t 5)⟩,⟨(some 27),(some (24,false)),.si (.t 25) (.t 26)⟩,⟨(some 28),(some (24,false)),.bin .gtr (.t 27) (.c (.v (.int .u8 57)))⟩,q 29 (.pick (.t 24) (.c (.v (.bool true))) (.t 28))]) (.cond (.t 29) (.seq (.ops [q 2 (.mv (.c (.v (.int .i64 0)))),q 3 (.mv (.c (.v (.bool false))))]) .ret) .skip)) (.ops [q 30 (.mv (.t 4)),q 31 (.bin .mul (.c (.v (.int .i64 10))) (.t 30)),q 32 (.mv (.t 0)),q 33 (.mv (.t 5)),q 34 (.si (.t 32) (.t 33)),q 35 (.bin .sub (.t 34) (.c (.v (.int .u8 48)))),q 36 (.conv .i64 (.t 35)),q 37 (.bin .add (.t 31) (.t 36)),q 4 (.mv (.t 37))]))) (.ops [q 18 (.mv (.t 5)),q 19 (.bin .add (.t 18) (.c (.v (.int .i64 1)))),q 5 (.mv (.t 19))])))))) (.seq (.ops [q 38 (.mv (.t 4)),q 39 (.mv (.t 4)),q 40 (.call 42 [(.t 39)]),q 41 (.mv (.t 0)),q 42 (.bin .eql (.t 40) (.t 41)),q 2 (.mv (.t 38)),q 3 (.mv (.t 42))]) .ret)))))⟩
theorem k30 : cF Tryz.prog Tryz.f30 = some c30 := by kernel_rfl
def c32 : AF := ⟨2,51,[(4,(some 3)),(5,none)],(.seq (.ops [q 4 (.al [(.v (.int .i64 0)),(.v (.int .i64 0)),(.v (.int .i64 0))]),q 5 (.mv (.c (.v (.bool false))))]) (.seq (.ops [q 12 (.mv (.t 0)),q 13 (.call 52 [(.t 12),(.c (.v (.str (.mk #[32]))))]),q 6 (.mv (.t 13))]) (.seq (.seq (.ops [q 14 (.mv (.t 6)),q 15 (.len false (.t 14)),q 16 (.bin .neq (.t 15) (.c (.v (.int .i64 3))))]) (.cond (.t 16) (.seq (.ops [q 17 (.bld [(.v (.int .i64 0)),(.v (.int .i64 0)),(.v (.int .i64 0))] []),⟨none,none,.st (.t 4) (.t 17) 3⟩,q 5 (.mv (.c (.v (.bool false))))]) .ret) .skip)) (.seq (.ops [q 19 (.mv (.t 6)),q 20 (.ia (.t 19) (.c (.v (.int .i64 0))) 0),q 21 (.ld (.t 20) 0),q 22 (.call 53 [(.t 21)]),q 18 (.mv (.t 22)),q 23 (.ext (.t 18) 0),q 24 (.ext (.t 18) 1),q 7 (.al [(.v (.int .i64 0)),(.v (.int .i64 0))]),⟨none,none,.st (.t 7) (.t 23) 2⟩,q 8 (.mv (.t 24))]) (.seq (.ops [q 26 (.mv (.t 6)),q 27 (.ia (.t 26) (.c (.v (.int .i64 1))) 0),q 28 (.ld (.t 27) 0),q 29 (.call 54 [(.t 28)]),q 25 (.mv (.t 29)),q 30 (.ext (.t 25) 0),q 31 (.ext (.t 25) 1),q 9 (.mv (.t 30)),q 10 (.mv (.t 31))]) (.seq (.ops [q 32 (.ld (.t 7) 2),q 33 (.mv (.t 9)),q 34 (.bld [(.v (.int .i64 0)),(.v (.int .i64 0)),(.v (.int .i64 0))] [(0,2,(.t 32)),(2,1,(.t 33))]),q 11 (.al [(.v (.int .i64 0)),(.v (.int .i64 0)),(.v (.int .i64 0))]),⟨none,none,.st (.t 11) (.t 34) 3⟩]) (.seq (.reg [0,0,2,6,14,30,62,126,254,510,1022,1022,4094,1022,16382,32766,8191,131071] [q 35 (.ld (.t 11) 3),q 36 (.mv (.t 8)),q 37 (.mv (.t 36)),⟨(some 38),(some (37,true)),.mv (.t 10)⟩,q 39 (.pick (.t 37) (.t 38) (.c (.v (.bool false)))),q 40 (.mv (.t 39)),⟨(some 41),(some (40,true)),.mv (.t 9)⟩,⟨(some 42),(some (40,true)),.call 55 [(.t 41)]⟩,q 43 (.pick (.t 40) (.t 42) (.c (.v (.bool false)))),q 44 (.mv (.t 43)),⟨(some 45),(some (44,true)),.ld (.t 11) 3⟩,⟨(some 46),(some (44,true)),.mv (.t 1)⟩,⟨(some 47),(some (44,true)),.call 26 [(.t 45),(.t 46)]⟩,⟨(some 48),(some (44,true)),.mv (.t 0)⟩,⟨(some 49),(some (44,true)),.bin .eql (.t 47) (.t 48)⟩,q 50 (.pick (.t 44) (.t 49) (.c (.v (.bool false)))),⟨none,none,.st (.t 4) (.t 35) 3⟩,q 5 (.mv (.t 50))]) .ret)))))))⟩
theorem k32 : cF Tryz.prog Tryz.f32 = some c32 := by kernel_rfl
def c33 : AF := ⟨2,19,[(4,none)],(.seq (.ops [q 2 (.box (.t 0)),q 3 (.box (.t 1)),q 4 (.mv (.c (.v (.bool false))))]) (.seq (.ops [q 5 (.fa (.t 3) 0),q 6 (.ld (.t 5) 0),q 7 (.fa (.t 2) 0),q 8 (.ld (.t 7) 0),q 9 (.bin .sub (.t 8) (.c (.v (.int .i64 1)))),q 10 (.call 56 [(.t 6),(.c (.v (.int .i64 0))),(.t 9)]),q 11 (.mv (.t 10)),⟨(some 12),(some (11,true)),.fa (.t 3) 1⟩,⟨(some 13),(some (11,true)),.ld (.t 12) 0⟩,⟨(some 14),(some (11,true)),.fa (.t 2) 2⟩,⟨(some 15),(some (11,true)),.ld (.t 14) 0⟩,⟨(some 16),(some (11,true)),.bin .sub (.t 15) (.c (.v (.int .i64 1)))⟩,⟨(some 17),(some (11,true)),.call 56 [(.t 13),(.c (.v (.int .i64 0))),(.t 16)]⟩,q 18 (.pick (.t 11) (.t 17) (.c (.v (.bool false)))),q 4 (.mv (.t 18))]) .ret))⟩
theorem k33 : cF Tryz.prog Tryz.f33 = some c33 := by kernel_rfl
def c34 : AF := ⟨1,29,[(2,none),(3,none),(4,none)],(.seq (.ops [q 2 (.mv (.c (.v (.str (.mk #[]))))),q 3 (.mv (.c (.v (.int .i64 0)))),q 4 (.mv (.c (.nil 3)))]) (.seq (.ops [q 7 (.mv (.t 0)),q 8 (.call 57 [(.t 7)]),q 9 (.mv (.t 0)),q 10 (.call 36 [(.t 9),(.c (.v (.int .i64 2)))]),q 11 (.bin .add (.c (.v (.int .i64 1))) (.t 10)),q 5 (.mv (.t 8)),q 6 (.mv (.t 11))]) (.seq (.seq (.ops [q 12 (.mv (.t 0)),q 13 (.call 36 [(.t 12),(.c (.v (.int .i64 24)))]),q 14 (.bin .eql (.t 13) (.c (.v (.int .i64 0))))]) (.cond (.t 14) (.ops [q 15 (.mv (.t 0)),q 16 (.bsl 0 2 [(.c (.v (.int .i64 0))),(.c (.v (.int .i64 4))),(.c (.v (.int .i64 5)))]),q 17 (.call 58 [(.t 15),(.t 16)]),q 6 (.mv (.t 17))]) .skip)) (.seq (.ops [q 18 (.mv (.t 5)),q 19 (.mv (.t 6)),q 20 (.mv (.t 0)),q 21 (.mv (.t 6)),q 22 (.mm true (.c (.v (.int .i64 1))) (.t 21)),q 23 (.bin .mul (.c (.v (.int .i64 2))) (.t 22)),q 24 (.mv (.t 6)),q 25 (.mm true (.c (.v (.int .i64 1))) (.t 24)),q 26 (.bin .mul (.c (.v (.int .i64 2))) (.t 25)),q 27 (.bld [(.v (.int .i64 0)),(.v (.int .i64 0)),(.v (.int .i64 0))] [(0,1,(.t 23)),(2,1,(.t 26))]),q 28 (.call 59 [(.t 20),(.t 27)]),q 2 (.mv (.t 18)),q 3 (.mv (.t 19)),q 4 (.mv (.t 28))]) .ret))))⟩
theorem k34 : cF Tryz.prog Tryz.f34 = some c34 := by kernel_rfl
def c35 : AF := ⟨1,34,[(2,none)],(.seq (.ops [q 2 (.mv (.c .un))]) (.seq (.ops [q 5 (.mv (.t 0)),q 6 (.bld [(.nil 0),(.v (.int .i64 0)),(.v (.int .i64 0))] [(0,1,(.t 5)),(2,1,(.c (.v (.int .i64 93001))))]),q 7 (.box (.t 6)),q 3 (.mv (.t 7))]) (.seq (.seq (.ops [q 4 (.mv (.c (.v (.int .i64 0))))]) (.block 0 (.loop (.seq (.seq (.ops [q 8 (.mv (.t 4)),q 9 (.mv (.t 0)),q 10 (.len false (.t 9)),q 11 (.bin .lss (.t 8) (.t 10)),q 12 (.mv (.t 11)),⟨(some 13),(some (12,true)),.mv (.t 4)⟩,⟨(some 14),(some (12,true)),.bin .lss (.t 13) (.c (.v (.int .i64 64)))⟩,q 15 (.pick (.t 12) (.t 14) (.c (.v (.bool false))))]) (.cond (.t 15) .skip (.exit 0))) (.seq (.block 1 (.reg [0,0,2,6,14,30,0,0,192,448,960,2046,4094,8191,16383,32767] [q 18 (.mv (.t 3)),q 19 (.mv (.t 3)),q 20 (.nck (.t 19)),q 21 (.fa (.t 20) 2),q 22 (.ld (.t 21) 0),q 23 (.bin .mul (.t 22) (.c (.v (.int .i64 73)))),q 24 (.mv (.t 0)),q 25 (.mv (.t 4)),q 26 (.ia (.t 24) (.t 25) 0),q 27 (.ld (.t 26) 0),q 28 (.conv .i64 (.t 27)),q 29 (.bin .add (.t 23) (.t 28)),q 30 (.bin .rem (.t 29) (.c (.v (.int .i64 2147483647)))),q 31 (.nck (.t 18)),q 32 (.fa (.t 31) 2),⟨none,none,.st (.t 32) (.t 30) 0⟩])) (.ops [q 16 (.mv (.t 4)),q 17 (.bin .add (.t 16) (.c (.v (.int .i64 1)))),q 4 (.mv (.t 17))])))))) (.seq (.ops [q 33 (.mv (.t 3)),q 2 (.mv (.t 33))]) .ret))))⟩
theorem k35 : cF Tryz.prog Tryz.f35 = some c35 := by kernel_rfl
def c36 : AF := ⟨2,78,[(4,none)],(.seq (.ops [q 4 (.mv (.c (.v (.int .i64 0))))]) (.seq (.seq (.ops [q 6 (.mv (.t 1)),q 7 (.bin .leq (.t 6) (.c (.v (.int .i64 1))))]) (.cond (.t 7) (.seq (.ops [q 4 (.mv (.c (.v (.int .i64 0))))]) .ret) .skip)) (.seq (.ops [q 8 (.mv (.t 0)),q 9 (.mv (.t 0)),q 10 (.nck (.t 9)),q 11 (.fa (.t 10) 2),q 12 (.ld (.t 11) 0),q 13 (.bin .mul (.t 12) (.c (.v (.int .i64 48271)))),q 14 (.bin .add (.t 13) (.c (.v (.int .i64 67)))),q 15 (.bin .rem (.t 14) (.c (.v (.int .i64 2147483647)))),q 16 (.nck (.t 8)),q 17 (.fa (.t 16) 2),⟨none,none,.st (.t 17) (.t 15) 0⟩]) (.seq (.ops [q 18 (.mv (.t 0)),q 19 (.nck (.t 18)),q 20 (.fa (.t 19) 2),q 21 (.ld (.t 20) 0),q 22 (.bin .quo (.t 21) (.c (.v (.int .i64 37)))),q 5 (.mv (.t 22))]) (.seq (.seq (.reg [0,1,3,7,0,16,48,112,240,511] [q 23 (.mv (.t 0)),q 24 (.nck (.t 23)),q 25 (.fa (.t 24) 1),q 26 (.ld (.t 25) 0),q 27 (.mv (.t 0)),q 28 (.nck (.t 27)),q 29 (.fa (.t 28) 0),q 30 (.ld (.t 29) 0),q 31 (.len false (.t 30)),q 32 (.bin .lss (.t 26) (.t 31))]) (.cond (.t 32) (.seq (.reg [0,0,2,6,14,0,32,96,224,510,1022,2046,4095,8191] [q 33 (.mv (.t 5)),q 34 (.mv (.t 0)),q 35 (.nck (.t 34)),q 36 (.fa (.t 35) 0),q 37 (.ld (.t 36) 0),q 38 (.mv (.t 0)),q 39 (.nck (.t 38)),q 40 (.fa (.t 39) 1),q 41 (.ld (.t 40) 0),q 42 (.ia (.t 37) (.t 41) 0),q 43 (.ld (.t 42) 0),q 44 (.conv .i64 (.t 43)),q 45 (.bin .add (.t 33) (.t 44)),q 5 (.mv (.t 45))]) (.seq (.ops [q 46 (.mv (.t 0)),q 47 (.nck (.t 46)),q 48 (.fa (.t 47) 1),q 49 (.ld (.t 48) 0),q 50 (.bin .add (.t 49) (.c (.v (.int .i64 1)))),q 51 (.nck (.t 46)),q 52 (.fa (.t 51) 1),⟨none,none,.st (.t 52) (.t 50) 0⟩]) (.seq (.ops [q 53 (.mv (.t 1)),q 54 (.bin .leq (.t 53) (.c (.v (.int .i64 256)))),q 55 (.mv (.t 54)),⟨(some 56),(some (55,true)),.mv (.t 0)⟩,⟨(some 57),(some (55,true)),.nck (.t 56)⟩,⟨(some 58),(some (55,true)),.fa (.t 57) 1⟩,⟨(some 59),(some (55,true)),.ld (.t 58) 0⟩,⟨(some 60),(some (55,true)),.bin .rem (.t 59) (.c (.v (.int .i64 2)))⟩,⟨(some 61),(some (55,true)),.bin .eql (.t 60) (.c (.v (.int .i64 0)))⟩,q 62 (.pick (.t 55) (.t 61) (.c (.v (.bool false))))]) (.cond (.t 62) (.reg [0,1,3,7,0,16,48,112,240,511,1023,2047,4095] [q 63 (.mv (.t 0)),q 64 (.nck (.t 63)),q 65 (.fa (.t 64) 0),q 66 (.ld (.t 65) 0),q 67 (.mv (.t 0)),q 68 (.nck (.t 67)),q 69 (.fa (.t 68) 1),q 70 (.ld (.t 69) 0),q 71 (.bin .sub (.t 70) (.c (.v (.int .i64 1)))),q 72 (.ia (.t 66) (.t 71) 0),q 73 (.ld (.t 72) 0),q 74 (.conv .i64 (.t 73)),q 5 (.mv (.t 74))]) .skip)))) .skip)) (.seq (.ops [q 75 (.mv (.t 5)),q 76 (.mv (.t 1)),q 77 (.bin .rem (.t 75) (.t 76)),q 4 (.mv (.t 77))]) .ret))))))⟩
theorem k36 : cF Tryz.prog Tryz.f36 = some c36 := by kernel_rfl
def c37 : AF := ⟨2,48,[(4,none)],(.seq (.ops [q 4 (.mv (.c (.v (.str (.mk #[])))))]) (.seq (.ops [q 6 (.mv (.t 0)),q 7 (.mv (.t 1)),q 8 (.len true (.t 7)),q 9 (.bin .add (.t 8) (.c (.v (.int .i64 1)))),q 10 (.call 36 [(.t 6),(.t 9)]),q 5 (.mv (.t 10))]) (.seq (.seq (.ops [q 11 (.mv (.t 0)),q 12 (.call 36 [(.t 11),(.c (.v (.int .i64 8)))])]) (.block 0 (.seq (.ops [q 14 (.bin .eql (.t 12) (.c (.v (.int .i64 0)))),q 13 (.mv (.t 14))]) (.cond (.t 13) (.seq (.ops [q 15 (.mv (.t 1)),q 16 (.mv (.t 5)),q 17 (.ssub (.t 15) none (some (.t 16))),q 4 (.mv (.t 17))]) .ret) (.seq (.ops [q 19 (.bin .eql (.t 12) (.c (.v (.int .i64 1)))),q 18 (.mv (.t 19))]) (.cond (.t 18) (.seq (.reg [0,0,3,0,0,16,56,120,255,0,0,1536,4095,8191] [q 20 (.mv (.t 1)),q 21 (.mv (.t 5)),q 22 (.ssub (.t 20) none (some (.t 21))),q 23 (.bsl 0 9 [(.c (.v (.str (.mk #[48])))),(.c (.v (.str (.mk #[49])))),(.c (.v (.str (.mk #[32])))),(.c (.v (.str (.mk #[45])))),(.c (.v (.str (.mk #[44])))),(.c (.v (.str (.mk #[59])))),(.c (.v (.str (.mk #[10])))),(.c (.v (.str (.mk #[97]))))]),q 24 (.mv (.t 0)),q 25 (.call 36 [(.t 24),(.c (.v (.int .i64 8)))]),q 26 (.ia (.t 23) (.t 25) 0),q 27 (.ld (.t 26) 0),q 28 (.bin .add (.t 22) (.t 27)),q 29 (.mv (.t 1)),q 30 (.mv (.t 5)),q 31 (.ssub (.t 29) (some (.t 30)) none),q 32 (.bin .add (.t 28) (.t 31)),q 4 (.mv (.t 32))]) .ret) (.seq (.ops [q 34 (.bin .eql (.t 12) (.c (.v (.int .i64 2)))),q 33 (.mv (.t 34))]) (.cond (.t 33) (.seq (.ops [q 35 (.mv (.t 5)),q 36 (.mv (.t 1)),q 37 (.len true (.t 36)),q 38 (.bin .lss (.t 35) (.t 37))]) (.cond (.t 38) (.seq (.reg [0,0,3,0,0,16,56,127,255] [q 39 (.mv (.t 1)),q 40 (.mv (.t 5)),q 41 (.ssub (.t 39) none (some (.t 40))),q 42 (.mv (.t 1)),q 43 (.mv (.t 5)),q 44 (.bin .add (.t 43) (.c (.v (.int .i64 1)))),q 45 (.ssub (.t 42) (some (.t 44)) none),q 46 (.bin .add (.t 41) (.t 45)),q 4 (.mv (.t 46))]) .ret) .skip)) .skip)))))))) (.seq (.ops [q 47 (.mv (.t 1)),q 4 (.mv (.t 47))]) .ret))))⟩
theorem k37 : cF Tryz.prog Tryz.f37 = some c37 := by kernel_rfl
def c38 : AF := ⟨2,38,[(4,none),(5,(some 3)),(6,none),(7,none)],(.seq (.ops [q 4 (.mv (.c (.v (.int .i64 0)))),q 5 (.al [(.v (.int .i64 0)),(.v (.int .i64 0)),(.v (.int .i64 0))]),q 6 (.mv (.c (.nil 6))),q 7 (.mv (.c (.v (.int .i64 0))))]) (.seq (.ops [q 13 (.mv (.t 0)),q 14 (.mv (.t 1)),q 15 (.call 60 [(.t 13),(.t 14)]),q 12 (.mv (.t 15)),q 16 (.ext (.t 12) 0),q 17 (.ext (.t 12) 1),q 18 (.ext (.t 12) 2),q 8 (.mv (.t 16)),q 9 (.mv (.t 17)),q 10 (.mv (.t 18))]) (.seq (.block 0 (.seq (.ops [q 20 (.mv (.t 10)),q 21 (.un .not (.t 20)),q 19 (.mv (.t 21))]) (.cond (.t 19) (.seq (.ops [q 22 (.bld [(.v (.int .i64 0)),(.v (.int .i64 0)),(.v (.int .i64 0))] []),q 4 (.mv (.c (.v (.int .i64 0)))),⟨none,none,.st (.t 5) (.t 22) 3⟩,q 6 (.mv (.c (.nil 6))),q 7 (.mv (.c (.v (.int .i64 4))))]) .ret) (.seq (.ops [q 24 (.mv (.t 1)),q 25 (.call 40 [(.t 24),(.c (.v (.int .i64 1))),(.c (.v (.int .i64 4)))]),q 26 (.un .not (.t 25)),q 23 (.mv (.t 26))]) (.cond (.t 23) (.seq (.ops [q 27 (.bld [(.v (.int .i64 0)),(.v (.int .i64 0)),(.v (.int .i64 0))] []),q 4 (.mv (.c (.v (.int .i64 0)))),⟨none,none,.st (.t 5) (.t 27) 3⟩,q 6 (.mv (.c (.nil 6))),q 7 (.mv (.c (.v (.int .i64 2))))]) .ret) .skip))))) (.seq (.ops [q 28 (.mv (.t 1)),q 29 (.bin .mul (.c (.v (.int .i64 2))) (.t 28)),q 30 (.mv (.t 1)),q 31 (.bin .mul (.c (.v (.int .i64 2))) (.t 30)),q 32 (.bld [(.v (.int .i64 0)),(.v (.int .i64 0)),(.v (.int .i64 0))] [(0,1,(.t 29)),(2,1,(.t 31))]),q 11 (.al [(.v (.int .i64 0)),(.v (.int .i64 0)),(.v (.int .i64 0))]),⟨none,none,.st (.t 11) (.t 32) 3⟩]) (.seq (.reg [0,0,0,0,12,29,63,127,255] [q 33 (.mv (.t 8)),q 34 (.ld (.t 11) 3),q 35 (.ld (.t 11) 3),q 36 (.mv (.t 9)),q 37 (.call 61 [(.t 35),(.t 36)]),q 4 (.mv (.t 33)),⟨none,none,.st (.t 5) (.t 34) 3⟩,q 6 (.mv (.t 37)),q 7 (.mv (.c (.v (.int .i64 0))))]) .ret)))))⟩
theorem k38 : cF Tryz.prog Tryz.f38 = some c38 := by kernel_rfl
def c39 : AF := ⟨2,19,[(4,none)],(.seq (.ops [q 2 (.box (.t 0)),q 3 (.box (.t 1)),q 4 (.mv (.c (.v (.bool false))))]) (.seq (.ops [q 5 (.fa (.t 3) 0),q 6 (.ld (.t 5) 0),q 7 (.fa (.t 2) 0),q 8 (.ld (.t 7) 0),q 9 (.bin .sub (.t 8) (.c (.v (.int .i64 1)))),q 10 (.call 40 [(.t 6),(.c (.v (.int .i64 0))),(.t 9)]),q 11 (.mv (.t 10)),⟨(some 12),(some (11,true)),.fa (.t 3) 1⟩,⟨(some 13),(some (11,true)),.ld (.t 12) 0⟩,⟨(some 14),(some (11,true)),.fa (.t 2) 2⟩,⟨(some 15),(some (11,true)),.ld (.t 14) 0⟩,⟨(some 16),(some (11,true)),.bin .sub (.t 15) (.c (.v (.int .i64 1)))⟩,⟨(some 17),(some (11,true)),.call 40 [(.t 13),(.c (.v (.int .i64 0))),(.t 16)]⟩,q 18 (.pick (.t 11) (.t 17) (.c (.v (.bool false)))),q 4 (.mv (.t 18))]) .ret))⟩
theorem k39 : cF Tryz.prog Tryz.f39 = some c39 := by kernel_rfl
def c40 : AF := ⟨3,15,[(6,none)],(.seq (.ops [q 6 (.mv (.c (.v (.bool false))))]) (.seq (.ops [q 7 (.mv (.t 0)),q 8 (.mv (.t 1)),q 9 (.bin .geq (.t 7) (.t 8)),q 10 (.mv (.t 9)),⟨(some 11),(some (10,true)),.mv (.t 0)⟩,⟨(some 12),(some (10,true)),.mv (.t 2)⟩,⟨(some 13),(some (10,true)),.bin .leq (.t 11) (.t 12)⟩,q 14 (.pick (.t 10) (.t 13) (.c (.v (.bool false)))),q 6 (.mv (.t 14))]) .ret))⟩
theorem k40 : cF Tryz.prog Tryz.f40 = some c40 := by kernel_rfl
def c41 : AF := ⟨1,14,[(2,none)],(.seq (.ops [q 1 (.box (.t 0)),q 2 (.mv (.c (.v (.str (.mk #[])))))]) (.seq (.seq (.ops [q 3 (.ld (.t 1) 2),q 4 (.call 50 [(.t 3)]),q 5 (.un .not (.t 4))]) (.cond (.t 5) (.seq (.ops [q 2 (.mv (.c (.v (.str (.mk #[])))))]) .ret) .skip)) (.seq (.reg [0,1,3,7,0,16,55,127,255] [q 6 (.fa (.t 1) 0),q 7 (.ld (.t 6) 0),q 8 (.call 62 [(.t 7)]),q 9 (.bin .add (.t 8) (.c (.v (.str (.mk #[44]))))),q 10 (.fa (.t 1) 1),q 11 (.ld (.t 10) 0),q 12 (.call 62 [(.t 11)]),q 13 (.bin .add (.t 9) (.t 12)),q 2 (.mv (.t 13))]) .ret)))⟩
theorem k41 : cF Tryz.prog Tryz.f41 = some c41 := by kernel_rfl
def c42 : AF := ⟨1,20,[(2,none)],(.seq (.ops [q 2 (.mv (.c (.v (.str (.mk #[])))))]) (.seq (.seq (.ops [q 3 (.mv (.t 0)),q 4 (.bin .lss (.t 3) (.c (.v (.int .i64 10))))]) (.cond (.t 4) (.seq (.ops [q 5 (.mv (.t 0)),q 6 (.bin .add (.c (.v (.int .i64 48))) (.t 5)),q 7 (.conv .u8 (.t 6)),q 8 (.bsl 0 5 [(.t 7)]),q 9 (.b2s (.t 8)),q 2 (.mv (.t 9))]) .ret) .skip)) (.seq (.reg [0,1,3,0,8,24,56,120,248,511,1023] [q 10 (.mv (.t 0)),q 11 (.bin .quo (.t 10) (.c (.v (.int .i64 10)))),q 12 (.call 42 [(.t 11)]),q 13 (.mv (.t 0)),q 14 (.bin .rem (.t 13) (.c (.v (.int .i64 10)))),q 15 (.bin .add (.c (.v (.int .i64 48))) (.t 14)),q 16 (.conv .u8 (.t 15)),q 17 (.bsl 0 5 [(.t 16)]),q 18 (.b2s (.t 17)),q 19 (.bin .add (.t 12) (.t 18)),q 2 (.mv (.t 19))]) .ret)))⟩
theorem k42 : cF Tryz.prog Tryz.f42 = some c42 := by kernel_rfl
def c43 : AF := ⟨1,11,[(2,(some 2))],(.seq (.ops [q 1 (.box (.t 0)),q 2 (.al [(.v (.int .i64 0)),(.v (.int .i64 0))])]) (.seq (.ops [q 3 (.al [(.v (.int .i64 0)),(.v (.int .i64 0))])]) (.seq (.ops [q 4 (.fa (.t 1) 0),q 5 (.ld (.t 4) 0),q 6 (.fa (.t 3) 0),⟨none,none,.st (.t 6) (.t 5) 0⟩]) (.seq (.ops [q 7 (.fa (.t 1) 1),q 8 (.ld (.t 7) 0),q 9 (.fa (.t 3) 1),⟨none,none,.st (.t 9) (.t 8) 0⟩]) (.seq (.ops [q 10 (.ld (.t 3) 2),⟨none,none,.st (.t 2) (.t 10) 2⟩]) .ret)))))⟩
theorem k43 : cF Tryz.prog Tryz.f43 = some c43 := by kernel_rfl
def c44 : AF := ⟨2,36,[(4,none),(5,(some 3)),(6,none),(7,none)],(.seq (.ops [q 4 (.mv (.c (.v (.int .i64 0)))),q 5 (.al [(.v (.int .i64 0)),(.v (.int .i64 0)),(.v (.int .i64 0))]),q 6 (.mv (.c (.nil 6))),q 7 (.mv (.c (.v (.int .i64 0))))]) (.seq (.ops [q 13 (.mv (.t 0)),q 14 (.mv (.t 1)),q 15 (.call 63 [(.t 13),(.t 14)]),q 12 (.mv (.t 15)),q 16 (.ext (.t 12) 0),q 17 (.ext (.t 12) 1),q 18 (.ext (.t 12) 2),q 8 (.mv (.t 16)),q 9 (.mv (.t 17)),q 10 (.mv (.t 18))]) (.seq (.seq (.ops [q 19 (.mv (.t 10)),q 20 (.un .not (.t 19))]) (.cond (.t 20) (.seq (.ops [q 21 (.bld [(.v (.int .i64 0)),(.v (.int .i64 0)),(.v (.int .i64 0))] []),q 4 (.mv (.c (.v (.int .i64 0)))),⟨none,none,.st (.t 5) (.t 21) 3⟩,q 6 (.mv (.c (.nil 6))),q 7 (.mv (.c (.v (.int .i64 4))))]) .ret) .skip)) (.seq (.seq (.ops [q 22 (.mv (.t 1)),q 23 (.call 56 [(.t 22),(.c (.v (.int .i64 1))),(.c (.v (.int .i64 4)))]),q 24 (.un .not (.t 23))]) (.cond (.t 24) (.seq (.ops [q 25 (.bld [(.v (.int .i64 0)),(.v (.int .i64 0)),(.v (.int .i64 0))] []),q 4 (.mv (.c (.v (.int .i64 0)))),⟨none,none,.st (.t 5) (.t 25) 3⟩,q 6 (.mv (.c (.nil 6))),q 7 (.mv (.c (.v (.int .i64 2))))]) .ret) .skip)) (.seq (.ops [q 26 (.mv (.t 1)),q 27 (.bin .mul (.c (.v (.int .i64 2))) (.t 26)),q 28 (.mv (.t 1)),q 29 (.bin .mul (.c (.v (.int .i64 2))) (.t 28)),q 30 (.bld [(.v (.int .i64 0)),(.v (.int .i64 0)),(.v (.int .i64 0))] [(0,1,(.t 27)),(1,1,(.c (.v (.int .i64 0)))),(2,1,(.t 29))]),q 11 (.al [(.v (.int .i64 0)),(.v (.int .i64 0)),(.v (.int .i64 0))]),⟨none,none,.st (.t 11) (.t 30) 3⟩]) (.seq (.reg [0,0,0,0,12,29,63,127,255] [q 31 (.mv (.t 8)),q 32 (.ld (.t 11) 3),q 33 (.ld (.t 11) 3),q 34 (.mv (.t 9)),q 35 (.call 64 [(.t 33),(.t 34)]),q 4 (.mv (.t 31)),⟨none,none,.st (.t 5) (.t 32) 3⟩,q 6 (.mv (.t 35)),q 7 (.mv (.c (.v (.int .i64 0))))]) .ret))))))⟩
theorem k44 : cF Tryz.prog Tryz.f44 = some c44 := by kernel_rfl
def c45 : AF := ⟨2,14,[(4,none)],(.seq (.ops [q 2 (.box (.t 0)),q 4 (.mv (.c (.v (.bool false))))]) (.seq (.ops [q 5 (.mv (.t 1)),q 6 (.len false (.t 5)),q 7 (.bin .leq (.t 6) (.c (.v (.int .i64 100)))),q 8 (.mv (.t 7)),⟨(some 9),(some (8,true)),.mv (.t 1)⟩,⟨(some 10),(some (8,true)),.mkf 66 [(.t 2)]⟩,⟨(some 11),(some (8,true)),.call 65 [(.t 9),(.t 10)]⟩,⟨(some 12),(some (8,true)),.un .not (.t 11)⟩,q 13 (.pick (.t 8) (.t 12) (.c (.v (.bool false)))),q 4 (.mv (.t 13))]) .ret))⟩
theorem k45 : cF Tryz.prog Tryz.f45 = some c45 := by kernel_rfl
def c46 : AF := ⟨1,12,[(2,none)],(.seq (.ops [q 1 (.box (.t 0)),q 2 (.mv (.c (.v (.str (.mk #[])))))]) (.seq (.seq (.ops [q 3 (.ld (.t 1) 2),q 4 (.call 67 [(.t 3)]),q 5 (.un .not (.t 4))]) (.cond (.t 5) (.seq (.ops [q 2 (.mv (.c (.v (.str (.mk #[])))))]) .ret) .skip)) (.seq (.ops [q 6 (.fa (.t 1) 0),q 7 (.ld (.t 6) 0),q 8 (.fa (.t 1) 1),q 9 (.ld (.t 8) 0),q 10 (.bsl 0 2 [(.t 7),(.t 9)]),q 11 (.call 68 [(.c (.v (.str (.mk #[44])))),(.t 10)]),q 2 (.mv (.t 11))]) .ret)))⟩
theorem k46 : cF Tryz.prog Tryz.f46 = some c46 := by kernel_rfl
def c47 : AF := ⟨1,5,[(2,none)],(.seq (.ops [q 2 (.mv (.c (.v (.str (.mk #[])))))]) (.seq (.ops [q 3 (.mv (.t 0)),q 4 (.call 69 [(.t 3),(.c (.v (.int .i64 10)))]),q 2 (.mv (.t 4))]) .ret))⟩
theorem k47 : cF Tryz.prog Tryz.f47 = some c47 := by kernel_rfl
def c48 : AF := ⟨2,15,[(4,none)],(.seq (.ops [q 2 (.box (.t 0)),q 3 (.box (.t 1)),q 4 (.mv (.c (.v (.bool false))))]) (.seq (.seq (.ops [q 5 (.fa (.t 2) 0),q 6 (.ld (.t 5) 0),q 7 (.fa (.t 3) 0),q 8 (.ld (.t 7) 0),q 9 (.bin .neq (.t 6) (.t 8))]) (.cond (.t 9) (.seq (.ops [q 4 (.mv (.c (.v (.bool false))))]) .ret) .skip)) (.seq (.seq (.ops [q 10 (.fa (.t 2) 1),q 11 (.ld (.t 10) 0),q 12 (.fa (.t 3) 1),q 13 (.ld (.t 12) 0),q 14 (.bin .neq (.t 11) (.t 13))]) (.cond (.t 14) (.seq (.ops [q 4 (.mv (.c (.v (.bool false))))]) .ret) .skip)) (.seq (.ops [q 4 (.mv (.c (.v (.bool true))))]) .ret))))⟩
theorem k48 : cF Tryz.prog Tryz.f48 = some c48 := by kernel_rfl
def c49 : AF := ⟨1,30,[(2,none),(3,none)],(.seq (.ops [q 2 (.mv (.c (.nil 0))),q 3 (.mv (.c (.v (.bool false))))]) (.seq (.ops [q 8 (.bsl 0 2 []),q 4 (.mv (.t 8))]) (.seq (.seq (.ops [q 5 (.mv (.c (.v (.int .i64 0))))]) (.block 0 (.loop (.seq (.seq (.ops [q 9 (.mv (.t 5)),q 10 (.mv (.t 0)),q 11 (.len false (.t 10)),q 12 (.bin .lss (.t 9) (.t 11))]) (.cond (.t 12) .skip (.exit 0))) (.seq (.block 1 (.seq (.ops [q 16 (.mv (.t 0)),q 17 (.mv (.t 5)),q 18 (.ia (.t 16) (.t 17) 0),q 19 (.ld (.t 18) 0),q 20 (.call 70 [(.t 19)]),q 15 (.mv (.t 20)),q 21 (.ext (.t 15) 0),q 22 (.ext (.t 15) 1),q 6 (.mv (.t 21)),q 7 (.mv (.t 22))]) (.seq (.seq (.ops [q 23 (.mv (.t 7)),q 24 (.un .not (.t 23))]) (.cond (.t 24) (.seq (.ops [q 2 (.mv (.c (.nil 0))),q 3 (.mv (.c (.v (.bool false))))]) .ret) .skip)) (.ops [q 25 (.mv (.t 4)),q 26 (.mv (.t 6)),q 27 (.bsl 0 2 [(.t 26)]),q 28 (.app 0 2 8 (.t 25) (.t 27)),q 4 (.mv (.t 28))])))) (.ops [q 13 (.mv (.t 5)),q 14 (.bin .add (.t 13) (.c (.v (.int .i64 1)))),q 5 (.mv (.t 14))])))))) (.seq (.ops [q 29 (.mv (.t 4)),q 2 (.mv (.t 29)),q 3 (.mv (.c (.v (.bool true))))]) .ret))))⟩
theorem k49 : cF Tryz.prog Tryz.f49 = some c49 := by kernel_rfl
def c50 : AF := ⟨1,11,[(2,none)],(.seq (.ops [q 1 (.box (.t 0)),q 2 (.mv (.c (.v (.bool false))))]) (.seq (.ops [q 3 (.fa (.t 1) 0),q 4 (.ld (.t 3) 0),q 5 (.call 40 [(.t 4),(.c (.v (.int .i64 (-1000)))),(.c (.v (.int .i64 1000)))]),q 6 (.mv (.t 5)),⟨(some 7),(some (6,true)),.fa (.t 1) 1⟩,⟨(some 8),(some (6,true)),.ld (.t 7) 0⟩,⟨(some 9),(some (6,true)),.call 40 [(.t 8),(.c (.v (.int .i64 (-1000)))),(.c (.v (.int .i64 1000)))]⟩,q 10 (.pick (.t 6) (.t 9) (.c (.v (.bool false)))),q 2 (.mv (.t 10))]) .ret))⟩
theorem k50 : cF Tryz.prog Tryz.f50 = some c50 := by kernel_rfl
def c53 : AF := ⟨1,32,[(2,(some 2)),(3,none)],(.seq (.ops [q 2 (.al [(.v (.int .i64 0)),(.v (.int .i64 0))]),q 3 (.mv (.c (.v (.bool false))))]) (.seq (.ops [q 7 (.mv (.t 0)),q 8 (.call 73 [(.t 7),(.c (.v (.str (.mk #[44])))),(.c (.v (.int .i64 2)))]),q 6 (.mv (.t 8)),q 9 (.ext (.t 6) 0),q 10 (.ext (.t 6) 1),q 4 (.mv (.t 9)),q 5 (.mv (.t 10))]) (.seq (.seq (.reg [0,1,3,7,15,31,7,71,199,511,1023,2047,4095] [q 11 (.mv (.t 5)),q 12 (.un .not (.t 11)),q 13 (.mv (.t 12)),⟨(some 14),(some (13,false)),.mv (.t 4)⟩,⟨(some 15),(some (13,false)),.ia (.t 14) (.c (.v (.int .i64 0))) 0⟩,⟨(some 16),(some (13,false)),.ld (.t 15) 0⟩,⟨(some 17),(some (13,false)),.mv (.t 4)⟩,⟨(some 18),(some (13,false)),.ia (.t 17) (.c (.v (.int .i64 1))) 0⟩,⟨(some 19),(some (13,false)),.ld (.t 18) 0⟩,⟨(some 20),(some (13,false)),.bld [(.v (.int .i64 0)),(.v (.int .i64 0))] [(0,1,(.t 16)),(1,1,(.t 19))]⟩,⟨(some 21),(some (13,false)),.call 67 [(.t 20)]⟩,⟨(some 22),(some (13,false)),.un .not (.t 21)⟩,q 23 (.pick (.t 13) (.c (.v (.bool true))) (.t 22))]) (.cond (.t 23) (.seq (.ops [q 24 (.bld [(.v (.int .i64 0)),(.v (.int .i64 0))] []),⟨none,none,.st (.t 2) (.t 24) 2⟩,q 3 (.mv (.c (.v (.bool false))))]) .ret) .skip)) (.seq (.reg [0,1,3,0,8,24,63,127,255] [q 25 (.mv (.t 4)),q 26 (.ia (.t 25) (.c (.v (.int .i64 0))) 0),q 27 (.ld (.t 26) 0),q 28 (.mv (.t 4)),q 29 (.ia (.t 28) (.c (.v (.int .i64 1))) 0),q 30 (.ld (.t 29) 0),q 31 (.bld [(.v (.int .i64 0)),(.v (.int .i64 0))] [(0,1,(.t 27)),(1,1,(.t 30))]),⟨none,none,.st (.t 2) (.t 31) 2⟩,q 3 (.mv (.c (.v (.bool true))))]) .ret))))⟩
theorem k53 : cF Tryz.prog Tryz.f53 = some c53 := by kernel_rfl
def c55 : AF := ⟨1,5,[(2,none)],(.seq (.ops [q 2 (.mv (.c (.v (.bool false))))]) (.seq (.ops [q 3 (.mv (.t 0)),q 4 (.call 56 [(.t 3),(.c (.v (.int .i64 0))),(.c (.v (.int .i64 9)))]),q 2 (.mv (.t 4))]) .ret))⟩
theorem k55 : cF Tryz.prog Tryz.f55 = some c55 := by kernel_rfl
def c56 : AF := ⟨3,15,[(6,none)],(.seq (.ops [q 6 (.mv (.c (.v (.bool false))))]) (.seq (.ops [q 7 (.mv (.t 0)),q 8 (.mv (.t 1)),q 9 (.bin .geq (.t 7) (.t 8)),q 10 (.mv (.t 9)),⟨(some 11),(some (10,true)),.mv (.t 0)⟩,⟨(some 12),(some (10,true)),.mv (.t 2)⟩,⟨(some 13),(some (10,true)),.bin .leq (.t 11) (.t 12)⟩,q 14 (.pick (.t 10) (.t 13) (.c (.v (.bool false)))),q 6 (.mv (.t 14))]) .ret))⟩
theorem k56 : cF Tryz.prog Tryz.f56 = some c56 := by kernel_rfl
def c57 : AF := ⟨1,16,[(2,none)],(.seq (.ops [q 2 (.mv (.c (.v (.str (.mk #[])))))]) (.seq (.seq (.ops [q 3 (.mv (.t 0)),q 4 (.call 36 [(.t 3),(.c (.v (.int .i64 24)))]),q 5 (.bin .eql (.t 4) (.c (.v (.int .i64 0))))]) (.cond (.t 5) (.seq (.ops [q 6 (.bsl 0 9 [(.c (.v (.str (.mk #[])))),(.c (.v (.str (.mk #[112,53])))),(.c (.v (.str (.mk #[80,52])))),(.c (.v (.str (.mk #[112,52,32]))))]),q 7 (.mv (.t 0)),q 8 (.call 36 [(.t 7),(.c (.v (.int .i64 4)))]),q 9 (.ia (.t 6) (.t 8) 0),q 10 (.ld (.t 9) 0),q 2 (.mv (.t 10))]) .ret) .skip)) (.seq (.ops [q 11 (.call 75 []),q 12 (.mv (.t 0)),q 13 (.call 36 [(.t 12),(.c (.v (.int .i64 17)))]),q 14 (.ia (.t 11) (.t 13) 0),q 15 (.ld (.t 14) 0),q 2 (.mv (.t 15))]) .ret)))⟩
theorem k57 : cF Tryz.prog Tryz.f57 = some c57 := by kernel_rfl
def c58 : AF := ⟨2,12,[(4,none)],(.seq (.ops [q 4 (.mv (.c (.v (.int .i64 0))))]) (.seq (.ops [q 5 (.mv (.t 1)),q 6 (.mv (.t 0)),q 7 (.mv (.t 1)),q 8 (.len false (.t 7)),q 9 (.call 36 [(.t 6),(.t 8)]),q 10 (.ia (.t 5) (.t 9) 0),q 11 (.ld (.t 10) 0),q 4 (.mv (.t 11))]) .ret))⟩
theorem k58 : cF Tryz.prog Tryz.f58 = some c58 := by kernel_rfl
def c59 : AF := ⟨2,50,[(4,none)],(.seq (.ops [q 3 (.box (.t 1)),q 4 (.mv (.c (.nil 3)))]) (.seq (.ops [q 7 (.bsl 3 54 []),q 5 (.mv (.t 7))]) (.seq (.seq (.ops [q 8 (.mv (.t 0)),q 9 (.call 36 [(.t 8),(.c (.v (.int .i64 8)))]),q 6 (.mv (.t 9))]) (.block 0 (.loop (.seq (.seq (.ops [q 10 (.mv (.t 6)),q 11 (.bin .gtr (.t 10) (.c (.v (.int .i64 0))))]) (.cond (.t 11) .skip (.exit 0))) (.seq (.block 1 (.reg [0,0,0,4,14,0,0,64,254,510,0,1534,4094,8190,16383,32767] [q 14 (.mv (.t 5)),q 15 (.mv (.t 0)),q 16 (.fa (.t 3) 0),q 17 (.ld (.t 16) 0),q 18 (.call 36 [(.t 15),(.t 17)]),q 19 (.mv (.t 0)),q 20 (.fa (.t 3) 2),q 21 (.ld (.t 20) 0),q 22 (.call 36 [(.t 19),(.t 21)]),q 23 (.bld [(.v (.int .i64 0)),(.v (.int .i64 0))] [(0,1,(.t 18)),(1,1,(.t 22))]),q 24 (.mv (.t 0)),q 25 (.call 36 [(.t 24),(.c (.v (.int .i64 4)))]),q 26 (.bld [(.v (.int .i64 0)),(.v (.int .i64 0)),(.v (.int .i64 0))] [(0,2,(.t 23)),(2,1,(.t 25))]),q 27 (.bsl 3 54 [(.t 26)]),q 28 (.app 3 54 24 (.t 14) (.t 27)),q 5 (.mv (.t 28))])) (.ops [q 12 (.mv (.t 6)),q 13 (.bin .sub (.t 12) (.c (.v (.int .i64 1)))),q 6 (.mv (.t 13))])))))) (.seq (.seq (.ops [q 29 (.mv (.t 0)),q 30 (.call 36 [(.t 29),(.c (.v (.int .i64 40)))])]) (.block 2 (.seq (.ops [q 32 (.bin .eql (.t 30) (.c (.v (.int .i64 0)))),q 31 (.mv (.t 32))]) (.cond (.t 31) (.ops [q 33 (.mv (.t 5)),q 34 (.mv (.t 0)),q 35 (.ld (.t 3) 3),q 36 (.call 76 [(.t 34),(.t 35)]),q 37 (.mv (.t 0)),q 38 (.bsl 0 2 [(.c (.v (.int .i64 (-1)))),(.c (.v (.int .i64 9))),(.c (.v (.int .i64 10)))]),q 39 (.call 58 [(.t 37),(.t 38)]),q 40 (.bld [(.v (.int .i64 0)),(.v (.int .i64 0)),(.v (.int .i64 0))] [(0,2,(.t 36)),(2,1,(.t 39))]),q 41 (.bsl 3 54 [(.t 40)]),q 42 (.app 3 54 24 (.t 33) (.t 41)),q 5 (.mv (.t 42))]) (.seq (.ops [q 44 (.bin .eql (.t 30) (.c (.v (.int .i64 1)))),q 43 (.mv (.t 44))]) (.cond (.t 43) (.seq (.ops [q 45 (.mv (.t 0)),q 46 (.call 36 [(.t 45),(.c (.v (.int .i64 2)))]),q 47 (.bin .add (.c (.v (.int .i64 100))) (.t 46)),q 48 (.mk 3 54 24 (.ag [(.int .i64 0),(.int .i64 0),(.int .i64 0)]) (.t 47) (.t 47)),q 4 (.mv (.t 48))]) .ret) .skip)))))) (.seq (.ops [q 49 (.mv (.t 5)),q 4 (.mv (.t 49))]) .ret)))))⟩
theorem k59 : cF Tryz.prog Tryz.f59 = some c59 := by kernel_rfl
def c60 : AF := ⟨2,115,[(4,none),(5,none),(6,none)],(.seq (.ops [q 4 (.mv (.c (.v (.int .i64 0)))),q 5 (.mv (.c (.nil 6))),q 6 (.mv (.c (.v (.bool false))))]) (.seq (.ops [q 15 (.bld [(.v (.int .i64 0)),(.v (.int .i64 0)),(.v (.int .i64 0)),(.v (.int .i64 0))] [(0,1,(.c (.v (.int .i64 (-1))))),(3,1,(.c (.v (.int .i64 (-1)))))]),q 16 (.bld [(.v (.int .i64 0)),(.v (.int .i64 0)),(.v (.int .i64 0)),(.v (.int .i64 0)),(.v (.int .i64 0)),(.v (.int .i64 0))] [(0,4,(.t 15))]),q 17 (.bld [(.v (.int .i64 0)),(.v (.int .i64 0)),(.v (.int .i64 0)),(.v (.int .i64 0))] [(0,1,(.c (.v (.int .i64 1)))),(3,1,(.c (.v (.int .i64 (-1)))))]),q 18 (.bld [(.v (.int .i64 0)),(.v (.int .i64 0)),(.v (.int .i64 0)),(.v (.int .i64 0)),(.v (.int .i64 0)),(.v (.int .i64 0))] [(0,4,(.t 17))]),q 19 (.bld [(.v (.int .i64 0)),(.v (.int .i64 0)),(.v (.int .i64 0)),(.v (.int .i64 0))] [(1,1,(.c (.v (.int .i64 1)))),(2,1,(.c (.v (.int .i64 1))))]),q 20 (.bld [(.v (.int .i64 0)),(.v (.int .i64 0)),(.v (.int .i64 0)),(.v (.int .i64 0)),(.v (.int .i64 0)),(.v (.int .i64 0))] [(0,4,(.t 19))]),q 7 (.al [(.v (.int .i64 0)),(.v (.int .i64 0)),(.v (.int .i64 0)),(.v (.int .i64 0)),(.v (.int .i64 0)),(.v (.int .i64 0))]),q 8 (.al [(.v (.int .i64 0)),(.v (.int .i64 0)),(.v (.int .i64 0)),(.v (.int .i64 0)),(.v (.int .i64 0)),(.v (.int .i64 0))]),q 9 (.al [(.v (.int .i64 0)),(.v (.int .i64 0)),(.v (.int .i64 0)),(.v (.int .i64 0)),(.v (.int .i64 0)),(.v (.int .i64 0))]),⟨none,none,.st (.t 7) (.t 16) 6⟩,⟨none,none,.st (.t 8) (.t 18) 6⟩,⟨none,none,.st (.t 9) (.t 20) 6⟩]) (.seq (.reg [0,1,0,4,15,0,32,0,0,384,992,0,0,6175,16383] [q 21 (.fa (.t 8) 0),q 22 (.ld (.t 21) 4),q 23 (.mv (.t 1)),q 24 (.bld [(.v (.int .i64 0)),(.v (.int .i64 0))] [(0,1,(.t 23))]),q 25 (.bld [(.v (.int .i64 0)),(.v (.int .i64 0)),(.v (.int .i64 0)),(.v (.int .i64 0)),(.v (.int .i64 0)),(.v (.int .i64 0))] [(0,4,(.t 22)),(4,2,(.t 24))]),q 26 (.fa (.t 8) 0),q 27 (.ld (.t 26) 4),q 28 (.mv (.t 1)),q 29 (.mv (.t 1)),q 30 (.bld [(.v (.int .i64 0)),(.v (.int .i64 0))] [(0,1,(.t 28)),(1,1,(.t 29))]),q 31 (.bld [(.v (.int .i64 0)),(.v (.int .i64 0)),(.v (.int .i64 0)),(.v (.int .i64 0)),(.v (.int .i64 0)),(.v (.int .i64 0))] [(0,4,(.t 27)),(4,2,(.t 30))]),q 10 (.al [(.v (.int .i64 0)),(.v (.int .i64 0)),(.v (.int .i64 0)),(.v (.int .i64 0)),(.v (.int .i64 0)),(.v (.int .i64 0))]),q 11 (.al [(.v (.int .i64 0)),(.v (.int .i64 0)),(.v (.int .i64 0)),(.v (.int .i64 0)),(.v (.int .i64 0)),(.v (.int .i64 0))]),⟨none,none,.st (.t 10) (.t 25) 6⟩,⟨none,none,.st (.t 11) (.t 31) 6⟩]) (.seq (.ops [q 32 (.bld [(.v (.int .i64 0)),(.v (.int .i64 0)),(.v (.int .i64 0)),(.v (.int .i64 0))] [(1,1,(.c (.v (.int .i64 (-1))))),(2,1,(.c (.v (.int .i64 1))))]),q 33 (.bld [(.v (.int .i64 0)),(.v (.int .i64 0)),(.v (.int .i64 0)),(.v (.int .i64 0)),(.v (.int .i64 0)),(.v (.int .i64 0))] [(0,4,(.t 32))]),q 34 (.bld [(.v (.int .i64 0)),(.v (.int .i64 0)),(.v (.int .i64 0)),(.v (.int .i64 0))] [(0,1,(.c (.v (.int .i64 (-1))))),(1,1,(.c (.v (.int .i64 (-1))))),(2,1,(.c (.v (.int .i64 1))))]),q 35 (.bld [(.v (.int .i64 0)),(.v (.int .i64 0)),(.v (.int .i64 0)),(.v (.int .i64 0)),(.v (.int .i64 0)),(.v (.int .i64 0))] [(0,4,(.t 34))]),q 36 (.bld [(.v (.int .i64 0)),(.v (.int .i64 0)),(.v (.int .i64 0)),(.v (.int .i64 0))] [(1,1,(.c (.v (.int .i64 (-1))))),(2,1,(.c (.v (.int .i64 1)))),(3,1,(.c (.v (.int .i64 1))))]),q 37 (.bld [(.v (.int .i64 0)),(.v (.int .i64 0)),(.v (.int .i64 0)),(.v (.int .i64 0)),(.v (.int .i64 0)),(.v (.int .i64 0))] [(0,4,(.t 36))]),q 12 (.al [(.v (.int .i64 0)),(.v (.int .i64 0)),(.v (.int .i64 0)),(.v (.int .i64 0)),(.v (.int .i64 0)),(.v (.int .i64 0))]),q 13 (.al [(.v (.int .i64 0)),(.v (.int .i64 0)),(.v (.int .i64 0)),(.v (.int .i64 0)),(.v (.int .i64 0)),(.v (.int .i64 0))]),q 14 (.al [(.v (.int .i64 0)),(.v (.int .i64 0)),(.v (.int .i64 0)),(.v (.int .i64 0)),(.v (.int .i64 0)),(.v (.int .i64 0))]),⟨none,none,.st (.t 12) (.t 33) 6⟩,⟨none,none,.st (.t 13) (.t 35) 6⟩,⟨none,none,.st (.t 14) (.t 37) 6⟩]) (.seq (.seq (.ops [q 38 (.mv (.t 0))]) (.block 0 (.seq (.ops [q 40 (.bin .eql (.t 38) (.c (.v (.str (.mk #[112,49]))))),q 39 (.mv (.t 40))]) (.cond (.t 39) (.seq (.ops [q 4 (.mv (.c (.v (.int .i64 0)))),q 5 (.mv (.c (.nil 6))),q 6 (.mv (.c (.v (.bool true))))]) .ret) (.seq (.ops [q 42 (.bin .eql (.t 38) (.c (.v (.str (.mk #[112,50]))))),q 41 (.mv (.t 42))]) (.cond (.t 41) (.seq (.reg [0,1,0,7,15] [q 43 (.ld (.t 7) 6),q 44 (.bsl 6 116 [(.t 43)]),q 4 (.mv (.c (.v (.int .i64 0)))),q 5 (.mv (.t 44)),q 6 (.mv (.c (.v (.bool true))))]) .ret) (.seq (.ops [q 46 (.bin .eql (.t 38) (.c (.v (.str (.mk #[112,109]))))),q 45 (.mv (.t 46))]) (.cond (.t 45) (.seq (.reg [0,1,0,7,15] [q 47 (.ld (.t 8) 6),q 48 (.bsl 6 116 [(.t 47)]),q 4 (.mv (.c (.v (.int .i64 0)))),q 5 (.mv (.t 48)),q 6 (.mv (.c (.v (.bool true))))]) .ret) (.seq (.ops [q 50 (.bin .eql (.t 38) (.c (.v (.str (.mk #[112,103]))))),q 49 (.mv (.t 50))]) (.cond (.t 49) (.seq (.reg [0,1,0,7,15] [q 51 (.ld (.t 10) 6),q 52 (.bsl 6 116 [(.t 51)]),q 4 (.mv (.c (.v (.int .i64 0)))),q 5 (.mv (.t 52)),q 6 (.mv (.c (.v (.bool true))))]) .ret) (.seq (.ops [q 54 (.bin .eql (.t 38) (.c (.v (.str (.mk #[99,109]))))),q 53 (.mv (.t 54))]) (.cond (.t 53) (.seq (.reg [0,1,0,7,15] [q 55 (.ld (.t 9) 6),q 56 (.bsl 6 116 [(.t 55)]),q 4 (.mv (.c (.v (.int .i64 0)))),q 5 (.mv (.t 56)),q 6 (.mv (.c (.v (.bool true))))]) .ret) (.seq (.ops [q 58 (.bin .eql (.t 38) (.c (.v (.str (.mk #[112,109,109]))))),q 57 (.mv (.t 58))]) (.cond (.t 57) (.seq (.reg [0,0,3,0,15,31] [q 59 (.ld (.t 8) 6),q 60 (.ld (.t 7) 6),q 61 (.bsl 6 116 [(.t 59),(.t 60)]),q 4 (.mv (.c (.v (.int .i64 0)))),q 5 (.mv (.t 61)),q 6 (.mv (.c (.v (.bool true))))]) .ret) (.seq (.ops [q 63 (.bin .eql (.t 38) (.c (.v (.str (.mk #[112,109,103]))))),q 62 (.mv (.t 63))]) (.cond (.t 62) (.seq (.reg [0,0,3,0,15,31] [q 64 (.ld (.t 10) 6),q 65 (.ld (.t 7) 6),q 66 (.bsl 6 116 [(.t 64),(.t 65)]),q 4 (.mv (.c (.v (.int .i64 0)))),q 5 (.mv (.t 66)),q 6 (.mv (.c (.v (.bool true))))]) .ret) (.seq (.ops [q 68 (.bin .eql (.t 38) (.c (.v (.str (.mk #[112,103,103]))))),q 67 (.mv (.t 68))]) (.cond (.t 67) (.seq (.reg [0,0,3,0,15,31] [q 69 (.ld (.t 11) 6),q 70 (.ld (.t 7) 6),q 71 (.bsl 6 116 [(.t 69),(.t 70)]),q 4 (.mv (.c (.v (.int .i64 0)))),q 5 (.mv (.t 71)),q 6 (.mv (.c (.v (.bool true))))]) .ret) (.seq (.ops [q 73 (.bin .eql (.t 38) (.c (.v (.str (.mk #[99,109,109]))))),q 72 (.mv (.t 73))]) (.cond (.t 72) (.seq (.reg [0,0,3,0,15,31] [q 74 (.ld (.t 9) 6),q 75 (.ld (.t 7) 6),q 76 (.bsl 6 116 [(.t 74),(.t 75)]),q 4 (.mv (.c (.v (.int .i64 0)))),q 5 (.mv (.t 76)),q 6 (.mv (.c (.v (.bool true))))]) .ret) (.seq (.ops [q 78 (.bin .eql (.t 38) (.c (.v (.str (.mk #[112,52]))))),q 77 (.mv (.t 78))]) (.cond (.t 77) (.seq (.reg [0,1,0,7,15] [q 79 (.ld (.t 12) 6),q 80 (.bsl 6 116 [(.t 79)]),q 4 (.mv (.c (.v (.int .i64 0)))),q 5 (.mv (.t 80)),q 6 (.mv (.c (.v (.bool true))))]) .ret) (.seq (.ops [q 82 (.bin .eql (.t 38) (.c (.v (.str (.mk #[112,52,109]))))),q 81 (.mv (.t 82))]) (.cond (.t 81) (.seq (.reg [0,0,3,0,15,31] [q 83 (.ld (.t 12) 6),q 84 (.ld (.t 8) 6),q 85 (.bsl 6 116 [(.t 83),(.t 84)]),q 4 (.mv (.c (.v (.int .i64 0)))),q 5 (.mv (.t 85)),q 6 (.mv (.c (.v (.bool true))))]) .ret) (.seq (.ops [q 87 (.bin .eql (.t 38) (.c (.v (.str (.mk #[112,52,103]))))),q 86 (.mv (.t 87))]) (.cond (.t 86) (.seq (.reg [0,0,3,0,15,31] [q 88 (.ld (.t 12) 6),q 89 (.ld (.t 11) 6),q 90 (.bsl 6 116 [(.t 88),(.t 89)]),q 4 (.mv (.c (.v (.int .i64 0)))),q 5 (.mv (.t 90)),q 6 (.mv (.c (.v (.bool true))))]) .ret) (.seq (.ops [q 92 (.bin .eql (.t 38) (.c (.v (.str (.mk #[112,51]))))),q 91 (.mv (.t 92))]) (.cond (.t 91) (.seq (.reg [0,1,0,7,15] [q 93 (.ld (.t 13) 6),q 94 (.bsl 6 116 [(.t 93)]),q 4 (.mv (.c (.v (.int .i64 1)))),q 5 (.mv (.t 94)),q 6 (.mv (.c (.v (.bool true))))]) .ret) (.seq (.ops [q 96 (.bin .eql (.t 38) (.c (.v (.str (.mk #[112,51,109,49]))))),q 95 (.mv (.t 96))]) (.cond (.t 95) (.seq (.reg [0,0,3,0,15,31] [q 97 (.ld (.t 13) 6),q 98 (.ld (.t 9) 6),q 99 (.bsl 6 116 [(.t 97),(.t 98)]),q 4 (.mv (.c (.v (.int .i64 1)))),q 5 (.mv (.t 99)),q 6 (.mv (.c (.v (.bool true))))]) .ret) (.seq (.ops [q 101 (.bin .eql (.t 38) (.c (.v (.str (.mk #[112,51,49,109]))))),q 100 (.mv (.t 101))]) (.cond (.t 100) (.seq (.reg [0,0,2,7,0,31,63] [q 102 (.ld (.t 13) 6),q 103 (.bld [(.v (.int .i64 0)),(.v (.int .i64 0)),(.v (.int .i64 0)),(.v (.int .i64 0))] [(0,1,(.c (.v (.int .i64 1)))),(1,1,(.c (.v (.int .i64 1)))),(3,1,(.c (.v (.int .i64 (-1)))))]),q 104 (.bld [(.v (.int .i64 0)),(.v (.int .i64 0)),(.v (.int .i64 0)),(.v (.int .i64 0)),(.v (.int .i64 0)),(.v (.int .i64 0))] [(0,4,(.t 103))]),q 105 (.bsl 6 116 [(.t 102),(.t 104)]),q 4 (.mv (.c (.v (.int .i64 1)))),q 5 (.mv (.t 105)),q 6 (.mv (.c (.v (.bool true))))]) .ret) (.seq (.ops [q 107 (.bin .eql (.t 38) (.c (.v (.str (.mk #[112,54]))))),q 106 (.mv (.t 107))]) (.cond (.t 106) (.seq (.reg [0,1,0,7,15] [q 108 (.ld (.t 14) 6),q 109 (.bsl 6 116 [(.t 108)]),q 4 (.mv (.c (.v (.int .i64 1)))),q 5 (.mv (.t 109)),q 6 (.mv (.c (.v (.bool true))))]) .ret) (.seq (.ops [q 111 (.bin .eql (.t 38) (.c (.v (.str (.mk #[112,54,109]))))),q 110 (.mv (.t 111))]) (.cond (.t 110) (.seq (.reg [0,0,3,0,15,31] [q 112 (.ld (.t 14) 6),q 113 (.ld (.t 9) 6),q 114 (.bsl 6 116 [(.t 112),(.t 113)]),q 4 (.mv (.c (.v (.int .i64 1)))),q 5 (.mv (.t 114)),q 6 (.mv (.c (.v (.bool true))))]) .ret) .skip)))))))))))))))))))))))))))))))))))) (.seq (.ops [q 4 (.mv (.c (.v (.int .i64 0)))),q 5 (.mv (.c (.nil 6))),q 6 (.mv (.c (.v (.bool false))))]) .ret))))))⟩
theorem k60 : cF Tryz.prog Tryz.f60 = some c60 := by kernel_rfl
def c61 : AF := ⟨2,49,[(4,none)],(.seq (.ops [q 2 (.box (.t 0)),q 4 (.mv (.c (.nil 6)))]) (.seq (.ops [q 10 (.call 77 []),q 11 (.bsl 6 116 [(.t 10)]),q 5 (.mv (.t 11))]) (.seq (.ops [q 12 (.call 77 []),q 13 (.bsl 6 116 [(.t 12)]),q 6 (.mv (.t 13))]) (.seq (.seq (.ops [q 7 (.mv (.c (.v (.int .i64 0))))]) (.block 0 (.loop (.seq (.seq (.ops [q 14 (.mv (.t 7)),q 15 (.mv (.t 6)),q 16 (.len false (.t 15)),q 17 (.bin .lss (.t 14) (.t 16))]) (.cond (.t 17) .skip (.exit 0))) (.seq (.block 1 (.seq (.ops [q 8 (.mv (.c (.v (.int .i64 0))))]) (.block 2 (.loop (.seq (.seq (.ops [q 20 (.mv (.t 8)),q 21 (.mv (.t 1)),q 22 (.len false (.t 21)),q 23 (.bin .lss (.t 20) (.t 22))]) (.cond (.t 23) .skip (.exit 2))) (.seq (.block 3 (.seq (.reg [0,0,0,6,14,0,0,96,224,510,1023,0,4095] [q 26 (.ld (.t 2) 3),q 27 (.mv (.t 1)),q 28 (.mv (.t 8)),q 29 (.ia (.t 27) (.t 28) 6),q 30 (.ld (.t 29) 6),q 31 (.mv (.t 6)),q 32 (.mv (.t 7)),q 33 (.ia (.t 31) (.t 32) 6),q 34 (.ld (.t 33) 6),q 35 (.call 79 [(.t 30),(.t 34)]),q 36 (.call 78 [(.t 26),(.t 35)]),q 9 (.al [(.v (.int .i64 0)),(.v (.int .i64 0)),(.v (.int .i64 0)),(.v (.int .i64 0)),(.v (.int .i64 0)),(.v (.int .i64 0))]),⟨none,none,.st (.t 9) (.t 36) 6⟩]) (.seq (.ops [q 37 (.mv (.t 5)),q 38 (.ld (.t 9) 6),q 39 (.call 80 [(.t 37),(.t 38)]),q 40 (.un .not (.t 39))]) (.cond (.t 40) (.seq (.ops [q 41 (.mv (.t 5)),q 42 (.ld (.t 9) 6),q 43 (.call 81 [(.t 41),(.t 42)]),q 5 (.mv (.t 43))]) (.ops [q 44 (.mv (.t 6)),q 45 (.ld (.t 9) 6),q 46 (.bsl 6 116 [(.t 45)]),q 47 (.app 6 116 48 (.t 44) (.t 46)),q 6 (.mv (.t 47))])) .skip)))) (.ops [q 24 (.mv (.t 8)),q 25 (.bin .add (.t 24) (.c (.v (.int .i64 1)))),q 8 (.mv (.t 25))]))))))) (.ops [q 18 (.mv (.t 7)),q 19 (.bin .add (.t 18) (.c (.v (.int .i64 1)))),q 7 (.mv (.t 19))])))))) (.seq (.ops [q 48 (.mv (.t 5)),q 4 (.mv (.t 48))]) .ret)))))⟩
theorem k61 : cF Tryz.prog Tryz.f61 = some c61 := by kernel_rfl
def c62 : AF := ⟨1,11,[(2,none)],(.seq (.ops [q 2 (.mv (.c (.v (.str (.mk #[])))))]) (.seq (.seq (.ops [q 3 (.mv (.t 0)),q 4 (.bin .lss (.t 3) (.c (.v (.int .i64 0))))]) (.cond (.t 4) (.seq (.ops [q 5 (.mv (.t 0)),q 6 (.un .neg (.t 5)),q 7 (.call 42 [(.t 6)]),q 8 (.bin .add (.c (.v (.str (.mk #[45])))) (.t 7)),q 2 (.mv (.t 8))]) .ret) .skip)) (.seq (.ops [q 9 (.mv (.t 0)),q 10 (.call 42 [(.t 9)]),q 2 (.mv (.t 10))]) .ret)))⟩
theorem k62 : cF Tryz.prog Tryz.f62 = some c62 := by kernel_rfl
def c63 : AF := ⟨2,126,[(4,none),(5,none),(6,none)],(.seq (.ops [q 4 (.mv (.c (.v (.int .i64 0)))),q 5 (.mv (.c (.nil 6))),q 6 (.mv (.c (.v (.bool false))))]) (.seq (.ops [q 17 (.mv (.t 1)),q 18 (.bld [(.v (.int .i64 0)),(.v (.int .i64 0))] [(0,1,(.t 17)),(1,1,(.c (.v (.int .i64 0))))]),q 19 (.mv (.t 1)),q 20 (.mv (.t 1)),q 21 (.bld [(.v (.int .i64 0)),(.v (.int .i64 0))] [(0,1,(.t 19)),(1,1,(.t 20))]),q 7 (.al [(.v (.int .i64 0)),(.v (.int .i64 0))]),q 8 (.al [(.v (.int .i64 0)),(.v (.int .i64 0))]),⟨none,none,.st (.t 7) (.t 18) 2⟩,⟨none,none,.st (.t 8) (.t 21) 2⟩]) (.seq (.ops [q 22 (.bld [(.v (.int .i64 0)),(.v (.int .i64 0)),(.v (.int .i64 0)),(.v (.int .i64 0))] [(0,1,(.c (.v (.int .i64 (-1))))),(1,1,(.c (.v (.int .i64 0)))),(2,1,(.c (.v (.int .i64 0)))),(3,1,(.c (.v (.int .i64 (-1)))))]),q 23 (.bld [(.v (.int .i64 0)),(.v (.int .i64 0)),(.v (.int .i64 0)),(.v (.int .i64 0)),(.v (.int .i64 0)),(.v (.int .i64 0))] [(0,4,(.t 22))]),q 9 (.al [(.v (.int .i64 0)),(.v (.int .i64 0)),(.v (.int .i64 0)),(.v (.int .i64 0)),(.v (.int .i64 0)),(.v (.int .i64 0))]),⟨none,none,.st (.t 9) (.t 23) 6⟩]) (.seq (.ops [q 24 (.bld [(.v (.int .i64 0)),(.v (.int .i64 0)),(.v (.int .i64 0)),(.v (.int .i64 0))] [(0,1,(.c (.v (.int .i64 1)))),(1,1,(.c (.v (.int .i64 0)))),(2,1,(.c (.v (.int .i64 0)))),(3,1,(.c (.v (.int .i64 (-1)))))]),q 25 (.bld [(.v (.int .i64 0)),(.v (.int .i64 0)),(.v (.int .i64 0)),(.v (.int .i64 0))] [(0,1,(.c (.v (.int .i64 0)))),(1,1,(.c (.v (.int .i64 1)))),(2,1,(.c (.v (.int .i64 1)))),(3,1,(.c (.v (.int .i64 0))))]),q 10 (.al [(.v (.int .i64 0)),(.v (.int .i64 0)),(.v (.int .i64 0)),(.v (.int .i64 0))]),q 11 (.al [(.v (.int .i64 0)),(.v (.int .i64 0)),(.v (.int .i64 0)),(.v (.int .i64 0))]),⟨none,none,.st (.t 10) (.t 24) 4⟩,⟨none,none,.st (.t 11) (.t 25) 4⟩]) (.seq (.ops [q 26 (.bld [(.v (.int .i64 0)),(.v (.int .i64 0)),(.v (.int .i64 0)),(.v (.int .i64 0))] [(0,1,(.c (.v (.int .i64 0)))),(1,1,(.c (.v (.int .i64 (-1))))),(2,1,(.c (.v (.int .i64 1)))),(3,1,(.c (.v (.int .i64 0))))]),q 27 (.bld [(.v (.int .i64 0)),(.v (.int .i64 0)),(.v (.int .i64 0)),(.v (.int .i64 0)),(.v (.int .i64 0)),(.v (.int .i64 0))] [(0,4,(.t 26))]),q 28 (.bld [(.v (.int .i64 0)),(.v (.int .i64 0)),(.v (.int .i64 0)),(.v (.int .i64 0))] [(0,1,(.c (.v (.int .i64 (-1))))),(1,1,(.c (.v (.int .i64 (-1))))),(2,1,(.c (.v (.int .i64 1)))),(3,1,(.c (.v (.int .i64 0))))]),q 29 (.bld [(.v (.int .i64 0)),(.v (.int .i64 0)),(.v (.int .i64 0)),(.v (.int .i64 0)),(.v (.int .i64 0)),(.v (.int .i64 0))] [(0,4,(.t 28))]),q 30 (.bld [(.v (.int .i64 0)),(.v (.int .i64 0)),(.v (.int .i64 0)),(.v (.int .i64 0))] [(0,1,(.c (.v (.int .i64 0)))),(1,1,(.c (.v (.int .i64 (-1))))),(2,1,(.c (.v (.int .i64 1)))),(3,1,(.c (.v (.int .i64 1))))]),q 31 (.bld [(.v (.int .i64 0)),(.v (.int .i64 0)),(.v (.int .i64 0)),(.v (.int .i64 0)),(.v (.int .i64 0)),(.v (.int .i64 0))] [(0,4,(.t 30))]),q 12 (.al [(.v (.int .i64 0)),(.v (.int .i64 0)),(.v (.int .i64 0)),(.v (.int .i64 0)),(.v (.int .i64 0)),(.v (.int .i64 0))]),q 13 (.al [(.v (.int .i64 0)),(.v (.int .i64 0)),(.v (.int .i64 0)),(.v (.int .i64 0)),(.v (.int .i64 0)),(.v (.int .i64 0))]),q 14 (.al [(.v (.int .i64 0)),(.v (.int .i64 0)),(.v (.int .i64 0)),(.v (.int .i64 0)),(.v (.int .i64 0)),(.v (.int .i64 0))]),⟨none,none,.st (.t 12) (.t 27) 6⟩,⟨none,none,.st (.t 13) (.t 29) 6⟩,⟨none,none,.st (.t 14) (.t 31) 6⟩]) (.seq (.ops [q 15 (.mv (.c (.nil 6)))]) (.seq (.ops [q 16 (.mv (.c (.v (.int .i64 0))))]) (.seq (.seq (.ops [q 32 (.mv (.t 0))]) (.block 0 (.seq (.ops [q 34 (.bin .eql (.t 32) (.c (.v (.str (.mk #[112,49]))))),q 33 (.mv (.t 34))]) (.cond (.t 33) .skip (.seq (.ops [q 36 (.bin .eql (.t 32) (.c (.v (.str (.mk #[112,50]))))),q 35 (.mv (.t 36))]) (.cond (.t 35) (.ops [q 37 (.ld (.t 9) 6),q 38 (.bsl 6 116 [(.t 37)]),q 15 (.mv (.t 38))]) (.seq (.ops [q 40 (.bin .eql (.t 32) (.c (.v (.str (.mk #[112,109]))))),q 39 (.mv (.t 40))]) (.cond (.t 39) (.ops [q 41 (.ld (.t 10) 4),q 42 (.bld [(.v (.int .i64 0)),(.v (.int .i64 0)),(.v (.int .i64 0)),(.v (.int .i64 0)),(.v (.int .i64 0)),(.v (.int .i64 0))] [(0,4,(.t 41))]),q 43 (.bsl 6 116 [(.t 42)]),q 15 (.mv (.t 43))]) (.seq (.ops [q 45 (.bin .eql (.t 32) (.c (.v (.str (.mk #[112,103]))))),q 44 (.mv (.t 45))]) (.cond (.t 44) (.ops [q 46 (.ld (.t 10) 4),q 47 (.ld (.t 7) 2),q 48 (.bld [(.v (.int .i64 0)),(.v (.int .i64 0)),(.v (.int .i64 0)),(.v (.int .i64 0)),(.v (.int .i64 0)),(.v (.int .i64 0))] [(0,4,(.t 46)),(4,2,(.t 47))]),q 49 (.bsl 6 116 [(.t 48)]),q 15 (.mv (.t 49))]) (.seq (.ops [q 51 (.bin .eql (.t 32) (.c (.v (.str (.mk #[99,109]))))),q 50 (.mv (.t 51))]) (.cond (.t 50) (.ops [q 52 (.ld (.t 11) 4),q 53 (.bld [(.v (.int .i64 0)),(.v (.int .i64 0)),(.v (.int .i64 0)),(.v (.int .i64 0)),(.v (.int .i64 0)),(.v (.int .i64 0))] [(0,4,(.t 52))]),q 54 (.bsl 6 116 [(.t 53)]),q 15 (.mv (.t 54))]) (.seq (.ops [q 56 (.bin .eql (.t 32) (.c (.v (.str (.mk #[112,109,109]))))),q 55 (.mv (.t 56))]) (.cond (.t 55) (.ops [q 57 (.ld (.t 10) 4),q 58 (.bld [(.v (.int .i64 0)),(.v (.int .i64 0)),(.v (.int .i64 0)),(.v (.int .i64 0)),(.v (.int .i64 0)),(.v (.int .i64 0))] [(0,4,(.t 57))]),q 59 (.ld (.t 9) 6),q 60 (.bsl 6 116 [(.t 58),(.t 59)]),q 15 (.mv (.t 60))]) (.seq (.ops [q 62 (.bin .eql (.t 32) (.c (.v (.str (.mk #[112,109,103]))))),q 61 (.mv (.t 62))]) (.cond (.t 61) (.ops [q 63 (.ld (.t 10) 4),q 64 (.ld (.t 7) 2),q 65 (.bld [(.v (.int .i64 0)),(.v (.int .i64 0)),(.v (.int .i64 0)),(.v (.int .i64 0)),(.v (.int .i64 0)),(.v (.int .i64 0))] [(0,4,(.t 63)),(4,2,(.t 64))]),q 66 (.ld (.t 9) 6),q 67 (.bsl 6 116 [(.t 65),(.t 66)]),q 15 (.mv (.t 67))]) (.seq (.ops [q 69 (.bin .eql (.t 32) (.c (.v (.str (.mk #[112,103,103]))))),q 68 (.mv (.t 69))]) (.cond (.t 68) (.ops [q 70 (.ld (.t 10) 4),q 71 (.ld (.t 8) 2),q 72 (.bld [(.v (.int .i64 0)),(.v (.int .i64 0)),(.v (.int .i64 0)),(.v (.int .i64 0)),(.v (.int .i64 0)),(.v (.int .i64 0))] [(0,4,(.t 70)),(4,2,(.t 71))]),q 73 (.ld (.t 9) 6),q 74 (.bsl 6 116 [(.t 72),(.t 73)]),q 15 (.mv (.t 74))]) (.seq (.ops [q 76 (.bin .eql (.t 32) (.c (.v (.str (.mk #[99,109,109]))))),q 75 (.mv (.t 76))]) (.cond (.t 75) (.ops [q 77 (.ld (.t 11) 4),q 78 (.bld [(.v (.int .i64 0)),(.v (.int .i64 0)),(.v (.int .i64 0)),(.v (.int .i64 0)),(.v (.int .i64 0)),(.v (.int .i64 0))] [(0,4,(.t 77))]),q 79 (.ld (.t 9) 6),q 80 (.bsl 6 116 [(.t 78),(.t 79)]),q 15 (.mv (.t 80))]) (.seq (.ops [q 82 (.bin .eql (.t 32) (.c (.v (.str (.mk #[112,52]))))),q 81 (.mv (.t 82))]) (.cond (.t 81) (.ops [q 83 (.ld (.t 12) 6),q 84 (.bsl 6 116 [(.t 83)]),q 15 (.mv (.t 84))]) (.seq (.ops [q 86 (.bin .eql (.t 32) (.c (.v (.str (.mk #[112,52,109]))))),q 85 (.mv (.t 86))]) (.cond (.t 85) (.ops [q 87 (.ld (.t 12) 6),q 88 (.ld (.t 10) 4),q 89 (.bld [(.v (.int .i64 0)),(.v (.int .i64 0)),(.v (.int .i64 0)),(.v (.int .i64 0)),(.v (.int .i64 0)),(.v (.int .i64 0))] [(0,4,(.t 88))]),q 90 (.bsl 6 116 [(.t 87),(.t 89)]),q 15 (.mv (.t 90))]) (.seq (.ops [q 92 (.bin .eql (.t 32) (.c (.v (.str (.mk #[112,52,103]))))),q 91 (.mv (.t 92))]) (.cond (.t 91) (.ops [q 93 (.ld (.t 12) 6),q 94 (.ld (.t 10) 4),q 95 (.ld (.t 8) 2),q 96 (.bld [(.v (.int .i64 0)),(.v (.int .i64 0)),(.v (.int .i64 0)),(.v (.int .i64 0)),(.v (.int .i64 0)),(.v (.int .i64 0))] [(0,4,(.t 94)),(4,2,(.t 95))]),q 97 (.bsl 6 116 [(.t 93),(.t 96)]),q 15 (.mv (.t 97))]) (.seq (.ops [q 99 (.bin .eql (.t 32) (.c (.v (.str (.mk #[112,51]))))),q 98 (.mv (.t 99))]) (.cond (.t 98) (.reg [0,1,0,7] [q 100 (.ld (.t 13) 6),q 101 (.bsl 6 116 [(.t 100)]),q 16 (.mv (.c (.v (.int .i64 1)))),q 15 (.mv (.t 101))]) (.seq (.ops [q 103 (.bin .eql (.t 32) (.c (.v (.str (.mk #[112,51,109,49]))))),q 102 (.mv (.t 103))]) (.cond (.t 102) (.reg [0,0,2,7,0,31] [q 104 (.ld (.t 13) 6),q 105 (.ld (.t 11) 4),q 106 (.bld [(.v (.int .i64 0)),(.v (.int .i64 0)),(.v (.int .i64 0)),(.v (.int .i64 0)),(.v (.int .i64 0)),(.v (.int .i64 0))] [(0,4,(.t 105))]),q 107 (.bsl 6 116 [(.t 104),(.t 106)]),q 16 (.mv (.c (.v (.int .i64 1)))),q 15 (.mv (.t 107))]) (.seq (.ops [q 109 (.bin .eql (.t 32) (.c (.v (.str (.mk #[112,51,49,109]))))),q 108 (.mv (.t 109))]) (.cond (.t 108) (.reg [0,0,2,7,0,31] [q 110 (.ld (.t 13) 6),q 111 (.bld [(.v (.int .i64 0)),(.v (.int .i64 0)),(.v (.int .i64 0)),(.v (.int .i64 0))] [(0,1,(.c (.v (.int .i64 1)))),(1,1,(.c (.v (.int .i64 1)))),(2,1,(.c (.v (.int .i64 0)))),(3,1,(.c (.v (.int .i64 (-1)))))]),q 112 (.bld [(.v (.int .i64 0)),(.v (.int .i64 0)),(.v (.int .i64 0)),(.v (.int .i64 0)),(.v (.int .i64 0)),(.v (.int .i64 0))] [(0,4,(.t 111))]),q 113 (.bsl 6 116 [(.t 110),(.t 112)]),q 16 (.mv (.c (.v (.int .i64 1)))),q 15 (.mv (.t 113))]) (.seq (.ops [q 115 (.bin .eql (.t 32) (.c (.v (.str (.mk #[112,54]))))),q 114 (.mv (.t 115))]) (.cond (.t 114) (.reg [0,1,0,7] [q 116 (.ld (.t 14) 6),q 117 (.bsl 6 116 [(.t 116)]),q 16 (.mv (.c (.v (.int .i64 1)))),q 15 (.mv (.t 117))]) (.seq (.ops [q 119 (.bin .eql (.t 32) (.c (.v (.str (.mk #[112,54,109]))))),q 118 (.mv (.t 119))]) (.cond (.t 118) (.reg [0,0,2,7,0,31] [q 120 (.ld (.t 14) 6),q 121 (.ld (.t 11) 4),q 122 (.bld [(.v (.int .i64 0)),(.v (.int .i64 0)),(.v (.int .i64 0)),(.v (.int .i64 0)),(.v (.int .i64 0)),(.v (.int .i64 0))] [(0,4,(.t 121))]),q 123 (.bsl 6 116 [(.t 120),(.t 122)]),q 16 (.mv (.c (.v (.int .i64 1)))),q 15 (.mv (.t 123))]) (.seq (.ops [q 4 (.mv (.c (.v (.int .i64 0)))),q 5 (.mv (.c (.nil 6))),q 6 (.mv (.c (.v (.bool false))))]) .ret))))))))))))))))))))))))))))))))))))) (.seq (.ops [q 124 (.mv (.t 16)),q 125 (.mv (.t 15)),q 4 (.mv (.t 124)),q 5 (.mv (.t 125)),q 6 (.mv (.c (.v (.bool true))))]) .ret)))))))))⟩
theorem k63 : cF Tryz.prog Tryz.f63 = some c63 := by kernel_rfl
def c64 : AF := ⟨2,53,[(4,none)],(.seq (.ops [q 2 (.box (.t 0)),q 4 (.mv (.c (.nil 6)))]) (.seq (.ops [q 11 (.call 82 []),q 12 (.bld [(.v (.int .i64 0)),(.v (.int .i64 0)),(.v (.int .i64 0)),(.v (.int .i64 0)),(.v (.int .i64 0)),(.v (.int .i64 0))] [(0,4,(.t 11))]),q 13 (.bsl 6 116 [(.t 12)]),q 5 (.mv (.t 13))]) (.seq (.ops [q 14 (.mkm),q 15 (.mv (.t 5)),q 16 (.ia (.t 15) (.c (.v (.int .i64 0))) 6),q 17 (.ld (.t 16) 6),⟨none,none,.mup 6 [1,1,1,1,1,1] (.t 14) (.t 17) (.c (.v (.bool true)))⟩,q 18 (.mv (.t 14)),q 6 (.mv (.t 18))]) (.seq (.seq (.ops [q 7 (.mv (.c (.v (.int .i64 0))))]) (.block 0 (.loop (.seq (.seq (.ops [q 19 (.mv (.t 7)),q 20 (.mv (.t 5)),q 21 (.len false (.t 20)),q 22 (.bin .lss (.t 19) (.t 21))]) (.cond (.t 22) .skip (.exit 0))) (.seq (.block 1 (.seq (.ops [q 25 (.mv (.t 1)),q 26 (.len false (.t 25)),q 27 (.mv (.c (.v (.int .i64 0))))]) (.block 2 (.loop (.seq (.ops [q 28 (.bin .lss (.t 27) (.t 26))]) (.seq (.cond (.t 28) .skip (.exit 2)) (.seq (.block 3 (.seq (.ops [q 29 (.ia (.t 25) (.t 27) 6),q 30 (.ld (.t 29) 6),q 9 (.al [(.v (.int .i64 0)),(.v (.int .i64 0)),(.v (.int .i64 0)),(.v (.int .i64 0)),(.v (.int .i64 0)),(.v (.int .i64 0))]),⟨none,none,.st (.t 9) (.t 30) 6⟩]) (.seq (.reg [0,0,0,0,12,28,62,127,0,511] [q 31 (.ld (.t 2) 3),q 32 (.ld (.t 9) 6),q 33 (.mv (.t 5)),q 34 (.mv (.t 7)),q 35 (.ia (.t 33) (.t 34) 6),q 36 (.ld (.t 35) 6),q 37 (.call 84 [(.t 32),(.t 36)]),q 38 (.call 83 [(.t 31),(.t 37)]),q 10 (.al [(.v (.int .i64 0)),(.v (.int .i64 0)),(.v (.int .i64 0)),(.v (.int .i64 0)),(.v (.int .i64 0)),(.v (.int .i64 0))]),⟨none,none,.st (.t 10) (.t 38) 6⟩]) (.seq (.ops [q 39 (.mv (.t 6)),q 40 (.ld (.t 10) 6),q 41 (.mlk 6 [1,1,1,1,1,1] (.bool false) false (.t 39) (.t 40)),q 42 (.un .not (.t 41))]) (.cond (.t 42) (.seq (.ops [q 43 (.mv (.t 6)),q 44 (.ld (.t 10) 6),⟨none,none,.mup 6 [1,1,1,1,1,1] (.t 43) (.t 44) (.c (.v (.bool true)))⟩]) (.ops [q 45 (.mv (.t 5)),q 46 (.ld (.t 10) 6),q 47 (.bsl 6 116 [(.t 46)]),q 48 (.app 6 116 48 (.t 45) (.t 47)),q 5 (.mv (.t 48))])) .skip))))) (.ops [q 49 (.bin .add (.t 27) (.c (.v (.int .i64 1)))),q 27 (.mv (.t 49))])))))))) (.ops [q 23 (.mv (.t 7)),q 24 (.bin .add (.t 23) (.c (.v (.int .i64 1)))),q 7 (.mv (.t 24))])))))) (.seq (.ops [q 50 (.mv (.t 5)),q 51 (.call 85 [(.t 50),(.c (.fn 86 []))])]) (.seq (.ops [q 52 (.mv (.t 5)),q 4 (.mv (.t 52))]) .ret))))))⟩
theorem k64 : cF Tryz.prog Tryz.f64 = some c64 := by kernel_rfl
def c65 : AF := ⟨2,9,[(4,none)],(.seq (.ops [q 4 (.mv (.c (.v (.bool false))))]) (.seq (.ops [q 5 (.mv (.t 0)),q 6 (.mv (.t 1)),q 7 (.call 87 [(.t 5),(.t 6)]),q 8 (.bin .geq (.t 7) (.c (.v (.int .i64 0)))),q 4 (.mv (.t 8))]) .ret))⟩
theorem k65 : cF Tryz.prog Tryz.f65 = some c65 := by kernel_rfl
def c66 : AF := ⟨1,15,[(3,none)],(.seq (.ops [q 2 (.box (.t 0)),q 3 (.mv (.c (.v (.bool false))))]) (.seq (.ops [q 4 (.ld (.t 1) 3),q 5 (.fa (.t 2) 0),q 6 (.ld (.t 5) 2),q 7 (.call 33 [(.t 4),(.t 6)]),q 8 (.un .not (.t 7)),q 9 (.mv (.t 8)),⟨(some 10),(some (9,false)),.fa (.t 2) 2⟩,⟨(some 11),(some (9,false)),.ld (.t 10) 0⟩,⟨(some 12),(some (9,false)),.call 55 [(.t 11)]⟩,⟨(some 13),(some (9,false)),.un .not (.t 12)⟩,q 14 (.pick (.t 9) (.c (.v (.bool true))) (.t 13)),q 3 (.mv (.t 14))]) .ret))⟩
theorem k66 : cF Tryz.prog Tryz.f66 = some c66 := by kernel_rfl
def c67 : AF := ⟨1,11,[(2,none)],(.seq (.ops [q 1 (.box (.t 0)),q 2 (.mv (.c (.v (.bool false))))]) (.seq (.ops [q 3 (.fa (.t 1) 0),q 4 (.ld (.t 3) 0),q 5 (.call 88 [(.t 4)]),q 6 (.mv (.t 5)),⟨(some 7),(some (6,true)),.fa (.t 1) 1⟩,⟨(some 8),(some (6,true)),.ld (.t 7) 0⟩,⟨(some 9),(some (6,true)),.call 88 [(.t 8)]⟩,q 10 (.pick (.t 6) (.t 9) (.c (.v (.bool false)))),q 2 (.mv (.t 10))]) .ret))⟩
theorem k67 : cF Tryz.prog Tryz.f67 = some c67 := by kernel_rfl
def c68 : AF := ⟨2,24,[(4,none)],(.seq (.ops [q 4 (.mv (.c (.v (.str (.mk #[])))))]) (.seq (.ops [q 8 (.bsl 0 9 []),q 5 (.mv (.t 8))]) (.seq (.seq (.ops [q 9 (.mv (.t 1)),q 10 (.len false (.t 9)),q 11 (.mv (.c (.v (.int .i64 0))))]) (.block 0 (.loop (.seq (.ops [q 12 (.bin .lss (.t 11) (.t 10))]) (.seq (.cond (.t 12) .skip (.exit 0)) (.seq (.block 1 (.seq (.ops [q 13 (.ia (.t 9) (.t 11) 0),q 14 (.ld (.t 13) 0),q 7 (.mv (.t 14))]) (.ops [q 15 (.mv (.t 5)),q 16 (.mv (.t 7)),q 17 (.call 47 [(.t 16)]),q 18 (.bsl 0 9 [(.t 17)]),q 19 (.app 0 9 16 (.t 15) (.t 18)),q 5 (.mv (.t 19))]))) (.ops [q 20 (.bin .add (.t 11) (.c (.v (.int .i64 1)))),q 11 (.mv (.t 20))]))))))) (.seq (.ops [q 21 (.mv (.t 5)),q 22 (.mv (.t 0)),q 23 (.call 89 [(.t 21),(.t 22)]),q 4 (.mv (.t 23))]) .ret))))⟩
theorem k68 : cF Tryz.prog Tryz.f68 = some c68 := by kernel_rfl
def c70 : AF := ⟨1,31,[(2,none),(3,none)],(.seq (.ops [q 2 (.mv (.c (.v (.int .i64 0)))),q 3 (.mv (.c (.v (.bool false))))]) (.seq (.seq (.ops [q 6 (.mv (.t 0)),q 7 (.len true (.t 6)),q 8 (.bin .gtr (.t 7) (.c (.v (.int .i64 0)))),q 9 (.mv (.t 8)),⟨(some 10),(some (9,true)),.mv (.t 0)⟩,⟨(some 11),(some (9,true)),.si (.t 10) (.c (.v (.int .i64 0)))⟩,⟨(some 12),(some (9,true)),.bin .eql (.t 11) (.c (.v (.int .u8 45)))⟩,q 13 (.pick (.t 9) (.t 12) (.c (.v (.bool false))))]) (.cond (.t 13) (.seq (.ops [q 15 (.mv (.t 0)),q 16 (.ssub (.t 15) (some (.c (.v (.int .i64 1)))) none),q 17 (.call 30 [(.t 16)]),q 14 (.mv (.t 17)),q 18 (.ext (.t 14) 0),q 19 (.ext (.t 14) 1),q 4 (.mv (.t 18)),q 5 (.mv (.t 19))]) (.seq (.ops [q 20 (.mv (.t 4)),q 21 (.un .neg (.t 20)),q 22 (.mv (.t 5)),q 23 (.mv (.t 22)),⟨(some 24),(some (23,true)),.mv (.t 4)⟩,⟨(some 25),(some (23,true)),.bin .gtr (.t 24) (.c (.v (.int .i64 0)))⟩,q 26 (.pick (.t 23) (.t 25) (.c (.v (.bool false)))),q 2 (.mv (.t 21)),q 3 (.mv (.t 26))]) .ret)) .skip)) (.seq (.ops [q 27 (.mv (.t 0)),q 28 (.call 30 [(.t 27)]),q 29 (.ext (.t 28) 0),q 30 (.ext (.t 28) 1),q 2 (.mv (.t 29)),q 3 (.mv (.t 30))]) .ret)))⟩
theorem k70 : cF Tryz.prog Tryz.f70 = some c70 := by kernel_rfl
def c73 : AF := ⟨3,41,[(6,none),(7,none)],(.seq (.ops [q 6 (.mv (.c (.nil 0))),q 7 (.mv (.c (.v (.bool false))))]) (.seq (.ops [q 14 (.mv (.t 0)),q 15 (.mv (.t 1)),q 16 (.call 52 [(.t 14),(.t 15)]),q 8 (.mv (.t 16))]) (.seq (.seq (.ops [q 17 (.mv (.t 8)),q 18 (.len false (.t 17)),q 19 (.mv (.t 2)),q 20 (.bin .neq (.t 18) (.t 19))]) (.cond (.t 20) (.seq (.ops [q 6 (.mv (.c (.nil 0))),q 7 (.mv (.c (.v (.bool false))))]) .ret) .skip)) (.seq (.ops [q 21 (.bsl 0 2 []),q 9 (.mv (.t 21))]) (.seq (.seq (.ops [q 22 (.mv (.t 8)),q 23 (.len false (.t 22)),q 24 (.mv (.c (.v (.int .i64 0))))]) (.block 0 (.loop (.seq (.ops [q 25 (.bin .lss (.t 24) (.t 23))]) (.seq (.cond (.t 25) .skip (.exit 0)) (.seq (.block 1 (.seq (.ops [q 26 (.ia (.t 22) (.t 24) 0),q 27 (.ld (.t 26) 0),q 11 (.mv (.t 27))]) (.seq (.ops [q 29 (.mv (.t 11)),q 30 (.call 54 [(.t 29)]),q 28 (.mv (.t 30)),q 31 (.ext (.t 28) 0),q 32 (.ext (.t 28) 1),q 12 (.mv (.t 31)),q 13 (.mv (.t 32))]) (.seq (.seq (.ops [q 33 (.mv (.t 13)),q 34 (.un .not (.t 33))]) (.cond (.t 34) (.seq (.ops [q 6 (.mv (.c (.nil 0))),q 7 (.mv (.c (.v (.bool false))))]) .ret) .skip)) (.ops [q 35 (.mv (.t 9)),q 36 (.mv (.t 12)),q 37 (.bsl 0 2 [(.t 36)]),q 38 (.app 0 2 8 (.t 35) (.t 37)),q 9 (.mv (.t 38))]))))) (.ops [q 39 (.bin .add (.t 24) (.c (.v (.int .i64 1)))),q 24 (.mv (.t 39))]))))))) (.seq (.ops [q 40 (.mv (.t 9)),q 6 (.mv (.t 40)),q 7 (.mv (.c (.v (.bool true))))]) .ret))))))⟩
theorem k73 : cF Tryz.prog Tryz.f73 = some c73 := by kernel_rfl
def c75 : AF := ⟨0,2,[(0,none)],(.seq (.ops [q 0 (.mv (.c (.nil 0)))]) (.seq (.ops [q 1 (.bsl 0 9 [(.c (.v (.str (.mk #[112,49])))),(.c (.v (.str (.mk #[112,50])))),(.c (.v (.str (.mk #[112,109])))),(.c (.v (.str (.mk #[112,103])))),(.c (.v (.str (.mk #[99,109])))),(.c (.v (.str (.mk #[112,109,109])))),(.c (.v (.str (.mk #[112,109,103])))),(.c (.v (.str (.mk #[112,103,103])))),(.c (.v (.str (.mk #[99,109,109])))),(.c (.v (.str (.mk #[112,52])))),(.c (.v (.str (.mk #[112,52,109])))),(.c (.v (.str (.mk #[112,52,103])))),(.c (.v (.str (.mk #[112,51])))),(.c (.v (.str (.mk #[112,51,109,49])))),(.c (.v (.str (.mk #[112,51,49,109])))),(.c (.v (.str (.mk #[112,54])))),(.c (.v (.str (.mk #[112,54,109]))))]),q 0 (.mv (.t 1))]) .ret))⟩
theorem k75 : cF Tryz.prog Tryz.f75 = some c75 := by kernel_rfl
def c76 : AF := ⟨2,28,[(4,(some 2))],(.seq (.ops [q 3 (.box (.t 1)),q 4 (.al [(.v (.int .i64 0)),(.v (.int .i64 0))])]) (.seq (.seq (.ops [q 5 (.mv (.t 0)),q 6 (.call 36 [(.t 5),(.c (.v (.int .i64 24)))]),q 7 (.bin .eql (.t 6) (.c (.v (.int .i64 0))))]) (.cond (.t 7) (.seq (.reg [0,0,2,6,15,0,0,64,192,511,1023,2047] [q 8 (.mv (.t 0)),q 9 (.fa (.t 3) 0),q 10 (.ld (.t 9) 0),q 11 (.bsl 0 2 [(.c (.v (.int .i64 (-1)))),(.t 10),(.c (.v (.int .i64 0)))]),q 12 (.call 58 [(.t 8),(.t 11)]),q 13 (.mv (.t 0)),q 14 (.fa (.t 3) 2),q 15 (.ld (.t 14) 0),q 16 (.bsl 0 2 [(.c (.v (.int .i64 0))),(.t 15)]),q 17 (.call 58 [(.t 13),(.t 16)]),q 18 (.bld [(.v (.int .i64 0)),(.v (.int .i64 0))] [(0,1,(.t 12)),(1,1,(.t 17))]),⟨none,none,.st (.t 4) (.t 18) 2⟩]) .ret) .skip)) (.seq (.reg [0,0,2,7,0,0,32,127,255,511] [q 19 (.mv (.t 0)),q 20 (.fa (.t 3) 0),q 21 (.ld (.t 20) 0),q 22 (.call 36 [(.t 19),(.t 21)]),q 23 (.mv (.t 0)),q 24 (.fa (.t 3) 2),q 25 (.ld (.t 24) 0),q 26 (.call 36 [(.t 23),(.t 25)]),q 27 (.bld [(.v (.int .i64 0)),(.v (.int .i64 0))] [(0,1,(.t 22)),(1,1,(.t 26))]),⟨none,none,.st (.t 4) (.t 27) 2⟩]) .ret)))⟩
theorem k76 : cF Tryz.prog Tryz.f76 = some c76 := by kernel_rfl
def c77 : AF := ⟨0,3,[(0,(some 6))],(.seq (.ops [q 0 (.al [(.v (.int .i64 0)),(.v (.int .i64 0)),(.v (.int .i64 0)),(.v (.int .i64 0)),(.v (.int .i64 0)),(.v (.int .i64 0))])]) (.seq (.ops [q 1 (.call 100 []),q 2 (.bld [(.v (.int .i64 0)),(.v (.int .i64 0)),(.v (.int .i64 0)),(.v (.int .i64 0)),(.v (.int .i64 0)),(.v (.int .i64 0))] [(0,4,(.t 1))]),⟨none,none,.st (.t 0) (.t 2) 6⟩]) .ret))⟩
theorem k77 : cF Tryz.prog Tryz.f77 = some c77 := by kernel_rfl
def c78 : AF := ⟨2,12,[(4,(some 6))],(.seq (.ops [q 2 (.box (.t 0)),q 3 (.box (.t 1)),q 4 (.al [(.v (.int .i64 0)),(.v (.int .i64 0)),(.v (.int .i64 0)),(.v (.int .i64 0)),(.v (.int .i64 0)),(.v (.int .i64 0))])]) (.seq (.reg [0,1,0,0,8,28,63,127] [q 5 (.fa (.t 3) 0),q 6 (.ld (.t 5) 4),q 7 (.ld (.t 2) 3),q 8 (.fa (.t 3) 4),q 9 (.ld (.t 8) 2),q 10 (.call 101 [(.t 7),(.t 9)]),q 11 (.bld [(.v (.int .i64 0)),(.v (.int .i64 0)),(.v (.int .i64 0)),(.v (.int .i64 0)),(.v (.int .i64 0)),(.v (.int .i64 0))] [(0,4,(.t 6)),(4,2,(.t 10))]),⟨none,none,.st (.t 4) (.t 11) 6⟩]) .ret))⟩
theorem k78 : cF Tryz.prog Tryz.f78 = some c78 := by kernel_rfl
def c79 : AF := ⟨2,19,[(4,(some 6))],(.seq (.ops [q 2 (.box (.t 0)),q 3 (.box (.t 1)),q 4 (.al [(.v (.int .i64 0)),(.v (.int .i64 0)),(.v (.int .i64 0)),(.v (.int .i64 0)),(.v (.int .i64 0)),(.v (.int .i64 0))])]) (.seq (.reg [0,1,0,4,15,0,32,0,128,511,0,1024,4095,8191,16383] [q 5 (.fa (.t 2) 0),q 6 (.ld (.t 5) 4),q 7 (.fa (.t 3) 0),q 8 (.ld (.t 7) 4),q 9 (.call 102 [(.t 6),(.t 8)]),q 10 (.fa (.t 2) 0),q 11 (.ld (.t 10) 4),q 12 (.fa (.t 3) 4),q 13 (.ld (.t 12) 2),q 14 (.call 104 [(.t 11),(.t 13)]),q 15 (.fa (.t 2) 4),q 16 (.ld (.t 15) 2),q 17 (.call 103 [(.t 14),(.t 16)]),q 18 (.bld [(.v (.int .i64 0)),(.v (.int .i64 0)),(.v (.int .i64 0)),(.v (.int .i64 0)),(.v (.int .i64 0)),(.v (.int .i64 0))] [(0,4,(.t 9)),(4,2,(.t 17))]),⟨none,none,.st (.t 4) (.t 18) 6⟩]) .ret))⟩
theorem k79 : cF Tryz.prog Tryz.f79 = some c79 := by kernel_rfl
def c80 : AF := ⟨2,21,[(4,none)],(.seq (.ops [q 3 (.box (.t 1)),q 4 (.mv (.c (.v (.bool false))))]) (.seq (.ops [q 6 (.mv (.t 0)),q 7 (.ld (.t 3) 6),q 8 (.call 105 [(.t 6),(.t 7)]),q 5 (.mv (.t 8))]) (.seq (.reg [0,0,2,7,15,31,31,127,255,31,1023,2047,4095] [q 9 (.mv (.t 5)),q 10 (.mv (.t 0)),q 11 (.len false (.t 10)),q 12 (.bin .lss (.t 9) (.t 11)),q 13 (.mv (.t 12)),⟨(some 14),(some (13,true)),.mv (.t 0)⟩,⟨(some 15),(some (13,true)),.mv (.t 5)⟩,⟨(some 16),(some (13,true)),.ia (.t 14) (.t 15) 6⟩,⟨(some 17),(some (13,true)),.ld (.t 16) 6⟩,⟨(some 18),(some (13,true)),.ld (.t 3) 6⟩,⟨(some 19),(some (13,true)),.eq false 6 [1,1,1,1,1,1] (.t 17) (.t 18)⟩,q 20 (.pick (.t 13) (.t 19) (.c (.v (.bool false)))),q 4 (.mv (.t 20))]) .ret)))⟩
theorem k80 : cF Tryz.prog Tryz.f80 = some c80 := by kernel_rfl
def c81 : AF := ⟨2,34,[(4,none)],(.seq (.ops [q 3 (.box (.t 1)),q 4 (.mv (.c (.nil 6)))]) (.seq (.ops [q 6 (.mv (.t 0)),q 7 (.ld (.t 3) 6),q 8 (.call 105 [(.t 6),(.t 7)]),q 5 (.mv (.t 8))]) (.seq (.seq (.reg [0,0,2,7,15,31,31,127,255,31,1023,2047] [q 9 (.mv (.t 5)),q 10 (.mv (.t 0)),q 11 (.len false (.t 10)),q 12 (.bin .lss (.t 9) (.t 11)),q 13 (.mv (.t 12)),⟨(some 14),(some (13,true)),.mv (.t 0)⟩,⟨(some 15),(some (13,true)),.mv (.t 5)⟩,⟨(some 16),(some (13,true)),.ia (.t 14) (.t 15) 6⟩,⟨(some 17),(some (13,true)),.ld (.t 16) 6⟩,⟨(some 18),(some (13,true)),.ld (.t 3) 6⟩,⟨(some 19),(some (13,true)),.eq false 6 [1,1,1,1,1,1] (.t 17) (.t 18)⟩,q 20 (.pick (.t 13) (.t 19) (.c (.v (.bool false))))]) (.cond (.t 20) (.seq (.ops [q 21 (.mv (.t 0)),q 4 (.mv (.t 21))]) .ret) .skip)) (.seq (.reg [0,0,0,6,15,0,32,127,0,0,768,2047,4095] [q 22 (.bsl 6 116 []),q 23 (.mv (.t 0)),q 24 (.mv (.t 5)),q 25 (.sub 6 (.t 23) none (some (.t 24))),q 26 (.app 6 116 48 (.t 22) (.t 25)),q 27 (.ld (.t 3) 6),q 28 (.bsl 6 116 [(.t 27)]),q 29 (.app 6 116 48 (.t 26) (.t 28)),q 30 (.mv (.t 0)),q 31 (.mv (.t 5)),q 32 (.sub 6 (.t 30) (some (.t 31)) none),q 33 (.app 6 116 48 (.t 29) (.t 32)),q 4 (.mv (.t 33))]) .ret))))⟩
theorem k81 : cF Tryz.prog Tryz.f81 = some c81 := by kernel_rfl
def c82 : AF := ⟨0,2,[(0,(some 4))],(.seq (.ops [q 0 (.al [(.v (.int .i64 0)),(.v (.int .i64 0)),(.v (.int .i64 0)),(.v (.int .i64 0))])]) (.seq (.ops [q 1 (.bld [(.v (.int .i64 0)),(.v (.int .i64 0)),(.v (.int .i64 0)),(.v (.int .i64 0))] [(0,1,(.c (.v (.int .i64 1)))),(1,1,(.c (.v (.int .i64 0)))),(2,1,(.c (.v (.int .i64 0)))),(3,1,(.c (.v (.int .i64 1))))]),⟨none,none,.st (.t 0) (.t 1) 4⟩]) .ret))⟩
theorem k82 : cF Tryz.prog Tryz.f82 = some c82 := by kernel_rfl
def c83 : AF := ⟨2,12,[(4,(some 6))],(.seq (.ops [q 2 (.box (.t 0)),q 3 (.box (.t 1)),q 4 (.al [(.v (.int .i64 0)),(.v (.int .i64 0)),(.v (.int .i64 0)),(.v (.int .i64 0)),(.v (.int .i64 0)),(.v (.int .i64 0))])]) (.seq (.reg [0,1,0,0,8,28,63,127] [q 5 (.fa (.t 3) 0),q 6 (.ld (.t 5) 4),q 7 (.ld (.t 2) 3),q 8 (.fa (.t 3) 4),q 9 (.ld (.t 8) 2),q 10 (.call 106 [(.t 7),(.t 9)]),q 11 (.bld [(.v (.int .i64 0)),(.v (.int .i64 0)),(.v (.int .i64 0)),(.v (.int .i64 0)),(.v (.int .i64 0)),(.v (.int .i64 0))] [(0,4,(.t 6)),(4,2,(.t 10))]),⟨none,none,.st (.t 4) (.t 11) 6⟩]) .ret))⟩
theorem k83 : cF Tryz.prog Tryz.f83 = some c83 := by kernel_rfl
def c84 : AF := ⟨2,19,[(4,(some 6))],(.seq (.ops [q 2 (.box (.t 0)),q 3 (.box (.t 1)),q 4 (.al [(.v (.int .i64 0)),(.v (.int .i64 0)),(.v (.int .i64 0)),(.v (.int .i64 0)),(.v (.int .i64 0)),(.v (.int .i64 0))])]) (.seq (.reg [0,1,0,4,15,0,32,0,128,511,0,1024,4095,8191,16383] [q 5 (.fa (.t 2) 0),q 6 (.ld (.t 5) 4),q 7 (.fa (.t 3) 0),q 8 (.ld (.t 7) 4),q 9 (.call 107 [(.t 6),(.t 8)]),q 10 (.fa (.t 2) 0),q 11 (.ld (.t 10) 4),q 12 (.fa (.t 3) 4),q 13 (.ld (.t 12) 2),q 14 (.call 108 [(.t 11),(.t 13)]),q 15 (.fa (.t 2) 4),q 16 (.ld (.t 15) 2),q 17 (.call 109 [(.t 14),(.t 16)]),q 18 (.bld [(.v (.int .i64 0)),(.v (.int .i64 0)),(.v (.int .i64 0)),(.v (.int .i64 0)),(.v (.int .i64 0)),(.v (.int .i64 0))] [(0,4,(.t 9)),(4,2,(.t 17))]),⟨none,none,.st (.t 4) (.t 18) 6⟩]) .ret))⟩
theorem k84 : cF Tryz.prog Tryz.f84 = some c84 := by kernel_rfl
def c85 : AF := ⟨2,14,[],(.seq (.ops [q 5 (.mv (.t 0)),q 6 (.len false (.t 5)),q 4 (.mv (.t 6))]) (.ops [q 7 (.mv (.t 0)),q 8 (.mv (.t 4)),q 9 (.mv (.t 4)),q 10 (.conv .u64 (.t 9)),q 11 (.call 111 [(.t 10)]),q 12 (.mv (.t 1)),q 13 (.call 110 [(.t 7),(.c (.v (.int .i64 0))),(.t 8),(.t 11),(.t 12)])]))⟩
theorem k85 : cF Tryz.prog Tryz.f85 = some c85 := by kernel_rfl
def c86 : AF := ⟨2,19,[(4,none)],(.seq (.ops [q 2 (.box (.t 0)),q 3 (.box (.t 1)),q 4 (.mv (.c (.v (.int .i64 0))))]) (.seq (.seq (.ops [q 6 (.fa (.t 2) 0),q 7 (.ld (.t 6) 4),q 8 (.fa (.t 3) 0),q 9 (.ld (.t 8) 4),q 10 (.call 112 [(.t 7),(.t 9)]),q 5 (.mv (.t 10))]) (.seq (.ops [q 11 (.mv (.t 5)),q 12 (.bin .neq (.t 11) (.c (.v (.int .i64 0))))]) (.cond (.t 12) (.seq (.ops [q 13 (.mv (.t 5)),q 4 (.mv (.t 13))]) .ret) .skip))) (.seq (.ops [q 14 (.fa (.t 2) 4),q 15 (.ld (.t 14) 2),q 16 (.fa (.t 3) 4),q 17 (.ld (.t 16) 2),q 18 (.call 113 [(.t 15),(.t 17)]),q 4 (.mv (.t 18))]) .ret)))⟩
theorem k86 : cF Tryz.prog Tryz.f86 = some c86 := by kernel_rfl
def c87 : AF := ⟨2,19,[(4,none)],(.seq (.ops [q 4 (.mv (.c (.v (.int .i64 0))))]) (.seq (.seq (.ops [q 6 (.mv (.t 0)),q 7 (.len false (.t 6)),q 8 (.mv (.c (.v (.int .i64 0))))]) (.block 0 (.loop (.seq (.ops [q 9 (.bin .lss (.t 8) (.t 7))]) (.seq (.cond (.t 9) .skip (.exit 0)) (.seq (.block 1 (.seq (.ops [q 10 (.mv (.t 8)),q 5 (.mv (.t 10))]) (.seq (.ops [q 11 (.mv (.t 1)),q 12 (.mv (.t 0)),q 13 (.mv (.t 5)),q 14 (.ia (.t 12) (.t 13) 3),q 15 (.ld (.t 14) 3),q 16 (.callv (.t 11) [(.t 15)])]) (.cond (.t 16) (.seq (.ops [q 17 (.mv (.t 5)),q 4 (.mv (.t 17))]) .ret) .skip)))) (.ops [q 18 (.bin .add (.t 8) (.c (.v (.int .i64 1)))),q 8 (.mv (.t 18))]))))))) (.seq (.ops [q 4 (.mv (.c (.v (.int .i64 (-1)))))]) .ret)))⟩
theorem k87 : cF Tryz.prog Tryz.f87 = some c87 := by kernel_rfl
def c88 : AF := ⟨1,5,[(2,none)],(.seq (.ops [q 2 (.mv (.c (.v (.bool false))))]) (.seq (.ops [q 3 (.mv (.t 0)),q 4 (.call 56 [(.t 3),(.c (.v (.int .i64 (-1000)))),(.c (.v (.int .i64 1000)))]),q 2 (.mv (.t 4))]) .ret))⟩
theorem k88 : cF Tryz.prog Tryz.f88 = some c88 := by kernel_rfl
def c100 : AF := ⟨0,2,[(0,(some 4))],(.seq (.ops [q 0 (.al [(.v (.int .i64 0)),(.v (.int .i64 0)),(.v (.int .i64 0)),(.v (.int .i64 0))])]) (.seq (.ops [q 1 (.bld [(.v (.int .i64 0)),(.v (.int .i64 0)),(.v (.int .i64 0)),(.v (.int .i64 0))] [(0,1,(.c (.v (.int .i64 1)))),(3,1,(.c (.v (.int .i64 1))))]),⟨none,none,.st (.t 0) (.t 1) 4⟩]) .ret))⟩
theorem k100 : cF Tryz.prog Tryz.f100 = some c100 := by kernel_rfl
def c101 : AF := ⟨2,31,[(4,(some 2))],(.seq (.ops [q 2 (.box (.t 0)),q 3 (.box (.t 1)),q 4 (.al [(.v (.int .i64 0)),(.v (.int .i64 0))])]) (.seq (.ops [q 7 (.fa (.t 3) 1),q 8 (.ld (.t 7) 0),q 9 (.fa (.t 2) 2),q 10 (.ld (.t 9) 0),q 11 (.call 131 [(.t 8),(.t 10)]),q 5 (.mv (.t 11))]) (.seq (.ops [q 12 (.fa (.t 3) 1),q 13 (.ld (.t 12) 0),q 14 (.mv (.t 5)),q 15 (.bin .sub (.t 13) (.t 14)),q 16 (.fa (.t 2) 2),q 17 (.ld (.t 16) 0),q 18 (.bin .quo (.t 15) (.t 17)),q 6 (.mv (.t 18))]) (.seq (.ops [q 19 (.fa (.t 3) 0),q 20 (.ld (.t 19) 0),q 21 (.mv (.t 6)),q 22 (.fa (.t 2) 1),q 23 (.ld (.t 22) 0),q 24 (.bin .mul (.t 21) (.t 23)),q 25 (.bin .sub (.t 20) (.t 24)),q 26 (.fa (.t 2) 0),q 27 (.ld (.t 26) 0),q 28 (.call 131 [(.t 25),(.t 27)]),q 29 (.mv (.t 5)),q 30 (.bld [(.v (.int .i64 0)),(.v (.int .i64 0))] [(0,1,(.t 28)),(1,1,(.t 29))]),⟨none,none,.st (.t 4) (.t 30) 2⟩]) .ret))))⟩
theorem k101 : cF Tryz.prog Tryz.f101 = some c101 := by kernel_rfl
def c102 : AF := ⟨2,50,[(4,(some 4))],(.seq (.ops [q 2 (.box (.t 0)),q 3 (.box (.t 1)),q 4 (.al [(.v (.int .i64 0)),(.v (.int .i64 0)),(.v (.int .i64 0)),(.v (.int .i64 0))])]) (.seq (.ops [q 5 (.fa (.t 2) 0),q 6 (.ld (.t 5) 0),q 7 (.fa (.t 3) 0),q 8 (.ld (.t 7) 0),q 9 (.bin .mul (.t 6) (.t 8)),q 10 (.fa (.t 2) 1),q 11 (.ld (.t 10) 0),q 12 (.fa (.t 3) 2),q 13 (.ld (.t 12) 0),q 14 (.bin .mul (.t 11) (.t 13)),q 15 (.bin .add (.t 9) (.t 14)),q 16 (.fa (.t 2) 0),q 17 (.ld (.t 16) 0),q 18 (.fa (.t 3) 1),q 19 (.ld (.t 18) 0),q 20 (.bin .mul (.t 17) (.t 19)),q 21 (.fa (.t 2) 1),q 22 (.ld (.t 21) 0),q 23 (.fa (.t 3) 3),q 24 (.ld (.t 23) 0),q 25 (.bin .mul (.t 22) (.t 24)),q 26 (.bin .add (.t 20) (.t 25)),q 27 (.fa (.t 2) 2),q 28 (.ld (.t 27) 0),q 29 (.fa (.t 3) 0),q 30 (.ld (.t 29) 0),q 31 (.bin .mul (.t 28) (.t 30)),q 32 (.fa (.t 2) 3),q 33 (.ld (.t 32) 0),q 34 (.fa (.t 3) 2),q 35 (.ld (.t 34) 0),q 36 (.bin .mul (.t 33) (.t 35)),q 37 (.bin .add (.t 31) (.t 36)),q 38 (.fa (.t 2) 2),q 39 (.ld (.t 38) 0),q 40 (.fa (.t 3) 1),q 41 (.ld (.t 40) 0),q 42 (.bin .mul (.t 39) (.t 41)),q 43 (.fa (.t 2) 3),q 44 (.ld (.t 43) 0),q 45 (.fa (.t 3) 3),q 46 (.ld (.t 45) 0),q 47 (.bin .mul (.t 44) (.t 46)),q 48 (.bin .add (.t 42) (.t 47)),q 49 (.bld [(.v (.int .i64 0)),(.v (.int .i64 0)),(.v (.int .i64 0)),(.v (.int .i64 0))] [(0,1,(.t 15)),(1,1,(.t 26)),(2,1,(.t 37)),(3,1,(.t 48))]),⟨none,none,.st (.t 4) (.t 49) 4⟩]) .ret))⟩
theorem k102 : cF Tryz.prog Tryz.f102 = some c102 := by kernel_rfl
def c103 : AF := ⟨2,16,[(4,(some 2))],(.seq (.ops [q 2 (.box (.t 0)),q 3 (.box (.t 1)),q 4 (.al [(.v (.int .i64 0)),(.v (.int .i64 0))])]) (.seq (.ops [q 5 (.fa (.t 2) 0),q 6 (.ld (.t 5) 0),q 7 (.fa (.t 3) 0),q 8 (.ld (.t 7) 0),q 9 (.bin .add (.t 6) (.t 8)),q 10 (.fa (.t 2) 1),q 11 (.ld (.t 10) 0),q 12 (.fa (.t 3) 1),q 13 (.ld (.t 12) 0),q 14 (.bin .add (.t 11) (.t 13)),q 15 (.bld [(.v (.int .i64 0)),(.v (.int .i64 0))] [(0,1,(.t 9)),(1,1,(.t 14))]),⟨none,none,.st (.t 4) (.t 15) 2⟩]) .ret))⟩
theorem k103 : cF Tryz.prog Tryz.f103 = some c103 := by kernel_rfl
def c104 : AF := ⟨2,28,[(4,(some 2))],(.seq (.ops [q 2 (.box (.t 0)),q 3 (.box (.t 1)),q 4 (.al [(.v (.int .i64 0)),(.v (.int .i64 0))])]) (.seq (.ops [q 5 (.fa (.t 2) 0),q 6 (.ld (.t 5) 0),q 7 (.fa (.t 3) 0),q 8 (.ld (.t 7) 0),q 9 (.bin .mul (.t 6) (.t 8)),q 10 (.fa (.t 2) 1),q 11 (.ld (.t 10) 0),q 12 (.fa (.t 3) 1),q 13 (.ld (.t 12) 0),q 14 (.bin .mul (.t 11) (.t 13)),q 15 (.bin .add (.t 9) (.t 14)),q 16 (.fa (.t 2) 2),q 17 (.ld (.t 16) 0),q 18 (.fa (.t 3) 0),q 19 (.ld (.t 18) 0),q 20 (.bin .mul (.t 17) (.t 19)),q 21 (.fa (.t 2) 3),q 22 (.ld (.t 21) 0),q 23 (.fa (.t 3) 1),q 24 (.ld (.t 23) 0),q 25 (.bin .mul (.t 22) (.t 24)),q 26 (.bin .add (.t 20) (.t 25)),q 27 (.bld [(.v (.int .i64 0)),(.v (.int .i64 0))] [(0,1,(.t 15)),(1,1,(.t 26))]),⟨none,none,.st (.t 4) (.t 27) 2⟩]) .ret))⟩
theorem k104 : cF Tryz.prog Tryz.f104 = some c104 := by kernel_rfl
def c105 : AF := ⟨2,27,[(4,none)],(.seq (.ops [q 3 (.box (.t 1)),q 4 (.mv (.c (.v (.int .i64 0))))]) (.seq (.ops [q 8 (.mv (.t 0)),q 9 (.len false (.t 8)),q 5 (.mv (.c (.v (.int .i64 0)))),q 6 (.mv (.t 9))]) (.seq (.block 0 (.loop (.seq (.seq (.ops [q 10 (.mv (.t 5)),q 11 (.mv (.t 6)),q 12 (.bin .lss (.t 10) (.t 11))]) (.cond (.t 12) .skip (.exit 0))) (.block 1 (.seq (.ops [q 13 (.mv (.t 5)),q 14 (.mv (.t 6)),q 15 (.bin .add (.t 13) (.t 14)),q 16 (.bin .quo (.t 15) (.c (.v (.int .i64 2)))),q 7 (.mv (.t 16))]) (.seq (.reg [0,0,3,7,0,31] [q 17 (.mv (.t 0)),q 18 (.mv (.t 7)),q 19 (.ia (.t 17) (.t 18) 6),q 20 (.ld (.t 19) 6),q 21 (.ld (.t 3) 6),q 22 (.call 132 [(.t 20),(.t 21)])]) (.cond (.t 22) (.ops [q 23 (.mv (.t 7)),q 24 (.bin .add (.t 23) (.c (.v (.int .i64 1)))),q 5 (.mv (.t 24))]) (.ops [q 25 (.mv (.t 7)),q 6 (.mv (.t 25))])))))))) (.seq (.ops [q 26 (.mv (.t 5)),q 4 (.mv (.t 26))]) .ret))))⟩
theorem k105 : cF Tryz.prog Tryz.f105 = some c105 := by kernel_rfl
def c106 : AF := ⟨2,29,[(4,(some 2))],(.seq (.ops [q 2 (.box (.t 0)),q 3 (.box (.t 1)),q 4 (.al [(.v (.int .i64 0)),(.v (.int .i64 0))])]) (.seq (.ops [q 6 (.fa (.t 3) 1),q 7 (.ld (.t 6) 0),q 8 (.fa (.t 2) 2),q 9 (.ld (.t 8) 0),q 10 (.call 133 [(.t 7),(.t 9)]),q 5 (.mv (.t 10))]) (.seq (.reg [0,1,0,4,0,28,0,64,252,0,512,2044,4095,0,8192,32767,0,131071,262143] [q 11 (.fa (.t 3) 0),q 12 (.ld (.t 11) 0),q 13 (.fa (.t 3) 1),q 14 (.ld (.t 13) 0),q 15 (.mv (.t 5)),q 16 (.bin .sub (.t 14) (.t 15)),q 17 (.fa (.t 2) 2),q 18 (.ld (.t 17) 0),q 19 (.bin .quo (.t 16) (.t 18)),q 20 (.fa (.t 2) 1),q 21 (.ld (.t 20) 0),q 22 (.bin .mul (.t 19) (.t 21)),q 23 (.bin .sub (.t 12) (.t 22)),q 24 (.fa (.t 2) 0),q 25 (.ld (.t 24) 0),q 26 (.call 133 [(.t 23),(.t 25)]),q 27 (.mv (.t 5)),q 28 (.bld [(.v (.int .i64 0)),(.v (.int .i64 0))] [(0,1,(.t 26)),(1,1,(.t 27))]),⟨none,none,.st (.t 4) (.t 28) 2⟩]) .ret)))⟩
theorem k106 : cF Tryz.prog Tryz.f106 = some c106 := by kernel_rfl
def c107 : AF := ⟨2,50,[(4,(some 4))],(.seq (.ops [q 2 (.box (.t 0)),q 3 (.box (.t 1)),q 4 (.al [(.v (.int .i64 0)),(.v (.int .i64 0)),(.v (.int .i64 0)),(.v (.int .i64 0))])]) (.seq (.ops [q 5 (.fa (.t 2) 0),q 6 (.ld (.t 5) 0),q 7 (.fa (.t 3) 0),q 8 (.ld (.t 7) 0),q 9 (.bin .mul (.t 6) (.t 8)),q 10 (.fa (.t 2) 1),q 11 (.ld (.t 10) 0),q 12 (.fa (.t 3) 2),q 13 (.ld (.t 12) 0),q 14 (.bin .mul (.t 11) (.t 13)),q 15 (.bin .add (.t 9) (.t 14)),q 16 (.fa (.t 2) 0),q 17 (.ld (.t 16) 0),q 18 (.fa (.t 3) 1),q 19 (.ld (.t 18) 0),q 20 (.bin .mul (.t 17) (.t 19)),q 21 (.fa (.t 2) 1),q 22 (.ld (.t 21) 0),q 23 (.fa (.t 3) 3),q 24 (.ld (.t 23) 0),q 25 (.bin .mul (.t 22) (.t 24)),q 26 (.bin .add (.t 20) (.t 25)),q 27 (.fa (.t 2) 2),q 28 (.ld (.t 27) 0),q 29 (.fa (.t 3) 0),q 30 (.ld (.t 29) 0),q 31 (.bin .mul (.t 28) (.t 30)),q 32 (.fa (.t 2) 3),q 33 (.ld (.t 32) 0),q 34 (.fa (.t 3) 2),q 35 (.ld (.t 34) 0),q 36 (.bin .mul (.t 33) (.t 35)),q 37 (.bin .add (.t 31) (.t 36)),q 38 (.fa (.t 2) 2),q 39 (.ld (.t 38) 0),q 40 (.fa (.t 3) 1),q 41 (.ld (.t 40) 0),q 42 (.bin .mul (.t 39) (.t 41)),q 43 (.fa (.t 2) 3),q 44 (.ld (.t 43) 0),q 45 (.fa (.t 3) 3),q 46 (.ld (.t 45) 0),q 47 (.bin .mul (.t 44) (.t 46)),q 48 (.bin .add (.t 42) (.t 47)),q 49 (.bld [(.v (.int .i64 0)),(.v (.int .i64 0)),(.v (.int .i64 0)),(.v (.int .i64 0))] [(0,1,(.t 15)),(1,1,(.t 26)),(2,1,(.t 37)),(3,1,(.t 48))]),⟨none,none,.st (.t 4) (.t 49) 4⟩]) .ret))⟩
theorem k107 : cF Tryz.prog Tryz.f107 = some c107 := by kernel_rfl
def c108 : AF := ⟨2,28,[(4,(some 2))],(.seq (.ops [q 2 (.box (.t 0)),q 3 (.box (.t 1)),q 4 (.al [(.v (.int .i64 0)),(.v (.int .i64 0))])]) (.seq (.ops [q 5 (.fa (.t 2) 0),q 6 (.ld (.t 5) 0),q 7 (.fa (.t 3) 0),q 8 (.ld (.t 7) 0),q 9 (.bin .mul (.t 6) (.t 8)),q 10 (.fa (.t 2) 1),q 11 (.ld (.t 10) 0),q 12 (.fa (.t 3) 1),q 13 (.ld (.t 12) 0),q 14 (.bin .mul (.t 11) (.t 13)),q 15 (.bin .add (.t 9) (.t 14)),q 16 (.fa (.t 2) 2),q 17 (.ld (.t 16) 0),q 18 (.fa (.t 3) 0),q 19 (.ld (.t 18) 0),q 20 (.bin .mul (.t 17) (.t 19)),q 21 (.fa (.t 2) 3),q 22 (.ld (.t 21) 0),q 23 (.fa (.t 3) 1),q 24 (.ld (.t 23) 0),q 25 (.bin .mul (.t 22) (.t 24)),q 26 (.bin .add (.t 20) (.t 25)),q 27 (.bld [(.v (.int .i64 0)),(.v (.int .i64 0))] [(0,1,(.t 15)),(1,1,(.t 26))]),⟨none,none,.st (.t 4) (.t 27) 2⟩]) .ret))⟩
theorem k108 : cF Tryz.prog Tryz.f108 = some c108 := by kernel_rfl
def c109 : AF := ⟨2,16,[(4,(some 2))],(.seq (.ops [q 2 (.box (.t 0)),q 3 (.box (.t 1)),q 4 (.al [(.v (.int .i64 0)),(.v (.int .i64 0))])]) (.seq (.ops [q 5 (.fa (.t 2) 0),q 6 (.ld (.t 5) 0),q 7 (.fa (.t 3) 0),q 8 (.ld (.t 7) 0),q 9 (.bin .add (.t 6) (.t 8)),q 10 (.fa (.t 2) 1),q 11 (.ld (.t 10) 0),q 12 (.fa (.t 3) 1),q 13 (.ld (.t 12) 0),q 14 (.bin .add (.t 11) (.t 13)),q 15 (.bld [(.v (.int .i64 0)),(.v (.int .i64 0))] [(0,1,(.t 9)),(1,1,(.t 14))]),⟨none,none,.st (.t 4) (.t 15) 2⟩]) .ret))⟩
theorem k109 : cF Tryz.prog Tryz.f109 = some c109 := by kernel_rfl
def c110 : AF := ⟨5,148,[],(.seq (.ops [q 10 (.mv (.c (.v (.bool true))))]) (.seq (.ops [q 11 (.mv (.c (.v (.bool true))))]) (.block 0 (.loop (.block 1 (.seq (.ops [q 21 (.mv (.t 2)),q 22 (.mv (.t 1)),q 23 (.bin .sub (.t 21) (.t 22)),q 12 (.mv (.t 23))]) (.seq (.seq (.ops [q 24 (.mv (.t 12)),q 25 (.bin .leq (.t 24) (.c (.v (.int .i64 12))))]) (.cond (.t 25) (.seq (.ops [q 26 (.mv (.t 0)),q 27 (.mv (.t 1)),q 28 (.mv (.t 2)),q 29 (.mv (.t 4)),q 30 (.call 134 [(.t 26),(.t 27),(.t 28),(.t 29)])]) .ret) .skip)) (.seq (.seq (.ops [q 31 (.mv (.t 3)),q 32 (.bin .eql (.t 31) (.c (.v (.int .i64 0))))]) (.cond (.t 32) (.seq (.ops [q 33 (.mv (.t 0)),q 34 (.mv (.t 1)),q 35 (.mv (.t 2)),q 36 (.mv (.t 4)),q 37 (.call 135 [(.t 33),(.t 34),(.t 35),(.t 36)])]) .ret) .skip)) (.seq (.seq (.ops [q 38 (.mv (.t 10)),q 39 (.un .not (.t 38))]) (.cond (.t 39) (.seq (.ops [q 40 (.mv (.t 0)),q 41 (.mv (.t 1)),q 42 (.mv (.t 2)),q 43 (.mv (.t 4)),q 44 (.call 136 [(.t 40),(.t 41),(.t 42),(.t 43)])]) (.ops [q 45 (.mv (.t 3)),q 46 (.bin .sub (.t 45) (.c (.v (.int .i64 1)))),q 3 (.mv (.t 46))])) .skip)) (.seq (.ops [q 48 (.mv (.t 0)),q 49 (.mv (.t 1)),q 50 (.mv (.t 2)),q 51 (.mv (.t 4)),q 52 (.call 137 [(.t 48),(.t 49),(.t 50),(.t 51)]),q 47 (.mv (.t 52)),q 53 (.ext (.t 47) 0),q 54 (.ext (.t 47) 1),q 13 (.mv (.t 53)),q 14 (.mv (.t 54))]) (.seq (.seq (.ops [q 55 (.mv (.t 14)),q 56 (.bin .eql (.t 55) (.c (.v (.int .i64 2))))]) (.cond (.t 56) (.seq (.ops [q 57 (.mv (.t 0)),q 58 (.mv (.t 1)),q 59 (.mv (.t 2)),q 60 (.mv (.t 4)),q 61 (.call 138 [(.t 57),(.t 58),(.t 59),(.t 60)])]) (.seq (.ops [q 62 (.mv (.t 2)),q 63 (.bin .sub (.t 62) (.c (.v (.int .i64 1)))),q 64 (.mv (.t 13)),q 65 (.mv (.t 1)),q 66 (.bin .sub (.t 64) (.t 65)),q 67 (.bin .sub (.t 63) (.t 66)),q 13 (.mv (.t 67))]) (.ops [q 14 (.mv (.c (.v (.int .i64 1))))]))) .skip)) (.seq (.seq (.ops [q 68 (.mv (.t 10)),q 69 (.mv (.t 68)),⟨(some 70),(some (69,true)),.mv (.t 11)⟩,q 71 (.pick (.t 69) (.t 70) (.c (.v (.bool false)))),q 72 (.mv (.t 71)),⟨(some 73),(some (72,true)),.mv (.t 14)⟩,⟨(some 74),(some (72,true)),.bin .eql (.t 73) (.c (.v (.int .i64 1)))⟩,q 75 (.pick (.t 72) (.t 74) (.c (.v (.bool false))))]) (.cond (.t 75) (.seq (.ops [q 76 (.mv (.t 0)),q 77 (.mv (.t 1)),q 78 (.mv (.t 2)),q 79 (.mv (.t 4)),q 80 (.call 139 [(.t 76),(.t 77),(.t 78),(.t 79)])]) (.cond (.t 80) .ret .skip)) .skip)) (.seq (.seq (.reg [0,1,3,7,7,7,39,119,247,7,7,1543,3591,8191,16383,32767,65535] [q 81 (.mv (.t 1)),q 82 (.bin .gtr (.t 81) (.c (.v (.int .i64 0)))),q 83 (.mv (.t 82)),⟨(some 84),(some (83,true)),.mv (.t 4)⟩,⟨(some 85),(some (83,true)),.mv (.t 0)⟩,⟨(some 86),(some (83,true)),.mv (.t 1)⟩,⟨(some 87),(some (83,true)),.bin .sub (.t 86) (.c (.v (.int .i64 1)))⟩,⟨(some 88),(some (83,true)),.ia (.t 85) (.t 87) 6⟩,⟨(some 89),(some (83,true)),.ld (.t 88) 6⟩,⟨(some 90),(some (83,true)),.mv (.t 0)⟩,⟨(some 91),(some (83,true)),.mv (.t 13)⟩,⟨(some 92),(some (83,true)),.ia (.t 90) (.t 91) 6⟩,⟨(some 93),(some (83,true)),.ld (.t 92) 6⟩,⟨(some 94),(some (83,true)),.callv (.t 84) [(.t 89),(.t 93)]⟩,⟨(some 95),(some (83,true)),.bin .lss (.t 94) (.c (.v (.int .i64 0)))⟩,⟨(some 96),(some (83,true)),.un .not (.t 95)⟩,q 97 (.pick (.t 83) (.t 96) (.c (.v (.bool false))))]) (.cond (.t 97) (.seq (.ops [q 98 (.mv (.t 0)),q 99 (.mv (.t 1)),q 100 (.mv (.t 2)),q 101 (.mv (.t 13)),q 102 (.mv (.t 4)),q 103 (.call 140 [(.t 98),(.t 99),(.t 100),(.t 101),(.t 102)]),q 15 (.mv (.t 103))]) (.seq (.ops [q 104 (.mv (.t 15)),q 1 (.mv (.t 104))]) (.exit 1))) .skip)) (.seq (.ops [q 106 (.mv (.t 0)),q 107 (.mv (.t 1)),q 108 (.mv (.t 2)),q 109 (.mv (.t 13)),q 110 (.mv (.t 4)),q 111 (.call 141 [(.t 106),(.t 107),(.t 108),(.t 109),(.t 110)]),q 105 (.mv (.t 111)),q 112 (.ext (.t 105) 0),q 113 (.ext (.t 105) 1),q 16 (.mv (.t 112)),q 17 (.mv (.t 113))]) (.seq (.ops [q 114 (.mv (.t 17)),q 11 (.mv (.t 114))]) (.seq (.ops [q 115 (.mv (.t 16)),q 116 (.mv (.t 1)),q 117 (.bin .sub (.t 115) (.t 116)),q 118 (.mv (.t 2)),q 119 (.mv (.t 16)),q 120 (.bin .sub (.t 118) (.t 119)),q 18 (.mv (.t 117)),q 19 (.mv (.t 120))]) (.seq (.ops [q 121 (.mv (.t 12)),q 122 (.bin .quo (.t 121) (.c (.v (.int .i64 8)))),q 20 (.mv (.t 122))]) (.seq (.ops [q 123 (.mv (.t 18)),q 124 (.mv (.t 19)),q 125 (.bin .lss (.t 123) (.t 124))]) (.cond (.t 125) (.seq (.ops [q 126 (.mv (.t 18)),q 127 (.mv (.t 20)),q 128 (.bin .geq (.t 126) (.t 127)),q 10 (.mv (.t 128))]) (.seq (.ops [q 129 (.mv (.t 0)),q 130 (.mv (.t 1)),q 131 (.mv (.t 16)),q 132 (.mv (.t 3)),q 133 (.mv (.t 4)),q 134 (.call 110 [(.t 129),(.t 130),(.t 131),(.t 132),(.t 133)])]) (.ops [q 135 (.mv (.t 16)),q 136 (.bin .add (.t 135) (.c (.v (.int .i64 1)))),q 1 (.mv (.t 136))]))) (.seq (.ops [q 137 (.mv (.t 19)),q 138 (.mv (.t 20)),q 139 (.bin .geq (.t 137) (.t 138)),q 10 (.mv (.t 139))]) (.seq (.ops [q 140 (.mv (.t 0)),q 141 (.mv (.t 16)),q 142 (.bin .add (.t 141) (.c (.v (.int .i64 1)))),q 143 (.mv (.t 2)),q 144 (.mv (.t 3)),q 145 (.mv (.t 4)),q 146 (.call 110 [(.t 140),(.t 142),(.t 143),(.t 144),(.t 145)])]) (.ops [q 147 (.mv (.t 16)),q 2 (.mv (.t 147))]))))))))))))))))))))))⟩
theorem k110 : cF Tryz.prog Tryz.f110 = some c110 := by kernel_rfl
def c111 : AF := ⟨1,8,[(2,none)],(.seq (.ops [q 2 (.mv (.c (.v (.int .i64 0))))]) (.seq (.cond (.c (.v (.bool false))) (.seq (.ops [q 3 (.mv (.t 0)),q 4 (.conv .u32 (.t 3)),q 5 (.call 142 [(.t 4)]),q 2 (.mv (.t 5))]) .ret) .skip) (.seq (.ops [q 6 (.mv (.t 0)),q 7 (.call 143 [(.t 6)]),q 2 (.mv (.t 7))]) .ret)))⟩
theorem k111 : cF Tryz.prog Tryz.f111 = some c111 := by kernel_rfl
def c112 : AF := ⟨2,24,[(4,none)],(.seq (.ops [q 2 (.box (.t 0)),q 3 (.box (.t 1)),q 4 (.mv (.c (.v (.int .i64 0))))]) (.seq (.ops [q 5 (.fa (.t 2) 0),q 6 (.ld (.t 5) 0),q 7 (.fa (.t 2) 1),q 8 (.ld (.t 7) 0),q 9 (.fa (.t 2) 2),q 10 (.ld (.t 9) 0),q 11 (.fa (.t 2) 3),q 12 (.ld (.t 11) 0),q 13 (.bsl 0 2 [(.t 6),(.t 8),(.t 10),(.t 12)]),q 14 (.fa (.t 3) 0),q 15 (.ld (.t 14) 0),q 16 (.fa (.t 3) 1),q 17 (.ld (.t 16) 0),q 18 (.fa (.t 3) 2),q 19 (.ld (.t 18) 0),q 20 (.fa (.t 3) 3),q 21 (.ld (.t 20) 0),q 22 (.bsl 0 2 [(.t 15),(.t 17),(.t 19),(.t 21)]),q 23 (.call 144 [(.t 13),(.t 22)]),q 4 (.mv (.t 23))]) .ret))⟩
theorem k112 : cF Tryz.prog Tryz.f112 = some c112 := by kernel_rfl
def c113 : AF := ⟨2,16,[(4,none)],(.seq (.ops [q 2 (.box (.t 0)),q 3 (.box (.t 1)),q 4 (.mv (.c (.v (.int .i64 0))))]) (.seq (.ops [q 5 (.fa (.t 2) 0),q 6 (.ld (.t 5) 0),q 7 (.fa (.t 2) 1),q 8 (.ld (.t 7) 0),q 9 (.bsl 0 2 [(.t 6),(.t 8)]),q 10 (.fa (.t 3) 0),q 11 (.ld (.t 10) 0),q 12 (.fa (.t 3) 1),q 13 (.ld (.t 12) 0),q 14 (.bsl 0 2 [(.t 11),(.t 13)]),q 15 (.call 144 [(.t 9),(.t 14)]),q 4 (.mv (.t 15))]) .ret))⟩
theorem k113 : cF Tryz.prog Tryz.f113 = some c113 := by kernel_rfl
def c131 : AF := ⟨2,14,[(4,none)],(.seq (.ops [q 4 (.mv (.c (.v (.int .i64 0))))]) (.seq (.ops [q 5 (.mv (.t 0)),q 6 (.mv (.t 1)),q 7 (.bin .rem (.t 5) (.t 6)),q 0 (.mv (.t 7))]) (.seq (.seq (.ops [q 8 (.mv (.t 0)),q 9 (.bin .lss (.t 8) (.c (.v (.int .i64 0))))]) (.cond (.t 9) (.ops [q 10 (.mv (.t 0)),q 11 (.mv (.t 1)),q 12 (.bin .add (.t 10) (.t 11)),q 0 (.mv (.t 12))]) .skip)) (.seq (.ops [q 13 (.mv (.t 0)),q 4 (.mv (.t 13))]) .ret))))⟩
theorem k131 : cF Tryz.prog Tryz.f131 = some c131 := by kernel_rfl
def c132 : AF := ⟨2,20,[(4,none)],(.seq (.ops [q 2 (.box (.t 0)),q 3 (.box (.t 1)),q 4 (.mv (.c (.v (.bool false))))]) (.seq (.seq (.ops [q 5 (.fa (.t 2) 0),q 6 (.ld (.t 5) 4),q 7 (.fa (.t 3) 0),q 8 (.ld (.t 7) 4),q 9 (.eq true 4 [1,1,1,1] (.t 6) (.t 8))]) (.cond (.t 9) (.seq (.ops [q 10 (.fa (.t 2) 0),q 11 (.ld (.t 10) 4),q 12 (.fa (.t 3) 0),q 13 (.ld (.t 12) 4),q 14 (.call 157 [(.t 11),(.t 13)]),q 4 (.mv (.t 14))]) .ret) .skip)) (.seq (.ops [q 15 (.fa (.t 2) 4),q 16 (.ld (.t 15) 2),q 17 (.fa (.t 3) 4),q 18 (.ld (.t 17) 2),q 19 (.call 158 [(.t 16),(.t 18)]),q 4 (.mv (.t 19))]) .ret)))⟩
theorem k132 : cF Tryz.prog Tryz.f132 = some c132 := by kernel_rfl
def c133 : AF := ⟨2,12,[(4,none)],(.seq (.ops [q 4 (.mv (.c (.v (.int .i64 0))))]) (.seq (.ops [q 5 (.mv (.t 0)),q 6 (.mv (.t 1)),q 7 (.bin .rem (.t 5) (.t 6)),q 8 (.mv (.t 1)),q 9 (.bin .add (.t 7) (.t 8)),q 10 (.mv (.t 1)),q 11 (.bin .rem (.t 9) (.t 10)),q 4 (.mv (.t 11))]) .ret))⟩
theorem k133 : cF Tryz.prog Tryz.f133 = some c133 := by kernel_rfl
def c134 : AF := ⟨4,53,[],(.seq (.ops [q 10 (.mv (.t 1)),q 11 (.bin .add (.t 10) (.c (.v (.int .i64 1)))),q 8 (.mv (.t 11))]) (.block 0 (.loop (.seq (.seq (.ops [q 12 (.mv (.t 8)),q 13 (.mv (.t 2)),q 14 (.bin .lss (.t 12) (.t 13))]) (.cond (.t 14) .skip (.exit 0))) (.seq (.block 1 (.seq (.ops [q 17 (.mv (.t 8)),q 9 (.mv (.t 17))]) (.block 2 (.loop (.seq (.seq (.reg [0,0,3,7,15,15,15,111,239,15,15,1039,3599,7695,16383,32767,65535] [q 18 (.mv (.t 9)),q 19 (.mv (.t 1)),q 20 (.bin .gtr (.t 18) (.t 19)),q 21 (.mv (.t 20)),⟨(some 22),(some (21,true)),.mv (.t 3)⟩,⟨(some 23),(some (21,true)),.mv (.t 0)⟩,⟨(some 24),(some (21,true)),.mv (.t 9)⟩,⟨(some 25),(some (21,true)),.ia (.t 23) (.t 24) 6⟩,⟨(some 26),(some (21,true)),.ld (.t 25) 6⟩,⟨(some 27),(some (21,true)),.mv (.t 0)⟩,⟨(some 28),(some (21,true)),.mv (.t 9)⟩,⟨(some 29),(some (21,true)),.bin .sub (.t 28) (.c (.v (.int .i64 1)))⟩,⟨(some 30),(some (21,true)),.ia (.t 27) (.t 29) 6⟩,⟨(some 31),(some (21,true)),.ld (.t 30) 6⟩,⟨(some 32),(some (21,true)),.callv (.t 22) [(.t 26),(.t 31)]⟩,⟨(some 33),(some (21,true)),.bin .lss (.t 32) (.c (.v (.int .i64 0)))⟩,q 34 (.pick (.t 21) (.t 33) (.c (.v (.bool false))))]) (.cond (.t 34) .skip (.exit 2))) (.seq (.block 3 (.reg [0,0,0,0,8,0,0,64,224,480,0,0,3072,7168,16355,32739,65535,131071] [q 37 (.mv (.t 0)),q 38 (.mv (.t 9)),q 39 (.mv (.t 0)),q 40 (.mv (.t 9)),q 41 (.bin .sub (.t 40) (.c (.v (.int .i64 1)))),q 42 (.mv (.t 0)),q 43 (.mv (.t 9)),q 44 (.bin .sub (.t 43) (.c (.v (.int .i64 1)))),q 45 (.ia (.t 42) (.t 44) 6),q 46 (.ld (.t 45) 6),q 47 (.mv (.t 0)),q 48 (.mv (.t 9)),q 49 (.ia (.t 47) (.t 48) 6),q 50 (.ld (.t 49) 6),q 51 (.ia (.t 37) (.t 38) 6),⟨none,none,.st (.t 51) (.t 46) 6⟩,q 52 (.ia (.t 39) (.t 41) 6),⟨none,none,.st (.t 52) (.t 50) 6⟩])) (.ops [q 35 (.mv (.t 9)),q 36 (.bin .sub (.t 35) (.c (.v (.int .i64 1)))),q 9 (.mv (.t 36))]))))))) (.ops [q 15 (.mv (.t 8)),q 16 (.bin .add (.t 15) (.c (.v (.int .i64 1)))),q 8 (.mv (.t 16))]))))))⟩
theorem k134 : cF Tryz.prog Tryz.f134 = some c134 := by kernel_rfl
def c143 : AF := ⟨1,25,[(2,none)],(.seq (.ops [q 2 (.mv (.c (.v (.int .i64 0))))]) (.seq (.seq (.ops [q 3 (.mv (.t 0)),q 4 (.bin .geq (.t 3) (.c (.v (.int .u64 4294967296))))]) (.cond (.t 4) (.seq (.ops [q 5 (.mv (.t 0)),q 6 (.bin .shr (.t 5) (.c (.v (.int .u64 32)))),q 0 (.mv (.t 6))]) (.ops [q 2 (.mv (.c (.v (.int .i64 32))))])) .skip)) (.seq (.seq (.ops [q 7 (.mv (.t 0)),q 8 (.bin .geq (.t 7) (.c (.v (.int .u64 65536))))]) (.cond (.t 8) (.seq (.ops [q 9 (.mv (.t 0)),q 10 (.bin .shr (.t 9) (.c (.v (.int .u64 16)))),q 0 (.mv (.t 10))]) (.ops [q 11 (.mv (.t 2)),q 12 (.bin .add (.t 11) (.c (.v (.int .i64 16)))),q 2 (.mv (.t 12))])) .skip)) (.seq (.seq (.ops [q 13 (.mv (.t 0)),q 14 (.bin .geq (.t 13) (.c (.v (.int .u64 256))))]) (.cond (.t 14) (.seq (.ops [q 15 (.mv (.t 0)),q 16 (.bin .shr (.t 15) (.c (.v (.int .u64 8)))),q 0 (.mv (.t 16))]) (.ops [q 17 (.mv (.t 2)),q 18 (.bin .add (.t 17) (.c (.v (.int .i64 8)))),q 2 (.mv (.t 18))])) .skip)) (.seq (.ops [q 19 (.mv (.t 2)),q 20 (.mv (.t 0)),q 21 (.conv .u8 (.t 20)),q 22 (.si (.c (.v (.str (.mk #[0,1,2,2,3,3,3,3,4,4,4,4,4,4,4,4,5,5,5,5,5,5,5,5,5,5,5,5,5,5,5,5,6,6,6,6,6,6,6,6,6,6,6,6,6,6,6,6,6,6,6,6,6,6,6,6,6,6,6,6,6,6,6,6,7,7,7,7,7,7,7,7,7,7,7,7,7,7,7,7,7,7,7,7,7,7,7,7,7,7,7,7,7,7,7,7,7,7,7,7,7,7,7,7,7,7,7,7,7,7,7,7,7,7,7,7,7,7,7,7,7,7,7,7,7,7,7,7,8,8,8,8,8,8,8,8,8,8,8,8,8,8,8,8,8,8,8,8,8,8,8,8,8,8,8,8,8,8,8,8,8,8,8,8,8,8,8,8,8,8,8,8,8,8,8,8,8,8,8,8,8,8,8,8,8,8,8,8,8,8,8,8,8,8,8,8,8,8,8,8,8,8,8,8,8,8,8,8,8,8,8,8,8,8,8,8,8,8,8,8,8,8,8,8,8,8,8,8,8,8,8,8,8,8,8,8,8,8,8,8,8,8,8,8,8,8,8,8,8,8,8,8,8,8,8,8])))) (.t 21)),q 23 (.conv .i64 (.t 22)),q 24 (.bin .add (.t 19) (.t 23)),q 2 (.mv (.t 24))]) .ret)))))⟩
theorem k143 : cF Tryz.prog Tryz.f143 = some c143 := by kernel_rfl
def c144 : AF := ⟨2,30,[(4,none)],(.seq (.ops [q 4 (.mv (.c (.v (.int .i64 0))))]) (.seq (.seq (.ops [q 6 (.mv (.t 0)),q 7 (.len false (.t 6)),q 8 (.mv (.c (.v (.int .i64 0))))]) (.block 0 (.loop (.seq (.ops [q 9 (.bin .lss (.t 8) (.t 7))]) (.seq (.cond (.t 9) .skip (.exit 0)) (.seq (.block 1 (.seq (.ops [q 10 (.mv (.t 8)),q 5 (.mv (.t 10))]) (.seq (.reg [0,0,3,7,0,0,48,112,255] [q 11 (.mv (.t 0)),q 12 (.mv (.t 5)),q 13 (.ia (.t 11) (.t 12) 0),q 14 (.ld (.t 13) 0),q 15 (.mv (.t 1)),q 16 (.mv (.t 5)),q 17 (.ia (.t 15) (.t 16) 0),q 18 (.ld (.t 17) 0),q 19 (.bin .neq (.t 14) (.t 18))]) (.cond (.t 19) (.seq (.seq (.reg [0,0,3,7,0,0,48,112,255] [q 20 (.mv (.t 0)),q 21 (.mv (.t 5)),q 22 (.ia (.t 20) (.t 21) 0),q 23 (.ld (.t 22) 0),q 24 (.mv (.t 1)),q 25 (.mv (.t 5)),q 26 (.ia (.t 24) (.t 25) 0),q 27 (.ld (.t 26) 0),q 28 (.bin .lss (.t 23) (.t 27))]) (.cond (.t 28) (.seq (.ops [q 4 (.mv (.c (.v (.int .i64 (-1)))))]) .ret) .skip)) (.seq (.ops [q 4 (.mv (.c (.v (.int .i64 1))))]) .ret)) .skip)))) (.ops [q 29 (.bin .add (.t 8) (.c (.v (.int .i64 1)))),q 8 (.mv (.t 29))]))))))) (.seq (.ops [q 4 (.mv (.c (.v (.int .i64 0))))]) .ret)))⟩
theorem k144 : cF Tryz.prog Tryz.f144 = some c144 := by kernel_rfl
def c157 : AF := ⟨2,10,[(4,none)],(.seq (.ops [q 2 (.box (.t 0)),q 3 (.box (.t 1)),q 4 (.mv (.c (.v (.bool false))))]) (.seq (.reg [0,1,0,7,15,31] [q 5 (.ld (.t 2) 4),q 6 (.call 170 [(.t 5)]),q 7 (.ld (.t 3) 4),q 8 (.call 170 [(.t 7)]),q 9 (.call 169 [(.t 6),(.t 8)]),q 4 (.mv (.t 9))]) .ret))⟩
theorem k157 : cF Tryz.prog Tryz.f157 = some c157 := by kernel_rfl
def c158 : AF := ⟨2,24,[(4,none)],(.seq (.ops [q 2 (.box (.t 0)),q 3 (.box (.t 1)),q 4 (.mv (.c (.v (.bool false))))]) (.seq (.ops [q 5 (.fa (.t 2) 0),q 6 (.ld (.t 5) 0),q 7 (.fa (.t 3) 0),q 8 (.ld (.t 7) 0),q 9 (.bin .lss (.t 6) (.t 8)),q 10 (.mv (.t 9)),⟨(some 11),(some (10,false)),.fa (.t 2) 0⟩,⟨(some 12),(some (10,false)),.ld (.t 11) 0⟩,⟨(some 13),(some (10,false)),.fa (.t 3) 0⟩,⟨(some 14),(some (10,false)),.ld (.t 13) 0⟩,⟨(some 15),(some (10,false)),.bin .eql (.t 12) (.t 14)⟩,⟨(some 16),(some (10,false)),.mv (.t 15)⟩,⟨(some 17),(some (16,true)),.fa (.t 2) 1⟩,⟨(some 18),(some (16,true)),.ld (.t 17) 0⟩,⟨(some 19),(some (16,true)),.fa (.t 3) 1⟩,⟨(some 20),(some (16,true)),.ld (.t 19) 0⟩,⟨(some 21),(some (16,true)),.bin .lss (.t 18) (.t 20)⟩,⟨(some 22),(some (10,false)),.pick (.t 16) (.t 21) (.c (.v (.bool false)))⟩,q 23 (.pick (.t 10) (.c (.v (.bool true))) (.t 22)),q 4 (.mv (.t 23))]) .ret))⟩
theorem k158 : cF Tryz.prog Tryz.f158 = some c158 := by kernel_rfl
def c169 : AF := ⟨2,41,[(4,none)],(.seq (.ops [q 4 (.mv (.c (.v (.bool false))))]) (.seq (.seq (.ops [q 5 (.mv (.c (.v (.int .i64 0))))]) (.block 0 (.loop (.seq (.seq (.ops [q 6 (.mv (.t 5)),q 7 (.mv (.t 0)),q 8 (.len false (.t 7)),q 9 (.bin .lss (.t 6) (.t 8)),q 10 (.mv (.t 9)),⟨(some 11),(some (10,true)),.mv (.t 5)⟩,⟨(some 12),(some (10,true)),.mv (.t 1)⟩,⟨(some 13),(some (10,true)),.len false (.t 12)⟩,⟨(some 14),(some (10,true)),.bin .lss (.t 11) (.t 13)⟩,q 15 (.pick (.t 10) (.t 14) (.c (.v (.bool false))))]) (.cond (.t 15) .skip (.exit 0))) (.seq (.block 1 (.seq (.reg [0,0,3,7,0,0,48,112,255] [q 18 (.mv (.t 0)),q 19 (.mv (.t 5)),q 20 (.ia (.t 18) (.t 19) 0),q 21 (.ld (.t 20) 0),q 22 (.mv (.t 1)),q 23 (.mv (.t 5)),q 24 (.ia (.t 22) (.t 23) 0),q 25 (.ld (.t 24) 0),q 26 (.bin .neq (.t 21) (.t 25))]) (.cond (.t 26) (.seq (.reg [0,0,3,7,0,0,48,112,255,511] [q 27 (.mv (.t 0)),q 28 (.mv (.t 5)),q 29 (.ia (.t 27) (.t 28) 0),q 30 (.ld (.t 29) 0),q 31 (.mv (.t 1)),q 32 (.mv (.t 5)),q 33 (.ia (.t 31) (.t 32) 0),q 34 (.ld (.t 33) 0),q 35 (.bin .lss (.t 30) (.t 34)),q 4 (.mv (.t 35))]) .ret) .skip))) (.ops [q 16 (.mv (.t 5)),q 17 (.bin .add (.t 16) (.c (.v (.int .i64 1)))),q 5 (.mv (.t 17))])))))) (.seq (.ops [q 36 (.mv (.t 0)),q 37 (.len false (.t 36)),q 38 (.mv (.t 1)),q 39 (.len false (.t 38)),q 40 (.bin .lss (.t 37) (.t 39)),q 4 (.mv (.t 40))]) .ret)))⟩
theorem k169 : cF Tryz.prog Tryz.f169 = some c169 := by kernel_rfl
def c170 : AF := ⟨1,12,[(2,none)],(.seq (.ops [q 1 (.box (.t 0)),q 2 (.mv (.c (.nil 0)))]) (.seq (.ops [q 3 (.fa (.t 1) 0),q 4 (.ld (.t 3) 0),q 5 (.fa (.t 1) 1),q 6 (.ld (.t 5) 0),q 7 (.fa (.t 1) 2),q 8 (.ld (.t 7) 0),q 9 (.fa (.t 1) 3),q 10 (.ld (.t 9) 0),q 11 (.bsl 0 2 [(.t 4),(.t 6),(.t 8),(.t 10)]),q 2 (.mv (.t 11))]) .ret))⟩
theorem k170 : cF Tryz.prog Tryz.f170 = some c170 := by kernel_rfl
end Go.Proofs.YtcnhcilpaplpcaaGreatDoorEv
namespace Go.Proofs.YtcnhcilpaplpcaaGreatDoorEv
open Go Go.Proofs
theorem mixed : Tryz.prog.follows .mixedOrders = true := by kernel_rfl
abbrev vi (n : Int) : A := .v (.int .i64 n)
abbrev vb (b : Bool) : A := .v (.bool b)
def is (l : List Int) : List V := l.map fun y => .int .i64 y
abbrev vis (l : List Int) : V := .sl 0 (is l)
abbrev no : Nat → Bool := fun _ => false
@[simp] theorem is_nil : is [] = [] := rfl
@[simp] theorem is_one (v : Int) : is [v] = [.int .i64 v] := rfl
@[simp] theorem is_set (l : List Int) (n : Nat) (v : Int) : (is l).set n (.int .i64 v) = is (l.set n v) := by simp [is, List.map_set]
@[simp] theorem is_len (l : List Int) : (is l).length = l.length := by simp [is]
@[simp] theorem is_get (l : List Int) (n : Nat) (K : V → Prop) : fA ((is l)[n]?) K = ∀ a, l[n]? = some a → K (.int .i64 a) := by unfold is; exact fA_map
@[simp] theorem is_rep (n : Nat) (k : Int) : List.replicate n (V.int .i64 k) = is (List.replicate n k) := by simp [is]
@[simp] theorem is_app (l : List Int) (v : Int) : is l ++ [.int .i64 v] = is (l ++ [v]) := by simp [is]
@[simp] theorem is_flat (l : List Int) : (∀ x, x ∈ is l → x.flat = true) ↔ True := by
  simp only [iff_true]
  intro x hx
  obtain ⟨y, _, rfl⟩ := List.mem_map.1 hx
  rfl
@[simp] theorem is_inj (a b : List Int) : is a = is b ↔ a = b := by
  constructor
  · intro h
    exact (List.map_inj_right (fun x y e => by cases e; rfl)).1 h
  · rintro rfl; rfl
theorem fill_set {α : Type} {l : List α} {i : Nat} {z a : α} (h : l[i]? = some a) : (l.take i ++ List.replicate (l.length - i) z).set i a = l.take (i + 1) ++ List.replicate (l.length - (i + 1)) z := by
  obtain ⟨h1, rfl⟩ := List.getElem?_eq_some_iff.1 h
  have e : (l.take i).length = i := by simp; omega
  have e2 : l.take (i + 1) = l.take i ++ [l[i]] := by rw [List.take_add_one, h]; rfl
  rw [show l.length - i = (l.length - (i + 1)) + 1 by omega, List.replicate_succ, List.set_append_right _ _ (by omega), e, Nat.sub_self, List.set_cons_zero, e2, List.append_assoc]
  rfl
theorem mLen : maxLen = 9223372036854775807 := by decide
set_option maxRecDepth 10000
end Go.Proofs.YtcnhcilpaplpcaaGreatDoorEv
namespace Go.Proofs
open Go.Shelf
shelf_lay LaysM.n173 Nm 173 at Tryz as Tryz.lays173
shelf_lay Lays.n156 Nm 156 at Tryz as Tryz.lays156
theorem Tryz.extra156 : Builder.Extra Tryz.prog Tryz.lays156_ren where
  sizeBuilder := by kernel_rfl
  liesBuilder := by kernel_rfl
  t5 := by kernel_rfl
  a5 := fun w => by kernel_rfl
  z5 := fun w => by kernel_rfl
  v5 := fun w => by kernel_rfl
  infoByte := by kernel_rfl
  cellsByte := by kernel_rfl
  sizeByte := by kernel_rfl
  neB5 := by decide
end Go.Proofs
namespace Go.Proofs.YtcnhcilpaplpcaaGreatDoorEv
open Go Go.Proofs Go.RowKit Go.Shelf Go.Lib Go.Sort
set_option maxRecDepth 100000
set_option maxHeartbeats 2000000
theorem sp_below2 {P : Program} {f : Nat} {fn : Func} (hf : P.funcs[f]? = some fn) (hb : fn.body.isSome = true) (hn : fn.name ≠ "runtime.NumGoroutine") {az : List A} {r : V} {u : Value}
    (hr : ∀ S w, Rep S w r u) (hc : ∀ O S μ w us, Rl w O S (fun i => ([] : List Ck)[i]?) μ S w → ARs (fun i => ([] : List Ck)[i]?) μ S w az us → Calls P f us.toArray w fun e w' => e = .returned u ∧ Below w.heap.size w w') : Sp P f az (.v r) [] := by
  refine ⟨⟨fn, hf, hb, hn⟩, fun S w us' O μ R h => ?_⟩
  refine (hc O S μ w us' R h).mono fun e w' ⟨he, B⟩ => ⟨u, S, μ, he, ?_, ?_, hr S w'⟩
  · exact ⟨R.tb, B.os.trans R.os, B.tape.trans R.tape, B.output.trans R.output, Nat.le_trans R.size B.size, fun k hk ho => (B.block k hk).trans (R.keep k hk ho), R.sub, R.new, fun b hb => Nat.lt_of_lt_of_le (R.lt b hb) B.size, fun i => by simp [CR], fun i c hi => by simp at hi, fun i j c d hi => by simp at hi⟩
  · exact ⟨fun _ h => h, fun b hb => B.block b (R.lt b hb), fun i u h => by simp [AR] at h, fun i c hi => by simp at hi⟩
theorem tab_of {w : World} {O S S' : Nat → Prop} {D : Nat → Option Ck} {μ : Nat → Nat × Nat} (R : Rl w O S D μ S' w) : TabIs Tryz.prog w "internal/strconv.uint64pow10" .u64 pow10Tab := by
  obtain ⟨_, _, cs, t, z, h, e⟩ := R.tb _ (List.Mem.head _)
  have hg : Tryz.prog.globalNamed "internal/strconv.uint64pow10" = some 1 := by kernel_rfl
  unfold TabIs World.var?
  rw [hg]
  simp only [Option.bind_some]
  rw [h]
  exact congrArg some e
theorem below_grow {w : World} (k : Nat) (os : Array Obj) : Below w.heap.size w (grow (w.drewN k) os) := by
  refine (below_drewN (Below.refl _ _) k).trans ⟨rfl, rfl, rfl, by simp [grow], fun j hj => ?_⟩
  show (w.heap ++ os)[j]? = w.heap[j]?
  rw [Array.getElem?_append_left hj]
theorem s_fmt (n : Int) (h0 : -9223372036854775808 ≤ n) (h1 : n ≤ 9223372036854775807) : Sp Tryz.prog 69 [vi n, vi 10] (.v (.str ⟨(Lib.itoa n).toArray⟩)) [] := by
  refine sp_below2 Tryz.func69 (by kernel_rfl) (by decide) (fun S w => rfl) fun O S μ w us R h => ?_
  simp only [ARs, AR, Rep] at h
  obtain ⟨u, us, rfl, rfl, v, us2, rfl, rfl, rfl⟩ := h
  refine (Any.strconv_FormatInt_10 Tryz.lays173 n h0 h1 w (tab_of R)).mono ?_
  rintro e w' ⟨rfl, k, os, rfl⟩
  exact ⟨rfl, below_grow k os⟩
theorem repR_strs {S : Nat → Prop} {w : World} : ∀ {xs : List ByteArray} {us : List Value}, RepR S w 0 (xs.map V.str) us → us = xs.map Value.string
  | [], us, h => h
  | x :: xs, us, ⟨u, us', h1, h2, _, _, h5⟩ => by
    have : u = .string x := h2
    subst this
    rw [h1, repR_strs h5]
    rfl
theorem s_join (xs : List ByteArray) (sep : ByteArray) (hN : xs.length ≤ 140737488355328) (hlen : (Lib.join (xs.map (·.data.toList)) sep.data.toList).length ≤ 140737488355328) : Sp Tryz.prog 89 [.v (.sl 0 (xs.map V.str)), .v (.str sep)] (.v (.str ⟨(Lib.join (xs.map (·.data.toList)) sep.data.toList).toArray⟩)) [] := by
  refine sp_below2 Tryz.func89 (by kernel_rfl) (by decide) (fun S w => rfl) fun O S μ w us R h => ?_
  simp only [ARs, AR, Rep, List.length_map] at h
  obtain ⟨u, us, rfl, ⟨A0, c, rfl, hc1, hc2, hr⟩, v, us2, rfl, rfl, rfl⟩ := h
  by_cases hx : xs = []
  · subst hx
    exact (Any.strings_Join_none Tryz.lays156 Tryz.extra156 A0 c sep w).mono fun e w' ⟨he, hw⟩ => ⟨he, hw ▸ Below.refl _ _⟩
  obtain ⟨b, vs, rfl, h5, h7⟩ := hr.row 0 (by simpa using hx)
  have hvs := repR_strs h5
  subst hvs
  obtain ⟨bk, o, sp⟩ := b
  obtain ⟨x0, xs0, rfl⟩ : ∃ x0 xs0, xs = x0 :: xs0 := by
    cases xs with
    | nil => exact absurd rfl hx
    | cons x xs => exact ⟨x, xs, rfl⟩
  have h0 := h7 0 (.string x0) rfl
  have hsp : sp = none ∧ bk < w.heap.size := by
    simp only [Nat.zero_mul, Nat.add_zero, Addr.add, if_true, World.cell?] at h0
    split at h0
    · rename_i cs t z hh
      refine ⟨?_, (Array.getElem?_eq_some_iff.1 hh).1⟩
      cases sp with
      | none => rfl
      | some k => simp at h0
    · cases h0
  obtain ⟨rfl, hbk⟩ := hsp
  exact Any.strings_Join Tryz.lays156 Tryz.extra156 bk o c (x0 :: xs0) sep w (fun j x hj => by
    have := h7 j (.string x) (by rw [List.getElem?_map, hj]; rfl)
    rw [Nat.zero_mul, Nat.zero_add] at this
    unfold Addr.add at this
    split at this
    · rename_i e; subst e; exact this
    · exact this) hbk hN hc1 hlen
end Go.Proofs.YtcnhcilpaplpcaaGreatDoorEv
namespace Go.Proofs.YtcnhcilpaplpcaaGreatDoorEv
open Go Go.Proofs
set_option maxRecDepth 10000
abbrev aV (x y : Int) : A := .v (.ag [.int .i64 x, .int .i64 y])
abbrev aL (a b c : Int) : A := .v (.ag [.int .i64 a, .int .i64 b, .int .i64 c])
abbrev aM (a b c d : Int) : A := .v (.ag [.int .i64 a, .int .i64 b, .int .i64 c, .int .i64 d])
abbrev aG (a b c d x y : Int) : A := .v (.ag [.int .i64 a, .int .i64 b, .int .i64 c, .int .i64 d, .int .i64 x, .int .i64 y])
def vv (v : Int × Int) : V := .ag [.int .i64 v.1, .int .i64 v.2]
def vs (l : List (Int × Int)) : List V := l.map vv
@[simp] theorem vs_nil : vs [] = [] := rfl
@[simp] theorem vs_len (l : List (Int × Int)) : (vs l).length = l.length := by simp [vs]
@[simp] theorem vs_get (l : List (Int × Int)) (n : Nat) (K : V → Prop) : fA ((vs l)[n]?) K = ∀ a, l[n]? = some a → K (.ag [.int .i64 a.1, .int .i64 a.2]) := by unfold vs; exact fA_map
@[simp] theorem vs_app (l : List (Int × Int)) (x y : Int) : vs l ++ [.ag [.int .i64 x, .int .i64 y]] = vs (l ++ [(x, y)]) := by simp [vs, vv]
@[simp] theorem vs_set (l : List (Int × Int)) (n : Nat) (x y : Int) : (vs l).set n (.ag [.int .i64 x, .int .i64 y]) = vs (l.set n (x, y)) := by simp [vs, vv, List.map_set]
@[simp] theorem vs_rep (n : Nat) (x y : Int) : List.replicate n (V.ag [.int .i64 x, .int .i64 y]) = vs (List.replicate n (x, y)) := by simp [vs, vv]
@[simp] theorem vs_inj (a b : List (Int × Int)) : vs a = vs b ↔ a = b := by
  constructor
  · intro h
    exact (List.map_inj_right (fun x y e => by cases x; cases y; simp only [vv, V.ag.injEq, List.cons.injEq, V.int.injEq] at e; simp_all)).1 h
  · rintro rfl; rfl
@[simp] theorem vs_flat (l : List (Int × Int)) : (∀ x, x ∈ vs l → x.flat = true) ↔ True := by
  simp only [iff_true]
  intro x hx
  obtain ⟨y, _, rfl⟩ := List.mem_map.1 hx
  rfl
theorem s_within (n a b : Int) : Sp Tryz.prog 56 [vi n, vi a, vi b] (vb (decide (a ≤ n ∧ n ≤ b))) [] := by
  refine sp_of (m := no) mixed Tryz.func56 k56 ?_
  simp -dsimp [q]
  constructor
  · intro h _; exact h
  · intro h1 h2; omega
theorem s_in (n a b : Int) : Sp Tryz.prog 40 [vi n, vi a, vi b] (vb (decide (a ≤ n ∧ n ≤ b))) [] := by
  refine sp_of (m := no) mixed Tryz.func40 k40 ?_
  simp -dsimp [q]
  constructor
  · intro h _; exact h
  · intro h1 h2; omega
theorem s_isCo (n : Int) : Sp Tryz.prog 88 [vi n] (vb (decide (-1000 ≤ n ∧ n ≤ 1000))) [] := by
  refine sp_of (m := no) mixed Tryz.func88 k88 ?_
  simp -dsimp [q]
  refine call_of (s_within _ _ _) rfl (by simp) ?_
  try simp -dsimp
  try (first | exact fp_one (by decide) | refine fp_and (by decide) ?_)
def okV (x y : Int) : Bool := decide (-1000 ≤ x ∧ x ≤ 1000) && decide (-1000 ≤ y ∧ y ≤ 1000)
theorem okV_spec {x y : Int} : okV x y = true ↔ (-1000 ≤ x ∧ x ≤ 1000) ∧ -1000 ≤ y ∧ y ≤ 1000 := by simp [okV]
theorem s_isVec (x y : Int) : Sp Tryz.prog 67 [aV x y] (vb (okV x y)) [] := by
  refine sp_of (m := no) mixed Tryz.func67 k67 ?_
  simp -dsimp [q]
  refine call_of (s_isCo _) rfl (by simp) ?_
  unfold okV
  generalize decide (-1000 ≤ x ∧ x ≤ 1000) = b
  cases b
  · simp -dsimp
  simp -dsimp
  refine call_of (s_isCo _) rfl (by simp) ?_
  try simp -dsimp
  try (first | exact fp_one (by decide) | refine fp_and (by decide) ?_)
theorem s_sisVec (x y : Int) : Sp Tryz.prog 50 [aV x y] (vb (okV x y)) [] := by
  refine sp_of (m := no) mixed Tryz.func50 k50 ?_
  simp -dsimp [q]
  refine call_of (s_in _ _ _) rfl (by simp) ?_
  unfold okV
  generalize decide (-1000 ≤ x ∧ x ≤ 1000) = b
  cases b
  · simp -dsimp
  simp -dsimp
  refine call_of (s_in _ _ _) rfl (by simp) ?_
  try simp -dsimp
  try (first | exact fp_one (by decide) | refine fp_and (by decide) ?_)
theorem s_add (x y u v : Int) (h1 : -4000000000000 ≤ x ∧ x ≤ 4000000000000) (h2 : -4000000000000 ≤ y ∧ y ≤ 4000000000000) (h3 : -4000000000000 ≤ u ∧ u ≤ 4000000000000) (h4 : -4000000000000 ≤ v ∧ v ≤ 4000000000000) : Sp Tryz.prog 109 [aV x y, aV u v] (aV (x + u) (y + v)) [] := by
  refine sp_of (m := no) mixed Tryz.func109 k109 ?_
  simp -dsimp [q]
  rw [w64 (by omega) (by omega), w64 (by omega) (by omega)]
  exact ⟨rfl, rfl⟩
theorem s_sadd (x y u v : Int) (h1 : -4000000000000 ≤ x ∧ x ≤ 4000000000000) (h2 : -4000000000000 ≤ y ∧ y ≤ 4000000000000) (h3 : -4000000000000 ≤ u ∧ u ≤ 4000000000000) (h4 : -4000000000000 ≤ v ∧ v ≤ 4000000000000) : Sp Tryz.prog 103 [aV x y, aV u v] (aV (x + u) (y + v)) [] := by
  refine sp_of (m := no) mixed Tryz.func103 k103 ?_
  simp -dsimp [q]
  rw [w64 (by omega) (by omega), w64 (by omega) (by omega)]
  exact ⟨rfl, rfl⟩
theorem tmod_lt {a b : Int} (hb : 0 < b) : -b < a.tmod b ∧ a.tmod b < b := by
  rw [Int.tmod_eq_emod]
  have h1 := Int.emod_nonneg a (show b ≠ 0 by omega)
  have h2 := Int.emod_lt_of_pos a hb
  have h3 : (b.natAbs : Int) = b := by omega
  split <;> omega
theorem mod_a {a b : Int} (hb : 0 < b) (h : a.tmod b < 0) : a.tmod b + b = a % b := by
  rw [Int.tmod_eq_emod] at h ⊢
  have h1 := Int.emod_nonneg a (show b ≠ 0 by omega)
  have h3 : (b.natAbs : Int) = b := by omega
  split at h <;> rename_i hc
  · omega
  · rw [if_neg hc]; omega
theorem mod_b {a b : Int} (hb : 0 < b) (h : 0 ≤ a.tmod b) : a.tmod b = a % b := by
  rw [Int.tmod_eq_emod] at h ⊢
  have h1 := Int.emod_lt_of_pos a hb
  have h3 : (b.natAbs : Int) = b := by omega
  split at h <;> rename_i hc
  · rw [if_pos hc]; omega
  · rw [if_neg hc]; omega
theorem s_mod (a b : Int) (hb : 0 < b ∧ b ≤ 1000000) : Sp Tryz.prog 133 [vi a, vi b] (vi (a % b)) [] := by
  refine sp_of (m := no) mixed Tryz.func133 k133 ?_
  simp -dsimp [q]
  have h1 := tmod_lt (a := a) hb.1
  refine ⟨by omega, ?_⟩
  rw [w64 (by omega) (by omega), mod_b hb.1 (Int.tmod_nonneg _ (by omega))]
  by_cases h : a.tmod b < 0
  · rw [mod_a hb.1 h, Int.emod_emod_of_dvd _ (Int.dvd_refl b)]
  · rw [mod_b hb.1 (by omega)]
    simp
theorem s_smod (a b : Int) (hb : 0 < b ∧ b ≤ 1000000) : Sp Tryz.prog 131 [vi a, vi b] (vi (a % b)) [] := by
  refine sp_of (m := no) mixed Tryz.func131 k131 ?_
  simp -dsimp [q]
  have h1 := tmod_lt (a := a) hb.1
  refine ⟨by omega, fun h => ?_, fun h => mod_b hb.1 h⟩
  rw [w64 (by omega) (by omega), mod_a hb.1 h]
/-! lattices -/
def okL (a b c : Int) : Bool := decide (1 ≤ a ∧ a ≤ 64) && decide (1 ≤ c ∧ c ≤ 64) && decide (0 ≤ b ∧ b ≤ a - 1) && decide (a * c ≤ 64)
theorem okL_spec {a b c : Int} : okL a b c = true ↔ (1 ≤ a ∧ a ≤ 64) ∧ (1 ≤ c ∧ c ≤ 64) ∧ (0 ≤ b ∧ b < a) ∧ a * c ≤ 64 := by
  simp [okL]; omega
theorem ac_pos {a c : Int} (ha : 1 ≤ a) (hc : 1 ≤ c) : 1 ≤ a * c := by
  have := Int.mul_le_mul ha hc (by omega) (by omega)
  omega
theorem ac_hi {a c : Int} (ha : 1 ≤ a ∧ a ≤ 64) (hc : 1 ≤ c ∧ c ≤ 64) : a * c ≤ 4096 := by
  have := Int.mul_le_mul ha.2 hc.2 (by omega) (by omega)
  omega
end Go.Proofs.YtcnhcilpaplpcaaGreatDoorEv
namespace Go.Proofs.YtcnhcilpaplpcaaGreatDoorEv
open Go Go.Proofs
set_option maxRecDepth 10000
set_option maxHeartbeats 2000000
abbrev aT (s : ByteArray) : A := .v (.str s)
def bst (l : List UInt8) : ByteArray := ⟨l.toArray⟩
@[simp] theorem bst_size (l : List UInt8) : (bst l).size = l.length := by simp [bst, ByteArray.size]
@[simp] theorem bst_app (a b : List UInt8) : bst a ++ bst b = bst (a ++ b) := by
  apply ByteArray.ext
  simp [bst, ByteArray.data_append]
@[simp] theorem bst_data (l : List UInt8) : (bst l).data.toList = l := by simp [bst]
theorem dec_len : ∀ n : Nat, (Lib.decDigits n).length ≤ n + 1 := by
  intro n
  induction n using Nat.strongRecOn with
  | _ n ih =>
    rw [Lib.decDigits]
    split
    · simp
    · rw [List.length_append]
      have := ih (n / 10) (by omega)
      simp only [List.length_singleton]
      omega
theorem s_text (n : Int) (h0 : -9223372036854775808 ≤ n) (h1 : n ≤ 9223372036854775807) : Sp Tryz.prog 47 [vi n] (aT (bst (Lib.itoa n))) [] := by
  refine sp_of (m := no) mixed Tryz.func47 k47 ?_
  simp -dsimp [q]
  refine call_of ((s_fmt n h0 h1 : Sp Tryz.prog _ [vi n, vi 10] (aT (bst (Lib.itoa n))) [])) rfl (by simp) ?_
  try simp -dsimp
  try (first | exact fp_one (by decide) | refine fp_and (by decide) ?_)
  try rfl
theorem s_sdec : ∀ n : Nat, n ≤ 1000000000000 → Sp Tryz.prog 42 [vi n] (aT (bst (Lib.decDigits n))) [] := by
  intro n
  induction n using Nat.strongRecOn with
  | _ n ih =>
    intro hn
    rw [Lib.decDigits]
    by_cases h : n < 10
    · rw [dif_pos h]
      have e1 : IntKind.i64.wrap (48 + (n : Int)) = 48 + n := w64 (by omega) (by omega)
      have e2 : IntKind.u8.wrap (48 + (n : Int)) = 48 + n := Int.emod_eq_of_lt (by omega) (by show (48 + (n : Int)) < 256; omega)
      generalize hT : bst [UInt8.ofNat (48 + n)] = T
      refine sp_of (m := no) mixed Tryz.func42 k42 ?_
      simp -dsimp [q, show ((n : Int) < 10) by omega, e1, e2, unBs]
      refine ⟨⟨by omega, by omega⟩, ?_⟩
      rw [← hT, show (48 + (n : Int)).toNat = 48 + n by omega]
      rfl
    · rw [dif_neg h]
      have w := ih (n / 10) (by omega) (by omega)
      have hl := dec_len (n / 10)
      have e0 : IntKind.i64.wrap ((n : Int) / 10) = ((n / 10 : Nat) : Int) := by rw [w64 (by omega) (by omega)]; omega
      have e4 : (n : Int).tmod 10 = ((n % 10 : Nat) : Int) := by rw [Int.tmod_eq_emod_of_nonneg (by omega)]; omega
      have e5 : IntKind.i64.wrap (48 + ((n % 10 : Nat) : Int)) = 48 + ((n % 10 : Nat) : Int) := w64 (by omega) (by omega)
      have e6 : (0 : Int) ≤ 48 + ((n % 10 : Nat) : Int) ∧ 48 + ((n % 10 : Nat) : Int) < 256 := by omega
      have e2 : IntKind.u8.wrap (48 + ((n % 10 : Nat) : Int)) = 48 + ((n % 10 : Nat) : Int) := Int.emod_eq_of_lt (by omega) (by show (48 + ((n % 10 : Nat) : Int)) < 256; omega)
      generalize hT : bst (Lib.decDigits (n / 10) ++ [UInt8.ofNat (48 + n % 10)]) = T
      generalize hD : Lib.decDigits (n / 10) = dd at *
      refine sp_of (m := no) mixed Tryz.func42 k42 ?_
      simp -dsimp [q, show ¬ ((n : Int) < 10) by omega]
      rw [e0]
      refine call_of (w) rfl (by simp) ?_
      try simp -dsimp
      try (first | exact fp_one (by decide) | refine fp_and (by decide) ?_)
      rw [e4, e5, e2]
      simp only [unBs, if_pos e6, Option.map_some]
      generalize hr : n % 10 = r at *
      simp -dsimp
      rw [← hT, show (48 + (r : Int)).toNat = 48 + r by omega]
      exact ⟨by show dd.length + 1 ≤ _; omega, by decide, bst_app dd [UInt8.ofNat (48 + r)]⟩
theorem itoa_nn {n : Int} (h : 0 ≤ n) : Lib.itoa n = Lib.decDigits n.toNat := by unfold Lib.itoa; rw [if_neg (by omega)]
theorem itoa_len {n : Int} (h : n.natAbs ≤ 1000000) : (Lib.itoa n).length ≤ 1000002 := by
  unfold Lib.itoa
  split
  · have := dec_len n.natAbs
    simp only [List.length_cons]
    omega
  · have := dec_len n.toNat
    omega
theorem s_snum (n : Int) (h : n.natAbs ≤ 1000000) : Sp Tryz.prog 62 [vi n] (aT (bst (Lib.itoa n))) [] := by
  refine sp_of (m := no) mixed Tryz.func62 k62 ?_
  unfold Lib.itoa
  by_cases hn : n < 0
  · have w := s_sdec n.natAbs (by omega)
    have hl := dec_len n.natAbs
    have e1 : IntKind.i64.wrap (0 - n) = (n.natAbs : Int) := by rw [w64 (by omega) (by omega)]; omega
    have e2 : IntKind.i64.wrap (-n) = (n.natAbs : Int) := by rw [w64 (by omega) (by omega)]; omega
    generalize hT : bst (if n < 0 then 45 :: Lib.decDigits n.natAbs else Lib.decDigits n.toNat) = T
    generalize Lib.decDigits n.natAbs = dd at *
    simp -dsimp [q, hn, e1, e2]
    refine call_of (w) rfl (by simp) ?_
    try simp -dsimp
    try (first | exact fp_one (by decide) | refine fp_and (by decide) ?_)
    exact ⟨by show 1 + dd.length ≤ _; omega, by rw [← hT, if_pos hn]; exact bst_app [45] dd⟩
  · have w := s_sdec n.toNat (by omega)
    rw [if_neg hn]
    rw [show ((n.toNat : Nat) : Int) = n by omega] at w
    simp -dsimp [q, hn]
    refine call_of (w) rfl (by simp) ?_
    try simp -dsimp
    try (first | exact fp_one (by decide) | refine fp_and (by decide) ?_)
/-! vectors -/
def vtx (x y : Int) : List UInt8 := Lib.itoa x ++ [44] ++ Lib.itoa y
theorem s_svt (x y : Int) (h : okV x y = true) : Sp Tryz.prog 41 [aV x y] (aT (bst (vtx x y))) [] := by
  have w := s_sisVec x y
  rw [h] at w
  obtain ⟨h1, h2⟩ := okV_spec.1 h
  have w1 := s_snum x (by omega)
  have w2 := s_snum y (by omega)
  have l1 := itoa_len (n := x) (by omega)
  have l2 := itoa_len (n := y) (by omega)
  unfold vtx
  generalize Lib.itoa x = a at *
  generalize Lib.itoa y = b at *
  refine sp_of (m := no) mixed Tryz.func41 k41 ?_
  simp -dsimp [q]
  refine call_of (w) rfl (by simp) ?_
  try simp -dsimp
  try (first | exact fp_one (by decide) | refine fp_and (by decide) ?_)
  refine call_of (w1) rfl (by simp) ?_
  try simp -dsimp
  try (first | exact fp_one (by decide) | refine fp_and (by decide) ?_)
  refine ⟨by show a.length + 1 ≤ _; omega, ?_⟩
  have e1 : bst a ++ (⟨#[44]⟩ : ByteArray) = bst (a ++ [44]) := bst_app a [44]
  rw [e1]
  refine call_of (w2) rfl (by simp) ?_
  try simp -dsimp
  try (first | exact fp_one (by decide) | refine fp_and (by decide) ?_)
  omega
def sts (l : List ByteArray) : List V := l.map V.str
@[simp] theorem sts_nil : sts [] = [] := rfl
@[simp] theorem sts_len (l : List ByteArray) : (sts l).length = l.length := by simp [sts]
@[simp] theorem sts_app (l : List ByteArray) (s : ByteArray) : sts l ++ [.str s] = sts (l ++ [s]) := by simp [sts]
def wds (l : List Int) : List ByteArray := l.map fun n => bst (Lib.itoa n)
theorem s_joined (l : List Int) (sep : ByteArray) (hl : l.length ≤ 1048576) (hw : ∀ n ∈ l, n.natAbs ≤ 1000000) (hj : (Lib.join (l.map Lib.itoa) sep.data.toList).length ≤ 140737488355328) : Sp Tryz.prog 68 [aT sep, .v (vis l)] (aT (bst (Lib.join (l.map Lib.itoa) sep.data.toList))) [] := by
  have ew : (wds l).map (·.data.toList) = l.map Lib.itoa := by simp [wds, Function.comp_def]
  have w3 := s_join (wds l) sep (by simp [wds]; omega) (by rw [ew]; exact hj)
  rw [ew] at w3
  have hlen : (wds l).length = l.length := by simp [wds]
  have hget : ∀ (i : Nat) n, l[i]? = some n → (wds l)[i]? = some (bst (Lib.itoa n)) := fun i n h => by simp [wds, h]
  generalize wds l = W at *
  generalize Lib.join (l.map Lib.itoa) sep.data.toList = v at *
  refine sp_of (m := no) mixed Tryz.func68 k68 ?_
  simp -dsimp [q]
  refine awp_it (true :: false :: false :: false :: false :: true :: false :: false :: false :: true :: true :: true :: []) (fun i : Nat => [(11, vi i)]) (fun i => [(0, .row 0 9 (sts (W.take i)))]) (fun i => i ≤ l.length) (fun i => l.length - i) 0 ?_
  intro s0 e
  simp -dsimp at e
  subst e
  refine ⟨?_, ?_⟩
  · simp
  intro i hi
  simp -dsimp
  refine ⟨fun h1 => ⟨h1, fun n hn => ?_⟩, fun h1 => ?_⟩
  · have hb := hw n (List.mem_of_getElem? hn)
    have w1 := s_text n (by omega) (by omega)
    have hg := hget i n hn
    have htl : (W.take i).length ≤ 1048576 := by rw [List.length_take]; omega
    refine call_of (w1) rfl (by simp) ?_
    try simp -dsimp
    try (first | exact fp_one (by decide) | refine fp_and (by decide) ?_)
    refine ⟨⟨by simp at htl ⊢; omega, by simp at htl ⊢; omega⟩, i + 1, ⟨by rw [w64 (by omega) (by omega)]; simp, ?_⟩, by omega, by omega⟩
    rw [List.take_add_one, hg]
    simp
  · have : i = l.length := by omega
    subst this
    rw [List.take_of_length_le (by omega)]
    refine call_of ((w3 : Sp Tryz.prog _ [.v (.sl 0 (sts W)), aT sep] (aT (bst v)) [])) rfl (by simp) ?_
    try simp -dsimp
    try (first | exact fp_one (by decide) | refine fp_and (by decide) ?_)
    try rfl
theorem s_vt (x y : Int) (h : okV x y = true) : Sp Tryz.prog 46 [aV x y] (aT (bst (vtx x y))) [] := by
  have w := s_isVec x y
  rw [h] at w
  obtain ⟨h1, h2⟩ := okV_spec.1 h
  have l1 := itoa_len (n := x) (by omega)
  have l2 := itoa_len (n := y) (by omega)
  have ej : Lib.join ([x, y].map Lib.itoa) (⟨#[44]⟩ : ByteArray).data.toList = vtx x y := by
    simp [Lib.join, List.intercalate, vtx]
  have w2 := s_joined [x, y] ⟨#[44]⟩ (by simp) (by intro n hn; simp at hn; omega) (by rw [ej]; simp only [vtx, List.length_append, List.length_singleton]; omega)
  rw [ej] at w2
  generalize vtx x y = v at *
  refine sp_of (m := no) mixed Tryz.func46 k46 ?_
  simp -dsimp [q]
  refine call_of (w) rfl (by simp) ?_
  try simp -dsimp
  try (first | exact fp_one (by decide) | refine fp_and (by decide) ?_)
  refine call_of ((w2 : Sp Tryz.prog _ [aT ⟨#[44]⟩, .v (.sl 0 [.int .i64 x, .int .i64 y])] (aT (bst v)) [])) rfl (by simp) ?_
  try simp -dsimp
  try (first | exact fp_one (by decide) | refine fp_and (by decide) ?_)
end Go.Proofs.YtcnhcilpaplpcaaGreatDoorEv
namespace Go.Proofs.YtcnhcilpaplpcaaGreatDoorEv
open Go Go.Proofs
set_option maxRecDepth 10000
set_option maxHeartbeats 2000000
theorem bst_get (l : List UInt8) (n : Nat) : (bst l)[n]? = l[n]? := by
  have h := bst_size l
  by_cases hn : n < l.length
  · rw [List.getElem?_eq_getElem hn]
    have e : (bst l)[n]? = some ((bst l)[n]'(by omega)) := by simp [getElem?_def, h, hn]
    rw [e]
    rfl
  · rw [List.getElem?_eq_none (by omega)]
    simp [getElem?_def, h, hn]
@[simp] theorem bst_fA (l : List UInt8) (n : Nat) (K : UInt8 → Prop) : fA ((bst l)[n]?) K = ∀ b, l[n]? = some b → K b := by
  rw [bst_get]
  rfl
theorem bst_ext (l : List UInt8) (a b : Nat) : (bst l).extract a b = bst ((l.take b).drop a) := by
  apply ByteArray.ext
  simp [bst, ByteArray.data_extract, List.drop_take]
theorem drop_seg {s : List UInt8} {st i : Nat} {b : UInt8} (h : s[i]? = some b) (hst : st ≤ i) : s.drop st = (s.drop st).take (i - st) ++ b :: s.drop (i + 1) := by
  obtain ⟨hi, e⟩ := List.getElem?_eq_some_iff.1 h
  conv => lhs; rw [← List.take_append_drop (i - st) (s.drop st)]
  rw [List.drop_drop, show st + (i - st) = i by omega, List.drop_eq_getElem_cons hi, e]
theorem take_seg {s : List UInt8} {st i : Nat} {b : UInt8} (h : s[i]? = some b) (hst : st ≤ i) : (s.drop st).take (i + 1 - st) = (s.drop st).take (i - st) ++ [b] := by
  rw [show i + 1 - st = i - st + 1 by omega, List.take_add_one, List.getElem?_drop, show st + (i - st) = i by omega, h]
  rfl
theorem s_spl (s : List UInt8) (c : UInt8) (hs : s.length ≤ 1048576) : Sp Tryz.prog 28 [aT (bst s), .v (.int .u8 c.toNat)] (.sli 0) [.row 0 9 (sts ((spl c s).map bst))] := by
  refine sp_of (m := no) mixed Tryz.func28 k28 ?_
  simp -dsimp [q]
  refine awp_it (true :: true :: false :: false :: false :: true :: true :: true :: []) (fun x : Nat × Nat × List (List UInt8) => [(6, vi x.2.1), (7, vi x.1)]) (fun x => [(0, .row 0 9 (sts (x.2.2.map bst)))]) (fun x => x.2.2.length ≤ x.1 ∧ ((x.1 ≤ s.length ∧ x.2.1 ≤ x.1 ∧ spl c s = x.2.2 ++ spl c (s.drop x.2.1) ∧ c ∉ (s.drop x.2.1).take (x.1 - x.2.1)) ∨ (x.1 = s.length + 1 ∧ spl c s = x.2.2))) (fun x => s.length + 1 - x.1) (0, 0, []) ?_
  intro s0 e
  simp -dsimp at e
  subst e
  refine ⟨?_, ?_⟩
  · simp
  rintro ⟨i, st, P⟩ ⟨hlen, hx⟩
  simp only at hlen hx
  simp -dsimp [-Prod.forall, -Prod.exists]
  refine ⟨fun hi => ?_, fun hi => ?_⟩
  · obtain ⟨hst, hspl, hno⟩ : st ≤ i ∧ spl c s = P ++ spl c (s.drop st) ∧ ¬ c ∈ (s.drop st).take (i - st) := by
      rcases hx with ⟨_, h⟩ | ⟨h, _⟩
      · exact h
      · omega
    have hw : IntKind.i64.wrap ((i : Int) + 1) = ((i + 1 : Nat) : Int) := by rw [w64 (by omega) (by omega)]; simp
    refine ⟨fun hne => ⟨by omega, fun b hb => ⟨fun hc => ?_, fun hc => ?_⟩⟩, fun he => ?_⟩
    · have hbc : b = c := UInt8.toNat_inj.1 (by omega)
      subst hbc
      refine ⟨⟨hst, hi⟩, by omega, (i + 1, i + 1, P ++ [(s.drop st).take (i - st)]), ⟨⟨hw, hw⟩, ?_⟩, ⟨by simp; omega, .inl ⟨by omega, Nat.le_refl _, ?_, by simp⟩⟩, by simp only; omega⟩
      · simp only [bst_ext, List.drop_take, List.map_append, List.map_cons, List.map_nil]
      · simp only
        rw [hspl]
        conv => lhs; rw [drop_seg hb hst, spl_hit _ _ hno]
        simp
    · have hbc : ¬ c = b := fun e => hc (by rw [e])
      refine ⟨(i + 1, st, P), ⟨⟨rfl, hw⟩, rfl⟩, ⟨by simp only; omega, .inl ⟨by omega, by simp only; omega, hspl, ?_⟩⟩, by simp only; omega⟩
      simp only
      rw [take_seg hb hst]
      simp [hno, hbc]
    · have he : i = s.length := by omega
      have hp : (s.drop st).take (i - st) = s.drop st := List.take_of_length_le (by simp; omega)
      rw [hp] at hno
      refine ⟨⟨hst, hi⟩, by omega, (i + 1, i + 1, P ++ [s.drop st]), ⟨⟨hw, hw⟩, ?_⟩, ⟨by simp; omega, .inr ⟨by simp only; omega, ?_⟩⟩, by simp only; omega⟩
      · simp only [bst_ext, List.drop_take, hp, List.map_append, List.map_cons, List.map_nil]
      · simp only
        rw [hspl, spl_none _ hno]
  · rcases hx with ⟨hx, _⟩ | ⟨_, hx⟩
    · omega
    · rw [hx]
end Go.Proofs.YtcnhcilpaplpcaaGreatDoorEv
namespace Go.Proofs.YtcnhcilpaplpcaaGreatDoorEv
open Go Go.Proofs
set_option maxRecDepth 10000
set_option maxHeartbeats 2000000
def isDg (b : UInt8) : Bool := decide (48 ≤ b.toNat ∧ b.toNat ≤ 57)
def dgIn (l : List UInt8) : Bool := decide (1 ≤ l.length ∧ l.length ≤ 10) && l.all isDg
def dgV (l : List UInt8) : Nat := if dgIn l then dval l else 0
def dgOk (l : List UInt8) : Bool := dgIn l && decide (bst (Lib.decDigits (dval l)) = bst l)
theorem dval_app (l : List UInt8) (b : UInt8) : dval (l ++ [b]) = 10 * dval l + (b.toNat - 48) := by
  unfold dval
  rw [List.foldl_append]
  rfl
theorem dval_take {l : List UInt8} {i : Nat} {b : UInt8} (h : l[i]? = some b) : dval (l.take (i + 1)) = 10 * dval (l.take i) + (b.toNat - 48) := by
  rw [List.take_add_one, h]
  exact dval_app _ _
theorem dval_lt : ∀ (n : Nat) {l : List UInt8}, l.all isDg = true → n ≤ l.length → dval (l.take n) < 10 ^ n
  | 0, l, _, _ => by simp [dval]
  | n + 1, l, h, hn => by
    have ih := dval_lt n h (by omega)
    have hb : l[n]? = some (l[n]'(by omega)) := List.getElem?_eq_getElem (by omega)
    have hd := List.all_eq_true.1 h _ (List.mem_of_getElem? hb)
    unfold isDg at hd
    have hd := of_decide_eq_true hd
    rw [dval_take hb, Nat.pow_succ]
    omega
theorem dval_lt_all {l : List UInt8} (h : l.all isDg = true) (hl : l.length ≤ 10) : dval l < 10000000000 := by
  have := dval_lt l.length h (Nat.le_refl _)
  rw [List.take_length] at this
  exact Nat.lt_of_lt_of_le this (Nat.pow_le_pow_right (by decide) hl)
theorem s_dg (l : List UInt8) (h : l.length ≤ 1048576) : Sp Tryz.prog 30 [aT (bst l)] (.tu [vi (dgV l), vb (dgOk l)]) [] := by
  refine sp_of (m := no) mixed Tryz.func30 k30 ?_
  have bad : ∀ b ∈ l, isDg b = false → dgIn l = false := fun b hb hd => by
    unfold dgIn
    rw [Bool.and_eq_false_iff]
    exact .inr (Bool.eq_false_iff.2 fun ha => by rw [List.all_eq_true.1 ha b hb] at hd; cases hd)
  have len : dgIn l = true → 1 ≤ l.length ∧ l.length ≤ 10 := fun h => by
    unfold dgIn at h
    simp only [Bool.and_eq_true, decide_eq_true_eq] at h
    exact h.1
  simp -dsimp [q]
  have nb : dgIn l = false → (0 : Int) = dgV l ∧ dgOk l = false := fun hf => by
    unfold dgV dgOk
    rw [hf]
    simp
  refine ⟨fun h1 => ⟨fun h2 => nb (Bool.eq_false_iff.2 fun ht => by have := len ht; omega), fun h2 => ?_⟩, fun h1 => nb (Bool.eq_false_iff.2 fun ht => by have := len ht; omega)⟩
  refine awp_it (true :: false :: false :: false :: true :: true :: []) (fun i : Nat => [(4, vi (dval (l.take i))), (5, vi i)]) (fun i => []) (fun i => i ≤ l.length ∧ (l.take i).all isDg = true) (fun i => l.length - i) 0 ?_
  intro s0 e
  simp -dsimp at e
  subst e
  refine ⟨?_, ?_⟩
  · simp [dval]
  rintro i ⟨hi, ha⟩
  simp -dsimp
  refine ⟨fun h3 => ⟨h3, fun b hb => ⟨fun h4 => ⟨h3, fun b1 hb1 => ?_⟩, fun h4 => ?_⟩⟩, fun h3 => ?_⟩
  · rw [hb] at hb1
    cases hb1
    refine ⟨fun h5 => nb (bad b (List.mem_of_getElem? hb) (by unfold isDg; exact decide_eq_false (by omega))), fun h5 => ⟨h3, fun b2 hb2 => ?_⟩⟩
    rw [hb] at hb2
    cases hb2
    have hd : isDg b = true := by unfold isDg; exact decide_eq_true (by omega)
    have h6 := dval_lt i (l := l.take i) ha (by simp; omega)
    rw [List.take_take, Nat.min_self] at h6
    have h7 : 10 ^ i ≤ 10 ^ 10 := Nat.pow_le_pow_right (by decide) (by omega)
    have h8 : 10 ^ 10 = 10000000000 := by decide
    have e1 : IntKind.u8.wrap ((b.toNat : Int) - 48) = (b.toNat : Int) - 48 := Int.emod_eq_of_lt (by omega) (by show (b.toNat : Int) - 48 < 256; omega)
    refine ⟨i + 1, ⟨?_, by rw [w64 (by omega) (by omega)]; simp⟩, ⟨by omega, fun x hx => ?_⟩, by omega⟩
    · rw [e1, w64 (n := 10 * (dval (l.take i) : Int)) (by omega) (by omega), w64 (n := (b.toNat : Int) - 48) (by omega) (by omega), w64 (by omega) (by omega), dval_take hb]
      omega
    · rw [List.take_add_one, hb] at hx
      rcases List.mem_append.1 hx with hx | hx
      · exact List.all_eq_true.1 ha x hx
      · simp only [Option.toList_some, List.mem_singleton] at hx; rw [hx]; exact hd
  · exact nb (bad b (List.mem_of_getElem? hb) (by unfold isDg; exact decide_eq_false (by omega)))
  · rw [List.take_of_length_le h3] at ha ⊢
    have hin : dgIn l = true := by
      unfold dgIn
      rw [ha, decide_eq_true (by omega)]
      rfl
    have h9 := dval_lt_all ha (by omega)
    have w := s_sdec (dval l) (by omega)
    unfold dgV dgOk
    rw [if_pos hin, hin, Bool.true_and]
    generalize Lib.decDigits (dval l) = dd at *
    refine call_of (w) rfl (by simp) ?_
    try simp -dsimp
    try (first | exact fp_one (by decide) | refine fp_and (by decide) ?_)
end Go.Proofs.YtcnhcilpaplpcaaGreatDoorEv
namespace Go.Proofs.YtcnhcilpaplpcaaGreatDoorEv
open Go Go.Proofs
set_option maxRecDepth 10000
set_option maxHeartbeats 2000000
def sgV (l : List UInt8) : Int := if l[0]? = some 45 then -(dgV (l.drop 1) : Int) else dgV l
def sgOk (l : List UInt8) : Bool := if l[0]? = some 45 then dgOk (l.drop 1) && decide (0 < dgV (l.drop 1)) else dgOk l
theorem dgV_lt (l : List UInt8) : dgV l < 10000000000 := by
  unfold dgV
  split
  · rename_i h
    unfold dgIn at h
    simp only [Bool.and_eq_true, decide_eq_true_eq] at h
    exact dval_lt_all h.2 h.1.2
  · decide
theorem s_sg (l : List UInt8) (h : l.length ≤ 1048576) : Sp Tryz.prog 70 [aT (bst l)] (.tu [vi (sgV l), vb (sgOk l)]) [] := by
  have w1 := s_dg l h
  have w2 := s_dg (l.drop 1) (by rw [List.length_drop]; omega)
  have hv := dgV_lt (l.drop 1)
  refine sp_of (m := no) mixed Tryz.func70 k70 ?_
  simp -dsimp [q]
  have ex : (bst l).extract 1 l.length = bst (l.drop 1) := by rw [bst_ext, List.take_length]
  refine ⟨fun h0 => ⟨h0, fun b hb => ⟨fun h1 => ⟨by omega, ?_⟩, fun h1 => ?_⟩⟩, fun h0 => ?_⟩
  · have e : l[0]? = some 45 := by rw [hb, UInt8.toNat_inj.1 (show b.toNat = (45 : UInt8).toNat by have : (45 : UInt8).toNat = 45 := rfl; omega)]
    rw [ex]
    unfold sgV sgOk
    rw [if_pos e, if_pos e]
    generalize dgV (l.drop 1) = v at *
    cases hk : dgOk (l.drop 1) with
    | true =>
      rw [hk] at w2
      refine call_of (w2) rfl (by simp) ?_
      try simp -dsimp
      try (first | exact fp_one (by decide) | refine fp_and (by decide) ?_)
      rw [w64 (by omega) (by omega)]
    | false =>
      rw [hk] at w2
      refine call_of (w2) rfl (by simp) ?_
      try simp -dsimp
      try (first | exact fp_one (by decide) | refine fp_and (by decide) ?_)
      rw [w64 (by omega) (by omega)]
  · have e : ¬ l[0]? = some 45 := by
      rw [hb]
      intro e
      cases e
      exact h1 rfl
    unfold sgV sgOk
    rw [if_neg e, if_neg e]
    refine call_of (w1) rfl (by simp) ?_
    try simp -dsimp
    try (first | exact fp_one (by decide) | refine fp_and (by decide) ?_)
  · have e : ¬ l[0]? = some 45 := by
      rw [List.getElem?_eq_none (by first | omega | simp [h0])]
      simp
    unfold sgV sgOk
    rw [if_neg e, if_neg e]
    refine call_of (w1) rfl (by simp) ?_
    try simp -dsimp
    try (first | exact fp_one (by decide) | refine fp_and (by decide) ?_)
end Go.Proofs.YtcnhcilpaplpcaaGreatDoorEv
namespace Go.Proofs.YtcnhcilpaplpcaaGreatDoorEv
open Go Go.Proofs
set_option maxRecDepth 10000
set_option maxHeartbeats 2000000
@[simp] theorem sts_fA (l : List (List UInt8)) (n : Nat) (K : V → Prop) : fA ((sts (l.map bst))[n]?) K = ∀ p, l[n]? = some p → K (.str (bst p)) := by
  unfold sts
  rw [List.map_map]
  exact fA_map
theorem all_take {α : Type} {p : α → Bool} {l : List α} {i : Nat} {x : α} (h : l[i]? = some x) (ha : (l.take i).all p = true) (hx : p x = true) : (l.take (i + 1)).all p = true := by
  rw [List.take_add_one, h, List.all_append, ha]
  simpa using hx
theorem s_rdnums (L : List (List UInt8)) (hL : L.length ≤ 1048577) (hl : ∀ p ∈ L, p.length ≤ 1048576) (r : A) (hs : List Ck)
    (h1 : L.all sgOk = true → r = .tu [.sli 0, vb true] ∧ hs = [.row 0 2 (is (L.map sgV))]) (h2 : ∀ p ∈ L, sgOk p = false → r = .tu [.nil 0, vb false] ∧ hs = []) : Sp Tryz.prog 49 [.v (.sl 0 (sts (L.map bst)))] r hs := by
  by_cases hall : L.all sgOk = true
  · obtain ⟨rfl, rfl⟩ := h1 hall
    refine sp_of (m := no) mixed Tryz.func49 k49 ?_
    simp -dsimp [q]
    refine awp_it (true :: false :: false :: false :: true :: true :: []) (fun i : Nat => [(5, vi i)]) (fun i => [(0, .row 0 2 (is ((L.take i).map sgV)))]) (fun i => i ≤ L.length) (fun i => L.length - i) 0 ?_
    intro s0 e
    simp -dsimp at e
    subst e
    refine ⟨?_, ?_⟩
    · simp
    rintro i hi
    simp -dsimp [-Prod.forall, -Prod.exists]
    refine ⟨fun h3 => ⟨h3, fun p hp => ?_⟩, fun h3 => ?_⟩
    · have w := s_sg p (hl p (List.mem_of_getElem? hp))
      rw [List.all_eq_true.1 hall p (List.mem_of_getElem? hp)] at w
      refine call_of (w) rfl (by simp) ?_
      try simp -dsimp
      try (first | exact fp_one (by decide) | refine fp_and (by decide) ?_)
      refine ⟨by omega, i + 1, ⟨by rw [w64 (by omega) (by omega)]; simp, ?_⟩, by omega, by omega⟩
      rw [List.take_add_one, List.getElem?_map, hp]
      rfl
    · rw [List.take_of_length_le (by simp; omega)]
  · obtain ⟨p0, hp0, hb0⟩ : ∃ p ∈ L, sgOk p = false := by
      simpa using hall
    obtain ⟨rfl, rfl⟩ := h2 p0 hp0 hb0
    refine sp_of (m := no) mixed Tryz.func49 k49 ?_
    simp -dsimp [q]
    refine awp_it (true :: false :: false :: false :: true :: true :: []) (fun i : Nat => [(5, vi i)]) (fun i => [(0, .row 0 2 (is ((L.take i).map sgV)))]) (fun i => i ≤ L.length ∧ (L.take i).all sgOk = true) (fun i => L.length - i) 0 ?_
    intro s0 e
    simp -dsimp at e
    subst e
    refine ⟨?_, ?_⟩
    · simp
    rintro i ⟨hi, ha⟩
    simp -dsimp [-Prod.forall, -Prod.exists]
    have h3 : i < L.length := by
      rcases Nat.lt_or_ge i L.length with h | h
      · exact h
      · rw [List.take_of_length_le h] at ha
        exact absurd ha hall
    refine ⟨fun _ => ⟨h3, fun p hp => ?_⟩, h3⟩
    · have w := s_sg p (hl p (List.mem_of_getElem? hp))
      cases hk : sgOk p with
      | true =>
        rw [hk] at w
        refine call_of (w) rfl (by simp) ?_
        try simp -dsimp
        try (first | exact fp_one (by decide) | refine fp_and (by decide) ?_)
        refine ⟨by omega, i + 1, ⟨by rw [w64 (by omega) (by omega)]; simp, ?_⟩, ⟨by omega, fun x hx => List.all_eq_true.1 (all_take hp ha hk) x hx⟩, by omega⟩
        rw [List.take_add_one, List.getElem?_map, hp]
        rfl
      | false =>
        rw [hk] at w
        refine call_of (w) rfl (by simp) ?_
        try simp -dsimp
        try (first | exact fp_one (by decide) | refine fp_and (by decide) ?_)
end Go.Proofs.YtcnhcilpaplpcaaGreatDoorEv
namespace Go.Proofs.YtcnhcilpaplpcaaGreatDoorEv
open Go Go.Proofs
set_option maxRecDepth 10000
set_option maxHeartbeats 2000000
def rvL (L : List (List UInt8)) : Option (Int × Int) := match L with
  | [a, b] => if (sgOk a && sgOk b && okV (sgV a) (sgV b)) = true then some (sgV a, sgV b) else none
  | _ => none
theorem rvL_two {L : List (List UInt8)} {a b : List UInt8} (h : L.length = 2) (ha : L[0]? = some a) (hb : L[1]? = some b) : rvL L = if (sgOk a && sgOk b && okV (sgV a) (sgV b)) = true then some (sgV a, sgV b) else none := by
  match L, h with
  | [x, y], _ =>
    cases ha
    cases hb
    rfl
theorem rvL_len {L : List (List UInt8)} (h : L.length ≠ 2) : rvL L = none := by
  unfold rvL
  split
  · simp at h
  · rfl
theorem rvL_bad {L : List (List UInt8)} {p : List UInt8} (h : p ∈ L) (hb : sgOk p = false) : rvL L = none := by
  unfold rvL
  split
  · simp only [List.mem_cons, List.not_mem_nil, or_false] at h
    rcases h with rfl | rfl <;> simp [hb]
  · rfl
def rvA : Option (Int × Int) → A
  | some v => .tu [aV v.1 v.2, vb true]
  | none => .tu [aV 0 0, vb false]
theorem s_srv (l : List UInt8) (h : l.length ≤ 1048576) : Sp Tryz.prog 29 [aT (bst l)] (rvA (rvL (spl 44 l))) [] := by
  have w1 := s_spl l 44 h
  have hlen := spl_len 44 l
  have hmem : ∀ p ∈ spl 44 l, p.length ≤ 1048576 := fun p hp => Nat.le_trans (spl_mem 44 hp) h
  generalize spl 44 l = L at *
  by_cases hall : L.all sgOk = true
  · have w2 := s_rdnums L (by omega) hmem _ _ (fun _ => ⟨rfl, rfl⟩) (fun p hp hb => by rw [List.all_eq_true.1 hall p hp] at hb; cases hb)
    by_cases hl2 : L.length = 2
    · obtain ⟨a, ha⟩ : ∃ a, L[0]? = some a := ⟨_, List.getElem?_eq_getElem (by omega)⟩
      obtain ⟨b, hb⟩ : ∃ b, L[1]? = some b := ⟨_, List.getElem?_eq_getElem (by omega)⟩
      have w3 := s_sisVec (sgV a) (sgV b)
      rw [rvL_two hl2 ha hb, List.all_eq_true.1 hall a (List.mem_of_getElem? ha), List.all_eq_true.1 hall b (List.mem_of_getElem? hb), Bool.true_and, Bool.true_and]
      cases hv : okV (sgV a) (sgV b) with
      | true =>
        rw [hv] at w3
        rw [if_pos rfl]
        refine sp_of (m := no) mixed Tryz.func29 k29 ?_
        simp -dsimp [q, rvA]
        refine call_of (w1) rfl (by simp) ?_
        try simp -dsimp
        try (first | exact fp_one (by decide) | refine fp_and (by decide) ?_)
        refine call_of (w2) rfl (by simp) ?_
        try simp -dsimp
        try (first | exact fp_one (by decide) | refine fp_and (by decide) ?_)
        refine ⟨fun _ => ⟨by omega, fun a1 ha1 => ⟨by omega, by omega, fun b1 hb1 => ?_⟩⟩, by omega⟩
        rw [ha] at ha1
        cases ha1
        rw [hb] at hb1
        cases hb1
        refine call_of (w3) rfl (by simp) ?_
        try simp -dsimp
        try (first | exact fp_one (by decide) | refine fp_and (by decide) ?_)
        refine ⟨by omega, fun a1 ha1 => ⟨by omega, by omega, fun b1 hb1 => ?_⟩⟩
        rw [ha] at ha1
        cases ha1
        rw [hb] at hb1
        cases hb1
        try simp -dsimp
        try decide
      | false =>
        rw [hv] at w3
        rw [if_neg (by decide)]
        refine sp_of (m := no) mixed Tryz.func29 k29 ?_
        simp -dsimp [q, rvA]
        refine call_of (w1) rfl (by simp) ?_
        try simp -dsimp
        try (first | exact fp_one (by decide) | refine fp_and (by decide) ?_)
        refine call_of (w2) rfl (by simp) ?_
        try simp -dsimp
        try (first | exact fp_one (by decide) | refine fp_and (by decide) ?_)
        refine fun _ => ⟨by omega, fun a1 ha1 => ⟨by omega, by omega, fun b1 hb1 => ?_⟩⟩
        rw [ha] at ha1
        cases ha1
        rw [hb] at hb1
        cases hb1
        refine call_of (w3) rfl (by simp) ?_
        try simp -dsimp
        try (first | exact fp_one (by decide) | refine fp_and (by decide) ?_)
    · rw [rvL_len hl2]
      refine sp_of (m := no) mixed Tryz.func29 k29 ?_
      simp -dsimp [q, rvA]
      refine call_of (w1) rfl (by simp) ?_
      try simp -dsimp
      try (first | exact fp_one (by decide) | refine fp_and (by decide) ?_)
      refine call_of (w2) rfl (by simp) ?_
      try simp -dsimp
      try (first | exact fp_one (by decide) | refine fp_and (by decide) ?_)
      try simp -dsimp [hl2]
      try omega
  · obtain ⟨p0, hp0, hb0⟩ : ∃ p ∈ L, sgOk p = false := by
      simpa using hall
    have w2 := s_rdnums L (by omega) hmem _ _ (fun h => absurd h hall) (fun p hp hb => ⟨rfl, rfl⟩)
    rw [rvL_bad hp0 hb0]
    clear hall
    refine sp_of (m := no) mixed Tryz.func29 k29 ?_
    simp -dsimp [q, rvA]
    refine call_of (w1) rfl (by simp) ?_
    try simp -dsimp
    try (first | exact fp_one (by decide) | refine fp_and (by decide) ?_)
    refine call_of (w2) rfl (by simp) ?_
    try simp -dsimp
    try (first | exact fp_one (by decide) | refine fp_and (by decide) ?_)
end Go.Proofs.YtcnhcilpaplpcaaGreatDoorEv
namespace Go.Proofs.YtcnhcilpaplpcaaGreatDoorEv
open Go Go.ChangeShapes Go.WideShapes Go.RowKit Go.Deep

abbrev below (W : World) : Nat → Prop := fun b => b < W.heap.size
def OpC {α : Type} (P : Program) (t : TypeId) (encs : α → List V) (wf : α → Prop) : Prop :=
  ∀ (H : Type) (enc : TypeId × Value → H) (W : World) (spare : Nat → Bool) (held : Bool) (fuel : Nat) (cs : List Value) (x : DataW H × List MemPlace),
    DataW.trod enc P W 0 spare held fuel t cs = some x → ∃ a, RepL (below W) W (encs a) cs ∧ wf a
theorem opc_int {P : Program} {t : TypeId} {k : IntKind} (hu : P.underlying t = some (.int k)) : OpC P t (fun n => [V.int k n]) (fun n => (Lit.int k n).wf = true) := by
  intro H enc W spare held fuel cs x h
  obtain ⟨n, rfl, _, hw⟩ := DataW.trod_int hu h
  exact ⟨n, ⟨_, [], rfl, rfl, rfl, rfl⟩, hw⟩
theorem opc_bool {P : Program} {t : TypeId} (hu : P.underlying t = some .bool) : OpC P t (fun b => [V.bool b]) (fun _ => True) := by
  intro H enc W spare held fuel cs x h
  obtain ⟨n, rfl, _⟩ := DataW.trod_bool hu h
  exact ⟨n, ⟨_, [], rfl, rfl, rfl, rfl⟩, trivial⟩
theorem opc_string {P : Program} {t : TypeId} (hu : P.underlying t = some .string) : OpC P t (fun s => [V.str s]) (fun s => s.size ≤ maxLen) := by
  intro H enc W spare held fuel cs x h
  obtain ⟨n, rfl, _, hs⟩ := DataW.trod_string hu h
  exact ⟨n, ⟨_, [], rfl, rfl, rfl, rfl⟩, hs⟩
theorem list_of {α : Type} {n : Nat} {p : Nat → α → Prop} (h : ∀ i, i < n → ∃ x, p i x) : ∃ l : List α, l.length = n ∧ ∀ i (hi : i < l.length), p i l[i] := by
  induction n with
  | zero => exact ⟨[], rfl, fun i hi => absurd hi (Nat.not_lt_zero _)⟩
  | succ n ih =>
    obtain ⟨l, hl, hp⟩ := ih (fun i hi => h i (Nat.lt_succ_of_lt hi))
    obtain ⟨x, hx⟩ := h n (Nat.lt_succ_self n)
    refine ⟨l ++ [x], by simp [hl], fun i hi => ?_⟩
    by_cases e : i < l.length
    · rw [List.getElem_append_left e]; exact hp i e
    · have : i = n := by simp at hi; omega
      subst this
      rw [List.getElem_append_right (by omega)]
      simpa [hl] using hx
def mkE (k : Nat) (cs : List V) : V := if k = 0 then cs.headD default else .ag cs
theorem repAt_of {S : Nat → Prop} {w : World} {Ad : Option Addr} {e : Nat} : ∀ (xs : List V) (i : Nat), (∀ j x, xs[j]? = some x → ∃ b u, Ad = some b ∧ S b.block ∧ Rep S w x u ∧ u.cells.size = cz e ∧ x.isAg = (e != 0) ∧ ∀ (k : Nat) y, u.cells[k]? = some y → w.cell? (b.add ((i + j) * cz e + k)) = some y) → RepAt S w Ad e i xs
  | [], _, _ => trivial
  | x :: xs, i, h => by
    refine ⟨by simpa using h 0 x rfl, repAt_of xs (i + 1) (fun j y hy => ?_)⟩
    obtain ⟨b, u, h1, h2, h3, h4, h5, h6⟩ := h (j + 1) y (by simpa using hy)
    exact ⟨b, u, h1, h2, h3, h4, h5, fun k z hz => by rw [show i + 1 + j = i + (j + 1) by omega]; exact h6 k z hz⟩
theorem mkE_rep {S : Nat → Prop} {w : World} {k : Nat} {ds : List V} {cs : List Value} (h : RepL S w ds cs) (hl : cs.length = cz k) : ∃ u, Rep S w (mkE k ds) u ∧ u.cells.toList = cs ∧ (mkE k ds).isAg = (k != 0) := by
  unfold mkE
  by_cases hk : k = 0
  · subst hk
    rw [if_pos rfl]
    match ds, cs, h, hl with
    | [d], [c], ⟨u, us', h1, h2, h3, h4⟩, _ =>
      cases h1
      have := h3.cellsNe h2
      exact ⟨c, h3, by rw [this.2], h2⟩
    | [], [], _, hl => cases hl
    | _ :: _ :: _, [], h, _ => obtain ⟨_, _, h1, _⟩ := h; cases h1
    | [_], [], h, _ => obtain ⟨_, _, h1, _⟩ := h; cases h1
    | [_], _ :: _ :: _, _, hl => cases hl
    | [], _ :: _, h, _ => simp [RepL] at h
    | _ :: _ :: _, [_], h, _ => obtain ⟨_, _, h1, _, _, _, _, h2, _⟩ := h; cases h1; cases h2
    | _ :: _ :: _, _ :: _ :: _, _, hl => cases hl
  · rw [if_neg hk]
    exact ⟨.agg cs.toArray, ⟨cs, rfl, h⟩, by simp [Value.cells], by simp [V.isAg, hk]⟩
theorem opc_slice {α : Type} {P : Program} {t e : TypeId} {k : Nat} {encs : α → List V} {wf : α → Prop} (hu : P.underlying t = some (.slice e)) (hk : kindOf P e = some k) (h : OpC P e encs wf) :
    OpC P t (fun l : List α => [V.sl k (l.map fun a => mkE k (encs a))]) (fun l => l.length ≤ maxLen ∧ ∀ x ∈ l, wf x) := by
  intro H enc W spare held fuel cs x hx
  have hsz : P.cellsOf e = cz k := by
    obtain ⟨_, i, _, h1, h2, _⟩ := kindOf_spec hk
    simp [Program.cellsOf, h1, h2]
  rcases open_slice hu hx with ⟨rfl, _⟩ | ⟨a, len, cap, m, n, D, Pl, rfl, _, hl, hm, hmm, _, hel⟩
  · exact ⟨[], ⟨_, [], rfl, rfl, ⟨none, 0, rfl, Nat.le_refl _, Nat.zero_le _, trivial⟩, rfl⟩, Nat.zero_le _, fun x hx => absurd hx (by simp)⟩
  · have hle : len ≤ m := by rw [hmm]; split <;> omega
    obtain ⟨l, hlen, hp⟩ := list_of (p := fun i y => ∃ cs', W.cells? 0 (a.add (i * P.cellsOf e)) (P.cellsOf e) = some cs' ∧ RepL (below W) W (encs y) cs' ∧ wf y) (n := len) (fun i hi => by
      obtain ⟨cs', h1, h2⟩ := hel i (by omega)
      obtain ⟨y, hK, hw⟩ := h H enc W spare held n cs' _ h2
      exact ⟨y, cs', h1, hK, hw⟩)
    subst hlen
    refine ⟨l, ⟨_, [], rfl, rfl, ⟨some a, cap, by simp, by simpa using hl, hm, repAt_of _ 0 (fun j x hj => ?_)⟩, rfl⟩, Nat.le_trans hl hm, fun y hy => ?_⟩
    · simp only [List.getElem?_map, Option.map_eq_some_iff] at hj
      obtain ⟨y, hj, rfl⟩ := hj
      obtain ⟨hj', rfl⟩ := List.getElem?_eq_some_iff.1 hj
      obtain ⟨cs', h1, hK, _⟩ := hp j hj'
      obtain ⟨_, hcl, hcell⟩ := World.cells?_some h1
      rw [hsz] at hcl hcell
      obtain ⟨u, h2, h3, h4⟩ := mkE_rep hK hcl
      have hus : u.cells.size = cz k := by rw [← hcl, ← h3]; simp
      have cell : ∀ (i : Nat) y, u.cells[i]? = some y → W.cell? (a.add (j * cz k + i)) = some y := by
        intro i y hy
        have hi : i < cz k := by have := (Array.getElem?_eq_some_iff.1 hy).1; omega
        have := hcell i hi
        rw [Go.Deep.add_add] at this
        rw [this, ← h3]
        simpa using hy
      refine ⟨a, u, rfl, ?_, h2, hus, h4, fun i y hy => by simpa using cell i y hy⟩
      have h0 : 0 < u.cells.size := by rw [hus]; exact cz_pos k
      have := World.block_lt_of_cell? W _ (cell 0 _ (Array.getElem?_eq_getElem h0))
      rwa [add_block] at this
    · obtain ⟨j, hj, rfl⟩ := List.mem_iff_getElem.1 hy
      obtain ⟨_, _, _, hw⟩ := hp j hj
      exact hw
theorem RepL.append {S : Nat → Prop} {w : World} : ∀ {az bs : List V} {us vs : List Value}, RepL S w az us → RepL S w bs vs → RepL S w (az ++ bs) (us ++ vs)
  | [], _, us, _, h, k => by simp only [RepL] at h; subst h; exact k
  | a :: az, _, us, vs, ⟨u, us', h1, h2, h3, h4⟩, k => by subst h1; exact ⟨u, us' ++ vs, rfl, h2, h3, h4.append k⟩
/-- The fields of a struct, from a place on. -/
def OpF {α : Type} (P : Program) (fs : List Field) (off n : Nat) (encs : α → List V) (wf : α → Prop) : Prop :=
  ∀ (H : Type) (enc : TypeId × Value → H) (W : World) (spare : Nat → Bool) (held : Bool) (fuel : Nat) (cs : List Value), cs.length = off + n →
    (∀ f ∈ fs, ∃ y, DataW.trod enc P W 0 spare held fuel f.type ((cs.drop f.offset).take (P.cellsOf f.type)) = some y) → ∃ a, RepL (below W) W (encs a) (cs.drop off) ∧ wf a
theorem opf_one {α : Type} {P : Program} {f : Field} {off n : Nat} {encs : α → List V} {wf : α → Prop} (ho : f.offset = off) (hc : P.cellsOf f.type = n) (h : OpC P f.type encs wf) : OpF P [f] off n encs wf := by
  intro H enc W spare held fuel cs hl hf
  obtain ⟨y, hy⟩ := hf f (by simp)
  rw [ho, hc, List.take_of_length_le (by rw [List.length_drop]; omega)] at hy
  exact h H enc W spare held fuel _ _ hy
theorem opf_cons {α β : Type} {P : Program} {f : Field} {fs : List Field} {off n m : Nat} {encs : α → List V} {encs1 : β → List V} {wf : α → Prop} {wf1 : β → Prop} (ho : f.offset = off) (hc : P.cellsOf f.type = n) (h : OpC P f.type encs wf) (h1 : OpF P fs (off + n) m encs1 wf1) :
    OpF P (f :: fs) off (n + m) (fun a : α × β => encs a.1 ++ encs1 a.2) (fun a => wf a.1 ∧ wf1 a.2) := by
  intro H enc W spare held fuel cs hl hf
  obtain ⟨y, hy⟩ := hf f (by simp)
  rw [ho, hc] at hy
  obtain ⟨a, hK, hw⟩ := h H enc W spare held fuel _ _ hy
  obtain ⟨b, hK1, hw1⟩ := h1 H enc W spare held fuel cs (by omega) (fun g hg => hf g (by simp [hg]))
  refine ⟨(a, b), ?_, hw, hw1⟩
  have := hK.append hK1
  rwa [← List.drop_drop, List.take_append_drop] at this
theorem opc_struct {α : Type} {P : Program} {t : TypeId} {fs : Array Field} {n : Nat} {encs : α → List V} {wf : α → Prop} (hu : P.underlying t = some (.struct fs)) (hc : P.cellsOf t = n) (h : OpF P fs.toList 0 n encs wf) : OpC P t encs wf := by
  intro H enc W spare held fuel cs x hx
  obtain ⟨xs, m, _, _, hl, hlen, hf⟩ := DataW.trod_struct hu hx
  have := h H enc W spare held m cs (by omega) (fun f hf' => by
    obtain ⟨i, hi, rfl⟩ := List.mem_iff_getElem.1 hf'
    have h2 := hf i fs.toList[i] (by simp at hi ⊢)
    rw [List.getElem?_eq_getElem (by simp at hi; omega)] at h2
    exact ⟨_, h2⟩)
  simpa using this
theorem agg_of {P : Program} {W : World} {r : Reach} {base : Nat} {t : TypeId} {fs : Array Field} {v : Value} (hu : P.underlying t = some (.struct fs)) (hv : Value.okWide P W r base t v) : ∃ cs : Array Value, v = .agg cs := by
  obtain ⟨cs, rfl, _⟩ := okWide_struct hu hv
  exact ⟨cs, rfl⟩
theorem cell_rows {w : World} {g : Nat} {v : Value} (h : w.cell? ⟨g, 0, none⟩ = some v) : ∃ cs t z, w.heap[g]? = some (.cells cs t z) ∧ cs[0]? = some v := by
  unfold World.cell? at h
  split at h
  · rename_i cs t z hh
    refine ⟨cs, t, z, hh, ?_⟩
    simpa using h
  · cases h
theorem rows_cell {w : World} {g : Nat} {v : Value} {cs : Array Value} {t : TypeId} {z : Nat × Nat} (h : w.heap[g]? = some (.cells cs t z)) (h0 : cs[0]? = some v) : w.cell? ⟨g, 0, none⟩ = some v := by
  unfold World.cell?
  simp only [h]
  simpa using h0
/-- A law's call comes back with true, and what was there is there. -/
theorem law_calls {P : Program} {f : Nat} {az : List A} (h : Sp P f az (.v (.bool true)) []) (W : World) (hT : Tbl W (fun _ => False) (below W)) (us : List Value) (hus : ARs (fun _ => none) (fun _ => (0, 0)) (below W) W az us) :
    Calls P f us.toArray W fun e w' => e = .returned (.bool true) ∧ Below W.heap.size W w' := by
  have R0 : Rl W (fun _ => False) (below W) (fun i => ([] : List Ck)[i]?) (fun _ => (0, 0)) (below W) W :=
    ⟨hT, rfl, rfl, rfl, Nat.le_refl _, fun _ _ _ => rfl, fun _ h => h, fun _ h => .inl h, fun _ h => h, fun i => trivial, fun i c hc => (by cases hc), fun i j c d hc => (by cases hc)⟩
  refine (h.2 (below W) W us (fun _ => False) (fun _ => (0, 0)) R0 hus).mono ?_
  rintro e w' ⟨u, S', μ', rfl, R, _, hu⟩
  have : u = .bool true := hu
  exact ⟨by rw [this], R.os, R.tape, R.output, R.size, fun k hk => R.keep k hk (fun h => h)⟩
theorem ar_agg {S : Nat → Prop} {w : World} {ds : List V} {cs : Array Value} (h : RepL S w ds cs.toList) : AR (fun _ => none) (fun _ => (0, 0)) S w (.v (.ag ds)) (.agg cs) := ⟨cs.toList, by simp, h⟩
theorem ar_one {S : Nat → Prop} {w : World} {d : V} {v : Value} (h : RepL S w [d] [v]) : AR (fun _ => none) (fun _ => (0, 0)) S w (.v d) v := by
  obtain ⟨u, us', h1, h2, h3, h4⟩ := h
  cases h1
  exact h3
end Go.Proofs.YtcnhcilpaplpcaaGreatDoorEv
namespace Go.Proofs
open Go.Shelf
shelf_lay Lays.n145 Nm 145 at Tryz as Tryz.lays145
shelf_lay Lays.n146 Nm 146 at Tryz as Tryz.lays146
end Go.Proofs
namespace Go.Proofs.YtcnhcilpaplpcaaGreatDoorEv
open Go Go.Proofs Go.RowKit Go.Shelf Go.Lib
set_option maxRecDepth 100000
set_option maxHeartbeats 2000000
theorem sp_below3 {P : Program} {f : Nat} {fn : Func} (hf : P.funcs[f]? = some fn) (hb : fn.body.isSome = true) (hn : fn.name ≠ "runtime.NumGoroutine") {az : List A} {r : A}
    (hc : ∀ O S μ w us, Rl w O S (fun i => ([] : List Ck)[i]?) μ S w → ARs (fun i => ([] : List Ck)[i]?) μ S w az us → Calls P f us.toArray w fun e w' => ∃ u, e = .returned u ∧ (∀ D μ' S', AR D μ' S' w' r u) ∧ Below w.heap.size w w') : Sp P f az r [] := by
  refine ⟨⟨fn, hf, hb, hn⟩, fun S w us' O μ R h => ?_⟩
  refine (hc O S μ w us' R h).mono fun e w' ⟨u, he, hu, B⟩ => ⟨u, S, μ, he, ?_, ?_, hu _ _ _⟩
  · exact ⟨R.tb, B.os.trans R.os, B.tape.trans R.tape, B.output.trans R.output, Nat.le_trans R.size B.size, fun k hk ho => (B.block k hk).trans (R.keep k hk ho), R.sub, R.new, fun b hb => Nat.lt_of_lt_of_le (R.lt b hb) B.size, fun i => by simp [CR], fun i c hi => by simp at hi, fun i j c d hi => by simp at hi⟩
  · exact ⟨fun _ h => h, fun b hb => B.block b (R.lt b hb), fun i u h => by simp [AR] at h, fun i c hi => by simp at hi⟩
theorem max_of {w : World} {O S S' : Nat → Prop} {D : Nat → Option Ck} {μ : Nat → Nat × Nat} (R : Rl w O S D μ S' w) : ∃ m, w.cell? ⟨0, 0, none⟩ = some (.int .i64 m) := by
  obtain ⟨_, _, cs, t, z, h, m, e⟩ := R.tb _ (List.Mem.tail _ (List.Mem.head _))
  exact ⟨m, rows_cell h e⟩
theorem syn_of {w : World} {O S S' : Nat → Prop} {D : Nat → Option Ck} {μ : Nat → Nat × Nat} (R : Rl w O S D μ S' w) : ∃ t p, w.cell? ⟨2, 0, none⟩ = some (.iface t p) := by
  obtain ⟨_, _, cs, t, z, h, t2, p, e⟩ := R.tb _ (List.Mem.tail _ (List.Mem.tail _ (List.Mem.head _)))
  exact ⟨t2, p, rows_cell h e⟩
theorem rng_of {w : World} {O S S' : Nat → Prop} {D : Nat → Option Ck} {μ : Nat → Nat × Nat} (R : Rl w O S D μ S' w) : ∃ t p, w.cell? ⟨3, 0, none⟩ = some (.iface t p) := by
  obtain ⟨_, _, cs, t, z, h, t2, p, e⟩ := R.tb _ (List.Mem.tail _ (List.Mem.tail _ (List.Mem.tail _ (List.Mem.head _))))
  exact ⟨t2, p, rows_cell h e⟩
theorem s_cut (s : List UInt8) (c : UInt8) (hs : s.length < 4294967281) : Sp Tryz.prog 31 [.v (.str ⟨s.toArray⟩), .v (.str ⟨#[c]⟩)] (.tu [.v (.str ⟨(Lib.cut s [c]).1.toArray⟩), .v (.str ⟨(Lib.cut s [c]).2.1.toArray⟩), .v (.bool (Lib.cut s [c]).2.2)]) [] := by
  refine sp_below3 Tryz.func31 (by kernel_rfl) (by decide) fun O S μ w us R h => ?_
  simp only [ARs, AR, Rep] at h
  obtain ⟨u, us, rfl, rfl, v, us2, rfl, rfl, rfl⟩ := h
  obtain ⟨m, hm⟩ := max_of R
  refine (Any.strings_Cut Tryz.lays145 ⟨s.toArray⟩ ⟨#[c]⟩ m w (by simpa [ByteArray.size] using hs) hm).mono ?_
  rintro e w' ⟨rfl, n, rfl⟩
  exact ⟨_, rfl, fun D μ' S' => by simp [AR, ARs, Rep], below_drewN (Below.refl _ _) n⟩
theorem splitB_mk (c : UInt8) (s : List UInt8) : Lib.splitB ⟨#[c]⟩ 0 (Lib.countB ⟨s.toArray⟩ ⟨#[c]⟩) ⟨s.toArray⟩ = (spl c s).map fun p => (⟨p.toArray⟩ : ByteArray) := by
  have h := Lib.splitB_data ⟨#[c]⟩ 0 (Lib.countB ⟨s.toArray⟩ ⟨#[c]⟩) ⟨s.toArray⟩
  have e : Lib.splitK [c] 0 (Lib.count s [c]) s = spl c s := split_spl c s
  have h2 : (Lib.splitB ⟨#[c]⟩ 0 (Lib.countB ⟨s.toArray⟩ ⟨#[c]⟩) ⟨s.toArray⟩).map (·.data.toList) = spl c s := h.trans e
  rw [← h2, List.map_map]
  conv => lhs; rw [← List.map_id (Lib.splitB ⟨#[c]⟩ 0 (Lib.countB ⟨s.toArray⟩ ⟨#[c]⟩) ⟨s.toArray⟩)]
  refine List.map_congr_left fun x _ => ?_
  simp
theorem repR_strs2 {S : Nat → Prop} {w : World} : ∀ xs : List ByteArray, RepR S w 0 (xs.map V.str) (xs.map Value.string)
  | [] => rfl
  | x :: xs => ⟨.string x, xs.map Value.string, rfl, rfl, rfl, rfl, repR_strs2 xs⟩
theorem s_split (s : List UInt8) (c : UInt8) (hs : s.length < 4294967281) : Sp Tryz.prog 52 [.v (.str ⟨s.toArray⟩), .v (.str ⟨#[c]⟩)] (.sli 0) [.row 0 9 (((spl c s).map fun p => (⟨p.toArray⟩ : ByteArray)).map V.str)] := by
  refine ⟨⟨_, Tryz.func52, by kernel_rfl, by decide⟩, fun S w us O μ R h => ?_⟩
  simp only [ARs, AR, Rep] at h
  obtain ⟨u, us, rfl, rfl, v, us2, rfl, rfl, rfl⟩ := h
  obtain ⟨m, hm⟩ := max_of R
  have c0 := Any.strings_Split Tryz.lays146 (by kernel_rfl) ⟨s.toArray⟩ ⟨#[c]⟩ m w (by simpa [ByteArray.size] using hs) hm (Nat.le_refl 1)
  rw [splitB_mk] at c0
  have hl : Lib.countB ⟨s.toArray⟩ ⟨#[c]⟩ + 1 = (spl c s).length := count_len c s
  rw [hl] at c0
  have hlen := spl_len c s
  generalize spl c s = L at *
  refine c0.mono ?_
  rintro e w' ⟨rfl, rfl⟩
  obtain ⟨R2, T2⟩ := R.alloc (i := 0) (n := L.length) (c := .row 0 9 ((L.map fun p => (⟨p.toArray⟩ : ByteArray)).map V.str)) (o := .cells ((L.map fun p => (⟨p.toArray⟩ : ByteArray)).map Value.string).toArray 9) rfl (by
    unfold CR
    rw [fset_same]
    refine ⟨_, (L.map fun p => (⟨p.toArray⟩ : ByteArray)).map Value.string, by rw [fset_same]; exact heap_alloc_new w _, ?_, by rw [fset_same]; simp, by rw [fset_same]; simp only [maxLen]; omega, repR_strs2 _, List.take_of_length_le (by simp)⟩
    rw [fset_same]
    simp [cz])
  have eD : fset (fun i => ([] : List Ck)[i]?) 0 (some (.row 0 9 ((L.map fun p => (⟨p.toArray⟩ : ByteArray)).map V.str))) = fun i => ([.row 0 9 ((L.map fun p => (⟨p.toArray⟩ : ByteArray)).map V.str)] : List Ck)[i]? := by
    funext i
    cases i <;> simp [fset]
  rw [eD] at R2 T2
  refine ⟨_, S, _, rfl, R2, T2, ?_⟩
  simp [AR, fset, Value.oneCell']
end Go.Proofs.YtcnhcilpaplpcaaGreatDoorEv
namespace Go.Proofs
open Go.Shelf
shelf_lay LaysC.n174 Nm 174 at Tryz as Tryz.lays174
end Go.Proofs
namespace Go.Proofs.YtcnhcilpaplpcaaGreatDoorEv
open Go Go.Proofs Go.RowKit Go.Shelf Go.Lib
set_option maxRecDepth 100000
set_option maxHeartbeats 2000000
def numV (s : List UInt8) : Int := match Lib.parseIntB 64 s with
  | .ok v => v
  | .syntax => 0
  | .range => Lib.intSat 64 s
def numOk (s : List UInt8) : Bool := match Lib.parseIntB 64 s with
  | .ok v => Lib.itoa v == s
  | _ => false
theorem tab_at {w w' : World} (h : TabIs Tryz.prog w "internal/strconv.uint64pow10" .u64 pow10Tab) (B : Below w.heap.size w w') : TabIs Tryz.prog w' "internal/strconv.uint64pow10" .u64 pow10Tab := by
  have hg : Tryz.prog.globalNamed "internal/strconv.uint64pow10" = some 1 := by kernel_rfl
  unfold TabIs World.var? at h ⊢
  rw [hg] at h ⊢
  simp only [Option.bind_some] at h ⊢
  split at h
  · rename_i cs t z hh
    rw [B.block 1 (Array.getElem?_eq_some_iff.1 hh).1, hh]
    exact h
  · cases h
theorem text_calls (n : Int) (h0 : -9223372036854775808 ≤ n) (h1 : n ≤ 9223372036854775807) (w : World) (ht : TabIs Tryz.prog w "internal/strconv.uint64pow10" .u64 pow10Tab) : Calls Tryz.prog 47 #[.int .i64 n] w fun e w' => e = .returned (.string ⟨(Lib.itoa n).toArray⟩) ∧ Below w.heap.size w w' := by
  have hF := Any.strconv_FormatInt_10 Tryz.lays173 n h0 h1 w ht
  change Calls Tryz.prog 69 _ _ _ at hF
  go_enter Tryz.func47, Tryz.ntmps47
  go_wp2_with (go_at_call 69; refine hF.mono ?_; rintro e w' ⟨rfl, k, os, rfl⟩)
  go_ret
  exact ⟨rfl, below_grow k os⟩
theorem below_bw (w : World) (t : TypeId) (s : ByteArray) : Below w.heap.size w (Lib.bytesWorld w t s) := ⟨rfl, rfl, rfl, by rw [Lib.bytesWorld_size]; omega, fun j hj => Lib.bytesWorld_at_old w t s j hj⟩
theorem number_calls (s : List UInt8) (hs : s.length ≤ 281474976710656) (w : World) (ht : TabIs Tryz.prog w "internal/strconv.uint64pow10" .u64 pow10Tab) (h2 : ∃ t p, w.cell? ⟨2, 0, none⟩ = some (.iface t p)) (h3 : ∃ t p, w.cell? ⟨3, 0, none⟩ = some (.iface t p)) :
    Calls Tryz.prog 54 #[.string ⟨s.toArray⟩] w fun e w' => e = .returned (.tuple #[.int .i64 (numV s), .bool (numOk s)]) ∧ Below w.heap.size w w' := by
  unfold numV numOk
  have hz : (⟨s.toArray⟩ : ByteArray).size = s.length := by simp [ByteArray.size]
  cases hp : Lib.parseIntB 64 s with
  | ok v =>
    have hP : Calls Tryz.prog 74 #[.string ⟨s.toArray⟩, .int .i64 10, .int .i64 64] w fun e w' => e = .returned (.tuple #[.int .i64 v, .nilIface]) ∧ Below w.heap.size w w' := by
      refine Calls.mono (Any.strconv_ParseInt_10_at64_ok Tryz.lays174 ⟨s.toArray⟩ (by omega) v hp w) ?_
      rintro e w' ⟨he, hw⟩
      refine ⟨he, ?_⟩
      rcases hw with hw | ⟨t, hw⟩
      · rw [hw]; exact Below.refl _ _
      · rw [hw]; exact below_bw w _ t
    have hb := Lib.parseIntB_bounds hp
    have hT : ∀ w', Below w.heap.size w w' → Calls Tryz.prog 47 #[.int .i64 v] w' fun e w2 => e = .returned (.string ⟨(Lib.itoa v).toArray⟩) ∧ Below w'.heap.size w' w2 := fun w' B => text_calls v (by have := hb.1; simp at this; omega) (by have := hb.2; simp at this; omega) w' (tab_at ht B)
    have HT : Aside _ := hT
    clear hT hb hp
    go_enter Tryz.func54, Tryz.ntmps54
    go_wp2_with (first
      | (go_at_call 74; refine hP.mono ?_; rintro e w1 ⟨rfl, hB⟩)
      | (go_at_call 47; refine (HT.out _ hB).mono ?_; rintro e w2 ⟨rfl, hB2⟩))
    go_ret2
    exact ⟨rfl, hB.trans (hB2.mono hB.size)⟩
  | «syntax» =>
    obtain ⟨t0, p0, hc⟩ := h2
    have hP : Calls Tryz.prog 74 #[.string ⟨s.toArray⟩, .int .i64 10, .int .i64 64] w fun e w' => ∃ (te : TypeId) (N : Nat), e = .returned (.tuple #[.int .i64 (0), .iface te (.pointer (some ⟨N, 0, none⟩))]) ∧ Below w.heap.size w w' := by
      refine Calls.mono (Any.strconv_ParseInt_10_at64_syntax Tryz.lays174 ⟨s.toArray⟩ (by omega) hp (.iface t0 p0) w hc (.inr ⟨_, _, rfl⟩)) ?_
      rintro e w' ⟨N, he, _, _, hB⟩
      exact ⟨_, N, he, hB⟩
    clear hp hc
    show Calls Tryz.prog 54 #[.string ⟨s.toArray⟩] w fun e w' => e = .returned (.tuple #[.int .i64 (0), .bool false]) ∧ Below w.heap.size w w'
    try generalize Lib.intSat 64 s = sat at *
    go_enter Tryz.func54, Tryz.ntmps54
    go_wp2_with (go_at_call 74; refine hP.mono ?_; rintro e w1 ⟨te, N, rfl, hB⟩)
    go_ret2
    exact ⟨rfl, hB⟩
  | range =>
    obtain ⟨t0, p0, hc⟩ := h3
    have hP : Calls Tryz.prog 74 #[.string ⟨s.toArray⟩, .int .i64 10, .int .i64 64] w fun e w' => ∃ (te : TypeId) (N : Nat), e = .returned (.tuple #[.int .i64 (Lib.intSat 64 s), .iface te (.pointer (some ⟨N, 0, none⟩))]) ∧ Below w.heap.size w w' := by
      refine Calls.mono (Any.strconv_ParseInt_10_at64_range Tryz.lays174 ⟨s.toArray⟩ (by omega) hp (.iface t0 p0) w hc (.inr ⟨_, _, rfl⟩)) ?_
      rintro e w' ⟨N, he, _, _, hB⟩
      exact ⟨_, N, he, hB⟩
    clear hp hc
    show Calls Tryz.prog 54 #[.string ⟨s.toArray⟩] w fun e w' => e = .returned (.tuple #[.int .i64 (Lib.intSat 64 s), .bool false]) ∧ Below w.heap.size w w'
    try generalize Lib.intSat 64 s = sat at *
    go_enter Tryz.func54, Tryz.ntmps54
    go_wp2_with (go_at_call 74; refine hP.mono ?_; rintro e w1 ⟨te, N, rfl, hB⟩)
    go_ret2
    exact ⟨rfl, hB⟩
theorem s_number (s : List UInt8) (hs : s.length ≤ 281474976710656) : Sp Tryz.prog 54 [.v (.str ⟨s.toArray⟩)] (.tu [vi (numV s), vb (numOk s)]) [] := by
  refine sp_below3 Tryz.func54 (by kernel_rfl) (by decide) fun O S μ w us R h => ?_
  simp only [ARs, AR, Rep] at h
  obtain ⟨u, us, rfl, rfl, rfl⟩ := h
  refine (number_calls s hs w (tab_of R) (syn_of R) (rng_of R)).mono ?_
  rintro e w' ⟨rfl, hB⟩
  exact ⟨_, rfl, fun D μ' S' => by simp [AR, ARs, Rep], hB⟩
end Go.Proofs.YtcnhcilpaplpcaaGreatDoorEv
namespace Go.Proofs.YtcnhcilpaplpcaaGreatDoorEv
open Go Go.Proofs
set_option maxRecDepth 10000
set_option maxHeartbeats 2000000
theorem s_pt_no (l : List UInt8) (h : l.length ≤ 1048576) (hn : (spl 44 l).length ≠ 2) : Sp Tryz.prog 73 [aT (bst l), aT ⟨#[44]⟩, vi 2] (.tu [.nil 0, vb false]) [] := by
  have w1 : Sp Tryz.prog 52 [aT (bst l), aT ⟨#[44]⟩] (.sli 0) [.row 0 9 (sts ((spl 44 l).map bst))] := s_split l 44 (by omega)
  generalize spl 44 l = L at *
  refine sp_of (m := no) mixed Tryz.func73 k73 ?_
  simp -dsimp [q]
  refine call_of (w1) rfl (by simp) ?_
  try simp -dsimp
  try (first | exact fp_one (by decide) | refine fp_and (by decide) ?_)
  try (intro h9; omega)
theorem s_pt (l : List UInt8) (h : l.length ≤ 1048576) (hn : (spl 44 l).length = 2) (r : A) (hs : List Ck)
    (h1 : (spl 44 l).all numOk = true → r = .tu [.sli 0, vb true] ∧ hs = [.row 0 2 (is ((spl 44 l).map numV))]) (h2 : ∀ p ∈ spl 44 l, numOk p = false → r = .tu [.nil 0, vb false] ∧ hs = []) :
    Sp Tryz.prog 73 [aT (bst l), aT ⟨#[44]⟩, vi 2] r hs := by
  have w1 : Sp Tryz.prog 52 [aT (bst l), aT ⟨#[44]⟩] (.sli 0) [.row 0 9 (sts ((spl 44 l).map bst))] := s_split l 44 (by omega)
  have hl : ∀ p ∈ spl 44 l, p.length ≤ 1048576 := fun p hp => Nat.le_trans (spl_mem 44 hp) h
  generalize spl 44 l = L at *
  by_cases hall : L.all numOk = true
  · obtain ⟨rfl, rfl⟩ := h1 hall
    refine sp_of (m := no) mixed Tryz.func73 k73 ?_
    simp -dsimp [q]
    refine call_of (w1) rfl (by simp) ?_
    try simp -dsimp
    try (first | exact fp_one (by decide) | refine fp_and (by decide) ?_)
    refine ⟨by omega, fun _ => ?_⟩
    refine awp_it (false :: false :: false :: false :: false :: false :: false :: false :: false :: true :: false :: false :: false :: false :: false :: false :: false :: false :: false :: false :: false :: false :: true :: true :: true :: []) (fun i : Nat => [(24, vi i)]) (fun i => [(0, .row 0 2 (is ((L.take i).map numV)))]) (fun i => i ≤ L.length) (fun i => L.length - i) 0 ?_
    intro s0 e
    simp -dsimp at e
    subst e
    refine ⟨?_, ?_⟩
    · simp
    rintro i hi
    simp -dsimp [-Prod.forall, -Prod.exists]
    refine ⟨fun h3 => ⟨h3, fun p hp => ?_⟩, fun h3 => ?_⟩
    · have w : Sp Tryz.prog 54 [aT (bst p)] (.tu [vi (numV p), vb (numOk p)]) [] := s_number p (by have := hl p (List.mem_of_getElem? hp); omega)
      rw [List.all_eq_true.1 hall p (List.mem_of_getElem? hp)] at w
      refine call_of (w) rfl (by simp) ?_
      try simp -dsimp
      try (first | exact fp_one (by decide) | refine fp_and (by decide) ?_)
      refine ⟨by omega, i + 1, ⟨by rw [w64 (by omega) (by omega)]; simp, ?_⟩, by omega, by omega⟩
      rw [List.take_add_one, List.getElem?_map, hp]
      rfl
    · rw [List.take_of_length_le (by simp; omega)]
  · obtain ⟨p0, hp0, hb0⟩ : ∃ p ∈ L, numOk p = false := by
      simpa using hall
    obtain ⟨rfl, rfl⟩ := h2 p0 hp0 hb0
    refine sp_of (m := no) mixed Tryz.func73 k73 ?_
    simp -dsimp [q]
    refine call_of (w1) rfl (by simp) ?_
    try simp -dsimp
    try (first | exact fp_one (by decide) | refine fp_and (by decide) ?_)
    refine fun _ => ?_
    refine awp_it (false :: false :: false :: false :: false :: false :: false :: false :: false :: true :: false :: false :: false :: false :: false :: false :: false :: false :: false :: false :: false :: false :: true :: true :: true :: []) (fun i : Nat => [(24, vi i)]) (fun i => [(0, .row 0 2 (is ((L.take i).map numV)))]) (fun i => i ≤ L.length ∧ (L.take i).all numOk = true) (fun i => L.length - i) 0 ?_
    intro s0 e
    simp -dsimp at e
    subst e
    refine ⟨?_, ?_⟩
    · simp
    rintro i ⟨hi, ha⟩
    simp -dsimp [-Prod.forall, -Prod.exists]
    have h3 : i < L.length := by
      rcases Nat.lt_or_ge i L.length with h | h
      · exact h
      · rw [List.take_of_length_le h] at ha
        exact absurd ha hall
    refine ⟨fun _ => ⟨h3, fun p hp => ?_⟩, h3⟩
    · have w : Sp Tryz.prog 54 [aT (bst p)] (.tu [vi (numV p), vb (numOk p)]) [] := s_number p (by have := hl p (List.mem_of_getElem? hp); omega)
      cases hk : numOk p with
      | true =>
        rw [hk] at w
        refine call_of (w) rfl (by simp) ?_
        try simp -dsimp
        try (first | exact fp_one (by decide) | refine fp_and (by decide) ?_)
        refine ⟨by omega, i + 1, ⟨by rw [w64 (by omega) (by omega)]; simp, ?_⟩, ⟨by omega, fun x hx => List.all_eq_true.1 (all_take hp ha hk) x hx⟩, by omega⟩
        rw [List.take_add_one, List.getElem?_map, hp]
        rfl
      | false =>
        rw [hk] at w
        refine call_of (w) rfl (by simp) ?_
        try simp -dsimp
        try (first | exact fp_one (by decide) | refine fp_and (by decide) ?_)
end Go.Proofs.YtcnhcilpaplpcaaGreatDoorEv
namespace Go.Proofs.YtcnhcilpaplpcaaGreatDoorEv
open Go Go.Proofs
set_option maxRecDepth 10000
set_option maxHeartbeats 2000000
def rvI (L : List (List UInt8)) : Option (Int × Int) := match L with
  | [a, b] => if (numOk a && numOk b && okV (numV a) (numV b)) = true then some (numV a, numV b) else none
  | _ => none
theorem rvI_two {L : List (List UInt8)} {a b : List UInt8} (h : L.length = 2) (ha : L[0]? = some a) (hb : L[1]? = some b) : rvI L = if (numOk a && numOk b && okV (numV a) (numV b)) = true then some (numV a, numV b) else none := by
  match L, h with
  | [x, y], _ =>
    cases ha
    cases hb
    rfl
theorem rvI_len {L : List (List UInt8)} (h : L.length ≠ 2) : rvI L = none := by
  unfold rvI
  split
  · simp at h
  · rfl
theorem rvI_bad {L : List (List UInt8)} {p : List UInt8} (h : p ∈ L) (hb : numOk p = false) : rvI L = none := by
  unfold rvI
  split
  · simp only [List.mem_cons, List.not_mem_nil, or_false] at h
    rcases h with rfl | rfl <;> simp [hb]
  · rfl
theorem s_rv (l : List UInt8) (h : l.length ≤ 1048576) : Sp Tryz.prog 53 [aT (bst l)] (rvA (rvI (spl 44 l))) [] := by
  by_cases hl2 : (spl 44 l).length = 2
  case neg =>
    have w2 := s_pt_no l h hl2
    rw [rvI_len hl2]
    refine sp_of (m := no) mixed Tryz.func53 k53 ?_
    simp -dsimp [q, rvA]
    refine call_of (w2) rfl (by simp) ?_
    try simp -dsimp
    try (first | exact fp_one (by decide) | refine fp_and (by decide) ?_)
  have hpt := s_pt l h hl2
  generalize spl 44 l = L at *
  by_cases hall : L.all numOk = true
  · have w2 := hpt _ _ (fun _ => ⟨rfl, rfl⟩) (fun p hp hb => by rw [List.all_eq_true.1 hall p hp] at hb; cases hb)
    obtain ⟨a, ha⟩ : ∃ a, L[0]? = some a := ⟨_, List.getElem?_eq_getElem (by omega)⟩
    obtain ⟨b, hb⟩ : ∃ b, L[1]? = some b := ⟨_, List.getElem?_eq_getElem (by omega)⟩
    have w3 := s_isVec (numV a) (numV b)
    rw [rvI_two hl2 ha hb, List.all_eq_true.1 hall a (List.mem_of_getElem? ha), List.all_eq_true.1 hall b (List.mem_of_getElem? hb), Bool.true_and, Bool.true_and]
    cases hv : okV (numV a) (numV b) with
    | true =>
      rw [hv] at w3
      rw [if_pos rfl]
      refine sp_of (m := no) mixed Tryz.func53 k53 ?_
      simp -dsimp [q, rvA]
      refine call_of (w2) rfl (by simp) ?_
      try simp -dsimp
      try (first | exact fp_one (by decide) | refine fp_and (by decide) ?_)
      refine ⟨by omega, fun a1 ha1 => ⟨by omega, by omega, fun b1 hb1 => ?_⟩⟩
      rw [ha] at ha1
      cases ha1
      rw [hb] at hb1
      cases hb1
      refine call_of (w3) rfl (by simp) ?_
      try simp -dsimp
      try (first | exact fp_one (by decide) | refine fp_and (by decide) ?_)
      refine ⟨by omega, fun a1 ha1 => ⟨by omega, by omega, fun b1 hb1 => ?_⟩⟩
      rw [ha] at ha1
      cases ha1
      rw [hb] at hb1
      cases hb1
      try simp -dsimp
      try decide
    | false =>
      rw [hv] at w3
      rw [if_neg (by decide)]
      refine sp_of (m := no) mixed Tryz.func53 k53 ?_
      simp -dsimp [q, rvA]
      refine call_of (w2) rfl (by simp) ?_
      try simp -dsimp
      try (first | exact fp_one (by decide) | refine fp_and (by decide) ?_)
      refine ⟨by omega, fun a1 ha1 => ⟨by omega, by omega, fun b1 hb1 => ?_⟩⟩
      rw [ha] at ha1
      cases ha1
      rw [hb] at hb1
      cases hb1
      refine call_of (w3) rfl (by simp) ?_
      try simp -dsimp
      try (first | exact fp_one (by decide) | refine fp_and (by decide) ?_)
  · obtain ⟨p0, hp0, hb0⟩ : ∃ p ∈ L, numOk p = false := by
      simpa using hall
    have w2 := hpt _ _ (fun h => absurd h hall) (fun p hp hb => ⟨rfl, rfl⟩)
    rw [rvI_bad hp0 hb0]
    clear hall
    refine sp_of (m := no) mixed Tryz.func53 k53 ?_
    simp -dsimp [q, rvA]
    refine call_of (w2) rfl (by simp) ?_
    try simp -dsimp
    try (first | exact fp_one (by decide) | refine fp_and (by decide) ?_)
end Go.Proofs.YtcnhcilpaplpcaaGreatDoorEv
namespace Go.Proofs.YtcnhcilpaplpcaaGreatDoorEv
open Go Go.Proofs
set_option maxRecDepth 10000
def rowL (x : Int) : Nat → List (Int × Int)
  | 0 => []
  | n + 1 => rowL x n ++ [(x, (n : Int))]
def cellsL (c : Nat) : Nat → List (Int × Int)
  | 0 => []
  | n + 1 => cellsL c n ++ rowL n c
theorem rowL_len (x : Int) : ∀ n, (rowL x n).length = n
  | 0 => rfl
  | n + 1 => by simp [rowL, rowL_len x n]
theorem cellsL_len (c : Nat) : ∀ n, (cellsL c n).length = n * c
  | 0 => by simp [cellsL]
  | n + 1 => by simp [cellsL, cellsL_len c n, rowL_len, Nat.succ_mul]
theorem nat_ac {a c : Int} (ha : 1 ≤ a ∧ a ≤ 64) (hc : 1 ≤ c ∧ c ≤ 64) {x : Nat} (hx : (x : Int) ≤ a) : x * c.toNat ≤ 4096 := by
  have := Nat.mul_le_mul (show x ≤ 64 by omega) (show c.toNat ≤ 64 by omega)
  omega
/-! reduced vectors -/
def redX (a b c x y : Int) : Int := (x - y / c * b) % a
def num (a b c x y : Int) : Int := redX a b c x y * c + y % c
theorem div_sub {y c : Int} (hc : 0 < c) : (y - y % c).tdiv c = y / c := by
  have h := Int.mul_ediv_add_emod y c
  rw [show y - y % c = y / c * c by rw [Int.mul_comm]; omega, Int.mul_tdiv_cancel _ (by omega)]
theorem kb_le {y b c : Int} (hy : -1000000000 ≤ y ∧ y ≤ 1000000000) (hb : 0 ≤ b ∧ b < 64) (hc : 1 ≤ c) : (-1000000000 ≤ y / c ∧ y / c ≤ 1000000000) ∧ -64000000000 ≤ y / c * b ∧ y / c * b ≤ 64000000000 := by
  have h1 : -1000000000 ≤ y / c := Int.le_ediv_of_mul_le (by omega) (by omega)
  have h2 : y / c ≤ 1000000000 := Int.ediv_le_of_le_mul (by omega) (by omega)
  have h3 := Int.mul_le_mul_of_nonneg_right h1 hb.1
  have h4 := Int.mul_le_mul_of_nonneg_right h2 hb.1
  refine ⟨⟨h1, h2⟩, by omega, by omega⟩
theorem s_reduce (a b c x y : Int) (ha : 1 ≤ a ∧ a ≤ 64) (hb : 0 ≤ b ∧ b < a) (hc : 1 ≤ c ∧ c ≤ 64) (hx : -1000000000 ≤ x ∧ x ≤ 1000000000) (hy : -1000000000 ≤ y ∧ y ≤ 1000000000) : Sp Tryz.prog 106 [aL a b c, aV x y] (aV (redX a b c x y) (y % c)) [] := by
  refine sp_of (m := no) mixed Tryz.func106 k106 ?_
  have h1 := Int.emod_nonneg y (show c ≠ 0 by omega)
  have h2 := Int.emod_lt_of_pos y (show 0 < c by omega)
  obtain ⟨h3, h4⟩ := kb_le (b := b) hy (by omega) hc.1
  have h5 := div_sub (y := y) (show 0 < c by omega)
  simp -dsimp [q]
  refine call_of (s_mod _ _ (by omega)) rfl (by simp) ?_
  try simp -dsimp
  try (first | exact fp_one (by decide) | refine fp_and (by decide) ?_)
  rw [w64 (n := y - y % c) (by omega) (by omega), h5, w64 (n := y / c) (by omega) (by omega), w64 (n := y / c * b) (by omega) (by omega), w64 (n := x - y / c * b) (by omega) (by omega)]
  refine ⟨by omega, ?_⟩
  refine call_of (s_mod _ _ (by omega)) rfl (by simp) ?_
  try simp -dsimp
  try (first | exact fp_one (by decide) | refine fp_and (by decide) ?_)
  rfl
theorem s_sreduce (a b c x y : Int) (ha : 1 ≤ a ∧ a ≤ 64) (hb : 0 ≤ b ∧ b < a) (hc : 1 ≤ c ∧ c ≤ 64) (hx : -1000000000 ≤ x ∧ x ≤ 1000000000) (hy : -1000000000 ≤ y ∧ y ≤ 1000000000) : Sp Tryz.prog 101 [aL a b c, aV x y] (aV (redX a b c x y) (y % c)) [] := by
  refine sp_of (m := no) mixed Tryz.func101 k101 ?_
  have h1 := Int.emod_nonneg y (show c ≠ 0 by omega)
  have h2 := Int.emod_lt_of_pos y (show 0 < c by omega)
  obtain ⟨h3, h4⟩ := kb_le (b := b) hy (by omega) hc.1
  have h5 := div_sub (y := y) (show 0 < c by omega)
  simp -dsimp [q]
  refine call_of (s_smod _ _ (by omega)) rfl (by simp) ?_
  try simp -dsimp
  try (first | exact fp_one (by decide) | refine fp_and (by decide) ?_)
  rw [w64 (n := y - y % c) (by omega) (by omega), h5, w64 (n := y / c) (by omega) (by omega), w64 (n := y / c * b) (by omega) (by omega), w64 (n := x - y / c * b) (by omega) (by omega)]
  refine ⟨by omega, ?_⟩
  refine call_of (s_smod _ _ (by omega)) rfl (by simp) ?_
  try simp -dsimp
  try (first | exact fp_one (by decide) | refine fp_and (by decide) ?_)
  rfl
theorem red_lt {a b c x y : Int} (ha : 1 ≤ a) (hc : 1 ≤ c) : (0 ≤ redX a b c x y ∧ redX a b c x y < a) ∧ 0 ≤ y % c ∧ y % c < c :=
  ⟨⟨Int.emod_nonneg _ (by omega), Int.emod_lt_of_pos _ (by omega)⟩, Int.emod_nonneg _ (by omega), Int.emod_lt_of_pos _ (by omega)⟩
theorem num_lt' {a c u v : Int} (hu : 0 ≤ u ∧ u < a) (hv : 0 ≤ v ∧ v < c) : (0 ≤ u * c ∧ u * c ≤ a * c) ∧ 0 ≤ u * c + v ∧ u * c + v < a * c := by
  have h1 := Int.mul_nonneg hu.1 (show 0 ≤ c by omega)
  have h2 : (u + 1) * c ≤ a * c := Int.mul_le_mul_of_nonneg_right (by omega) (by omega)
  rw [Int.add_mul] at h2
  omega
end Go.Proofs.YtcnhcilpaplpcaaGreatDoorEv
namespace Go.Proofs.YtcnhcilpaplpcaaGreatDoorEv
open Go Go.Proofs
set_option maxRecDepth 10000
theorem mul_bd {x y : Int} {a b : Nat} (hx : x.natAbs ≤ a) (hy : y.natAbs ≤ b) : (x * y).natAbs ≤ a * b := by
  rw [Int.natAbs_mul]; exact Nat.mul_le_mul hx hy
abbrev vvs (l : List (Int × Int)) : V := .sl 2 (vs l)
theorem s_unit : Sp Tryz.prog 82 [] (aM 1 0 0 1) [] := by
  refine sp_of (m := no) mixed Tryz.func82 k82 ?_
  simp -dsimp [q]
theorem s_sunit : Sp Tryz.prog 100 [] (aM 1 0 0 1) [] := by
  refine sp_of (m := no) mixed Tryz.func100 k100 ?_
  simp -dsimp [q]
section
variable (p q' r s x y : Int) (hm : (p.natAbs ≤ 1000 ∧ q'.natAbs ≤ 1000) ∧ r.natAbs ≤ 1000 ∧ s.natAbs ≤ 1000) (hv : x.natAbs ≤ 1000000 ∧ y.natAbs ≤ 1000000)
include hm hv
theorem s_apply : Sp Tryz.prog 108 [aM p q' r s, aV x y] (aV (p * x + q' * y) (r * x + s * y)) [] := by
  refine sp_of (m := no) mixed Tryz.func108 k108 ?_
  have h1 := mul_bd hm.1.1 hv.1
  have h2 := mul_bd hm.1.2 hv.2
  have h3 := mul_bd hm.2.1 hv.1
  have h4 := mul_bd hm.2.2 hv.2
  simp -dsimp [q]
  rw [w64 (n := p * x) (by omega) (by omega), w64 (n := q' * y) (by omega) (by omega), w64 (n := r * x) (by omega) (by omega), w64 (n := s * y) (by omega) (by omega), w64 (by omega) (by omega), w64 (by omega) (by omega)]
  exact ⟨rfl, rfl⟩
theorem s_sapply : Sp Tryz.prog 104 [aM p q' r s, aV x y] (aV (p * x + q' * y) (r * x + s * y)) [] := by
  refine sp_of (m := no) mixed Tryz.func104 k104 ?_
  have h1 := mul_bd hm.1.1 hv.1
  have h2 := mul_bd hm.1.2 hv.2
  have h3 := mul_bd hm.2.1 hv.1
  have h4 := mul_bd hm.2.2 hv.2
  simp -dsimp [q]
  rw [w64 (n := p * x) (by omega) (by omega), w64 (n := q' * y) (by omega) (by omega), w64 (n := r * x) (by omega) (by omega), w64 (n := s * y) (by omega) (by omega), w64 (by omega) (by omega), w64 (by omega) (by omega)]
  exact ⟨rfl, rfl⟩
end
section
variable (p q' r s : Int) (hm : (p.natAbs ≤ 1000 ∧ q'.natAbs ≤ 1000) ∧ r.natAbs ≤ 1000 ∧ s.natAbs ≤ 1000)
include hm
end
/-! divisors -/
theorem gcd_step (a b : Int) : Int.gcd b (a.tmod b) = Int.gcd a b := by
  rw [Int.gcd_comm a b]
  have h := Int.tmod_add_mul_tdiv a b
  have : a.tmod b = a - a.tdiv b * b := by rw [Int.mul_comm]; omega
  rw [this, Int.gcd_sub_mul_right_right]
theorem tmod_abs (a : Int) {b : Int} (hb : b ≠ 0) : (a.tmod b).natAbs < b.natAbs := by
  rw [Int.natAbs_tmod]
  exact Nat.mod_lt _ (by omega)
end Go.Proofs.YtcnhcilpaplpcaaGreatDoorEv
namespace Go.Proofs.YtcnhcilpaplpcaaGreatDoorEv
open Go Go.Proofs
set_option maxRecDepth 10000
def eu : Nat → Int × Int → Int × Int → (Int × Int) × (Int × Int)
  | 0, h, v => (h, v)
  | n + 1, h, v => if v.2 = 0 then (h, v) else eu n v (h.1 - h.2.tdiv v.2 * v.1, h.2.tmod v.2)
theorem eu_zero {n : Nat} {h v : Int × Int} (hv : v.2 = 0) : eu n h v = (h, v) := by
  cases n <;> simp [eu, hv]
theorem eu_fuel : ∀ (n m : Nat) (h v : Int × Int), v.2.natAbs ≤ n → v.2.natAbs ≤ m → eu n h v = eu m h v
  | 0, m, h, v, hn, _ => by rw [eu_zero (by omega), eu_zero (by omega)]
  | n + 1, 0, h, v, _, hm => by rw [eu_zero (by omega), eu_zero (by omega)]
  | n + 1, m + 1, h, v, hn, hm => by
    by_cases hv : v.2 = 0
    · rw [eu_zero hv, eu_zero hv]
    · have h1 := tmod_abs h.2 hv
      simp only [eu, if_neg hv]
      exact eu_fuel n m _ _ (by simp only; omega) (by simp only; omega)
theorem eu_step {h v : Int × Int} (hv : v.2 ≠ 0) : eu v.2.natAbs h v = eu (h.2.tmod v.2).natAbs v (h.1 - h.2.tdiv v.2 * v.1, h.2.tmod v.2) := by
  have h1 := tmod_abs h.2 hv
  obtain ⟨n, hn⟩ : ∃ n, v.2.natAbs = n + 1 := ⟨v.2.natAbs - 1, by omega⟩
  rw [hn]
  simp only [eu, if_neg hv]
  exact eu_fuel _ _ _ _ (by simp only; omega) (Nat.le_refl _)
def pot (h v : Int × Int) : Nat := h.1.natAbs * v.2.natAbs + v.1.natAbs * h.2.natAbs
theorem pot_step {h v : Int × Int} : pot v (h.1 - h.2.tdiv v.2 * v.1, h.2.tmod v.2) ≤ pot h v := by
  obtain ⟨a, b⟩ := h
  obtain ⟨c, d⟩ := v
  simp only [pot]
  have h1 : (a - b.tdiv d * c).natAbs ≤ a.natAbs + b.natAbs / d.natAbs * c.natAbs := by
    have := Int.natAbs_sub_le a (b.tdiv d * c)
    rw [Int.natAbs_mul, Int.natAbs_tdiv] at this
    exact this
  have h2 := Nat.mul_le_mul_right d.natAbs h1
  rw [Int.natAbs_tmod]
  have h3 := Nat.mod_add_div b.natAbs d.natAbs
  have h4 : c.natAbs * b.natAbs = c.natAbs * (b.natAbs % d.natAbs) + b.natAbs / d.natAbs * c.natAbs * d.natAbs := by
    rw [← Nat.mul_comm d.natAbs, ← Nat.mul_assoc, Nat.mul_comm _ c.natAbs, ← Nat.mul_add, h3]
  rw [Nat.add_mul] at h2
  generalize (a - b.tdiv d * c).natAbs * d.natAbs = X at *
  generalize a.natAbs * d.natAbs = Y at *
  generalize c.natAbs * (b.natAbs % d.natAbs) = Z at *
  generalize b.natAbs / d.natAbs * c.natAbs * d.natAbs = W at *
  omega
theorem eu_small {h v : Int × Int} {B : Nat} (hP : pot h v ≤ B) (hv : v.2 ≠ 0) : (h.2.tdiv v.2 * v.1).natAbs ≤ B ∧ (h.2.tdiv v.2).natAbs ≤ h.2.natAbs ∧ (h.2.tdiv v.2 * v.2).natAbs ≤ h.2.natAbs := by
  have hd : 0 < v.2.natAbs := by omega
  unfold pot at hP
  rw [Int.natAbs_mul, Int.natAbs_mul, Int.natAbs_tdiv]
  have h1 := Nat.div_mul_le_self h.2.natAbs v.2.natAbs
  have h2 := Nat.div_le_self h.2.natAbs v.2.natAbs
  refine ⟨?_, h2, h1⟩
  have h3 := Nat.mul_le_mul_right v.1.natAbs h2
  rw [Nat.mul_comm h.2.natAbs v.1.natAbs] at h3
  exact Nat.le_trans h3 (Nat.le_trans (Nat.le_add_left _ _) hP)
def lstep (s : Int × Int × Int) (v : Int × Int) : Int × Int × Int := ((Int.gcd s.1 (eu v.2.natAbs s.2 v).2.1 : Int), (eu v.2.natAbs s.2 v).1)
def lfold (l : List (Int × Int)) : Int × Int × Int := l.foldl lstep (0, 0, 0)
def lfin (s : Int × Int × Int) : Int × Int × Int := (s.1, (if s.2.2 < 0 then -s.2.1 else s.2.1) % s.1, if s.2.2 < 0 then -s.2.2 else s.2.2)
theorem lfold_snoc (l : List (Int × Int)) (v : Int × Int) : lfold (l ++ [v]) = lstep (lfold l) v := by simp [lfold]
def smallV (n : Nat) (v : Int × Int) : Prop := v.1.natAbs ≤ n ∧ v.2.natAbs ≤ n
def lsmall (l : List (Int × Int)) : Prop := (∀ v ∈ l, smallV 1000000 v) ∧ ∀ k, smallV 1000000 (lfold (l.take k)).2 ∧ (lfold (l.take k)).1.natAbs ≤ 1000000
abbrev bV (v : Int × Int) : Ck := .box [.v (.int .i64 v.1), .v (.int .i64 v.2)]
/-! the reference's -/
def lstepS (s : Int × Int × Int) (v : Int × Int) : Int × Int × Int :=
  ((Int.gcd s.1 (eu v.2.natAbs s.2 v).2.1 : Int), if (0 : Int) < Int.gcd s.1 (eu v.2.natAbs s.2 v).2.1 then (eu v.2.natAbs s.2 v).1.1 % (Int.gcd s.1 (eu v.2.natAbs s.2 v).2.1 : Int) else (eu v.2.natAbs s.2 v).1.1, (eu v.2.natAbs s.2 v).1.2)
def lfoldS (l : List (Int × Int)) : Int × Int × Int := l.foldl lstepS (0, 0, 0)
theorem lfoldS_snoc (l : List (Int × Int)) (v : Int × Int) : lfoldS (l ++ [v]) = lstepS (lfoldS l) v := by simp [lfoldS]
def lsmallS (l : List (Int × Int)) : Prop := (∀ v ∈ l, smallV 1000000 v) ∧ ∀ k, smallV 1000000 (lfoldS (l.take k)).2 ∧ (lfoldS (l.take k)).1.natAbs ≤ 1000000
end Go.Proofs.YtcnhcilpaplpcaaGreatDoorEv
namespace Go.Proofs.YtcnhcilpaplpcaaGreatDoorEv
open Go Go.Proofs
theorem rowL_get (x : Int) : ∀ (n k : Nat), k < n → (rowL x n)[k]? = some (x, (k : Int))
  | n + 1, k, h => by
    simp only [rowL]
    by_cases e : k < n
    · rw [List.getElem?_append_left (by rw [rowL_len]; exact e)]; exact rowL_get x n k e
    · have : k = n := by omega
      subst this
      rw [List.getElem?_append_right (by rw [rowL_len]; omega), rowL_len]
      simp
theorem cellsL_get (c : Nat) (hc : 0 < c) : ∀ (n k : Nat), k < n * c → (cellsL c n)[k]? = some (((k / c : Nat) : Int), ((k % c : Nat) : Int))
  | 0, k, h => by simp at h
  | n + 1, k, h => by
    simp only [cellsL]
    by_cases e : k < n * c
    · rw [List.getElem?_append_left (by rw [cellsL_len]; exact e)]; exact cellsL_get c hc n k e
    · rw [List.getElem?_append_right (by rw [cellsL_len]; omega), cellsL_len]
      rw [Nat.succ_mul] at h
      rw [rowL_get _ _ _ (by omega)]
      have h1 : k / c = n := by
        rw [Nat.div_eq_iff hc]
        refine ⟨by omega, by omega⟩
      have h2 : k % c = k - n * c := by
        have := Nat.div_add_mod k c
        rw [h1, Nat.mul_comm] at this
        omega
      rw [h1, h2]
theorem num_cell {a b c : Int} (hc : 0 < c) {k : Nat} (hk : (k : Int) < a * c) : num a b c ((k / c.toNat : Nat) : Int) ((k % c.toNat : Nat) : Int) = k := by
  obtain ⟨n, rfl⟩ : ∃ n : Nat, c = n := ⟨c.toNat, by omega⟩
  have hn : 0 < n := by omega
  have h1 := Nat.mod_lt k hn
  have h2 := Nat.div_add_mod k n
  have h3 : ((k % n : Nat) : Int) / (n : Int) = 0 := Int.ediv_eq_zero_of_lt (by omega) (by omega)
  have h4 : ((k % n : Nat) : Int) % (n : Int) = (k % n : Nat) := Int.emod_eq_of_lt (by omega) (by omega)
  have h5 : ((k / n : Nat) : Int) < a := by
    rcases Int.lt_or_le ((k / n : Nat) : Int) a with h | h
    · exact h
    · exfalso
      have h6 := Int.mul_le_mul_of_nonneg_right h (show (0 : Int) ≤ n by omega)
      have h7 : ((k / n : Nat) : Int) * (n : Int) = ((n * (k / n) : Nat) : Int) := by rw [Int.mul_comm]; simp
      omega
  simp only [num, redX, Int.toNat_natCast, h3, h4, Int.zero_mul, Int.sub_zero]
  rw [Int.emod_eq_of_lt (Int.natCast_nonneg _) h5]
  have h7 : ((k / n : Nat) : Int) * (n : Int) = ((n * (k / n) : Nat) : Int) := by rw [Int.mul_comm]; simp
  omega
theorem num_range {a b c x y : Int} (ha : 0 < a) (hc : 0 < c) : 0 ≤ num a b c x y ∧ num a b c x y < a * c := by
  have h := red_lt (a := a) (b := b) (c := c) (x := x) (y := y) ha hc
  exact (num_lt' h.1 h.2).2
theorem cell_num {a b c x y : Int} (ha : 0 < a) (hc : 0 < c) : (((num a b c x y).toNat / c.toNat : Nat) : Int) = redX a b c x y ∧ (((num a b c x y).toNat % c.toNat : Nat) : Int) = y % c := by
  have h := red_lt (a := a) (b := b) (c := c) (x := x) (y := y) ha hc
  have h1 := (num_lt' h.1 h.2).2
  have h2 : ((num a b c x y).toNat : Int) = num a b c x y := Int.toNat_of_nonneg h1.1
  have h3 : ((c.toNat : Nat) : Int) = c := Int.toNat_of_nonneg (by omega)
  constructor
  · rw [Int.natCast_ediv, h2, h3]
    unfold num
    rw [Int.add_comm, Int.add_mul_ediv_right _ _ (by omega), Int.ediv_eq_zero_of_lt h.2.1 h.2.2, Int.zero_add]
  · rw [Int.natCast_emod, h2, h3]
    unfold num
    rw [Int.add_comm, Int.add_mul_emod_self_right, Int.emod_eq_of_lt h.2.1 h.2.2]
theorem num_add {a b c x y u v : Int} (hc : 0 < c) : num a b c (redX a b c x y + u) (y % c + v) = num a b c (x + u) (y + v) := by
  have h1 : (y + v) % c = (y % c + v) % c := by rw [Int.emod_add_emod]
  have h2 : (y + v) / c = y / c + (y % c + v) / c := by
    have h3 := Int.mul_ediv_add_emod y c
    rw [show y + v = (y % c + v) + c * (y / c) by omega, Int.add_mul_ediv_left _ _ (by omega)]
    omega
  have h4 : redX a b c (redX a b c x y + u) (y % c + v) = redX a b c (x + u) (y + v) := by
    unfold redX
    rw [h2, Int.add_mul]
    rw [show (x - y / c * b) % a + u - (y % c + v) / c * b = (x - y / c * b) % a + (u - (y % c + v) / c * b) by omega, Int.emod_add_emod]
    congr 1
    omega
  unfold num
  rw [h4, h1]
theorem num_shift {a b c x y u v : Int} (ha : 0 < a) (hc : 0 < c) : num a b c ((((num a b c x y).toNat / c.toNat : Nat) : Int) + u) ((((num a b c x y).toNat % c.toNat : Nat) : Int) + v) = num a b c (x + u) (y + v) := by
  obtain ⟨h1, h2⟩ := cell_num (b := b) (x := x) (y := y) ha hc
  rw [h1, h2, num_add hc]
theorem num_back {a b c u v : Int} (ha : 0 < a) (hc : 0 < c) {k : Nat} (hk : (k : Int) < a * c) : num a b c ((((num a b c ((k / c.toNat : Nat) + u) ((k % c.toNat : Nat) + v)).toNat / c.toNat : Nat) : Int) + -u) ((((num a b c ((k / c.toNat : Nat) + u) ((k % c.toNat : Nat) + v)).toNat % c.toNat : Nat) : Int) + -v) = k := by
  rw [num_shift ha hc]
  rw [show ((k / c.toNat : Nat) : Int) + u + -u = ((k / c.toNat : Nat) : Int) by omega, show ((k % c.toNat : Nat) : Int) + v + -v = ((k % c.toNat : Nat) : Int) by omega]
  exact num_cell hc hk
/-! entries set one behind the other -/
def setN (p : Nat → Bool) (ix : Nat → Nat) (val : Nat → Int) (l : List Int) : Nat → List Int
  | 0 => l
  | n + 1 => if p n = true then (setN p ix val l n).set (ix n) (val n) else setN p ix val l n
theorem setN_len (p : Nat → Bool) (ix : Nat → Nat) (val : Nat → Int) (l : List Int) : ∀ n, (setN p ix val l n).length = l.length
  | 0 => rfl
  | n + 1 => by simp only [setN]; split <;> simp [setN_len p ix val l n]
theorem setN_get {p : Nat → Bool} {ix : Nat → Nat} {val : Nat → Int} {l : List Int} {m j i : Nat} (hj : j < l.length) (hi : i < m) (hix : ∀ k, k < m → (ix k = j ↔ k = i)) : ∀ n, n ≤ m → (setN p ix val l n)[j]? = if i < n ∧ p i = true then some (val i) else l[j]?
  | 0, _ => by simp [setN]
  | n + 1, hn => by
    have ih := setN_get (p := p) (val := val) hj hi hix n (by omega)
    simp only [setN]
    by_cases hp : p n = true
    · rw [if_pos hp]
      by_cases e : ix n = j
      · have := (hix n (by omega)).1 e
        subst this
        rw [e, List.getElem?_set_self (by rw [setN_len]; exact hj), if_pos ⟨by omega, hp⟩]
      · rw [List.getElem?_set_ne e, ih]
        have : n ≠ i := fun h => e ((hix n (by omega)).2 h)
        by_cases h2 : i < n ∧ p i = true
        · rw [if_pos h2, if_pos ⟨by omega, h2.2⟩]
        · rw [if_neg h2, if_neg (fun h => h2 ⟨by omega, h.2⟩)]
    · rw [if_neg hp, ih]
      by_cases h2 : i < n ∧ p i = true
      · rw [if_pos h2, if_pos ⟨by omega, h2.2⟩]
      · rw [if_neg h2, if_neg (fun h => by
          have : i ≠ n := fun e => hp (e ▸ h.2)
          exact h2 ⟨by omega, h.2⟩)]
def mv (a b c u v : Int) (k : Nat) : Nat := (num a b c ((k / c.toNat : Nat) + u) ((k % c.toNat : Nat) + v)).toNat
theorem mv_lt {a b c u v : Int} (ha : 0 < a) (hc : 0 < c) (k : Nat) : mv a b c u v k < (a * c).toNat := by
  have := num_range (b := b) (x := (k / c.toNat : Nat) + u) (y := (k % c.toNat : Nat) + v) ha hc
  unfold mv
  omega
theorem mv_iff {a b c u v : Int} (ha : 0 < a) (hc : 0 < c) {k j : Nat} (hk : (k : Int) < a * c) (hj : (j : Int) < a * c) : mv a b c u v k = j ↔ k = mv a b c (-u) (-v) j := by
  constructor
  · rintro rfl
    have := num_back (b := b) (u := u) (v := v) ha hc hk
    unfold mv
    omega
  · rintro rfl
    have := num_back (b := b) (u := -u) (v := -v) ha hc hj
    rw [Int.neg_neg, Int.neg_neg] at this
    unfold mv
    omega
theorem cell_of {a c x y : Int} {i : Nat} (ha : 1 ≤ a) (hc : 1 ≤ c) (h : (cellsL c.toNat a.toNat)[i]? = some (x, y)) : ((0 ≤ x ∧ x < a) ∧ 0 ≤ y ∧ y < c) ∧ (∀ b u v, mv a b c u v i = (num a b c (x + u) (y + v)).toNat) ∧ x * c + y = i := by
  have hi : i < a.toNat * c.toNat := by
    have := (List.getElem?_eq_some_iff.1 h).1
    rwa [cellsL_len] at this
  rw [cellsL_get _ (by omega) _ _ hi] at h
  simp only [Option.some.injEq, Prod.mk.injEq] at h
  obtain ⟨rfl, rfl⟩ := h
  have h1 := Nat.mod_lt i (show 0 < c.toNat by omega)
  have h2 : i / c.toNat < a.toNat := Nat.div_lt_of_lt_mul (by rw [Nat.mul_comm]; exact hi)
  refine ⟨⟨⟨Int.natCast_nonneg _, by omega⟩, Int.natCast_nonneg _, by omega⟩, fun b u v => rfl, ?_⟩
  have h3 := Nat.div_add_mod i c.toNat
  have h4 : ((i / c.toNat : Nat) : Int) * c = ((c.toNat * (i / c.toNat) : Nat) : Int) := by rw [Int.natCast_mul, Int.toNat_of_nonneg (by omega), Int.mul_comm]
  omega
theorem nat_n {a c : Int} (ha : 1 ≤ a) (hc : 1 ≤ c) {n : Nat} (h : (n : Int) = a * c) : a.toNat * c.toNat = n := by
  have h2 : ((a.toNat * c.toNat : Nat) : Int) = a * c := by rw [Int.natCast_mul, Int.toNat_of_nonneg (by omega), Int.toNat_of_nonneg (by omega)]
  omega
end Go.Proofs.YtcnhcilpaplpcaaGreatDoorEv
namespace Go.Proofs.YtcnhcilpaplpcaaGreatDoorEv
open Go Go.Proofs
set_option maxRecDepth 10000
theorem toArgs_shut {h : List Ck} : ∀ {cs : List A}, cs.all A.shut = true → toArgs h cs = some (cs, [])
  | [], _ => rfl
  | c :: cs, hc => by
    simp only [List.all_cons, Bool.and_eq_true] at hc
    have := toArgs_shut (h := h) hc.2
    cases c <;> first | (simp [toArgs, toArg, toArg1, this]; done) | (have := hc.1; cases this)
end Go.Proofs.YtcnhcilpaplpcaaGreatDoorEv
namespace Go.Proofs.YtcnhcilpaplpcaaGreatDoorEv
open Go Go.Proofs
set_option maxRecDepth 10000
abbrev aP (f a b c : Int) (l : List Int) : A := .v (.ag [.int .i64 f, .int .i64 a, .int .i64 b, .int .i64 c, vis l])
abbrev oP (f a b c : Int) (i : Nat) : A := .ag [vi f, vi a, vi b, vi c, .sli i]
def okP (f a b c : Int) (l : List Int) : Bool := decide (0 ≤ f ∧ f ≤ 1) && okL a b c && decide ((l.length : Int) = a * c) && l.all fun n => decide (0 ≤ n ∧ n ≤ 9)
theorem okP_spec {f a b c : Int} {l : List Int} : okP f a b c l = true ↔ (0 ≤ f ∧ f ≤ 1) ∧ okL a b c = true ∧ (l.length : Int) = a * c ∧ ∀ n ∈ l, 0 ≤ n ∧ n ≤ 9 := by
  simp [okP, and_assoc]
end Go.Proofs.YtcnhcilpaplpcaaGreatDoorEv
namespace Go.Proofs.YtcnhcilpaplpcaaGreatDoorEv
open Go Go.Proofs
set_option maxRecDepth 10000
abbrev M4 := Int × Int × Int × Int
def vm (m : M4) : V := .ag [.int .i64 m.1, .int .i64 m.2.1, .int .i64 m.2.2.1, .int .i64 m.2.2.2]
def ms (l : List M4) : List V := l.map vm
abbrev aM4 (m : M4) : A := aM m.1 m.2.1 m.2.2.1 m.2.2.2
@[simp] theorem ms_nil : ms [] = [] := rfl
@[simp] theorem ms_len (l : List M4) : (ms l).length = l.length := by simp [ms]
@[simp] theorem ms_get (l : List M4) (n : Nat) (K : V → Prop) : fA ((ms l)[n]?) K = ∀ m, l[n]? = some m → K (.ag [.int .i64 m.1, .int .i64 m.2.1, .int .i64 m.2.2.1, .int .i64 m.2.2.2]) := by unfold ms; exact fA_map
@[simp] theorem ms_app (l : List M4) (a b c d : Int) : ms l ++ [.ag [.int .i64 a, .int .i64 b, .int .i64 c, .int .i64 d]] = ms (l ++ [(a, b, c, d)]) := by simp [ms, vm]
@[simp] theorem ms_set (l : List M4) (n : Nat) (a b c d : Int) : (ms l).set n (.ag [.int .i64 a, .int .i64 b, .int .i64 c, .int .i64 d]) = ms (l.set n (a, b, c, d)) := by simp [ms, vm, List.map_set]
@[simp] theorem ms_take (l : List M4) (n : Nat) : (ms l).take n = ms (l.take n) := by simp [ms, List.map_take]
@[simp] theorem ms_drop (l : List M4) (n : Nat) : (ms l).drop n = ms (l.drop n) := by simp [ms, List.map_drop]
@[simp] theorem ms_flat (l : List M4) : (∀ x, x ∈ ms l → x.flat = true) ↔ True := by
  simp only [iff_true]
  intro x hx
  obtain ⟨y, _, rfl⟩ := List.mem_map.1 hx
  rfl
theorem vm_inj {m n : M4} (h : vm m = vm n) : m = n := by
  obtain ⟨a, b, c, d⟩ := m
  obtain ⟨a', b', c', d'⟩ := n
  simp only [vm, V.ag.injEq, List.cons.injEq, V.int.injEq, true_and, and_true] at h
  obtain ⟨rfl, rfl, rfl, rfl⟩ := h
  rfl
@[simp] theorem ms_inj (a b : List M4) : ms a = ms b ↔ a = b := by
  constructor
  · exact fun h => (List.map_inj_right (fun x y e => vm_inj e)).1 h
  · rintro rfl; rfl
abbrev vms (l : List M4) : V := .sl 4 (ms l)
def keptM (p : M4 → Bool) (l : List M4) (j : Nat) : List M4 := (l.take j).filter fun v => !p v
theorem keptM_succ {p : M4 → Bool} {l : List M4} {j : Nat} {x : M4} (hx : l[j]? = some x) : keptM p l (j + 1) = keptM p l j ++ if p x = true then [] else [x] := by
  unfold keptM
  rw [List.take_add_one, hx, List.filter_append]
  cases h : p x <;> simp [h]
theorem keptM_first {p : M4 → Bool} {l : List M4} (h : l.any p = true) : keptM p l (l.findIdx p + 1) = l.take (l.findIdx p) ∧ l.findIdx p < l.length := by
  have hlt : l.findIdx p < l.length := List.findIdx_lt_length.2 (by simpa using h)
  have hx := List.getElem?_eq_getElem hlt
  have hp : p l[l.findIdx p] = true := List.findIdx_getElem
  refine ⟨?_, hlt⟩
  rw [keptM_succ hx, if_pos hp, List.append_nil]
  unfold keptM
  rw [List.filter_eq_self]
  intro x hx
  obtain ⟨j, hj, rfl⟩ := List.mem_take_iff_getElem.1 hx
  have := List.not_of_lt_findIdx (p := p) (xs := l) (i := j) (by omega)
  simp [this]
end Go.Proofs.YtcnhcilpaplpcaaGreatDoorEv
namespace Go.Proofs.YtcnhcilpaplpcaaGreatDoorEv
open Go Go.Proofs
set_option maxRecDepth 10000
def normF (f x y : Int) : Int := x * x + f * x * y + y * y
theorem normF_bd {f x y : Int} (hf : 0 ≤ f ∧ f ≤ 1) (hx : x.natAbs ≤ 10000) (hy : y.natAbs ≤ 10000) : (x * x).natAbs ≤ 100000000 ∧ (f * x).natAbs ≤ 10000 ∧ (f * x * y).natAbs ≤ 100000000 ∧ (y * y).natAbs ≤ 100000000 ∧ (x * y).natAbs ≤ 100000000 := by
  have h1 := mul_bd hx hx
  have h2 := mul_bd (show f.natAbs ≤ 1 by omega) hx
  have h3 := mul_bd h2 hy
  have h4 := mul_bd hy hy
  have h5 := mul_bd hx hy
  exact ⟨by omega, by omega, by omega, by omega, by omega⟩
def pmOk (f : Int) (m : M4) : Bool := decide (normF f m.1 m.2.2.1 = 1) && decide (normF f m.2.1 m.2.2.2 = 1) && decide (normF f (m.1 + m.2.1) (m.2.2.1 + m.2.2.2) = 2 + f)
def matOk (a b c d : Int) : Bool := okV a b && okV c d && (decide (a * d - b * c = 1) || decide (a * d - b * c = -1))
theorem matOk_small {a b c d : Int} (h : matOk a b c d = true) : (a.natAbs ≤ 1000 ∧ b.natAbs ≤ 1000) ∧ c.natAbs ≤ 1000 ∧ d.natAbs ≤ 1000 := by
  simp only [matOk, Bool.and_eq_true, okV_spec] at h
  omega
/-! all of a frame -/
def mat81 (k : Nat) : M4 := ((k : Int) / 27 - 1, (k : Int) / 9 % 3 - 1, (k : Int) / 3 % 3 - 1, (k : Int) % 3 - 1)
def pmL (f : Int) (n : Nat) : List M4 := ((List.range n).map mat81).filter fun m => pmOk f m
theorem pmL_succ (f : Int) (n : Nat) : pmL f (n + 1) = pmL f n ++ if pmOk f (mat81 n) = true then [mat81 n] else [] := by
  unfold pmL
  rw [List.range_succ, List.map_append, List.filter_append]
  cases h : pmOk f (mat81 n) <;> simp [h]
theorem pmL_len (f : Int) (n : Nat) : (pmL f n).length ≤ n := by
  unfold pmL
  exact Nat.le_trans (List.length_filter_le _ _) (by simp)
end Go.Proofs.YtcnhcilpaplpcaaGreatDoorEv
namespace Go.Proofs.YtcnhcilpaplpcaaGreatDoorEv
open Go Go.Proofs
set_option maxRecDepth 10000
def inL (a b c x y : Int) : Bool := decide (redX a b c x y = 0) && decide (y % c = 0)
def keepL (a b c : Int) (m : M4) : Bool := inL a b c (m.1 * a) (m.2.2.1 * a) && inL a b c (m.1 * b + m.2.1 * c) (m.2.2.1 * b + m.2.2.2 * c)
theorem pmL_small {f : Int} {n : Nat} (hn : n ≤ 81) {m : M4} (h : m ∈ pmL f n) : (m.1.natAbs ≤ 1 ∧ m.2.1.natAbs ≤ 1) ∧ m.2.2.1.natAbs ≤ 1 ∧ m.2.2.2.natAbs ≤ 1 := by
  unfold pmL at h
  obtain ⟨h1, _⟩ := List.mem_filter.1 h
  obtain ⟨k, hk, rfl⟩ := List.mem_map.1 h1
  have := List.mem_range.1 hk
  simp only [mat81]
  omega
end Go.Proofs.YtcnhcilpaplpcaaGreatDoorEv
namespace Go.Proofs.YtcnhcilpaplpcaaGreatDoorEv
open Go Go.Proofs
set_option maxRecDepth 10000
/-- Closed under adding multiples. -/
structure Sub (L : Int → Int → Prop) : Prop where
  z : L 0 0
  a : ∀ {x y u v : Int} (n : Int), L x y → L u v → L (x + n * u) (y + n * v)
theorem Sub.m {L : Int → Int → Prop} (s : Sub L) {x y : Int} (n : Int) (h : L x y) : L (n * x) (n * y) := by
  have := s.a n s.z h
  simpa using this
theorem Sub.s {L : Int → Int → Prop} (s : Sub L) {x y u v : Int} (n : Int) (h : L x y) (k : L u v) : L (x - n * u) (y - n * v) := by
  have := s.a (-n) h k
  rwa [Int.neg_mul, Int.neg_mul, ← Int.sub_eq_add_neg, ← Int.sub_eq_add_neg] at this
theorem sub_gcd {L : Int → Int → Prop} (s : Sub L) : ∀ (n : Nat) (a b : Int), b.natAbs ≤ n → L a 0 → L b 0 → L (Int.gcd a b : Int) 0
  | 0, a, b, hn, ha, hb => by
    have : b = 0 := by omega
    subst this
    rw [Int.gcd_zero_right]
    rcases Int.natAbs_eq a with h | h
    · rwa [← h]
    · have := s.m (-1) ha
      rw [show ((a.natAbs : Nat) : Int) = -1 * a by omega]
      simpa using this
  | n + 1, a, b, hn, ha, hb => by
    by_cases h0 : b = 0
    · exact sub_gcd s n a b (by omega) ha hb
    have h1 := tmod_abs a h0
    rw [← gcd_step]
    refine sub_gcd s n b _ (by omega) hb ?_
    have h2 := s.s (a.tdiv b) ha hb
    have h3 := Int.tmod_add_mul_tdiv a b
    rw [Int.mul_comm] at h3
    rw [show a.tmod b = a - a.tdiv b * b by omega]
    simpa using h2
theorem sub_of_gcd {L : Int → Int → Prop} (s : Sub L) {a b : Int} (h : L (Int.gcd a b : Int) 0) : L a 0 ∧ L b 0 := by
  obtain ⟨k, hk⟩ := Int.gcd_dvd_left (a := a) (b := b)
  obtain ⟨j, hj⟩ := Int.gcd_dvd_right (a := a) (b := b)
  constructor
  · have := s.m k h
    rw [Int.mul_comm, ← hk] at this
    simpa using this
  · have := s.m j h
    rw [Int.mul_comm, ← hj] at this
    simpa using this
theorem eu_row0 : ∀ (n : Nat) (h v : Int × Int), v.2.natAbs ≤ n → (eu n h v).2.2 = 0
  | 0, h, v, hn => by simp only [eu]; omega
  | n + 1, h, v, hn => by
    simp only [eu]
    by_cases hv : v.2 = 0
    · rw [if_pos hv]; exact hv
    · rw [if_neg hv]
      have := tmod_abs h.2 hv
      exact eu_row0 n _ _ (by simp only; omega)
theorem sub_eu {L : Int → Int → Prop} (s : Sub L) : ∀ (n : Nat) (h v : Int × Int), (L (eu n h v).1.1 (eu n h v).1.2 ∧ L (eu n h v).2.1 (eu n h v).2.2) ↔ (L h.1 h.2 ∧ L v.1 v.2)
  | 0, h, v => by simp [eu]
  | n + 1, h, v => by
    simp only [eu]
    by_cases hv : v.2 = 0
    · rw [if_pos hv]
    · rw [if_neg hv, sub_eu s n]
      have h3 := Int.tmod_add_mul_tdiv h.2 v.2
      rw [Int.mul_comm] at h3
      have e : h.2.tmod v.2 = h.2 - h.2.tdiv v.2 * v.2 := by omega
      simp only [e]
      constructor
      · rintro ⟨h1, h2⟩
        refine ⟨?_, h1⟩
        have := s.a (h.2.tdiv v.2) h2 h1
        rwa [Int.sub_add_cancel, Int.sub_add_cancel] at this
      · rintro ⟨h1, h2⟩
        exact ⟨h2, s.s _ h1 h2⟩
theorem sub_lstep {L : Int → Int → Prop} (s : Sub L) (t : Int × Int × Int) (v : Int × Int) : (L (lstep t v).1 0 ∧ L (lstep t v).2.1 (lstep t v).2.2) ↔ ((L t.1 0 ∧ L t.2.1 t.2.2) ∧ L v.1 v.2) := by
  have e1 := sub_eu s v.2.natAbs t.2 v
  have e2 := eu_row0 v.2.natAbs t.2 v (Nat.le_refl _)
  rw [e2] at e1
  simp only [lstep]
  constructor
  · rintro ⟨h1, h2⟩
    obtain ⟨h3, h4⟩ := sub_of_gcd s h1
    have := e1.1 ⟨h2, h4⟩
    exact ⟨⟨h3, this.1⟩, this.2⟩
  · rintro ⟨⟨h1, h2⟩, h3⟩
    have := e1.2 ⟨h2, h3⟩
    exact ⟨sub_gcd s _ _ _ (Nat.le_refl _) h1 this.2, this.1⟩
theorem sub_lstepS {L : Int → Int → Prop} (s : Sub L) (t : Int × Int × Int) (v : Int × Int) : (L (lstepS t v).1 0 ∧ L (lstepS t v).2.1 (lstepS t v).2.2) ↔ ((L t.1 0 ∧ L t.2.1 t.2.2) ∧ L v.1 v.2) := by
  rw [← sub_lstep s]
  simp only [lstep, lstepS]
  generalize (Int.gcd t.1 (eu v.2.natAbs t.2 v).2.1 : Int) = g
  generalize (eu v.2.natAbs t.2 v).1 = h
  refine and_congr_right fun hg => ?_
  split
  · have e := Int.emod_add_mul_ediv h.1 g
    rw [Int.mul_comm] at e
    constructor
    · intro h1
      have := s.a (h.1 / g) h1 hg
      rw [e] at this
      simpa using this
    · intro h1
      have := s.s (h.1 / g) h1 hg
      rw [show h.1 % g = h.1 - h.1 / g * g by omega]
      simpa using this
  · exact Iff.rfl
theorem sub_foldl {L : Int → Int → Prop} {st : Int × Int × Int → Int × Int → Int × Int × Int} (hst : ∀ t v, (L (st t v).1 0 ∧ L (st t v).2.1 (st t v).2.2) ↔ ((L t.1 0 ∧ L t.2.1 t.2.2) ∧ L v.1 v.2)) : ∀ (l : List (Int × Int)) (t : Int × Int × Int), (L (l.foldl st t).1 0 ∧ L (l.foldl st t).2.1 (l.foldl st t).2.2) ↔ ((L t.1 0 ∧ L t.2.1 t.2.2) ∧ ∀ v ∈ l, L v.1 v.2)
  | [], t => by simp
  | v :: l, t => by
    rw [List.foldl_cons, sub_foldl hst l, hst]
    simp only [List.mem_cons, forall_eq_or_imp, and_assoc]
theorem sub_lfold {L : Int → Int → Prop} (s : Sub L) (l : List (Int × Int)) : (L (lfold l).1 0 ∧ L (lfold l).2.1 (lfold l).2.2) ↔ ∀ v ∈ l, L v.1 v.2 := by
  rw [lfold, sub_foldl (sub_lstep s)]
  simp [s.z]
theorem sub_lfoldS {L : Int → Int → Prop} (s : Sub L) (l : List (Int × Int)) : (L (lfoldS l).1 0 ∧ L (lfoldS l).2.1 (lfoldS l).2.2) ↔ ∀ v ∈ l, L v.1 v.2 := by
  rw [lfoldS, sub_foldl (sub_lstepS s)]
  simp [s.z]
theorem sub_lfin {L : Int → Int → Prop} (s : Sub L) (t : Int × Int × Int) : (L (lfin t).1 0 ∧ L (lfin t).2.1 (lfin t).2.2) ↔ (L t.1 0 ∧ L t.2.1 t.2.2) := by
  simp only [lfin]
  refine and_congr_right fun hg => ?_
  have key : ∀ x y : Int, L (x % t.1) y ↔ L x y := fun x y => by
    have e := Int.emod_add_mul_ediv x t.1
    rw [Int.mul_comm] at e
    constructor
    · intro h1
      have := s.a (x / t.1) h1 hg
      rw [e] at this
      simpa using this
    · intro h1
      have := s.s (x / t.1) h1 hg
      rw [show x % t.1 = x - x / t.1 * t.1 by omega]
      simpa using this
  split
  · rw [key]
    constructor
    · intro h
      have := s.m (-1) h
      simpa using this
    · intro h
      have := s.m (-1) h
      simpa using this
  · rw [key]
def spn (a b c x y : Int) : Prop := ∃ i j : Int, x = i * a + j * b ∧ y = j * c
theorem spn_sub (a b c : Int) : Sub (spn a b c) where
  z := ⟨0, 0, by simp, by simp⟩
  a := by
    rintro x y u v n ⟨i, j, rfl, rfl⟩ ⟨k, l, rfl, rfl⟩
    refine ⟨i + n * k, j + n * l, ?_, ?_⟩
    · simp only [Int.add_mul, Int.mul_add, Int.mul_assoc]; omega
    · simp only [Int.add_mul, Int.mul_assoc]
theorem spn_l (a b c : Int) : spn a b c a 0 := ⟨1, 0, by simp, by simp⟩
theorem spn_r (a b c : Int) : spn a b c b c := ⟨0, 1, by simp, by simp⟩
theorem spn_det {a b c x y u v : Int} (h1 : spn a b c x y) (h2 : spn a b c u v) : a * c ∣ x * v - y * u := by
  obtain ⟨i, j, rfl, rfl⟩ := h1
  obtain ⟨k, l, rfl, rfl⟩ := h2
  refine ⟨i * l - j * k, ?_⟩
  simp only [Int.mul_sub, Int.add_mul, Int.mul_add]
  have e1 : i * a * (l * c) = a * c * (i * l) := by ac_rfl
  have e2 : j * b * (l * c) = j * c * (l * b) := by ac_rfl
  have e3 : j * c * (k * a) = a * c * (j * k) := by ac_rfl
  rw [e1, e2, e3]
  omega
theorem spn_uniq {a b c A B C : Int} (ha : 0 < a) (hb : 0 ≤ b ∧ b < a) (hc : 0 < c) (hA : 0 < A) (hB : 0 ≤ B ∧ B < A) (hC : 0 < C) (h1 : spn A B C a 0) (h2 : spn A B C b c) (h3 : spn a b c A 0) (h4 : spn a b c B C) : (a, b, c) = (A, B, C) := by
  obtain ⟨i1, j1, e1, f1⟩ := h1
  obtain ⟨i2, j2, e2, f2⟩ := h2
  obtain ⟨i3, j3, e3, f3⟩ := h3
  obtain ⟨i4, j4, e4, f4⟩ := h4
  have j1z : j1 = 0 := by
    rcases Int.mul_eq_zero.1 f1.symm with h | h <;> omega
  have j3z : j3 = 0 := by
    rcases Int.mul_eq_zero.1 f3.symm with h | h <;> omega
  subst j1z j3z
  simp only [Int.zero_mul, Int.add_zero] at e1 e3
  have eA : A = a := Int.le_antisymm (Int.le_of_dvd ha ⟨i1, by rw [Int.mul_comm]; exact e1⟩) (Int.le_of_dvd hA ⟨i3, by rw [Int.mul_comm]; exact e3⟩)
  have eC : C = c := Int.le_antisymm (Int.le_of_dvd hc ⟨j2, by rw [Int.mul_comm]; exact f2⟩) (Int.le_of_dvd hC ⟨j4, by rw [Int.mul_comm]; exact f4⟩)
  subst eA eC
  have : j2 = 1 := by
    have : (j2 - 1) * C = 0 := by rw [Int.sub_mul, Int.one_mul]; omega
    rcases Int.mul_eq_zero.1 this with h | h <;> omega
  subst this
  rw [Int.one_mul] at e2
  have : b % A = B % A := by rw [e2, Int.add_comm, Int.add_mul_emod_self_right]
  rw [Int.emod_eq_of_lt hb.1 hb.2, Int.emod_eq_of_lt hB.1 hB.2] at this
  rw [this]
end Go.Proofs.YtcnhcilpaplpcaaGreatDoorEv
namespace Go.Proofs.YtcnhcilpaplpcaaGreatDoorEv
open Go Go.Proofs
set_option maxRecDepth 10000
theorem inL_iff {a b c x y : Int} : inL a b c x y = true ↔ (x - y / c * b) % a = 0 ∧ y % c = 0 := by
  unfold inL
  rw [Bool.and_eq_true, decide_eq_true_iff, decide_eq_true_iff]
  exact Iff.rfl
theorem inL_spn {a b c x y : Int} (hc : 1 ≤ c) : inL a b c x y = true ↔ spn a b c x y := by
  rw [inL_iff]
  constructor
  · rintro ⟨h1, h2⟩
    have e1 := Int.emod_add_mul_ediv (x - y / c * b) a
    have e2 := Int.emod_add_mul_ediv y c
    refine ⟨(x - y / c * b) / a, y / c, ?_, ?_⟩
    · rw [h1, Int.mul_comm] at e1; omega
    · rw [h2, Int.mul_comm] at e2; omega
  · rintro ⟨i, j, rfl, rfl⟩
    rw [Int.mul_ediv_cancel _ (show c ≠ 0 by omega)]
    refine ⟨?_, Int.mul_emod_left _ _⟩
    rw [Int.add_sub_cancel]
    exact Int.mul_emod_left _ _
theorem lfS_one (x y : Int) : lfoldS [(x, y)] = if y = 0 then ((x.natAbs : Int), 0, 0) else (0, x, y) := by
  simp only [lfoldS, List.foldl_cons, List.foldl_nil, lstepS]
  by_cases hy : y = 0
  · subst hy
    simp [eu]
  · have h := eu_step (h := (0, 0)) (v := (x, y)) hy
    simp only at h
    rw [if_neg hy, h]
    simp [eu]
theorem lfS_g (l : List (Int × Int)) (v : Int × Int) : 0 ≤ (lfoldS (l ++ [v])).1 ∧ (0 < (lfoldS (l ++ [v])).1 → 0 ≤ (lfoldS (l ++ [v])).2.1 ∧ (lfoldS (l ++ [v])).2.1 < (lfoldS (l ++ [v])).1) := by
  rw [lfoldS_snoc]
  simp only [lstepS]
  refine ⟨by omega, fun h => ?_⟩
  rw [if_pos h]
  exact ⟨Int.emod_nonneg _ (by omega), Int.emod_lt_of_pos _ h⟩
structure Two (x y u w : Int) : Prop where
  h : 0 < (lfoldS [(x, y), (u, w)]).1
  r : 0 ≤ (lfoldS [(x, y), (u, w)]).2.1 ∧ (lfoldS [(x, y), (u, w)]).2.1 < (lfoldS [(x, y), (u, w)]).1
  k : (lfoldS [(x, y), (u, w)]).2.2 ≠ 0
  d : (lfoldS [(x, y), (u, w)]).1 * (lfoldS [(x, y), (u, w)]).2.2 ∣ x * w - y * u
  s : lsmallS [(x, y), (u, w)]
theorem dvd_bd {a b : Int} {D : Nat} (h : a ∣ b) (h0 : b ≠ 0) (hb : b.natAbs ≤ D) : a.natAbs ≤ D := by
  have := Int.natAbs_dvd_natAbs.2 h
  exact Nat.le_trans (Nat.le_of_dvd (by omega) this) hb
theorem takeTwo {α : Type} (x y : α) (P : List α → Prop) (h0 : P []) (h1 : P [x]) (h2 : P [x, y]) : ∀ k, P (([x, y] : List α).take k)
  | 0 => h0
  | 1 => h1
  | k + 2 => by simpa using h2
theorem two {x y u w : Int} (hx : x.natAbs ≤ 1000) (hy : y.natAbs ≤ 1000) (hu : u.natAbs ≤ 1000) (hw : w.natAbs ≤ 1000) (hd : x * w - y * u ≠ 0) (hD : (x * w - y * u).natAbs ≤ 1000000) : Two x y u w := by
  have g := lfS_g [(x, y)] (u, w)
  have sp := (sub_lfoldS (spn_sub (lfoldS [(x, y), (u, w)]).1 (lfoldS [(x, y), (u, w)]).2.1 (lfoldS [(x, y), (u, w)]).2.2) [(x, y), (u, w)]).1 ⟨spn_l _ _ _, spn_r _ _ _⟩
  have s1 := sp (x, y) (by simp)
  have s2 := sp (u, w) (by simp)
  have dv := spn_det s1 s2
  have e1 := lfS_one x y
  rw [List.singleton_append] at g
  have e2 : smallV 1000000 (lfoldS [(x, y)]).2 ∧ (lfoldS [(x, y)]).1.natAbs ≤ 1000000 := by
    rw [e1]
    split
    · exact ⟨⟨by simp, by simp⟩, by simp only; omega⟩
    · exact ⟨⟨by simp only; omega, by simp only; omega⟩, by simp⟩
  have hv : ∀ v ∈ ([(x, y), (u, w)] : List (Int × Int)), smallV 1000000 v := by
    intro v hv
    simp only [List.mem_cons, List.not_mem_nil, or_false] at hv
    rcases hv with rfl | rfl <;> exact ⟨by simp only; omega, by simp only; omega⟩
  have gz : (lfoldS [(x, y), (u, w)]).1 ≠ 0 := fun e => by rw [e, Int.zero_mul, Int.zero_dvd] at dv; exact hd dv
  have kz : (lfoldS [(x, y), (u, w)]).2.2 ≠ 0 := fun e => by rw [e, Int.mul_zero, Int.zero_dvd] at dv; exact hd dv
  have d1 := dvd_bd (Int.dvd_trans (Int.dvd_mul_right _ _) dv) hd hD
  have d2 := dvd_bd (Int.dvd_trans (Int.dvd_mul_left _ _) dv) hd hD
  have gp : 0 < (lfoldS [(x, y), (u, w)]).1 := by omega
  have gr := g.2 gp
  refine ⟨gp, gr, kz, dv, hv, takeTwo _ _ (fun l => smallV 1000000 (lfoldS l).2 ∧ (lfoldS l).1.natAbs ≤ 1000000) ?_ e2 ?_⟩
  · exact ⟨⟨by decide, by decide⟩, by decide⟩
  · exact ⟨⟨by omega, d2⟩, d1⟩
theorem image_eq {a b c x y u w : Int} (ha : 1 ≤ a) (hb : 0 ≤ b ∧ b < a) (hc : 1 ≤ c) (t : Two x y u w) (hd : x * w - y * u = a * c ∨ x * w - y * u = -(a * c)) : lfin (lfoldS [(x, y), (u, w)]) = (a, b, c) ↔ (spn a b c x y ∧ spn a b c u w) := by
  have e := (sub_lfin (spn_sub a b c) (lfoldS [(x, y), (u, w)])).trans (sub_lfoldS (spn_sub a b c) [(x, y), (u, w)])
  simp only [List.mem_cons, List.not_mem_nil, or_false, forall_eq_or_imp, forall_eq] at e
  rw [← e]
  obtain ⟨t1, t2, t3, t4, _⟩ := t
  have f1 : (lfin (lfoldS [(x, y), (u, w)])).1 = (lfoldS [(x, y), (u, w)]).1 := rfl
  have f2 : 0 ≤ (lfin (lfoldS [(x, y), (u, w)])).2.1 ∧ (lfin (lfoldS [(x, y), (u, w)])).2.1 < (lfoldS [(x, y), (u, w)]).1 := ⟨Int.emod_nonneg _ (by omega), Int.emod_lt_of_pos _ t1⟩
  have f3 : 0 < (lfin (lfoldS [(x, y), (u, w)])).2.2 := by
    simp only [lfin]
    split <;> omega
  have f4 : (lfin (lfoldS [(x, y), (u, w)])).1 * (lfin (lfoldS [(x, y), (u, w)])).2.2 ∣ a * c := by
    have : (lfoldS [(x, y), (u, w)]).1 * (lfoldS [(x, y), (u, w)]).2.2 ∣ a * c := by
      rcases hd with h | h
      · rwa [h] at t4
      · rw [h] at t4; exact Int.dvd_neg.1 t4
    simp only [lfin]
    split
    · rw [Int.mul_neg]; exact Int.neg_dvd.2 this
    · exact this
  rw [← f1] at f2 t1
  generalize lfin (lfoldS [(x, y), (u, w)]) = r at *
  obtain ⟨A, B, C⟩ := r
  simp only at *
  constructor
  · intro h
    cases h
    exact ⟨spn_l _ _ _, spn_r _ _ _⟩
  · rintro ⟨⟨i3, j3, e3, g3⟩, ⟨i4, j4, e4, g4⟩⟩
    have j3z : j3 = 0 := by rcases Int.mul_eq_zero.1 g3.symm with h | h <;> omega
    subst j3z
    simp only [Int.zero_mul, Int.add_zero] at e3
    obtain ⟨n, hn⟩ := f4
    have hp : 0 < a * c := Int.mul_pos (by omega) (by omega)
    have h1 : a * c * (i3 * j4 * n - 1) = 0 := by subst e3 g4; grind
    have h2 : i3 * j4 * n = 1 := by rcases Int.mul_eq_zero.1 h1 with h | h <;> omega
    have i3p : 0 < i3 := by
      rcases Int.lt_trichotomy i3 0 with h | h | h
      · have := Int.mul_neg_of_neg_of_pos h (show 0 < a by omega); omega
      · subst h; simp at e3; omega
      · exact h
    have j4p : 0 < j4 := by
      rcases Int.lt_trichotomy j4 0 with h | h | h
      · have := Int.mul_neg_of_neg_of_pos h (show 0 < c by omega); omega
      · subst h; simp at g4; omega
      · exact h
    have q1 : i3 = 1 := by
      have := Int.le_of_dvd (by decide) (show i3 ∣ 1 from ⟨j4 * n, by rw [← h2, Int.mul_assoc]⟩)
      omega
    have q2 : j4 = 1 := by
      have := Int.le_of_dvd (by decide) (show j4 ∣ 1 from ⟨i3 * n, by rw [← h2]; ac_rfl⟩)
      omega
    subst q1 q2
    simp only [Int.one_mul] at e3 e4 g4
    subst e3 g4
    have : B % A = b % A := by rw [e4, Int.add_comm, Int.add_mul_emod_self_right]
    rw [Int.emod_eq_of_lt hb.1 hb.2, Int.emod_eq_of_lt f2.1 f2.2] at this
    rw [this]
/-! point matrices -/
theorem sq_le {x : Int} {n : Nat} (h : x * x ≤ n) : x.natAbs ≤ n := by
  have h1 : (x * x).natAbs = x.natAbs * x.natAbs := Int.natAbs_mul _ _
  have h0 : 0 ≤ x * x := by rcases Int.le_total 0 x with h | h; exact Int.mul_nonneg h h; exact Int.mul_nonneg_of_nonpos_of_nonpos h h
  rcases Nat.eq_zero_or_pos x.natAbs with h2 | h2
  · omega
  · have := Nat.le_mul_of_pos_right x.natAbs h2
    omega
theorem norm_one {f x y : Int} (hf : 0 ≤ f ∧ f ≤ 1) (h : normF f x y = 1) : x.natAbs ≤ 1 ∧ y.natAbs ≤ 1 := by
  unfold normF at h
  have hsq : ∀ z : Int, 0 ≤ z * z := fun z => by rcases Int.le_total 0 z with h | h; exact Int.mul_nonneg h h; exact Int.mul_nonneg_of_nonpos_of_nonpos h h
  rcases (by omega : f = 0 ∨ f = 1) with rfl | rfl
  · have := hsq x; have := hsq y
    rw [Int.zero_mul, Int.zero_mul] at h
    exact ⟨sq_le (by omega), sq_le (by omega)⟩
  · rw [Int.one_mul] at h
    have e1 := hsq (2 * x + y)
    have e2 := hsq (x + 2 * y)
    have e3 : (2 * x + y) * (2 * x + y) + 3 * (y * y) = 4 := by grind
    have e4 : (x + 2 * y) * (x + 2 * y) + 3 * (x * x) = 4 := by grind
    exact ⟨sq_le (by omega), sq_le (by omega)⟩
theorem one_cases {x : Int} (h : x.natAbs ≤ 1) : x = -1 ∨ x = 0 ∨ x = 1 := by omega
theorem pmL_mem {f : Int} (hf : 0 ≤ f ∧ f ≤ 1) (a b c d : Int) : (a, b, c, d) ∈ pmL f 81 ↔ pmOk f (a, b, c, d) = true := by
  constructor
  · intro h
    unfold pmL at h
    exact (List.mem_filter.1 h).2
  · intro h
    unfold pmL
    refine List.mem_filter.2 ⟨?_, h⟩
    simp only [pmOk, Bool.and_eq_true, decide_eq_true_eq] at h
    obtain ⟨h1, h2⟩ := norm_one hf h.1.1
    obtain ⟨h3, h4⟩ := norm_one hf h.1.2
    refine List.mem_map.2 ⟨((a + 1) * 27 + (b + 1) * 9 + (c + 1) * 3 + (d + 1)).toNat, List.mem_range.2 (by omega), ?_⟩
    simp only [mat81, Prod.mk.injEq]
    omega
theorem pm_facts {f a b c d : Int} (hf : 0 ≤ f ∧ f ≤ 1) (h : pmOk f (a, b, c, d) = true) : (a.natAbs ≤ 1 ∧ b.natAbs ≤ 1) ∧ (c.natAbs ≤ 1 ∧ d.natAbs ≤ 1) ∧ (a * d - b * c = 1 ∨ a * d - b * c = -1) := by
  have h' := h
  simp only [pmOk, Bool.and_eq_true, decide_eq_true_eq] at h
  obtain ⟨h1, h2⟩ := norm_one hf h.1.1
  obtain ⟨h3, h4⟩ := norm_one hf h.1.2
  refine ⟨⟨h1, h3⟩, ⟨h2, h4⟩, ?_⟩
  rcases (by omega : f = 0 ∨ f = 1) with rfl | rfl <;> rcases one_cases h1 with rfl | rfl | rfl <;> rcases one_cases h2 with rfl | rfl | rfl <;> rcases one_cases h3 with rfl | rfl | rfl <;> rcases one_cases h4 with rfl | rfl | rfl <;> first | decide | (exfalso; revert h'; decide)
theorem pm_mat {f a b c d : Int} (hf : 0 ≤ f ∧ f ≤ 1) (h : pmOk f (a, b, c, d) = true) : matOk a b c d = true := by
  obtain ⟨⟨h1, h2⟩, ⟨h3, h4⟩, h5⟩ := pm_facts hf h
  have e1 : okV a b = true := okV_spec.2 (by omega)
  have e2 : okV c d = true := okV_spec.2 (by omega)
  simp only [matOk, e1, e2, Bool.true_and, Bool.or_eq_true, decide_eq_true_eq]
  exact h5
end Go.Proofs.YtcnhcilpaplpcaaGreatDoorEv
namespace Go.Proofs.YtcnhcilpaplpcaaGreatDoorEv
open Go Go.Proofs
set_option maxRecDepth 10000
def suit (f a b c p q' r s t u : Int) : Bool := pmOk f (p, q', r, s) && keepL a b c (p, q', r, s) && okV t u
end Go.Proofs.YtcnhcilpaplpcaaGreatDoorEv
namespace Go.Proofs.YtcnhcilpaplpcaaGreatDoorEv
open Go Go.Proofs
set_option maxRecDepth 10000
theorem s_eqV (x y x' y' : Int) : Sp Tryz.prog 48 [aV x y, aV x' y'] (vb (decide (x = x' ∧ y = y'))) [] := by
  refine sp_of (m := no) mixed Tryz.func48 k48 ?_
  simp -dsimp [q]
  refine ⟨fun h e => absurd e h, fun h => ⟨fun h2 _ => h2, fun h2 => ⟨h, h2⟩⟩⟩
abbrev vvs' (l : List (Int × Int)) : V := .sl 2 (vs l)
theorem s_toV (x y : Int) : Sp Tryz.prog 43 [aV x y] (aV x y) [] := by
  refine sp_of (m := no) mixed Tryz.func43 k43 ?_
  simp -dsimp [q]
def mkV (k : Int) (n : Nat) : List (Int × Int) := (List.range n).map fun i : Nat => (k + 2 * i, k + 2 * i + 1)
/-! marks on patterns -/
abbrev zP' : A := .ag [vi 0, vi 0, vi 0, vi 0, .nil 0]
end Go.Proofs.YtcnhcilpaplpcaaGreatDoorEv
namespace Go.Proofs.YtcnhcilpaplpcaaGreatDoorEv
open Go Go.Proofs
set_option maxRecDepth 10000
abbrev G6 := M4 × Int × Int
def vg (g : G6) : V := .ag [.int .i64 g.1.1, .int .i64 g.1.2.1, .int .i64 g.1.2.2.1, .int .i64 g.1.2.2.2, .int .i64 g.2.1, .int .i64 g.2.2]
def gs (l : List G6) : List V := l.map vg
abbrev aG6 (g : G6) : A := aG g.1.1 g.1.2.1 g.1.2.2.1 g.1.2.2.2 g.2.1 g.2.2
def smallG (g : G6) : Prop := (g.1.1.natAbs ≤ 1000 ∧ g.1.2.1.natAbs ≤ 1000) ∧ (g.1.2.2.1.natAbs ≤ 1000 ∧ g.1.2.2.2.natAbs ≤ 1000) ∧ g.2.1.natAbs ≤ 1000 ∧ g.2.2.natAbs ≤ 1000
def mvV (a b c : Int) (g : G6) (v : Int × Int) : Int × Int := (redX a b c (g.1.1 * v.1 + g.1.2.1 * v.2 + g.2.1) (g.1.2.2.1 * v.1 + g.1.2.2.2 * v.2 + g.2.2), (g.1.2.2.1 * v.1 + g.1.2.2.2 * v.2 + g.2.2) % c)
def suitG (f a b c : Int) (g : G6) : Bool := suit f a b c g.1.1 g.1.2.1 g.1.2.2.1 g.1.2.2.2 g.2.1 g.2.2
theorem suit_small {f a b c : Int} (hf : 0 ≤ f ∧ f ≤ 1) {g : G6} (h : suitG f a b c g = true) : smallG g ∧ (g.1.1.natAbs ≤ 1 ∧ g.1.2.1.natAbs ≤ 1) ∧ (g.1.2.2.1.natAbs ≤ 1 ∧ g.1.2.2.2.natAbs ≤ 1) := by
  simp only [suitG, suit, Bool.and_eq_true] at h
  obtain ⟨h1, h2, _⟩ := pm_facts hf h.1.1
  have h3 := okV_spec.1 h.2
  exact ⟨⟨⟨by omega, by omega⟩, ⟨by omega, by omega⟩, by omega, by omega⟩, h1, h2⟩
def fixN (a b c : Int) (g : G6) (l : List (Int × Int)) : Nat := l.countP fun v => decide (mvV a b c g v = v)
theorem fixN_succ {a b c : Int} {g : G6} {l : List (Int × Int)} {i : Nat} {v : Int × Int} (h : l[i]? = some v) : fixN a b c g (l.take (i + 1)) = fixN a b c g (l.take i) + if mvV a b c g v = v then 1 else 0 := by
  unfold fixN
  rw [List.take_add_one, h, List.countP_append]
  simp [List.countP_cons]
end Go.Proofs.YtcnhcilpaplpcaaGreatDoorEv
namespace Go.Proofs.YtcnhcilpaplpcaaGreatDoorEv
open Go Go.Proofs
set_option maxRecDepth 10000
theorem mget_enc {α : Type} [DecidableEq α] (enc : α → V) (hi : ∀ x y, enc x = enc y → x = y) (S : List α) (x : α) : mget (enc x) (S.map fun y => (enc y, V.bool true)) = if x ∈ S then some (.bool true) else none := by
  induction S with
  | nil => rfl
  | cons y S ih =>
    simp only [List.map_cons, mget]
    by_cases h : enc y = enc x
    · rw [if_pos (by rw [cdec_true]; exact h), if_pos (by rw [hi _ _ h]; simp)]
    · rw [if_neg (by rw [cdec_true]; exact h), ih]
      have : x ≠ y := fun e => h (by rw [e])
      simp [this]
theorem mput_enc {α : Type} [DecidableEq α] (enc : α → V) (hi : ∀ x y, enc x = enc y → x = y) (S : List α) (x : α) : mput (enc x) (.bool true) (S.map fun y => (enc y, V.bool true)) = (if x ∈ S then S else S ++ [x]).map fun y => (enc y, V.bool true) := by
  induction S with
  | nil => rfl
  | cons y S ih =>
    simp only [List.map_cons, mput]
    by_cases h : enc y = enc x
    · rw [if_pos (by rw [cdec_true]; exact h), if_pos (by rw [hi _ _ h]; simp), List.map_cons, h]
    · rw [if_neg (by rw [cdec_true]; exact h), ih]
      have : x ≠ y := fun e => h (by rw [e])
      by_cases hx : x ∈ S <;> simp [this, hx]
def sE (S : List (Int × Int)) : List (V × V) := S.map fun y => (vv y, V.bool true)
theorem vv_inj (x y : Int × Int) (h : vv x = vv y) : x = y := by
  obtain ⟨a, b⟩ := x
  obtain ⟨c, d⟩ := y
  simp only [vv, V.ag.injEq, List.cons.injEq, V.int.injEq, true_and, and_true] at h
  rw [h.1, h.2]
@[simp] theorem sE_nil : sE [] = [] := rfl
@[simp] theorem sE_len (S : List (Int × Int)) : (sE S).length = S.length := by simp [sE]
@[simp] theorem sE_get (S : List (Int × Int)) (x y : Int) : lkA (.bool false) false (mget (.ag [.int .i64 x, .int .i64 y]) (sE S)) = .v (.bool (decide ((x, y) ∈ S))) := by
  have := mget_enc vv vv_inj S (x, y)
  rw [show V.ag [.int .i64 x, .int .i64 y] = vv (x, y) from rfl, sE, this]
  by_cases h : (x, y) ∈ S <;> simp [h, lkA]
@[simp] theorem sE_put (S : List (Int × Int)) (x y : Int) : mput (.ag [.int .i64 x, .int .i64 y]) (.bool true) (sE S) = sE (if (x, y) ∈ S then S else S ++ [(x, y)]) := by
  have := mput_enc vv vv_inj S (x, y)
  rw [show V.ag [.int .i64 x, .int .i64 y] = vv (x, y) from rfl, sE, this, sE]
  by_cases h : (x, y) ∈ S <;> simp [h]
@[simp] theorem sE_keyed (S : List (Int × Int)) (x y : Int) : keyed 2 [1, 1] (.ag [.int .i64 x, .int .i64 y]) (sE S) ↔ True := by
  simp only [keyed, iff_true]
  refine ⟨rfl, rfl, fun p hp => ?_⟩
  obtain ⟨v, _, rfl⟩ := List.mem_map.1 hp
  exact ⟨rfl, rfl⟩
def bs (l : List Bool) : List V := l.map .bool
@[simp] theorem bs_len (l : List Bool) : (bs l).length = l.length := by simp [bs]
@[simp] theorem bs_get (l : List Bool) (n : Nat) (K : V → Prop) : fA ((bs l)[n]?) K = ∀ a, l[n]? = some a → K (.bool a) := by unfold bs; exact fA_map
@[simp] theorem bs_set (l : List Bool) (n : Nat) (b : Bool) : (bs l).set n (.bool b) = bs (l.set n b) := by simp [bs, List.map_set]
@[simp] theorem bs_rep (n : Nat) (b : Bool) : List.replicate n (V.bool b) = bs (List.replicate n b) := by simp [bs]
@[simp] theorem bs_inj (a b : List Bool) : bs a = bs b ↔ a = b := by
  constructor
  · exact fun h => (List.map_inj_right (fun x y e => by cases e; rfl)).1 h
  · rintro rfl; rfl
theorem pigeon {α : Type} [BEq α] [LawfulBEq α] : ∀ (S C : List α), S.Nodup → (∀ x ∈ S, x ∈ C) → S.length ≤ C.length
  | [], _, _, _ => Nat.zero_le _
  | x :: S, C, hn, hs => by
    rw [List.nodup_cons] at hn
    have h1 := pigeon S (C.erase x) hn.2 (fun y hy => (List.mem_erase_of_ne (fun e => hn.1 (by rw [← e]; exact hy))).2 (hs y (List.mem_cons_of_mem _ hy)))
    have h2 := hs x List.mem_cons_self
    rw [List.length_erase_of_mem h2] at h1
    have := List.length_pos_of_mem h2
    simp only [List.length_cons]
    omega
/-! the cells of a lattice, and marks on them -/
abbrev cl (a c : Int) : List (Int × Int) := cellsL c.toNat a.toNat
def inC (a c : Int) (v : Int × Int) : Prop := (0 ≤ v.1 ∧ v.1 < a) ∧ 0 ≤ v.2 ∧ v.2 < c
theorem inC_mv {a b c : Int} (ha : 1 ≤ a) (hc : 1 ≤ c) (g : G6) (v : Int × Int) : inC a c (mvV a b c g v) := red_lt ha hc
def ix (c : Int) (v : Int × Int) : Nat := (v.1 * c + v.2).toNat
theorem cl_ix {a c : Int} (ha : 1 ≤ a) (hc : 1 ≤ c) {v : Int × Int} (hv : inC a c v) : (cl a c)[ix c v]? = some v := by
  obtain ⟨x, y⟩ := v
  obtain ⟨h1, h2⟩ := hv
  simp only at h1 h2
  have h3 := (num_lt' h1 h2).2
  obtain ⟨n, rfl⟩ : ∃ n : Nat, c = n := ⟨c.toNat, by omega⟩
  obtain ⟨k, rfl⟩ : ∃ k : Nat, a = k := ⟨a.toNat, by omega⟩
  obtain ⟨i, rfl⟩ : ∃ i : Nat, x = i := ⟨x.toNat, by omega⟩
  obtain ⟨j, rfl⟩ : ∃ j : Nat, y = j := ⟨y.toNat, by omega⟩
  have hk : ix (n : Int) ((i : Int), (j : Int)) = i * n + j := by
    simp only [ix]
    omega
  have hlt : i * n + j < k * n := by
    have : ((i * n + j : Nat) : Int) < ((k * n : Nat) : Int) := by simpa using h3.2
    omega
  unfold cl
  rw [hk, Int.toNat_natCast, Int.toNat_natCast, cellsL_get n (by omega) k _ hlt]
  have h4 : (i * n + j) / n = i := by
    rw [Nat.div_eq_iff (by omega)]
    omega
  have h5 : (i * n + j) % n = j := by
    have := Nat.div_add_mod (i * n + j) n
    rw [h4, Nat.mul_comm] at this
    omega
  rw [h4, h5]
theorem cl_at {a c : Int} (ha : 1 ≤ a) (hc : 1 ≤ c) {i : Nat} {v : Int × Int} (h : (cl a c)[i]? = some v) : inC a c v ∧ ix c v = i := by
  obtain ⟨x, y⟩ := v
  obtain ⟨h1, _, h3⟩ := cell_of ha hc h
  exact ⟨h1, by simp only [ix]; omega⟩
theorem num_ix {a b c : Int} {v : Int × Int} (hv : inC a c v) : num a b c v.1 v.2 = v.1 * c + v.2 ∧ (0 ≤ v.1 * c + v.2 ∧ v.1 * c + v.2 < a * c) := by
  obtain ⟨h1, h2⟩ := hv
  refine ⟨?_, (num_lt' h1 h2).2⟩
  simp only [num, redX]
  rw [Int.ediv_eq_zero_of_lt h2.1 h2.2, Int.emod_eq_of_lt h2.1 h2.2, Int.zero_mul, Int.sub_zero, Int.emod_eq_of_lt h1.1 h1.2]
def marks (a c : Int) (S : List (Int × Int)) : List Bool := (cl a c).map fun v => decide (v ∈ S)
theorem marks_get {a c : Int} (ha : 1 ≤ a) (hc : 1 ≤ c) {v : Int × Int} (hv : inC a c v) (S : List (Int × Int)) : (marks a c S)[ix c v]? = some (decide (v ∈ S)) := by
  simp only [marks, List.getElem?_map, cl_ix ha hc hv, Option.map_some]
theorem marks_len {a c : Int} (S : List (Int × Int)) : (marks a c S).length = (cl a c).length := by simp [marks]
theorem marks_nil {a c : Int} : marks a c [] = List.replicate (cl a c).length false := by
  unfold marks
  rw [List.eq_replicate_iff]
  refine ⟨by simp, fun b hb => ?_⟩
  obtain ⟨v, _, rfl⟩ := List.mem_map.1 hb
  simp
theorem marks_set {a c : Int} (ha : 1 ≤ a) (hc : 1 ≤ c) {v : Int × Int} (hv : inC a c v) (S : List (Int × Int)) : (marks a c S).set (ix c v) true = marks a c (S ++ [v]) := by
  apply List.ext_getElem?
  intro j
  have hg := cl_ix ha hc hv
  rw [List.getElem?_set, marks_len]
  by_cases hj : ix c v = j
  · subst hj
    rw [if_pos rfl, if_pos (List.getElem?_eq_some_iff.1 hg).1]
    simp [marks, hg]
  · rw [if_neg hj]
    simp only [marks, List.getElem?_map]
    cases hw : (cl a c)[j]? with
    | none => rfl
    | some w =>
      have : w ≠ v := fun e => hj (by rw [← e]; exact (cl_at ha hc hw).2)
      simp [this]
/-! cycles -/
def wk (a b c : Int) (g : G6) : Nat → List (Int × Int) → Int × Int → List (Int × Int)
  | 0, S, _ => S
  | n + 1, S, u => if u ∈ S then S else wk a b c g n (S ++ [u]) (mvV a b c g u)
def wkF (a b c : Int) (g : G6) (S : List (Int × Int)) (u : Int × Int) : List (Int × Int) := wk a b c g ((cl a c).length + 1 - S.length) S u
def okSet (a c : Int) (S : List (Int × Int)) : Prop := S.Nodup ∧ ∀ v ∈ S, inC a c v
theorem okSet_len {a c : Int} (ha : 1 ≤ a) (hc : 1 ≤ c) {S : List (Int × Int)} (h : okSet a c S) : S.length ≤ (cl a c).length :=
  pigeon _ _ h.1 fun v hv => List.mem_of_getElem? (cl_ix ha hc (h.2 v hv))
theorem okSet_snoc {a c : Int} {S : List (Int × Int)} (h : okSet a c S) {u : Int × Int} (hu : inC a c u) (hn : u ∉ S) : okSet a c (S ++ [u]) := by
  refine ⟨?_, fun v hv => ?_⟩
  · rw [List.nodup_append]
    refine ⟨h.1, by simp, fun x hx y hy => ?_⟩
    simp only [List.mem_singleton] at hy
    subst hy
    exact fun e => hn (e ▸ hx)
  · rcases List.mem_append.1 hv with hv | hv
    · exact h.2 v hv
    · simp only [List.mem_singleton] at hv
      exact hv ▸ hu
theorem wkF_hit {a b c : Int} (ha : 1 ≤ a) (hc : 1 ≤ c) {g : G6} {S : List (Int × Int)} (h : okSet a c S) {u : Int × Int} (hu : u ∈ S) : wkF a b c g S u = S := by
  have := okSet_len ha hc h
  unfold wkF
  rw [show (cl a c).length + 1 - S.length = ((cl a c).length - S.length) + 1 by omega]
  simp [wk, hu]
theorem wkF_miss {a b c : Int} (ha : 1 ≤ a) (hc : 1 ≤ c) {g : G6} {S : List (Int × Int)} (h : okSet a c S) {u : Int × Int} (hi : inC a c u) (hu : u ∉ S) : wkF a b c g S u = wkF a b c g (S ++ [u]) (mvV a b c g u) ∧ S.length < (cl a c).length := by
  have := okSet_len ha hc (okSet_snoc h hi hu)
  simp only [List.length_append, List.length_singleton] at this
  refine ⟨?_, by omega⟩
  unfold wkF
  rw [show (cl a c).length + 1 - S.length = ((cl a c).length + 1 - (S ++ [u]).length) + 1 by simp; omega]
  simp [wk, hu]
def cy1 (a b c : Int) (g : G6) (st : List (Int × Int) × Nat) (v : Int × Int) : List (Int × Int) × Nat := if v ∈ st.1 then st else (wkF a b c g st.1 v, st.2 + 1)
def cyS (a b c : Int) (g : G6) (l : List (Int × Int)) : List (Int × Int) × Nat := l.foldl (cy1 a b c g) ([], 0)
theorem cyS_succ {a b c : Int} {g : G6} {l : List (Int × Int)} {i : Nat} {v : Int × Int} (h : l[i]? = some v) : cyS a b c g (l.take (i + 1)) = cy1 a b c g (cyS a b c g (l.take i)) v := by
  unfold cyS
  rw [List.take_add_one, h, List.foldl_append]
  rfl
theorem wk_ok {a b c : Int} (ha : 1 ≤ a) (hc : 1 ≤ c) {g : G6} : ∀ (n : Nat) (S : List (Int × Int)) (u : Int × Int), okSet a c S → inC a c u → okSet a c (wk a b c g n S u)
  | 0, S, u, h, _ => h
  | n + 1, S, u, h, hu => by
    simp only [wk]
    split
    · exact h
    · rename_i hn
      exact wk_ok ha hc n _ _ (okSet_snoc h hu hn) (inC_mv ha hc g u)
theorem cyS_ok {a b c : Int} (ha : 1 ≤ a) (hc : 1 ≤ c) {g : G6} : ∀ i, okSet a c (cyS a b c g ((cl a c).take i)).1 ∧ (cyS a b c g ((cl a c).take i)).2 ≤ i
  | 0 => by simp [cyS, okSet]
  | i + 1 => by
    obtain ⟨h1, h2⟩ := cyS_ok ha hc (g := g) i
    cases hv : (cl a c)[i]? with
    | none =>
      rw [List.take_of_length_le (by have := List.getElem?_eq_none_iff.1 hv; omega)]
      rw [List.take_of_length_le (by have := List.getElem?_eq_none_iff.1 hv; omega)] at h1 h2
      exact ⟨h1, by omega⟩
    | some v =>
      rw [cyS_succ hv]
      unfold cy1
      split
      · exact ⟨h1, by omega⟩
      · exact ⟨wk_ok ha hc _ _ _ h1 (cl_at ha hc hv).1, by simp only; omega⟩
end Go.Proofs.YtcnhcilpaplpcaaGreatDoorEv
