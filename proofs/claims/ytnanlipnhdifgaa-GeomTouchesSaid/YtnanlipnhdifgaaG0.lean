/- Functions of the program, read into the machine (text 0). Written by gen.py. -/
import Derived.Test.YtnanlipnhdifgaaM19
import Derived.Test.YtnanlipnhdifgaaProg
import Derived.ProofKit
namespace Go.Proofs.YtnanlipnhdifgaaM
open Go Go.RowKit
set_option maxRecDepth 100000
/-- mapsheets/mapsheetslaw08.GeomTurns -/
def fn3b : C := (.seq (.reg false [] (.op (some 3) (.box 23 2 (.t 0)) <|
    .op (some 4) (.box 23 2 (.t 1)) <|
    .op (some 5) (.box 23 2 (.t 2)) <|
    .op (some 6) (.mov (.c (.b false))) <|
    .done))
  (.seq (.reg true [] (.op (some 7) (.ld true 2 (.t 3)) <|
    .op (some 8) (.ld true 2 (.t 4)) <|
    .op (some 9) (.ld true 2 (.t 5)) <|
    .op (some 10) (.call true false 11 [(.t 7), (.t 8), (.t 9)]) <|
    .op (some 11) (.ld true 2 (.t 3)) <|
    .op (some 12) (.ld true 2 (.t 4)) <|
    .op (some 13) (.ld true 2 (.t 5)) <|
    .op (some 14) (.call true false 12 [(.t 11), (.t 12), (.t 13)]) <|
    .op (some 15) (.bin .eql (.t 10) (.t 14)) <|
    .op (some 16) (.mov (.t 15)) <|
    .sc 16 true (.op (some 17) (.ld true 2 (.t 3)) <|
    .op (some 18) (.ld true 2 (.t 4)) <|
    .op (some 19) (.ld true 2 (.t 5)) <|
    .op (some 20) (.call true false 13 [(.t 17), (.t 18), (.t 19)]) <|
    .op (some 21) (.ld true 2 (.t 3)) <|
    .op (some 22) (.ld true 2 (.t 4)) <|
    .op (some 23) (.ld true 2 (.t 5)) <|
    .op (some 24) (.call true false 14 [(.t 21), (.t 22), (.t 23)]) <|
    .op (some 25) (.bin .eql (.t 20) (.t 24)) <|
    .done) 26 (.t 25) <|
    .op (some 27) (.mov (.t 26)) <|
    .sc 27 true (.op (some 28) (.ld true 2 (.t 3)) <|
    .op (some 29) (.ld true 2 (.t 4)) <|
    .op (some 30) (.ld true 2 (.t 5)) <|
    .op (some 31) (.call true false 15 [(.t 28), (.t 29), (.t 30)]) <|
    .op (some 32) (.ld true 2 (.t 3)) <|
    .op (some 33) (.ld true 2 (.t 4)) <|
    .op (some 34) (.ld true 2 (.t 5)) <|
    .op (some 35) (.call true false 16 [(.t 32), (.t 33), (.t 34)]) <|
    .op (some 36) (.eq false false [true] (.t 31) (.t 35)) <|
    .done) 37 (.t 36) <|
    .op (some 38) (.mov (.t 37)) <|
    .sc 38 true (.op (some 39) (.call true false 17 []) <|
    .done) 40 (.t 39) <|
    .op (some 6) (.mov (.t 40)) <|
    .done))
  .ret))
def fn3 : Fn := ⟨3, [.t 6], fn3b⟩
theorem rd3 : Read Try.prog 3 fn3 := Read.of Try.func3 (by decide +kernel) (by kernel_rfl) (by kernel_rfl)
/-- mapsheets/mapsheetslaw08.GeomMeets -/
def fn4b : C := (.seq (.reg false [] (.op (some 4) (.box 23 2 (.t 0)) <|
    .op (some 5) (.box 23 2 (.t 1)) <|
    .op (some 6) (.box 23 2 (.t 2)) <|
    .op (some 7) (.box 23 2 (.t 3)) <|
    .op (some 8) (.mov (.c (.b false))) <|
    .done))
  (.seq (.reg false [] (.op (some 10) (.ld true 2 (.t 4)) <|
    .op (some 11) (.ld true 2 (.t 5)) <|
    .op (some 12) (.ld true 2 (.t 6)) <|
    .op (some 13) (.ld true 2 (.t 7)) <|
    .op (some 14) (.call false false 18 [(.t 10), (.t 11), (.t 12), (.t 13)]) <|
    .op (some 9) (.mov (.t 14)) <|
    .done))
  (.seq (.reg false [] (.op (some 15) (.ld true 2 (.t 4)) <|
    .op (some 16) (.ld true 2 (.t 5)) <|
    .op (some 17) (.ld true 2 (.t 6)) <|
    .op (some 18) (.ld true 2 (.t 7)) <|
    .op (some 19) (.call false false 19 [(.t 15), (.t 16), (.t 17), (.t 18)]) <|
    .op (some 20) (.mov (.t 9)) <|
    .op (some 21) (.bin .eql (.t 19) (.t 20)) <|
    .op (some 22) (.mov (.t 21)) <|
    .sc 22 true (.op (some 23) (.ld true 2 (.t 6)) <|
    .op (some 24) (.ld true 2 (.t 7)) <|
    .op (some 25) (.ld true 2 (.t 4)) <|
    .op (some 26) (.ld true 2 (.t 5)) <|
    .op (some 27) (.call false false 19 [(.t 23), (.t 24), (.t 25), (.t 26)]) <|
    .op (some 28) (.mov (.t 9)) <|
    .op (some 29) (.bin .eql (.t 27) (.t 28)) <|
    .done) 30 (.t 29) <|
    .op (some 31) (.mov (.t 30)) <|
    .sc 31 true (.op (some 32) (.ld true 2 (.t 5)) <|
    .op (some 33) (.ld true 2 (.t 4)) <|
    .op (some 34) (.ld true 2 (.t 6)) <|
    .op (some 35) (.ld true 2 (.t 7)) <|
    .op (some 36) (.call false false 19 [(.t 32), (.t 33), (.t 34), (.t 35)]) <|
    .op (some 37) (.mov (.t 9)) <|
    .op (some 38) (.bin .eql (.t 36) (.t 37)) <|
    .done) 39 (.t 38) <|
    .op (some 40) (.mov (.t 39)) <|
    .sc 40 true (.op (some 41) (.ld true 2 (.t 5)) <|
    .op (some 42) (.ld true 2 (.t 4)) <|
    .op (some 43) (.ld true 2 (.t 7)) <|
    .op (some 44) (.ld true 2 (.t 6)) <|
    .op (some 45) (.call false false 19 [(.t 41), (.t 42), (.t 43), (.t 44)]) <|
    .op (some 46) (.mov (.t 9)) <|
    .op (some 47) (.bin .eql (.t 45) (.t 46)) <|
    .done) 48 (.t 47) <|
    .op (some 49) (.mov (.t 48)) <|
    .sc 49 true (.op (some 50) (.call false false 17 []) <|
    .done) 51 (.t 50) <|
    .op (some 8) (.mov (.t 51)) <|
    .done))
  .ret)))
def fn4 : Fn := ⟨4, [.t 8], fn4b⟩
theorem rd4 : Read Try.prog 4 fn4 := Read.of Try.func4 (by decide +kernel) (by kernel_rfl) (by kernel_rfl)
/-- mapsheets/mapsheetslaw08.GeomOrder -/
def fn5b : C := (.seq (.reg false [] (.op (some 4) (.box 23 2 (.t 0)) <|
    .op (some 5) (.box 23 2 (.t 1)) <|
    .op (some 6) (.box 23 2 (.t 2)) <|
    .op (some 7) (.box 23 2 (.t 3)) <|
    .op (some 8) (.mov (.c (.b false))) <|
    .done))
  (.seq (.seq (.reg true [] (.op (some 9) (.ld true 2 (.t 4)) <|
    .op (some 10) (.ld true 2 (.t 5)) <|
    .op (some 11) (.ld true 2 (.t 6)) <|
    .op (some 12) (.call true false 20 [(.t 9), (.t 10), (.t 11)]) <|
    .op (some 13) (.ld true 2 (.t 4)) <|
    .op (some 14) (.ld true 2 (.t 5)) <|
    .op (some 15) (.ld true 2 (.t 6)) <|
    .op (some 16) (.call true false 21 [(.t 13), (.t 14), (.t 15)]) <|
    .op (some 17) (.eq true false [true] (.t 12) (.t 16)) <|
    .op (some 18) (.mov (.t 17)) <|
    .sc 18 false (.op (some 19) (.ld true 2 (.t 4)) <|
    .op (some 20) (.ld true 2 (.t 5)) <|
    .op (some 21) (.ld true 2 (.t 5)) <|
    .op (some 22) (.call true false 20 [(.t 19), (.t 20), (.t 21)]) <|
    .done) 23 (.t 22) <|
    .op (some 24) (.mov (.t 23)) <|
    .sc 24 false (.op (some 25) (.ld true 2 (.t 4)) <|
    .op (some 26) (.ld true 2 (.t 5)) <|
    .op (some 27) (.ld true 2 (.t 6)) <|
    .op (some 28) (.call true false 20 [(.t 25), (.t 26), (.t 27)]) <|
    .op (some 29) (.mov (.t 28)) <|
    .sc 29 true (.op (some 30) (.ld true 2 (.t 4)) <|
    .op (some 31) (.ld true 2 (.t 6)) <|
    .op (some 32) (.ld true 2 (.t 5)) <|
    .op (some 33) (.call true false 20 [(.t 30), (.t 31), (.t 32)]) <|
    .done) 34 (.t 33) <|
    .done) 35 (.t 34) <|
    .done))
  (.cnd (.t 35)
  (.seq (.reg false [] (.op (some 8) (.mov (.c (.b false))) <|
    .done))
  .ret)
  .skip))
  (.seq (.seq (.reg false [] (.op (some 36) (.ld true 2 (.t 4)) <|
    .op (some 37) (.ld true 2 (.t 5)) <|
    .op (some 38) (.ld true 2 (.t 6)) <|
    .op (some 39) (.call false false 20 [(.t 36), (.t 37), (.t 38)]) <|
    .op (some 40) (.mov (.t 39)) <|
    .sc 40 true (.op (some 41) (.ld true 2 (.t 4)) <|
    .op (some 42) (.ld true 2 (.t 6)) <|
    .op (some 43) (.ld true 2 (.t 7)) <|
    .op (some 44) (.call false false 20 [(.t 41), (.t 42), (.t 43)]) <|
    .done) 45 (.t 44) <|
    .op (some 46) (.mov (.t 45)) <|
    .sc 46 true (.op (some 47) (.ld true 2 (.t 4)) <|
    .op (some 48) (.ld true 2 (.t 5)) <|
    .op (some 49) (.ld true 2 (.t 7)) <|
    .op (some 50) (.call false false 20 [(.t 47), (.t 48), (.t 49)]) <|
    .op (some 51) (.un .not (.t 50)) <|
    .done) 52 (.t 51) <|
    .done))
  (.cnd (.t 52)
  (.seq (.reg false [] (.op (some 8) (.mov (.c (.b false))) <|
    .done))
  .ret)
  .skip))
  (.seq (.seq (.reg false [] (.op (some 53) (.ld true 2 (.t 5)) <|
    .op (some 54) (.ld true 2 (.t 4)) <|
    .op (some 55) (.eq false true [false, false] (.t 53) (.t 54)) <|
    .op (some 56) (.mov (.t 55)) <|
    .sc 56 false (.op (some 57) (.ld true 2 (.t 6)) <|
    .op (some 58) (.ld true 2 (.t 4)) <|
    .op (some 59) (.eq false true [false, false] (.t 57) (.t 58)) <|
    .done) 60 (.t 59) <|
    .op (some 61) (.mov (.t 60)) <|
    .sc 61 false (.op (some 62) (.ld true 2 (.t 7)) <|
    .op (some 63) (.ld true 2 (.t 4)) <|
    .op (some 64) (.eq false true [false, false] (.t 62) (.t 63)) <|
    .done) 65 (.t 64) <|
    .op (some 66) (.mov (.t 65)) <|
    .sc 66 false (.op (some 67) (.ld true 2 (.t 4)) <|
    .op (some 68) (.ld true 2 (.t 5)) <|
    .op (some 69) (.ld true 2 (.t 6)) <|
    .op (some 70) (.ld true 2 (.t 7)) <|
    .op (some 71) (.bsl false 23 2 [(.t 67), (.t 68), (.t 69), (.t 70)]) <|
    .op (some 72) (.call false false 22 [(.t 71)]) <|
    .op (some 73) (.un .not (.t 72)) <|
    .done) 74 (.t 73) <|
    .done))
  (.cnd (.t 74)
  (.seq (.reg false [] (.op (some 75) (.call false false 17 []) <|
    .op (some 8) (.mov (.t 75)) <|
    .done))
  .ret)
  .skip))
  (.seq (.reg false [] (.op (some 76) (.ld true 2 (.t 4)) <|
    .op (some 77) (.ld true 2 (.t 5)) <|
    .op (some 78) (.ld true 2 (.t 6)) <|
    .op (some 79) (.call false false 23 [(.t 76), (.t 77), (.t 78)]) <|
    .op (some 80) (.un .not (.t 79)) <|
    .op (some 81) (.mov (.t 80)) <|
    .sc 81 false (.op (some 82) (.ld true 2 (.t 4)) <|
    .op (some 83) (.ld true 2 (.t 6)) <|
    .op (some 84) (.ld true 2 (.t 7)) <|
    .op (some 85) (.call false false 23 [(.t 82), (.t 83), (.t 84)]) <|
    .op (some 86) (.un .not (.t 85)) <|
    .done) 87 (.t 86) <|
    .op (some 88) (.mov (.t 87)) <|
    .sc 88 false (.op (some 89) (.ld true 2 (.t 4)) <|
    .op (some 90) (.ld true 2 (.t 5)) <|
    .op (some 91) (.ld true 2 (.t 7)) <|
    .op (some 92) (.call false false 23 [(.t 89), (.t 90), (.t 91)]) <|
    .done) 93 (.t 92) <|
    .op (some 94) (.mov (.t 93)) <|
    .sc 94 true (.op (some 95) (.call false false 17 []) <|
    .done) 96 (.t 95) <|
    .op (some 8) (.mov (.t 96)) <|
    .done))
  .ret)))))
def fn5 : Fn := ⟨4, [.t 8], fn5b⟩
theorem rd5 : Read Try.prog 5 fn5 := Read.of Try.func5 (by decide +kernel) (by kernel_rfl) (by kernel_rfl)
/-- mapsheets/mapsheetslaw08.GeomDists -/
def fn6b : C := (.seq (.reg false [] (.op (some 3) (.box 23 2 (.t 0)) <|
    .op (some 4) (.box 23 2 (.t 1)) <|
    .op (some 5) (.box 23 2 (.t 2)) <|
    .op (some 6) (.mov (.c (.b false))) <|
    .done))
  (.seq (.reg true [] (.op (some 7) (.ld true 2 (.t 3)) <|
    .op (some 8) (.ld true 2 (.t 4)) <|
    .op (some 9) (.ld true 2 (.t 5)) <|
    .op (some 10) (.call true false 24 [(.t 7), (.t 8), (.t 9)]) <|
    .op (some 11) (.ld true 2 (.t 3)) <|
    .op (some 12) (.ld true 2 (.t 4)) <|
    .op (some 13) (.ld true 2 (.t 5)) <|
    .op (some 14) (.call true false 25 [(.t 11), (.t 12), (.t 13)]) <|
    .op (some 15) (.eq false true [false, false] (.t 10) (.t 14)) <|
    .op (some 16) (.mov (.t 15)) <|
    .sc 16 true (.op (some 17) (.call true false 17 []) <|
    .done) 18 (.t 17) <|
    .op (some 6) (.mov (.t 18)) <|
    .done))
  .ret))
def fn6 : Fn := ⟨3, [.t 6], fn6b⟩
theorem rd6 : Read Try.prog 6 fn6 := Read.of Try.func6 (by decide +kernel) (by kernel_rfl) (by kernel_rfl)
/-- mapsheets/mapsheetslaw08.GeomBoxes -/
def fn7b : C := (.seq (.reg false [] (.op (some 3) (.box 35 4 (.t 0)) <|
    .op (some 4) (.box 35 4 (.t 1)) <|
    .op (some 5) (.box 23 2 (.t 2)) <|
    .op (some 6) (.mov (.c (.b false))) <|
    .done))
  (.seq (.reg false [] (.op (some 8) (.ld true 4 (.t 3)) <|
    .op (some 9) (.ld true 4 (.t 4)) <|
    .op (some 10) (.call false false 26 [(.t 8), (.t 9)]) <|
    .op (some 7) (.mov (.t 10)) <|
    .done))
  (.seq (.reg true [] (.op (some 11) (.ld true 4 (.t 3)) <|
    .op (some 12) (.ld true 2 (.t 5)) <|
    .op (some 13) (.call true false 27 [(.t 11), (.t 12)]) <|
    .op (some 14) (.ld true 4 (.t 3)) <|
    .op (some 15) (.ld true 2 (.t 5)) <|
    .op (some 16) (.call true false 28 [(.t 14), (.t 15)]) <|
    .op (some 17) (.eq false false [true] (.t 13) (.t 16)) <|
    .op (some 18) (.mov (.t 17)) <|
    .sc 18 true (.op (some 19) (.mov (.t 7)) <|
    .op (some 20) (.ld true 4 (.t 3)) <|
    .op (some 21) (.ld true 4 (.t 4)) <|
    .op (some 22) (.call true false 29 [(.t 20), (.t 21)]) <|
    .op (some 23) (.eq false false [true] (.t 19) (.t 22)) <|
    .done) 24 (.t 23) <|
    .op (some 25) (.mov (.t 24)) <|
    .sc 25 true (.op (some 26) (.mov (.t 7)) <|
    .op (some 27) (.ld true 4 (.t 4)) <|
    .op (some 28) (.ld true 4 (.t 3)) <|
    .op (some 29) (.call true false 26 [(.t 27), (.t 28)]) <|
    .op (some 30) (.eq false false [true] (.t 26) (.t 29)) <|
    .done) 31 (.t 30) <|
    .op (some 32) (.mov (.t 31)) <|
    .sc 32 true (.op (some 33) (.mov (.t 7)) <|
    .op (some 34) (.un .not (.t 33)) <|
    .op (some 35) (.mov (.t 34)) <|
    .sc 35 false (.op (some 36) (.ld true 4 (.t 3)) <|
    .op (some 37) (.ld true 4 (.t 3)) <|
    .op (some 38) (.call true false 26 [(.t 36), (.t 37)]) <|
    .done) 39 (.t 38) <|
    .done) 40 (.t 39) <|
    .op (some 41) (.mov (.t 40)) <|
    .sc 41 true (.op (some 42) (.call true false 17 []) <|
    .done) 43 (.t 42) <|
    .op (some 6) (.mov (.t 43)) <|
    .done))
  .ret)))
def fn7 : Fn := ⟨3, [.t 6], fn7b⟩
theorem rd7 : Read Try.prog 7 fn7 := Read.of Try.func7 (by decide +kernel) (by kernel_rfl) (by kernel_rfl)
/-- mapsheets/mapsheetslaw08.GeomSplits -/
def fn8b : C := (.seq (.reg false [] (.op (some 4) (.box 23 2 (.t 0)) <|
    .op (some 5) (.box 23 2 (.t 1)) <|
    .op (some 6) (.box 23 2 (.t 2)) <|
    .op (some 7) (.box 23 2 (.t 3)) <|
    .op (some 8) (.mov (.c (.b false))) <|
    .done))
  (.seq (.seq (.reg false [] (.op (some 10) (.ld true 2 (.t 4)) <|
    .op (some 11) (.ld true 2 (.t 5)) <|
    .op (some 12) (.ld true 2 (.t 6)) <|
    .op (some 13) (.ld true 2 (.t 7)) <|
    .op (some 14) (.bsl false 23 2 [(.t 10), (.t 11), (.t 12), (.t 13)]) <|
    .op (some 15) (.call false false 22 [(.t 14)]) <|
    .op (some 16) (.un .not (.t 15)) <|
    .done))
  (.cnd (.t 16)
  (.seq (.reg false [] (.op (some 17) (.call false false 17 []) <|
    .op (some 8) (.mov (.t 17)) <|
    .done))
  .ret)
  .skip))
  (.seq (.reg false [] (.op (some 18) (.ld true 2 (.t 4)) <|
    .op (some 19) (.ld true 2 (.t 5)) <|
    .op (some 20) (.ld true 2 (.t 6)) <|
    .op (some 21) (.call false false 11 [(.t 18), (.t 19), (.t 20)]) <|
    .op (some 9) (.mov (.t 21)) <|
    .done))
  (.seq (.reg true [] (.op (some 22) (.ld true 2 (.t 7)) <|
    .op (some 23) (.ld true 2 (.t 4)) <|
    .op (some 24) (.ld true 2 (.t 5)) <|
    .op (some 25) (.call true false 11 [(.t 22), (.t 23), (.t 24)]) <|
    .op (some 26) (.ld true 2 (.t 7)) <|
    .op (some 27) (.ld true 2 (.t 5)) <|
    .op (some 28) (.ld true 2 (.t 6)) <|
    .op (some 29) (.call true false 11 [(.t 26), (.t 27), (.t 28)]) <|
    .op (some 30) (.bin .add (.t 25) (.t 29)) <|
    .op (some 31) (.ld true 2 (.t 7)) <|
    .op (some 32) (.ld true 2 (.t 6)) <|
    .op (some 33) (.ld true 2 (.t 4)) <|
    .op (some 34) (.call true false 11 [(.t 31), (.t 32), (.t 33)]) <|
    .op (some 35) (.bin .add (.t 30) (.t 34)) <|
    .op (some 36) (.mov (.t 9)) <|
    .op (some 37) (.bin .eql (.t 35) (.t 36)) <|
    .op (some 38) (.mov (.t 37)) <|
    .sc 38 true (.op (some 39) (.ld true 2 (.t 5)) <|
    .op (some 40) (.ld true 2 (.t 4)) <|
    .op (some 41) (.ld true 2 (.t 6)) <|
    .op (some 42) (.call true false 11 [(.t 39), (.t 40), (.t 41)]) <|
    .op (some 43) (.mov (.t 9)) <|
    .op (some 44) (.un .neg (.t 43)) <|
    .op (some 45) (.bin .eql (.t 42) (.t 44)) <|
    .done) 46 (.t 45) <|
    .op (some 47) (.mov (.t 46)) <|
    .sc 47 true (.op (some 48) (.ld true 2 (.t 4)) <|
    .op (some 49) (.ld true 2 (.t 6)) <|
    .op (some 50) (.ld true 2 (.t 5)) <|
    .op (some 51) (.call true false 11 [(.t 48), (.t 49), (.t 50)]) <|
    .op (some 52) (.mov (.t 9)) <|
    .op (some 53) (.un .neg (.t 52)) <|
    .op (some 54) (.bin .eql (.t 51) (.t 53)) <|
    .done) 55 (.t 54) <|
    .op (some 56) (.mov (.t 55)) <|
    .sc 56 true (.op (some 57) (.ld true 2 (.t 5)) <|
    .op (some 58) (.ld true 2 (.t 6)) <|
    .op (some 59) (.ld true 2 (.t 4)) <|
    .op (some 60) (.call true false 11 [(.t 57), (.t 58), (.t 59)]) <|
    .op (some 61) (.mov (.t 9)) <|
    .op (some 62) (.bin .eql (.t 60) (.t 61)) <|
    .done) 63 (.t 62) <|
    .op (some 64) (.mov (.t 63)) <|
    .sc 64 true (.op (some 65) (.call true false 17 []) <|
    .done) 66 (.t 65) <|
    .op (some 8) (.mov (.t 66)) <|
    .done))
  .ret))))
def fn8 : Fn := ⟨4, [.t 8], fn8b⟩
theorem rd8 : Read Try.prog 8 fn8 := Read.of Try.func8 (by decide +kernel) (by kernel_rfl) (by kernel_rfl)
def fn9k0 : List Nat := [5, 6, 7, 8, 9, 11, 12]
def fn9l0 : C := (.seq (.seq (.reg false [] (.op (some 27) (.mov (.t 12)) <|
    .op (some 28) (.mov (.t 11)) <|
    .op (some 29) (.len (.t 28)) <|
    .op (some 30) (.bin .lss (.t 27) (.t 29)) <|
    .done))
  (.cnd (.t 30)
  .skip
  (.exit 0)))
  (.seq (.blk 1 (.seq (.reg false [] (.op (some 33) (.mov (.t 11)) <|
    .op (some 34) (.mov (.t 12)) <|
    .op (some 35) (.ia 2 (.t 33) (.t 34)) <|
    .op (some 36) (.fa 0 (.t 35)) <|
    .op (some 37) (.ld false 1 (.t 36)) <|
    .op (some 38) (.bin .lss (.t 37) (.c (.i .i64 (-1048576)))) <|
    .op (some 39) (.mov (.t 38)) <|
    .sc 39 false (.op (some 40) (.mov (.t 11)) <|
    .op (some 41) (.mov (.t 12)) <|
    .op (some 42) (.ia 2 (.t 40) (.t 41)) <|
    .op (some 43) (.fa 0 (.t 42)) <|
    .op (some 44) (.ld false 1 (.t 43)) <|
    .op (some 45) (.bin .gtr (.t 44) (.c (.i .i64 1048576))) <|
    .done) 46 (.t 45) <|
    .op (some 47) (.mov (.t 46)) <|
    .sc 47 false (.op (some 48) (.mov (.t 11)) <|
    .op (some 49) (.mov (.t 12)) <|
    .op (some 50) (.ia 2 (.t 48) (.t 49)) <|
    .op (some 51) (.fa 1 (.t 50)) <|
    .op (some 52) (.ld false 1 (.t 51)) <|
    .op (some 53) (.bin .lss (.t 52) (.c (.i .i64 (-1048576)))) <|
    .done) 54 (.t 53) <|
    .op (some 55) (.mov (.t 54)) <|
    .sc 55 false (.op (some 56) (.mov (.t 11)) <|
    .op (some 57) (.mov (.t 12)) <|
    .op (some 58) (.ia 2 (.t 56) (.t 57)) <|
    .op (some 59) (.fa 1 (.t 58)) <|
    .op (some 60) (.ld false 1 (.t 59)) <|
    .op (some 61) (.bin .gtr (.t 60) (.c (.i .i64 1048576))) <|
    .done) 62 (.t 61) <|
    .done))
  (.cnd (.t 62)
  (.seq (.reg false [] (.op (some 63) (.call false false 17 []) <|
    .op (some 10) (.mov (.t 63)) <|
    .done))
  .ret)
  .skip)))
  (.reg false [] (.op (some 31) (.mov (.t 12)) <|
    .op (some 32) (.bin .add (.t 31) (.c (.i .i64 1))) <|
    .op (some 12) (.mov (.t 32)) <|
    .done))))
/-- mapsheets/mapsheetslaw08.GeomRigid -/
def fn9b : C := (.seq (.reg false [] (.op (some 5) (.box 23 2 (.t 0)) <|
    .op (some 6) (.box 23 2 (.t 1)) <|
    .op (some 7) (.box 23 2 (.t 2)) <|
    .op (some 8) (.box 23 2 (.t 3)) <|
    .op (some 9) (.box 23 2 (.t 4)) <|
    .op (some 10) (.mov (.c (.b false))) <|
    .done))
  (.seq (.reg false [] (.op (some 21) (.ld true 2 (.t 5)) <|
    .op (some 22) (.ld true 2 (.t 6)) <|
    .op (some 23) (.ld true 2 (.t 7)) <|
    .op (some 24) (.ld true 2 (.t 8)) <|
    .op (some 25) (.ld true 2 (.t 9)) <|
    .op (some 26) (.bsl false 23 2 [(.t 21), (.t 22), (.t 23), (.t 24), (.t 25)]) <|
    .op (some 11) (.mov (.t 26)) <|
    .done))
  (.seq (.seq (.reg false [] (.op (some 12) (.mov (.c (.i .i64 0))) <|
    .done))
  (.blk 0 (.loop fn9k0 fn9l0)))
  (.seq (.reg true [] (.op (some 64) (.ld true 2 (.t 5)) <|
    .op (some 65) (.ld true 2 (.t 6)) <|
    .op (some 66) (.ld true 2 (.t 7)) <|
    .op (some 67) (.call true false 11 [(.t 64), (.t 65), (.t 66)]) <|
    .op (some 68) (.ld true 2 (.t 5)) <|
    .op (some 69) (.ld true 2 (.t 6)) <|
    .op (some 70) (.ld true 2 (.t 7)) <|
    .op (some 71) (.ld true 2 (.t 8)) <|
    .op (some 72) (.call true false 19 [(.t 68), (.t 69), (.t 70), (.t 71)]) <|
    .op (some 73) (.ld true 2 (.t 5)) <|
    .op (some 74) (.ld true 2 (.t 6)) <|
    .op (some 75) (.ld true 2 (.t 7)) <|
    .op (some 76) (.call true false 15 [(.t 73), (.t 74), (.t 75)]) <|
    .op (some 77) (.ld true 2 (.t 5)) <|
    .op (some 78) (.ld true 2 (.t 6)) <|
    .op (some 79) (.ld true 2 (.t 7)) <|
    .op (some 80) (.call true false 24 [(.t 77), (.t 78), (.t 79)]) <|
    .op (some 16) (.box 32 2 (.c (.ag [(.i .i64 0), (.i .i64 0)]))) <|
    .op (some 13) (.mov (.t 67)) <|
    .op (some 14) (.mov (.t 72)) <|
    .op (some 15) (.mov (.t 76)) <|
    .op none (.st true 2 (.t 16) (.t 80)) <|
    .done))
  (.seq (.reg true [] (.op (some 81) (.ld true 2 (.t 5)) <|
    .op (some 82) (.ld true 2 (.t 9)) <|
    .op (some 83) (.call true false 30 [(.t 81), (.t 82)]) <|
    .op (some 84) (.ld true 2 (.t 6)) <|
    .op (some 85) (.ld true 2 (.t 9)) <|
    .op (some 86) (.call true false 30 [(.t 84), (.t 85)]) <|
    .op (some 87) (.ld true 2 (.t 7)) <|
    .op (some 88) (.ld true 2 (.t 9)) <|
    .op (some 89) (.call true false 30 [(.t 87), (.t 88)]) <|
    .op (some 90) (.ld true 2 (.t 8)) <|
    .op (some 91) (.ld true 2 (.t 9)) <|
    .op (some 92) (.call true false 30 [(.t 90), (.t 91)]) <|
    .op (some 17) (.box 23 2 (.c (.ag [(.i .i64 0), (.i .i64 0)]))) <|
    .op (some 18) (.box 23 2 (.c (.ag [(.i .i64 0), (.i .i64 0)]))) <|
    .op (some 19) (.box 23 2 (.c (.ag [(.i .i64 0), (.i .i64 0)]))) <|
    .op (some 20) (.box 23 2 (.c (.ag [(.i .i64 0), (.i .i64 0)]))) <|
    .op none (.st true 2 (.t 17) (.t 83)) <|
    .op none (.st true 2 (.t 18) (.t 86)) <|
    .op none (.st true 2 (.t 19) (.t 89)) <|
    .op none (.st true 2 (.t 20) (.t 92)) <|
    .done))
  (.seq (.seq (.reg true [] (.op (some 93) (.ld true 2 (.t 17)) <|
    .op (some 94) (.ld true 2 (.t 18)) <|
    .op (some 95) (.ld true 2 (.t 19)) <|
    .op (some 96) (.call true false 11 [(.t 93), (.t 94), (.t 95)]) <|
    .op (some 97) (.mov (.t 13)) <|
    .op (some 98) (.bin .neq (.t 96) (.t 97)) <|
    .op (some 99) (.mov (.t 98)) <|
    .sc 99 false (.op (some 100) (.ld true 2 (.t 17)) <|
    .op (some 101) (.ld true 2 (.t 18)) <|
    .op (some 102) (.ld true 2 (.t 19)) <|
    .op (some 103) (.ld true 2 (.t 20)) <|
    .op (some 104) (.call true false 19 [(.t 100), (.t 101), (.t 102), (.t 103)]) <|
    .op (some 105) (.mov (.t 14)) <|
    .op (some 106) (.bin .neq (.t 104) (.t 105)) <|
    .done) 107 (.t 106) <|
    .op (some 108) (.mov (.t 107)) <|
    .sc 108 false (.op (some 109) (.ld true 2 (.t 17)) <|
    .op (some 110) (.ld true 2 (.t 18)) <|
    .op (some 111) (.ld true 2 (.t 19)) <|
    .op (some 112) (.call true false 15 [(.t 109), (.t 110), (.t 111)]) <|
    .op (some 113) (.mov (.t 15)) <|
    .op (some 114) (.eq true false [true] (.t 112) (.t 113)) <|
    .done) 115 (.t 114) <|
    .op (some 116) (.mov (.t 115)) <|
    .sc 116 false (.op (some 117) (.ld true 2 (.t 17)) <|
    .op (some 118) (.ld true 2 (.t 18)) <|
    .op (some 119) (.ld true 2 (.t 19)) <|
    .op (some 120) (.call true false 24 [(.t 117), (.t 118), (.t 119)]) <|
    .op (some 121) (.ld true 2 (.t 16)) <|
    .op (some 122) (.eq true true [false, false] (.t 120) (.t 121)) <|
    .done) 123 (.t 122) <|
    .done))
  (.cnd (.t 123)
  (.seq (.reg false [] (.op (some 10) (.mov (.c (.b false))) <|
    .done))
  .ret)
  .skip))
  (.seq (.reg true [] (.op (some 124) (.ld true 2 (.t 5)) <|
    .op (some 125) (.call true false 31 [(.t 124)]) <|
    .op (some 126) (.ld true 2 (.t 6)) <|
    .op (some 127) (.call true false 31 [(.t 126)]) <|
    .op (some 128) (.ld true 2 (.t 7)) <|
    .op (some 129) (.call true false 31 [(.t 128)]) <|
    .op (some 130) (.ld true 2 (.t 8)) <|
    .op (some 131) (.call true false 31 [(.t 130)]) <|
    .op none (.st true 2 (.t 17) (.t 125)) <|
    .op none (.st true 2 (.t 18) (.t 127)) <|
    .op none (.st true 2 (.t 19) (.t 129)) <|
    .op none (.st true 2 (.t 20) (.t 131)) <|
    .done))
  (.seq (.reg true [] (.op (some 132) (.ld true 2 (.t 17)) <|
    .op (some 133) (.ld true 2 (.t 18)) <|
    .op (some 134) (.ld true 2 (.t 19)) <|
    .op (some 135) (.call true false 11 [(.t 132), (.t 133), (.t 134)]) <|
    .op (some 136) (.mov (.t 13)) <|
    .op (some 137) (.bin .eql (.t 135) (.t 136)) <|
    .op (some 138) (.mov (.t 137)) <|
    .sc 138 true (.op (some 139) (.ld true 2 (.t 17)) <|
    .op (some 140) (.ld true 2 (.t 18)) <|
    .op (some 141) (.ld true 2 (.t 19)) <|
    .op (some 142) (.call true false 13 [(.t 139), (.t 140), (.t 141)]) <|
    .op (some 143) (.ld true 2 (.t 5)) <|
    .op (some 144) (.ld true 2 (.t 6)) <|
    .op (some 145) (.ld true 2 (.t 7)) <|
    .op (some 146) (.call true false 13 [(.t 143), (.t 144), (.t 145)]) <|
    .op (some 147) (.bin .eql (.t 142) (.t 146)) <|
    .done) 148 (.t 147) <|
    .op (some 149) (.mov (.t 148)) <|
    .sc 149 true (.op (some 150) (.ld true 2 (.t 17)) <|
    .op (some 151) (.ld true 2 (.t 18)) <|
    .op (some 152) (.ld true 2 (.t 19)) <|
    .op (some 153) (.ld true 2 (.t 20)) <|
    .op (some 154) (.call true false 19 [(.t 150), (.t 151), (.t 152), (.t 153)]) <|
    .op (some 155) (.mov (.t 14)) <|
    .op (some 156) (.bin .eql (.t 154) (.t 155)) <|
    .done) 157 (.t 156) <|
    .op (some 158) (.mov (.t 157)) <|
    .sc 158 true (.op (some 159) (.ld true 2 (.t 17)) <|
    .op (some 160) (.ld true 2 (.t 18)) <|
    .op (some 161) (.ld true 2 (.t 19)) <|
    .op (some 162) (.call true false 15 [(.t 159), (.t 160), (.t 161)]) <|
    .op (some 163) (.mov (.t 15)) <|
    .op (some 164) (.eq false false [true] (.t 162) (.t 163)) <|
    .done) 165 (.t 164) <|
    .op (some 166) (.mov (.t 165)) <|
    .sc 166 true (.op (some 167) (.ld true 2 (.t 17)) <|
    .op (some 168) (.ld true 2 (.t 18)) <|
    .op (some 169) (.ld true 2 (.t 19)) <|
    .op (some 170) (.call true false 24 [(.t 167), (.t 168), (.t 169)]) <|
    .op (some 171) (.ld true 2 (.t 16)) <|
    .op (some 172) (.eq false true [false, false] (.t 170) (.t 171)) <|
    .done) 173 (.t 172) <|
    .op (some 174) (.mov (.t 173)) <|
    .sc 174 true (.op (some 175) (.call true false 17 []) <|
    .done) 176 (.t 175) <|
    .op (some 10) (.mov (.t 176)) <|
    .done))
  .ret))))))))
def fn9 : Fn := ⟨5, [.t 10], fn9b⟩
theorem rd9 : Read Try.prog 9 fn9 := Read.of Try.func9 (by decide +kernel) (by kernel_rfl) (by kernel_rfl)
/-- mapsheets/mapsheetslaw08.GeomTouches -/
def fn10b : C := (.seq (.reg false [] (.op (some 4) (.box 23 2 (.t 0)) <|
    .op (some 5) (.box 23 2 (.t 1)) <|
    .op (some 6) (.box 23 2 (.t 2)) <|
    .op (some 7) (.box 23 2 (.t 3)) <|
    .op (some 8) (.mov (.c (.b false))) <|
    .done))
  (.seq (.seq (.reg false [] (.op (some 11) (.ld true 2 (.t 4)) <|
    .op (some 12) (.ld true 2 (.t 5)) <|
    .op (some 13) (.ld true 2 (.t 6)) <|
    .op (some 14) (.ld true 2 (.t 7)) <|
    .op (some 15) (.bsl false 23 2 [(.t 11), (.t 12), (.t 13), (.t 14)]) <|
    .op (some 16) (.call false false 22 [(.t 15)]) <|
    .op (some 17) (.un .not (.t 16)) <|
    .done))
  (.cnd (.t 17)
  (.seq (.reg false [] (.op (some 18) (.call false false 17 []) <|
    .op (some 8) (.mov (.t 18)) <|
    .done))
  .ret)
  .skip))
  (.seq (.reg false [] (.op (some 19) (.ld true 2 (.t 4)) <|
    .op (some 20) (.ld true 2 (.t 5)) <|
    .op (some 21) (.ld true 2 (.t 7)) <|
    .op (some 22) (.call false false 15 [(.t 19), (.t 20), (.t 21)]) <|
    .op (some 9) (.mov (.t 22)) <|
    .done))
  (.seq (.reg false [] (.op (some 23) (.ld true 2 (.t 4)) <|
    .op (some 24) (.ld true 2 (.t 5)) <|
    .op (some 25) (.ld true 2 (.t 7)) <|
    .op (some 26) (.call false false 24 [(.t 23), (.t 24), (.t 25)]) <|
    .op (some 10) (.box 32 2 (.c (.ag [(.i .i64 0), (.i .i64 0)]))) <|
    .op none (.st false 2 (.t 10) (.t 26)) <|
    .done))
  (.seq (.seq (.reg true [] (.op (some 27) (.ld true 2 (.t 4)) <|
    .op (some 28) (.ld true 2 (.t 5)) <|
    .op (some 29) (.ld true 2 (.t 7)) <|
    .op (some 30) (.ld true 2 (.t 7)) <|
    .op (some 31) (.call true false 19 [(.t 27), (.t 28), (.t 29), (.t 30)]) <|
    .op (some 32) (.bin .eql (.t 31) (.c (.i .i64 1))) <|
    .op (some 33) (.mov (.t 9)) <|
    .op (some 34) (.eq true false [true] (.t 32) (.t 33)) <|
    .op (some 35) (.mov (.t 34)) <|
    .sc 35 false (.op (some 36) (.ld true 2 (.t 4)) <|
    .op (some 37) (.ld true 2 (.t 5)) <|
    .op (some 38) (.ld true 2 (.t 7)) <|
    .op (some 39) (.ld true 2 (.t 7)) <|
    .op (some 40) (.call true false 19 [(.t 36), (.t 37), (.t 38), (.t 39)]) <|
    .op (some 41) (.bin .gtr (.t 40) (.c (.i .i64 1))) <|
    .done) 42 (.t 41) <|
    .op (some 43) (.mov (.t 42)) <|
    .sc 43 false (.op (some 44) (.fa 0 (.t 10)) <|
    .op (some 45) (.ld false 1 (.t 44)) <|
    .op (some 46) (.bin .eql (.t 45) (.c (.i .i64 0))) <|
    .op (some 47) (.mov (.t 9)) <|
    .op (some 48) (.eq true false [true] (.t 46) (.t 47)) <|
    .done) 49 (.t 48) <|
    .op (some 50) (.mov (.t 49)) <|
    .sc 50 false (.op (some 51) (.fa 1 (.t 10)) <|
    .op (some 52) (.ld false 1 (.t 51)) <|
    .op (some 53) (.bin .lss (.t 52) (.c (.i .i64 1))) <|
    .done) 54 (.t 53) <|
    .op (some 55) (.mov (.t 54)) <|
    .sc 55 false (.op (some 56) (.fa 0 (.t 10)) <|
    .op (some 57) (.ld false 1 (.t 56)) <|
    .op (some 58) (.bin .lss (.t 57) (.c (.i .i64 0))) <|
    .done) 59 (.t 58) <|
    .op (some 60) (.mov (.t 59)) <|
    .sc 60 false (.op (some 61) (.ld true 2 (.t 5)) <|
    .op (some 62) (.ld true 2 (.t 4)) <|
    .op (some 63) (.ld true 2 (.t 7)) <|
    .op (some 64) (.call true false 24 [(.t 61), (.t 62), (.t 63)]) <|
    .op (some 65) (.ld true 2 (.t 10)) <|
    .op (some 66) (.eq true true [false, false] (.t 64) (.t 65)) <|
    .done) 67 (.t 66) <|
    .done))
  (.cnd (.t 67)
  (.seq (.reg false [] (.op (some 8) (.mov (.c (.b false))) <|
    .done))
  .ret)
  .skip))
  (.seq (.reg false [] (.op (some 68) (.mov (.t 9)) <|
    .op (some 69) (.un .not (.t 68)) <|
    .op (some 70) (.mov (.t 69)) <|
    .sc 70 false (.op (some 71) (.ld true 2 (.t 4)) <|
    .op (some 72) (.ld true 2 (.t 5)) <|
    .op (some 73) (.ld true 2 (.t 6)) <|
    .op (some 74) (.ld true 2 (.t 7)) <|
    .op (some 75) (.call false false 19 [(.t 71), (.t 72), (.t 73), (.t 74)]) <|
    .op (some 76) (.bin .gtr (.t 75) (.c (.i .i64 0))) <|
    .done) 77 (.t 76) <|
    .op (some 78) (.mov (.t 77)) <|
    .sc 78 true (.op (some 79) (.ld true 2 (.t 4)) <|
    .op (some 80) (.ld true 2 (.t 5)) <|
    .op (some 81) (.ld true 2 (.t 7)) <|
    .op (some 82) (.call false false 13 [(.t 79), (.t 80), (.t 81)]) <|
    .op (some 83) (.bin .eql (.t 82) (.c (.i .i64 0))) <|
    .op (some 84) (.mov (.t 83)) <|
    .sc 84 false (.op (some 85) (.mov (.t 9)) <|
    .op (some 86) (.un .not (.t 85)) <|
    .done) 87 (.t 86) <|
    .done) 88 (.t 87) <|
    .op (some 89) (.mov (.t 88)) <|
    .sc 89 true (.op (some 90) (.call false false 17 []) <|
    .done) 91 (.t 90) <|
    .op (some 8) (.mov (.t 91)) <|
    .done))
  .ret))))))
def fn10 : Fn := ⟨4, [.t 8], fn10b⟩
theorem rd10 : Read Try.prog 10 fn10 := Read.of Try.func10 (by decide +kernel) (by kernel_rfl) (by kernel_rfl)
/-- mapsheets/geom.Twice -/
def fn11b : C := (.seq (.reg false [] (.op (some 3) (.box 23 2 (.t 0)) <|
    .op (some 4) (.box 23 2 (.t 1)) <|
    .op (some 5) (.box 23 2 (.t 2)) <|
    .op (some 6) (.mov (.c (.i .i64 0))) <|
    .done))
  (.seq (.seq (.reg false [] (.op (some 7) (.ld true 2 (.t 3)) <|
    .op (some 8) (.ld true 2 (.t 4)) <|
    .op (some 9) (.ld true 2 (.t 5)) <|
    .op (some 10) (.bsl false 23 2 [(.t 7), (.t 8), (.t 9)]) <|
    .op (some 11) (.call false false 32 [(.t 10)]) <|
    .op (some 12) (.un .not (.t 11)) <|
    .done))
  (.cnd (.t 12)
  (.seq (.reg false [] (.op (some 6) (.mov (.c (.i .i64 0))) <|
    .done))
  .ret)
  .skip))
  (.seq (.reg true [] (.op (some 13) (.ld true 2 (.t 4)) <|
    .op (some 14) (.ld true 2 (.t 3)) <|
    .op (some 15) (.call true false 34 [(.t 13), (.t 14)]) <|
    .op (some 16) (.ld true 2 (.t 5)) <|
    .op (some 17) (.ld true 2 (.t 3)) <|
    .op (some 18) (.call true false 34 [(.t 16), (.t 17)]) <|
    .op (some 19) (.call true false 33 [(.t 15), (.t 18)]) <|
    .op (some 6) (.mov (.t 19)) <|
    .done))
  .ret)))
def fn11 : Fn := ⟨3, [.t 6], fn11b⟩
theorem rd11 : Read Try.prog 11 fn11 := Read.of Try.func11 (by decide +kernel) (by kernel_rfl) (by kernel_rfl)
/-- mapsheets/mapsheetsref08.Twice -/
def fn12b : C := (.seq (.reg false [] (.op (some 3) (.box 23 2 (.t 0)) <|
    .op (some 4) (.box 23 2 (.t 1)) <|
    .op (some 5) (.box 23 2 (.t 2)) <|
    .op (some 6) (.mov (.c (.i .i64 0))) <|
    .done))
  (.seq (.seq (.reg false [] (.op (some 7) (.ld true 2 (.t 3)) <|
    .op (some 8) (.ld true 2 (.t 4)) <|
    .op (some 9) (.ld true 2 (.t 5)) <|
    .op (some 10) (.bsl false 23 2 [(.t 7), (.t 8), (.t 9)]) <|
    .op (some 11) (.call false false 22 [(.t 10)]) <|
    .op (some 12) (.un .not (.t 11)) <|
    .done))
  (.cnd (.t 12)
  (.seq (.reg false [] (.op (some 6) (.mov (.c (.i .i64 0))) <|
    .done))
  .ret)
  .skip))
  (.seq (.reg false [] (.op (some 13) (.ld true 2 (.t 3)) <|
    .op (some 14) (.ld true 2 (.t 4)) <|
    .op (some 15) (.ld true 2 (.t 3)) <|
    .op (some 16) (.ld true 2 (.t 5)) <|
    .op (some 17) (.call false false 35 [(.t 13), (.t 14), (.t 15), (.t 16)]) <|
    .op (some 6) (.mov (.t 17)) <|
    .done))
  .ret)))
def fn12 : Fn := ⟨3, [.t 6], fn12b⟩
theorem rd12 : Read Try.prog 12 fn12 := Read.of Try.func12 (by decide +kernel) (by kernel_rfl) (by kernel_rfl)
/-- mapsheets/geom.Side -/
def fn13b : C := (.seq (.reg false [] (.op (some 3) (.box 23 2 (.t 0)) <|
    .op (some 4) (.box 23 2 (.t 1)) <|
    .op (some 5) (.box 23 2 (.t 2)) <|
    .op (some 6) (.mov (.c (.i .i64 0))) <|
    .done))
  (.seq (.reg false [] (.op (some 7) (.ld true 2 (.t 3)) <|
    .op (some 8) (.ld true 2 (.t 4)) <|
    .op (some 9) (.ld true 2 (.t 5)) <|
    .op (some 10) (.call false false 11 [(.t 7), (.t 8), (.t 9)]) <|
    .op (some 11) (.call false false 36 [(.t 10), (.c (.i .i64 0))]) <|
    .op (some 6) (.mov (.t 11)) <|
    .done))
  .ret))
def fn13 : Fn := ⟨3, [.t 6], fn13b⟩
theorem rd13 : Read Try.prog 13 fn13 := Read.of Try.func13 (by decide +kernel) (by kernel_rfl) (by kernel_rfl)
/-- mapsheets/mapsheetsref08.Side -/
def fn14b : C := (.seq (.reg false [] (.op (some 3) (.box 23 2 (.t 0)) <|
    .op (some 4) (.box 23 2 (.t 1)) <|
    .op (some 5) (.box 23 2 (.t 2)) <|
    .op (some 6) (.mov (.c (.i .i64 0))) <|
    .done))
  (.seq (.reg false [] (.op (some 8) (.ld true 2 (.t 3)) <|
    .op (some 9) (.ld true 2 (.t 4)) <|
    .op (some 10) (.ld true 2 (.t 5)) <|
    .op (some 11) (.call false false 12 [(.t 8), (.t 9), (.t 10)]) <|
    .op (some 7) (.mov (.t 11)) <|
    .done))
  (.seq (.seq (.reg false [] (.op (some 12) (.mov (.t 7)) <|
    .op (some 13) (.bin .gtr (.t 12) (.c (.i .i64 0))) <|
    .done))
  (.cnd (.t 13)
  (.seq (.reg false [] (.op (some 6) (.mov (.c (.i .i64 1))) <|
    .done))
  .ret)
  .skip))
  (.seq (.seq (.reg false [] (.op (some 14) (.mov (.t 7)) <|
    .op (some 15) (.bin .lss (.t 14) (.c (.i .i64 0))) <|
    .done))
  (.cnd (.t 15)
  (.seq (.reg false [] (.op (some 6) (.mov (.c (.i .i64 (-1)))) <|
    .done))
  .ret)
  .skip))
  (.seq (.reg false [] (.op (some 6) (.mov (.c (.i .i64 0))) <|
    .done))
  .ret)))))
def fn14 : Fn := ⟨3, [.t 6], fn14b⟩
theorem rd14 : Read Try.prog 14 fn14 := Read.of Try.func14 (by decide +kernel) (by kernel_rfl) (by kernel_rfl)
/-- mapsheets/geom.On -/
def fn15b : C := (.seq (.reg false [] (.op (some 3) (.box 23 2 (.t 0)) <|
    .op (some 4) (.box 23 2 (.t 1)) <|
    .op (some 5) (.box 23 2 (.t 2)) <|
    .op (some 6) (.mov (.c (.b false))) <|
    .done))
  (.seq (.reg false [] (.op (some 7) (.ld true 2 (.t 3)) <|
    .op (some 8) (.ld true 2 (.t 4)) <|
    .op (some 9) (.ld true 2 (.t 5)) <|
    .op (some 10) (.bsl false 23 2 [(.t 7), (.t 8), (.t 9)]) <|
    .op (some 11) (.call false false 32 [(.t 10)]) <|
    .op (some 12) (.mov (.t 11)) <|
    .sc 12 true (.op (some 13) (.ld true 2 (.t 3)) <|
    .op (some 14) (.ld true 2 (.t 4)) <|
    .op (some 15) (.ld true 2 (.t 5)) <|
    .op (some 16) (.call false false 37 [(.t 13), (.t 14), (.t 15)]) <|
    .done) 17 (.t 16) <|
    .op (some 6) (.mov (.t 17)) <|
    .done))
  .ret))
def fn15 : Fn := ⟨3, [.t 6], fn15b⟩
theorem rd15 : Read Try.prog 15 fn15 := Read.of Try.func15 (by decide +kernel) (by kernel_rfl) (by kernel_rfl)
/-- mapsheets/mapsheetsref08.On -/
def fn16b : C := (.seq (.reg false [] (.op (some 3) (.box 23 2 (.t 0)) <|
    .op (some 4) (.box 23 2 (.t 1)) <|
    .op (some 5) (.box 23 2 (.t 2)) <|
    .op (some 6) (.mov (.c (.b false))) <|
    .done))
  (.seq (.reg false [] (.op (some 7) (.ld true 2 (.t 3)) <|
    .op (some 8) (.ld true 2 (.t 4)) <|
    .op (some 9) (.ld true 2 (.t 5)) <|
    .op (some 10) (.bsl false 23 2 [(.t 7), (.t 8), (.t 9)]) <|
    .op (some 11) (.call false false 22 [(.t 10)]) <|
    .op (some 12) (.mov (.t 11)) <|
    .sc 12 true (.op (some 13) (.ld true 2 (.t 3)) <|
    .op (some 14) (.ld true 2 (.t 4)) <|
    .op (some 15) (.ld true 2 (.t 3)) <|
    .op (some 16) (.ld true 2 (.t 5)) <|
    .op (some 17) (.call false false 35 [(.t 13), (.t 14), (.t 15), (.t 16)]) <|
    .op (some 18) (.bin .eql (.t 17) (.c (.i .i64 0))) <|
    .done) 19 (.t 18) <|
    .op (some 20) (.mov (.t 19)) <|
    .sc 20 true (.op (some 21) (.ld true 2 (.t 3)) <|
    .op (some 22) (.ld true 2 (.t 5)) <|
    .op (some 23) (.ld true 2 (.t 4)) <|
    .op (some 24) (.ld true 2 (.t 5)) <|
    .op (some 25) (.call false false 38 [(.t 21), (.t 22), (.t 23), (.t 24)]) <|
    .op (some 26) (.bin .leq (.t 25) (.c (.i .i64 0))) <|
    .done) 27 (.t 26) <|
    .op (some 6) (.mov (.t 27)) <|
    .done))
  .ret))
def fn16 : Fn := ⟨3, [.t 6], fn16b⟩
theorem rd16 : Read Try.prog 16 fn16 := Read.of Try.func16 (by decide +kernel) (by kernel_rfl) (by kernel_rfl)
/-- mapsheets/mapsheetslaw08.awake -/
def fn17b : C := (.seq (.reg false [] (.op (some 0) (.mov (.c (.b false))) <|
    .done))
  (.seq (.reg false [] (.op (some 2) (.call false false 39 [(.c (.i .i64 0)), (.c (.i .i64 0))]) <|
    .op (some 1) (.box 23 2 (.c (.ag [(.i .i64 0), (.i .i64 0)]))) <|
    .op none (.st false 2 (.t 1) (.t 2)) <|
    .done))
  (.seq (.reg true [] (.op (some 3) (.ld true 2 (.t 1)) <|
    .op (some 4) (.call true false 39 [(.c (.i .i64 4)), (.c (.i .i64 0))]) <|
    .op (some 5) (.call true false 39 [(.c (.i .i64 0)), (.c (.i .i64 3))]) <|
    .op (some 6) (.call true false 11 [(.t 3), (.t 4), (.t 5)]) <|
    .op (some 7) (.bin .eql (.t 6) (.c (.i .i64 12))) <|
    .op (some 8) (.mov (.t 7)) <|
    .sc 8 true (.op (some 9) (.ld true 2 (.t 1)) <|
    .op (some 10) (.call true false 39 [(.c (.i .i64 0)), (.c (.i .i64 3))]) <|
    .op (some 11) (.call true false 39 [(.c (.i .i64 4)), (.c (.i .i64 0))]) <|
    .op (some 12) (.call true false 13 [(.t 9), (.t 10), (.t 11)]) <|
    .op (some 13) (.bin .eql (.t 12) (.c (.i .i64 (-1)))) <|
    .done) 14 (.t 13) <|
    .op (some 15) (.mov (.t 14)) <|
    .sc 15 true (.op (some 16) (.ld true 2 (.t 1)) <|
    .op (some 17) (.call true false 39 [(.c (.i .i64 4)), (.c (.i .i64 4))]) <|
    .op (some 18) (.call true false 39 [(.c (.i .i64 2)), (.c (.i .i64 2))]) <|
    .op (some 19) (.call true false 15 [(.t 16), (.t 17), (.t 18)]) <|
    .done) 20 (.t 19) <|
    .op (some 21) (.mov (.t 20)) <|
    .sc 21 true (.op (some 22) (.ld true 2 (.t 1)) <|
    .op (some 23) (.call true false 39 [(.c (.i .i64 4)), (.c (.i .i64 4))]) <|
    .op (some 24) (.call true false 39 [(.c (.i .i64 5)), (.c (.i .i64 5))]) <|
    .op (some 25) (.call true false 15 [(.t 22), (.t 23), (.t 24)]) <|
    .op (some 26) (.un .not (.t 25)) <|
    .done) 27 (.t 26) <|
    .op (some 28) (.mov (.t 27)) <|
    .sc 28 true (.op (some 29) (.ld true 2 (.t 1)) <|
    .op (some 30) (.call true false 39 [(.c (.i .i64 4)), (.c (.i .i64 4))]) <|
    .op (some 31) (.call true false 39 [(.c (.i .i64 0)), (.c (.i .i64 3))]) <|
    .op (some 32) (.call true false 39 [(.c (.i .i64 3)), (.c (.i .i64 0))]) <|
    .op (some 33) (.call true false 19 [(.t 29), (.t 30), (.t 31), (.t 32)]) <|
    .op (some 34) (.bin .eql (.t 33) (.c (.i .i64 1))) <|
    .done) 35 (.t 34) <|
    .op (some 36) (.mov (.t 35)) <|
    .sc 36 true (.op (some 37) (.ld true 2 (.t 1)) <|
    .op (some 38) (.call true false 39 [(.c (.i .i64 4)), (.c (.i .i64 0))]) <|
    .op (some 39) (.call true false 39 [(.c (.i .i64 2)), (.c (.i .i64 0))]) <|
    .op (some 40) (.call true false 39 [(.c (.i .i64 9)), (.c (.i .i64 0))]) <|
    .op (some 41) (.call true false 19 [(.t 37), (.t 38), (.t 39), (.t 40)]) <|
    .op (some 42) (.bin .eql (.t 41) (.c (.i .i64 2))) <|
    .done) 43 (.t 42) <|
    .op (some 44) (.mov (.t 43)) <|
    .sc 44 true (.op (some 45) (.ld true 2 (.t 1)) <|
    .op (some 46) (.call true false 39 [(.c (.i .i64 5)), (.c (.i .i64 0))]) <|
    .op (some 47) (.call true false 39 [(.c (.i .i64 0)), (.c (.i .i64 1))]) <|
    .op (some 48) (.call true false 20 [(.t 45), (.t 46), (.t 47)]) <|
    .done) 49 (.t 48) <|
    .op (some 50) (.mov (.t 49)) <|
    .sc 50 true (.op (some 51) (.ld true 2 (.t 1)) <|
    .op (some 52) (.call true false 39 [(.c (.i .i64 0)), (.c (.i .i64 1))]) <|
    .op (some 53) (.call true false 39 [(.c (.i .i64 2)), (.c (.i .i64 (-1)))]) <|
    .op (some 54) (.call true false 20 [(.t 51), (.t 52), (.t 53)]) <|
    .done) 55 (.t 54) <|
    .op (some 56) (.mov (.t 55)) <|
    .sc 56 true (.op (some 57) (.ld true 2 (.t 1)) <|
    .op (some 58) (.call true false 39 [(.c (.i .i64 2)), (.c (.i .i64 (-1)))]) <|
    .op (some 59) (.call true false 39 [(.c (.i .i64 5)), (.c (.i .i64 0))]) <|
    .op (some 60) (.call true false 20 [(.t 57), (.t 58), (.t 59)]) <|
    .op (some 61) (.un .not (.t 60)) <|
    .done) 62 (.t 61) <|
    .op (some 63) (.mov (.t 62)) <|
    .sc 63 true (.op (some 64) (.ld true 2 (.t 1)) <|
    .op (some 65) (.call true false 39 [(.c (.i .i64 3)), (.c (.i .i64 1))]) <|
    .op (some 66) (.call true false 39 [(.c (.i .i64 1)), (.c (.i .i64 1))]) <|
    .op (some 67) (.call true false 24 [(.t 64), (.t 65), (.t 66)]) <|
    .op (some 68) (.bld [(.i .i64 0), (.i .i64 0)] [(0, 1, (.c (.i .i64 2))), (1, 1, (.c (.i .i64 5)))]) <|
    .op (some 69) (.eq false true [false, false] (.t 67) (.t 68)) <|
    .done) 70 (.t 69) <|
    .op (some 71) (.mov (.t 70)) <|
    .sc 71 true (.op (some 72) (.ld true 2 (.t 1)) <|
    .op (some 73) (.call true false 39 [(.c (.i .i64 (-3))), (.c (.i .i64 0))]) <|
    .op (some 74) (.call true false 39 [(.c (.i .i64 1)), (.c (.i .i64 1))]) <|
    .op (some 75) (.call true false 24 [(.t 72), (.t 73), (.t 74)]) <|
    .op (some 76) (.bld [(.i .i64 0), (.i .i64 0)] [(0, 1, (.c (.i .i64 2))), (1, 1, (.c (.i .i64 1)))]) <|
    .op (some 77) (.eq false true [false, false] (.t 75) (.t 76)) <|
    .done) 78 (.t 77) <|
    .op (some 79) (.mov (.t 78)) <|
    .sc 79 true (.op (some 80) (.bld [(.i .i64 0), (.i .i64 0), (.i .i64 0), (.i .i64 0)] [(2, 1, (.c (.i .i64 4))), (3, 1, (.c (.i .i64 4)))]) <|
    .op (some 81) (.call true false 39 [(.c (.i .i64 4)), (.c (.i .i64 0))]) <|
    .op (some 82) (.call true false 27 [(.t 80), (.t 81)]) <|
    .done) 83 (.t 82) <|
    .op (some 84) (.mov (.t 83)) <|
    .sc 84 true (.op (some 85) (.bld [(.i .i64 0), (.i .i64 0), (.i .i64 0), (.i .i64 0)] [(2, 1, (.c (.i .i64 4))), (3, 1, (.c (.i .i64 4)))]) <|
    .op (some 86) (.bld [(.i .i64 0), (.i .i64 0), (.i .i64 0), (.i .i64 0)] [(0, 1, (.c (.i .i64 4))), (2, 1, (.c (.i .i64 8))), (3, 1, (.c (.i .i64 4)))]) <|
    .op (some 87) (.call true false 26 [(.t 85), (.t 86)]) <|
    .op (some 88) (.un .not (.t 87)) <|
    .done) 89 (.t 88) <|
    .op (some 90) (.mov (.t 89)) <|
    .sc 90 true (.op (some 91) (.bld [(.i .i64 0), (.i .i64 0), (.i .i64 0), (.i .i64 0)] [(2, 1, (.c (.i .i64 4))), (3, 1, (.c (.i .i64 4)))]) <|
    .op (some 92) (.bld [(.i .i64 0), (.i .i64 0), (.i .i64 0), (.i .i64 0)] [(0, 1, (.c (.i .i64 3))), (1, 1, (.c (.i .i64 3))), (2, 1, (.c (.i .i64 5))), (3, 1, (.c (.i .i64 5)))]) <|
    .op (some 93) (.call true false 26 [(.t 91), (.t 92)]) <|
    .done) 94 (.t 93) <|
    .op (some 0) (.mov (.t 94)) <|
    .done))
  .ret)))
def fn17 : Fn := ⟨0, [.t 0], fn17b⟩
theorem rd17 : Read Try.prog 17 fn17 := Read.of Try.func17 (by decide +kernel) (by kernel_rfl) (by kernel_rfl)
/-- mapsheets/mapsheetsref08.Meet -/
def fn18b : C := (.seq (.reg false [] (.op (some 4) (.box 23 2 (.t 0)) <|
    .op (some 5) (.box 23 2 (.t 1)) <|
    .op (some 6) (.box 23 2 (.t 2)) <|
    .op (some 7) (.box 23 2 (.t 3)) <|
    .op (some 8) (.mov (.c (.i .i64 0))) <|
    .done))
  (.seq (.seq (.reg false [] (.op (some 12) (.ld true 2 (.t 4)) <|
    .op (some 13) (.ld true 2 (.t 5)) <|
    .op (some 14) (.ld true 2 (.t 6)) <|
    .op (some 15) (.ld true 2 (.t 7)) <|
    .op (some 16) (.bsl false 23 2 [(.t 12), (.t 13), (.t 14), (.t 15)]) <|
    .op (some 17) (.call false false 22 [(.t 16)]) <|
    .op (some 18) (.un .not (.t 17)) <|
    .done))
  (.cnd (.t 18)
  (.seq (.reg false [] (.op (some 8) (.mov (.c (.i .i64 0))) <|
    .done))
  .ret)
  .skip))
  (.seq (.seq (.reg false [] (.op (some 19) (.ld true 2 (.t 4)) <|
    .op (some 20) (.ld true 2 (.t 5)) <|
    .op (some 21) (.eq false true [false, false] (.t 19) (.t 20)) <|
    .op (some 22) (.mov (.t 21)) <|
    .sc 22 true (.op (some 23) (.ld true 2 (.t 6)) <|
    .op (some 24) (.ld true 2 (.t 7)) <|
    .op (some 25) (.eq false true [false, false] (.t 23) (.t 24)) <|
    .done) 26 (.t 25) <|
    .op (some 27) (.mov (.t 26)) <|
    .sc 27 true (.op (some 28) (.ld true 2 (.t 4)) <|
    .op (some 29) (.ld true 2 (.t 6)) <|
    .op (some 30) (.eq true true [false, false] (.t 28) (.t 29)) <|
    .done) 31 (.t 30) <|
    .done))
  (.cnd (.t 31)
  (.seq (.reg false [] (.op (some 8) (.mov (.c (.i .i64 0))) <|
    .done))
  .ret)
  .skip))
  (.seq (.reg false [] (.op (some 32) (.ld true 2 (.t 4)) <|
    .op (some 33) (.ld true 2 (.t 5)) <|
    .op (some 34) (.ld true 2 (.t 6)) <|
    .op (some 35) (.ld true 2 (.t 7)) <|
    .op (some 36) (.call false false 35 [(.t 32), (.t 33), (.t 34), (.t 35)]) <|
    .op (some 9) (.mov (.t 36)) <|
    .done))
  (.seq (.seq (.reg false [] (.op (some 37) (.mov (.t 9)) <|
    .op (some 38) (.bin .eql (.t 37) (.c (.i .i64 0))) <|
    .done))
  (.cnd (.t 38)
  (.seq (.seq (.reg false [] (.op (some 39) (.ld true 2 (.t 4)) <|
    .op (some 40) (.ld true 2 (.t 5)) <|
    .op (some 41) (.ld true 2 (.t 4)) <|
    .op (some 42) (.ld true 2 (.t 6)) <|
    .op (some 43) (.call false false 35 [(.t 39), (.t 40), (.t 41), (.t 42)]) <|
    .op (some 44) (.bin .neq (.t 43) (.c (.i .i64 0))) <|
    .op (some 45) (.mov (.t 44)) <|
    .sc 45 false (.op (some 46) (.ld true 2 (.t 4)) <|
    .op (some 47) (.ld true 2 (.t 5)) <|
    .op (some 48) (.ld true 2 (.t 4)) <|
    .op (some 49) (.ld true 2 (.t 7)) <|
    .op (some 50) (.call false false 35 [(.t 46), (.t 47), (.t 48), (.t 49)]) <|
    .op (some 51) (.bin .neq (.t 50) (.c (.i .i64 0))) <|
    .done) 52 (.t 51) <|
    .op (some 53) (.mov (.t 52)) <|
    .sc 53 false (.op (some 54) (.ld true 2 (.t 6)) <|
    .op (some 55) (.ld true 2 (.t 7)) <|
    .op (some 56) (.ld true 2 (.t 6)) <|
    .op (some 57) (.ld true 2 (.t 4)) <|
    .op (some 58) (.call false false 35 [(.t 54), (.t 55), (.t 56), (.t 57)]) <|
    .op (some 59) (.bin .neq (.t 58) (.c (.i .i64 0))) <|
    .done) 60 (.t 59) <|
    .op (some 61) (.mov (.t 60)) <|
    .sc 61 false (.op (some 62) (.ld true 2 (.t 6)) <|
    .op (some 63) (.ld true 2 (.t 7)) <|
    .op (some 64) (.ld true 2 (.t 6)) <|
    .op (some 65) (.ld true 2 (.t 5)) <|
    .op (some 66) (.call false false 35 [(.t 62), (.t 63), (.t 64), (.t 65)]) <|
    .op (some 67) (.bin .neq (.t 66) (.c (.i .i64 0))) <|
    .done) 68 (.t 67) <|
    .done))
  (.cnd (.t 68)
  (.seq (.reg false [] (.op (some 8) (.mov (.c (.i .i64 0))) <|
    .done))
  .ret)
  .skip))
  (.seq (.reg false [] (.op (some 69) (.ld true 2 (.t 4)) <|
    .op (some 70) (.ld true 2 (.t 5)) <|
    .op (some 71) (.ld true 2 (.t 6)) <|
    .op (some 72) (.ld true 2 (.t 7)) <|
    .op (some 73) (.call false false 40 [(.t 69), (.t 70), (.t 71), (.t 72)]) <|
    .op (some 8) (.mov (.t 73)) <|
    .done))
  .ret))
  .skip))
  (.seq (.reg true [] (.op (some 74) (.ld true 2 (.t 4)) <|
    .op (some 75) (.ld true 2 (.t 6)) <|
    .op (some 76) (.ld true 2 (.t 6)) <|
    .op (some 77) (.ld true 2 (.t 7)) <|
    .op (some 78) (.call true false 35 [(.t 74), (.t 75), (.t 76), (.t 77)]) <|
    .op (some 79) (.ld true 2 (.t 4)) <|
    .op (some 80) (.ld true 2 (.t 6)) <|
    .op (some 81) (.ld true 2 (.t 4)) <|
    .op (some 82) (.ld true 2 (.t 5)) <|
    .op (some 83) (.call true false 35 [(.t 79), (.t 80), (.t 81), (.t 82)]) <|
    .op (some 10) (.mov (.t 78)) <|
    .op (some 11) (.mov (.t 83)) <|
    .done))
  (.seq (.seq (.reg false [] (.op (some 84) (.mov (.t 9)) <|
    .op (some 85) (.bin .lss (.t 84) (.c (.i .i64 0))) <|
    .done))
  (.cnd (.t 85)
  (.reg false [] (.op (some 86) (.mov (.t 9)) <|
    .op (some 87) (.un .neg (.t 86)) <|
    .op (some 88) (.mov (.t 10)) <|
    .op (some 89) (.un .neg (.t 88)) <|
    .op (some 90) (.mov (.t 11)) <|
    .op (some 91) (.un .neg (.t 90)) <|
    .op (some 9) (.mov (.t 87)) <|
    .op (some 10) (.mov (.t 89)) <|
    .op (some 11) (.mov (.t 91)) <|
    .done))
  .skip))
  (.seq (.seq (.reg false [] (.op (some 92) (.mov (.t 10)) <|
    .op (some 93) (.bin .geq (.t 92) (.c (.i .i64 0))) <|
    .op (some 94) (.mov (.t 93)) <|
    .sc 94 true (.op (some 95) (.mov (.t 10)) <|
    .op (some 96) (.mov (.t 9)) <|
    .op (some 97) (.bin .leq (.t 95) (.t 96)) <|
    .done) 98 (.t 97) <|
    .op (some 99) (.mov (.t 98)) <|
    .sc 99 true (.op (some 100) (.mov (.t 11)) <|
    .op (some 101) (.bin .geq (.t 100) (.c (.i .i64 0))) <|
    .done) 102 (.t 101) <|
    .op (some 103) (.mov (.t 102)) <|
    .sc 103 true (.op (some 104) (.mov (.t 11)) <|
    .op (some 105) (.mov (.t 9)) <|
    .op (some 106) (.bin .leq (.t 104) (.t 105)) <|
    .done) 107 (.t 106) <|
    .done))
  (.cnd (.t 107)
  (.seq (.reg false [] (.op (some 8) (.mov (.c (.i .i64 1))) <|
    .done))
  .ret)
  .skip))
  (.seq (.reg false [] (.op (some 8) (.mov (.c (.i .i64 0))) <|
    .done))
  .ret)))))))))
def fn18 : Fn := ⟨4, [.t 8], fn18b⟩
theorem rd18 : Read Try.prog 18 fn18 := Read.of Try.func18 (by decide +kernel) (by kernel_rfl) (by kernel_rfl)
/-- mapsheets/geom.Meet -/
def fn19b : C := (.seq (.reg false [] (.op (some 4) (.box 23 2 (.t 0)) <|
    .op (some 5) (.box 23 2 (.t 1)) <|
    .op (some 6) (.box 23 2 (.t 2)) <|
    .op (some 7) (.box 23 2 (.t 3)) <|
    .op (some 8) (.mov (.c (.i .i64 0))) <|
    .done))
  (.seq (.seq (.reg false [] (.op (some 11) (.ld true 2 (.t 4)) <|
    .op (some 12) (.ld true 2 (.t 5)) <|
    .op (some 13) (.ld true 2 (.t 6)) <|
    .op (some 14) (.ld true 2 (.t 7)) <|
    .op (some 15) (.bsl false 23 2 [(.t 11), (.t 12), (.t 13), (.t 14)]) <|
    .op (some 16) (.call false false 32 [(.t 15)]) <|
    .op (some 17) (.un .not (.t 16)) <|
    .done))
  (.cnd (.t 17)
  (.seq (.reg false [] (.op (some 8) (.mov (.c (.i .i64 0))) <|
    .done))
  .ret)
  .skip))
  (.seq (.blk 0 (.seq (.reg false [] (.op (some 19) (.ld true 2 (.t 4)) <|
    .op (some 20) (.ld true 2 (.t 5)) <|
    .op (some 21) (.eq false true [false, false] (.t 19) (.t 20)) <|
    .op (some 18) (.mov (.t 21)) <|
    .done))
  (.cnd (.t 18)
  (.seq (.seq (.reg false [] (.op (some 22) (.ld true 2 (.t 6)) <|
    .op (some 23) (.ld true 2 (.t 7)) <|
    .op (some 24) (.ld true 2 (.t 4)) <|
    .op (some 25) (.call false false 37 [(.t 22), (.t 23), (.t 24)]) <|
    .done))
  (.cnd (.t 25)
  (.seq (.reg false [] (.op (some 8) (.mov (.c (.i .i64 1))) <|
    .done))
  .ret)
  .skip))
  (.seq (.reg false [] (.op (some 8) (.mov (.c (.i .i64 0))) <|
    .done))
  .ret))
  (.seq (.reg false [] (.op (some 27) (.ld true 2 (.t 6)) <|
    .op (some 28) (.ld true 2 (.t 7)) <|
    .op (some 29) (.eq false true [false, false] (.t 27) (.t 28)) <|
    .op (some 26) (.mov (.t 29)) <|
    .done))
  (.cnd (.t 26)
  (.seq (.seq (.reg false [] (.op (some 30) (.ld true 2 (.t 4)) <|
    .op (some 31) (.ld true 2 (.t 5)) <|
    .op (some 32) (.ld true 2 (.t 6)) <|
    .op (some 33) (.call false false 37 [(.t 30), (.t 31), (.t 32)]) <|
    .done))
  (.cnd (.t 33)
  (.seq (.reg false [] (.op (some 8) (.mov (.c (.i .i64 1))) <|
    .done))
  .ret)
  .skip))
  (.seq (.reg false [] (.op (some 8) (.mov (.c (.i .i64 0))) <|
    .done))
  .ret))
  .skip)))))
  (.seq (.reg true [] (.op (some 34) (.ld true 2 (.t 4)) <|
    .op (some 35) (.ld true 2 (.t 5)) <|
    .op (some 36) (.ld true 2 (.t 6)) <|
    .op (some 37) (.call true false 13 [(.t 34), (.t 35), (.t 36)]) <|
    .op (some 38) (.ld true 2 (.t 4)) <|
    .op (some 39) (.ld true 2 (.t 5)) <|
    .op (some 40) (.ld true 2 (.t 7)) <|
    .op (some 41) (.call true false 13 [(.t 38), (.t 39), (.t 40)]) <|
    .op (some 9) (.mov (.t 37)) <|
    .op (some 10) (.mov (.t 41)) <|
    .done))
  (.seq (.seq (.reg false [] (.op (some 42) (.mov (.t 9)) <|
    .op (some 43) (.bin .neq (.t 42) (.c (.i .i64 0))) <|
    .op (some 44) (.mov (.t 43)) <|
    .sc 44 false (.op (some 45) (.mov (.t 10)) <|
    .op (some 46) (.bin .neq (.t 45) (.c (.i .i64 0))) <|
    .done) 47 (.t 46) <|
    .done))
  (.cnd (.t 47)
  (.seq (.seq (.reg true [] (.op (some 48) (.mov (.t 9)) <|
    .op (some 49) (.mov (.t 10)) <|
    .op (some 50) (.bin .mul (.t 48) (.t 49)) <|
    .op (some 51) (.bin .leq (.t 50) (.c (.i .i64 0))) <|
    .op (some 52) (.mov (.t 51)) <|
    .sc 52 true (.op (some 53) (.ld true 2 (.t 6)) <|
    .op (some 54) (.ld true 2 (.t 7)) <|
    .op (some 55) (.ld true 2 (.t 4)) <|
    .op (some 56) (.call true false 13 [(.t 53), (.t 54), (.t 55)]) <|
    .op (some 57) (.ld true 2 (.t 6)) <|
    .op (some 58) (.ld true 2 (.t 7)) <|
    .op (some 59) (.ld true 2 (.t 5)) <|
    .op (some 60) (.call true false 13 [(.t 57), (.t 58), (.t 59)]) <|
    .op (some 61) (.bin .mul (.t 56) (.t 60)) <|
    .op (some 62) (.bin .leq (.t 61) (.c (.i .i64 0))) <|
    .done) 63 (.t 62) <|
    .done))
  (.cnd (.t 63)
  (.seq (.reg false [] (.op (some 8) (.mov (.c (.i .i64 1))) <|
    .done))
  .ret)
  .skip))
  (.seq (.reg false [] (.op (some 8) (.mov (.c (.i .i64 0))) <|
    .done))
  .ret))
  .skip))
  (.seq (.reg false [] (.op (some 65) (.ld true 2 (.t 4)) <|
    .op (some 66) (.ld true 2 (.t 5)) <|
    .op (some 67) (.call false false 41 [(.t 65), (.t 66)]) <|
    .op (some 64) (.mov (.t 67)) <|
    .op (some 68) (.ext (.t 64) 0) <|
    .op (some 69) (.ext (.t 64) 1) <|
    .op none (.st false 2 (.t 4) (.t 68)) <|
    .op none (.st false 2 (.t 5) (.t 69)) <|
    .done))
  (.seq (.reg false [] (.op (some 71) (.ld true 2 (.t 6)) <|
    .op (some 72) (.ld true 2 (.t 7)) <|
    .op (some 73) (.call false false 41 [(.t 71), (.t 72)]) <|
    .op (some 70) (.mov (.t 73)) <|
    .op (some 74) (.ext (.t 70) 0) <|
    .op (some 75) (.ext (.t 70) 1) <|
    .op none (.st false 2 (.t 6) (.t 74)) <|
    .op none (.st false 2 (.t 7) (.t 75)) <|
    .done))
  (.seq (.seq (.reg false [] (.op (some 76) (.ld true 2 (.t 4)) <|
    .op (some 77) (.ld true 2 (.t 6)) <|
    .op (some 78) (.call false false 42 [(.t 76), (.t 77)]) <|
    .op (some 79) (.bin .lss (.t 78) (.c (.i .i64 0))) <|
    .done))
  (.cnd (.t 79)
  (.reg false [] (.op (some 80) (.ld true 2 (.t 6)) <|
    .op none (.st false 2 (.t 4) (.t 80)) <|
    .done))
  .skip))
  (.seq (.seq (.reg false [] (.op (some 81) (.ld true 2 (.t 5)) <|
    .op (some 82) (.ld true 2 (.t 7)) <|
    .op (some 83) (.call false false 42 [(.t 81), (.t 82)]) <|
    .op (some 84) (.bin .gtr (.t 83) (.c (.i .i64 0))) <|
    .done))
  (.cnd (.t 84)
  (.reg false [] (.op (some 85) (.ld true 2 (.t 7)) <|
    .op none (.st false 2 (.t 5) (.t 85)) <|
    .done))
  .skip))
  (.seq (.reg false [] (.op (some 86) (.ld true 2 (.t 4)) <|
    .op (some 87) (.ld true 2 (.t 5)) <|
    .op (some 88) (.call false false 42 [(.t 86), (.t 87)]) <|
    .op (some 89) (.bin .sub (.c (.i .i64 1)) (.t 88)) <|
    .op (some 8) (.mov (.t 89)) <|
    .done))
  .ret))))))))))
def fn19 : Fn := ⟨4, [.t 8], fn19b⟩
theorem rd19 : Read Try.prog 19 fn19 := Read.of Try.func19 (by decide +kernel) (by kernel_rfl) (by kernel_rfl)
/-- mapsheets/geom.Less -/
def fn20b : C := (.seq (.reg false [] (.op (some 3) (.box 23 2 (.t 0)) <|
    .op (some 4) (.box 23 2 (.t 1)) <|
    .op (some 5) (.box 23 2 (.t 2)) <|
    .op (some 6) (.mov (.c (.b false))) <|
    .done))
  (.seq (.seq (.reg false [] (.op (some 9) (.ld true 2 (.t 3)) <|
    .op (some 10) (.ld true 2 (.t 4)) <|
    .op (some 11) (.ld true 2 (.t 5)) <|
    .op (some 12) (.bsl false 23 2 [(.t 9), (.t 10), (.t 11)]) <|
    .op (some 13) (.call false false 32 [(.t 12)]) <|
    .op (some 14) (.un .not (.t 13)) <|
    .op (some 15) (.mov (.t 14)) <|
    .sc 15 false (.op (some 16) (.ld true 2 (.t 4)) <|
    .op (some 17) (.ld true 2 (.t 3)) <|
    .op (some 18) (.eq false true [false, false] (.t 16) (.t 17)) <|
    .done) 19 (.t 18) <|
    .op (some 20) (.mov (.t 19)) <|
    .sc 20 false (.op (some 21) (.ld true 2 (.t 5)) <|
    .op (some 22) (.ld true 2 (.t 3)) <|
    .op (some 23) (.eq false true [false, false] (.t 21) (.t 22)) <|
    .done) 24 (.t 23) <|
    .done))
  (.cnd (.t 24)
  (.seq (.reg false [] (.op (some 6) (.mov (.c (.b false))) <|
    .done))
  .ret)
  .skip))
  (.seq (.reg true [] (.op (some 25) (.ld true 2 (.t 4)) <|
    .op (some 26) (.ld true 2 (.t 3)) <|
    .op (some 27) (.call true false 34 [(.t 25), (.t 26)]) <|
    .op (some 28) (.ld true 2 (.t 5)) <|
    .op (some 29) (.ld true 2 (.t 3)) <|
    .op (some 30) (.call true false 34 [(.t 28), (.t 29)]) <|
    .op (some 7) (.box 23 2 (.c (.ag [(.i .i64 0), (.i .i64 0)]))) <|
    .op (some 8) (.box 23 2 (.c (.ag [(.i .i64 0), (.i .i64 0)]))) <|
    .op none (.st true 2 (.t 7) (.t 27)) <|
    .op none (.st true 2 (.t 8) (.t 30)) <|
    .done))
  (.seq (.seq (.reg true [] (.op (some 31) (.ld true 2 (.t 7)) <|
    .op (some 32) (.call true false 43 [(.t 31)]) <|
    .op (some 33) (.ld true 2 (.t 8)) <|
    .op (some 34) (.call true false 43 [(.t 33)]) <|
    .op (some 35) (.bin .neq (.t 32) (.t 34)) <|
    .done))
  (.cnd (.t 35)
  (.seq (.reg true [] (.op (some 36) (.ld true 2 (.t 7)) <|
    .op (some 37) (.call true false 43 [(.t 36)]) <|
    .op (some 38) (.ld true 2 (.t 8)) <|
    .op (some 39) (.call true false 43 [(.t 38)]) <|
    .op (some 40) (.bin .lss (.t 37) (.t 39)) <|
    .op (some 6) (.mov (.t 40)) <|
    .done))
  .ret)
  .skip))
  (.seq (.reg false [] (.op (some 41) (.ld true 2 (.t 7)) <|
    .op (some 42) (.ld true 2 (.t 8)) <|
    .op (some 43) (.call false false 33 [(.t 41), (.t 42)]) <|
    .op (some 44) (.bin .gtr (.t 43) (.c (.i .i64 0))) <|
    .op (some 6) (.mov (.t 44)) <|
    .done))
  .ret)))))
def fn20 : Fn := ⟨3, [.t 6], fn20b⟩
theorem rd20 : Read Try.prog 20 fn20 := Read.of Try.func20 (by decide +kernel) (by kernel_rfl) (by kernel_rfl)
/-- mapsheets/mapsheetsref08.Less -/
def fn21b : C := (.seq (.reg false [] (.op (some 3) (.box 23 2 (.t 0)) <|
    .op (some 4) (.box 23 2 (.t 1)) <|
    .op (some 5) (.box 23 2 (.t 2)) <|
    .op (some 6) (.mov (.c (.b false))) <|
    .done))
  (.seq (.seq (.reg false [] (.op (some 9) (.ld true 2 (.t 3)) <|
    .op (some 10) (.ld true 2 (.t 4)) <|
    .op (some 11) (.ld true 2 (.t 5)) <|
    .op (some 12) (.bsl false 23 2 [(.t 9), (.t 10), (.t 11)]) <|
    .op (some 13) (.call false false 22 [(.t 12)]) <|
    .op (some 14) (.un .not (.t 13)) <|
    .op (some 15) (.mov (.t 14)) <|
    .sc 15 false (.op (some 16) (.ld true 2 (.t 4)) <|
    .op (some 17) (.ld true 2 (.t 3)) <|
    .op (some 18) (.eq false true [false, false] (.t 16) (.t 17)) <|
    .done) 19 (.t 18) <|
    .op (some 20) (.mov (.t 19)) <|
    .sc 20 false (.op (some 21) (.ld true 2 (.t 5)) <|
    .op (some 22) (.ld true 2 (.t 3)) <|
    .op (some 23) (.eq false true [false, false] (.t 21) (.t 22)) <|
    .done) 24 (.t 23) <|
    .done))
  (.cnd (.t 24)
  (.seq (.reg false [] (.op (some 6) (.mov (.c (.b false))) <|
    .done))
  .ret)
  .skip))
  (.seq (.reg true [] (.op (some 25) (.ld true 2 (.t 3)) <|
    .op (some 26) (.ld true 2 (.t 4)) <|
    .op (some 27) (.call true false 44 [(.t 25), (.t 26)]) <|
    .op (some 28) (.ld true 2 (.t 3)) <|
    .op (some 29) (.ld true 2 (.t 5)) <|
    .op (some 30) (.call true false 44 [(.t 28), (.t 29)]) <|
    .op (some 7) (.mov (.t 27)) <|
    .op (some 8) (.mov (.t 30)) <|
    .done))
  (.seq (.reg false [] (.op (some 31) (.mov (.t 7)) <|
    .op (some 32) (.mov (.t 8)) <|
    .op (some 33) (.bin .lss (.t 31) (.t 32)) <|
    .op (some 34) (.mov (.t 33)) <|
    .sc 34 false (.op (some 35) (.mov (.t 7)) <|
    .op (some 36) (.mov (.t 8)) <|
    .op (some 37) (.bin .eql (.t 35) (.t 36)) <|
    .op (some 38) (.mov (.t 37)) <|
    .sc 38 true (.op (some 39) (.ld true 2 (.t 3)) <|
    .op (some 40) (.ld true 2 (.t 4)) <|
    .op (some 41) (.ld true 2 (.t 3)) <|
    .op (some 42) (.ld true 2 (.t 5)) <|
    .op (some 43) (.call false false 35 [(.t 39), (.t 40), (.t 41), (.t 42)]) <|
    .op (some 44) (.bin .gtr (.t 43) (.c (.i .i64 0))) <|
    .done) 45 (.t 44) <|
    .done) 46 (.t 45) <|
    .op (some 6) (.mov (.t 46)) <|
    .done))
  .ret))))
def fn21 : Fn := ⟨3, [.t 6], fn21b⟩
theorem rd21 : Read Try.prog 21 fn21 := Read.of Try.func21 (by decide +kernel) (by kernel_rfl) (by kernel_rfl)
def fn22k0 : List Nat := [0, 3]
def fn22l0 : C := (.seq (.seq (.reg false [] (.op (some 4) (.mov (.t 3)) <|
    .op (some 5) (.mov (.t 0)) <|
    .op (some 6) (.len (.t 5)) <|
    .op (some 7) (.bin .lss (.t 4) (.t 6)) <|
    .done))
  (.cnd (.t 7)
  .skip
  (.exit 0)))
  (.seq (.blk 1 (.seq (.reg false [] (.op (some 10) (.mov (.t 0)) <|
    .op (some 11) (.mov (.t 3)) <|
    .op (some 12) (.ia 2 (.t 10) (.t 11)) <|
    .op (some 13) (.fa 0 (.t 12)) <|
    .op (some 14) (.ld false 1 (.t 13)) <|
    .op (some 15) (.bin .lss (.t 14) (.c (.i .i64 (-2097152)))) <|
    .op (some 16) (.mov (.t 15)) <|
    .sc 16 false (.op (some 17) (.mov (.t 0)) <|
    .op (some 18) (.mov (.t 3)) <|
    .op (some 19) (.ia 2 (.t 17) (.t 18)) <|
    .op (some 20) (.fa 0 (.t 19)) <|
    .op (some 21) (.ld false 1 (.t 20)) <|
    .op (some 22) (.bin .gtr (.t 21) (.c (.i .i64 2097152))) <|
    .done) 23 (.t 22) <|
    .op (some 24) (.mov (.t 23)) <|
    .sc 24 false (.op (some 25) (.mov (.t 0)) <|
    .op (some 26) (.mov (.t 3)) <|
    .op (some 27) (.ia 2 (.t 25) (.t 26)) <|
    .op (some 28) (.fa 1 (.t 27)) <|
    .op (some 29) (.ld false 1 (.t 28)) <|
    .op (some 30) (.bin .lss (.t 29) (.c (.i .i64 (-2097152)))) <|
    .done) 31 (.t 30) <|
    .op (some 32) (.mov (.t 31)) <|
    .sc 32 false (.op (some 33) (.mov (.t 0)) <|
    .op (some 34) (.mov (.t 3)) <|
    .op (some 35) (.ia 2 (.t 33) (.t 34)) <|
    .op (some 36) (.fa 1 (.t 35)) <|
    .op (some 37) (.ld false 1 (.t 36)) <|
    .op (some 38) (.bin .gtr (.t 37) (.c (.i .i64 2097152))) <|
    .done) 39 (.t 38) <|
    .done))
  (.cnd (.t 39)
  (.seq (.reg false [] (.op (some 2) (.mov (.c (.b false))) <|
    .done))
  .ret)
  .skip)))
  (.reg false [] (.op (some 8) (.mov (.t 3)) <|
    .op (some 9) (.bin .add (.t 8) (.c (.i .i64 1))) <|
    .op (some 3) (.mov (.t 9)) <|
    .done))))
/-- mapsheets/mapsheetsref08.Near -/
def fn22b : C := (.seq (.reg false [] (.op (some 2) (.mov (.c (.b false))) <|
    .done))
  (.seq (.seq (.reg false [] (.op (some 3) (.mov (.c (.i .i64 0))) <|
    .done))
  (.blk 0 (.loop fn22k0 fn22l0)))
  (.seq (.reg false [] (.op (some 2) (.mov (.c (.b true))) <|
    .done))
  .ret)))
def fn22 : Fn := ⟨1, [.t 2], fn22b⟩
theorem rd22 : Read Try.prog 22 fn22 := Read.of Try.func22 (by decide +kernel) (by kernel_rfl) (by kernel_rfl)
/-- mapsheets/mapsheetslaw08.equal -/
def fn23b : C := (.seq (.reg false [] (.op (some 3) (.box 23 2 (.t 0)) <|
    .op (some 4) (.box 23 2 (.t 1)) <|
    .op (some 5) (.box 23 2 (.t 2)) <|
    .op (some 6) (.mov (.c (.b false))) <|
    .done))
  (.seq (.reg false [] (.op (some 7) (.ld true 2 (.t 3)) <|
    .op (some 8) (.ld true 2 (.t 4)) <|
    .op (some 9) (.ld true 2 (.t 5)) <|
    .op (some 10) (.call false false 20 [(.t 7), (.t 8), (.t 9)]) <|
    .op (some 11) (.un .not (.t 10)) <|
    .op (some 12) (.mov (.t 11)) <|
    .sc 12 true (.op (some 13) (.ld true 2 (.t 3)) <|
    .op (some 14) (.ld true 2 (.t 5)) <|
    .op (some 15) (.ld true 2 (.t 4)) <|
    .op (some 16) (.call false false 20 [(.t 13), (.t 14), (.t 15)]) <|
    .op (some 17) (.un .not (.t 16)) <|
    .done) 18 (.t 17) <|
    .op (some 6) (.mov (.t 18)) <|
    .done))
  .ret))
def fn23 : Fn := ⟨3, [.t 6], fn23b⟩
theorem rd23 : Read Try.prog 23 fn23 := Read.of Try.func23 (by decide +kernel) (by kernel_rfl) (by kernel_rfl)
/-- mapsheets/geom.Dist -/
def fn24b : C := (.seq (.reg false [] (.op (some 3) (.box 23 2 (.t 0)) <|
    .op (some 4) (.box 23 2 (.t 1)) <|
    .op (some 5) (.box 23 2 (.t 2)) <|
    .op (some 6) (.box 32 2 (.c (.ag [(.i .i64 0), (.i .i64 0)]))) <|
    .done))
  (.seq (.seq (.reg false [] (.op (some 19) (.ld true 2 (.t 3)) <|
    .op (some 20) (.ld true 2 (.t 4)) <|
    .op (some 21) (.ld true 2 (.t 5)) <|
    .op (some 22) (.bsl false 23 2 [(.t 19), (.t 20), (.t 21)]) <|
    .op (some 23) (.call false false 32 [(.t 22)]) <|
    .op (some 24) (.un .not (.t 23)) <|
    .done))
  (.cnd (.t 24)
  (.seq (.reg false [] (.op (some 25) (.bld [(.i .i64 0), (.i .i64 0)] []) <|
    .op none (.st false 2 (.t 6) (.t 25)) <|
    .done))
  .ret)
  .skip))
  (.seq (.reg true [] (.op (some 26) (.ld true 2 (.t 4)) <|
    .op (some 27) (.ld true 2 (.t 3)) <|
    .op (some 28) (.call true false 34 [(.t 26), (.t 27)]) <|
    .op (some 29) (.ld true 2 (.t 5)) <|
    .op (some 30) (.ld true 2 (.t 3)) <|
    .op (some 31) (.call true false 34 [(.t 29), (.t 30)]) <|
    .op (some 32) (.ld true 2 (.t 5)) <|
    .op (some 33) (.ld true 2 (.t 4)) <|
    .op (some 34) (.call true false 34 [(.t 32), (.t 33)]) <|
    .op (some 7) (.box 23 2 (.c (.ag [(.i .i64 0), (.i .i64 0)]))) <|
    .op (some 8) (.box 23 2 (.c (.ag [(.i .i64 0), (.i .i64 0)]))) <|
    .op (some 9) (.box 23 2 (.c (.ag [(.i .i64 0), (.i .i64 0)]))) <|
    .op none (.st true 2 (.t 7) (.t 28)) <|
    .op none (.st true 2 (.t 8) (.t 31)) <|
    .op none (.st true 2 (.t 9) (.t 34)) <|
    .done))
  (.seq (.reg false [] (.op (some 35) (.ld true 2 (.t 7)) <|
    .op (some 36) (.ld true 2 (.t 7)) <|
    .op (some 37) (.call false false 45 [(.t 35), (.t 36)]) <|
    .op (some 10) (.mov (.t 37)) <|
    .done))
  (.seq (.blk 0 (.seq (.reg false [] (.op (some 39) (.ld true 2 (.t 8)) <|
    .op (some 40) (.ld true 2 (.t 7)) <|
    .op (some 41) (.call false false 45 [(.t 39), (.t 40)]) <|
    .op (some 42) (.bin .leq (.t 41) (.c (.i .i64 0))) <|
    .op (some 38) (.mov (.t 42)) <|
    .done))
  (.cnd (.t 38)
  (.seq (.reg false [] (.op (some 43) (.ld true 2 (.t 8)) <|
    .op (some 44) (.ld true 2 (.t 8)) <|
    .op (some 45) (.call false false 45 [(.t 43), (.t 44)]) <|
    .op (some 46) (.call false false 46 [(.t 45)]) <|
    .op none (.st false 2 (.t 6) (.t 46)) <|
    .done))
  .ret)
  (.seq (.reg false [] (.op (some 48) (.ld true 2 (.t 8)) <|
    .op (some 49) (.ld true 2 (.t 7)) <|
    .op (some 50) (.call false false 45 [(.t 48), (.t 49)]) <|
    .op (some 51) (.mov (.t 10)) <|
    .op (some 52) (.bin .geq (.t 50) (.t 51)) <|
    .op (some 47) (.mov (.t 52)) <|
    .done))
  (.cnd (.t 47)
  (.seq (.reg false [] (.op (some 53) (.ld true 2 (.t 9)) <|
    .op (some 54) (.ld true 2 (.t 9)) <|
    .op (some 55) (.call false false 45 [(.t 53), (.t 54)]) <|
    .op (some 56) (.call false false 46 [(.t 55)]) <|
    .op none (.st false 2 (.t 6) (.t 56)) <|
    .done))
  .ret)
  .skip)))))
  (.seq (.reg false [] (.op (some 57) (.ld true 2 (.t 7)) <|
    .op (some 58) (.ld true 2 (.t 8)) <|
    .op (some 59) (.call false false 33 [(.t 57), (.t 58)]) <|
    .op (some 11) (.mov (.t 59)) <|
    .done))
  (.seq (.reg false [] (.op (some 60) (.mov (.t 11)) <|
    .op (some 61) (.mov (.t 11)) <|
    .op (some 62) (.un .neg (.t 61)) <|
    .op (some 63) (.mm true (.t 60) (.t 62)) <|
    .op (some 11) (.mov (.t 63)) <|
    .done))
  (.seq (.reg false [] (.op (some 65) (.mov (.t 11)) <|
    .op (some 66) (.cv .u64 (.t 65)) <|
    .op (some 67) (.mov (.t 11)) <|
    .op (some 68) (.cv .u64 (.t 67)) <|
    .op (some 69) (.call false false 47 [(.t 66), (.t 68)]) <|
    .op (some 64) (.mov (.t 69)) <|
    .op (some 70) (.ext (.t 64) 0) <|
    .op (some 71) (.ext (.t 64) 1) <|
    .op (some 12) (.mov (.t 70)) <|
    .op (some 13) (.mov (.t 71)) <|
    .done))
  (.seq (.reg false [] (.op (some 73) (.mov (.t 12)) <|
    .op (some 74) (.mov (.t 13)) <|
    .op (some 75) (.mov (.t 10)) <|
    .op (some 76) (.cv .u64 (.t 75)) <|
    .op (some 77) (.call false false 48 [(.t 73), (.t 74), (.t 76)]) <|
    .op (some 72) (.mov (.t 77)) <|
    .op (some 78) (.ext (.t 72) 0) <|
    .op (some 79) (.ext (.t 72) 1) <|
    .op (some 14) (.mov (.t 78)) <|
    .op (some 15) (.mov (.t 79)) <|
    .done))
  (.seq (.reg false [] (.op (some 80) (.mov (.t 10)) <|
    .op (some 81) (.mov (.t 15)) <|
    .op (some 82) (.cv .i64 (.t 81)) <|
    .op (some 83) (.call false false 49 [(.t 80), (.t 82)]) <|
    .op (some 16) (.mov (.t 83)) <|
    .done))
  (.seq (.seq (.reg false [] (.op (some 84) (.mov (.t 12)) <|
    .op (some 85) (.mov (.t 16)) <|
    .op (some 86) (.cv .u64 (.t 85)) <|
    .op (some 87) (.bin .geq (.t 84) (.t 86)) <|
    .done))
  (.cnd (.t 87)
  (.seq (.reg false [] (.op (some 88) (.mov (.t 14)) <|
    .op (some 89) (.cv .i64 (.t 88)) <|
    .op (some 90) (.call false false 46 [(.t 89)]) <|
    .op none (.st false 2 (.t 6) (.t 90)) <|
    .done))
  .ret)
  .skip))
  (.seq (.reg false [] (.op (some 92) (.mov (.t 12)) <|
    .op (some 93) (.mov (.t 13)) <|
    .op (some 94) (.mov (.t 16)) <|
    .op (some 95) (.cv .u64 (.t 94)) <|
    .op (some 96) (.call false false 48 [(.t 92), (.t 93), (.t 95)]) <|
    .op (some 91) (.mov (.t 96)) <|
    .op (some 97) (.ext (.t 91) 0) <|
    .op (some 98) (.ext (.t 91) 1) <|
    .op (some 17) (.mov (.t 97)) <|
    .op (some 18) (.mov (.t 98)) <|
    .done))
  (.seq (.seq (.reg false [] (.op (some 99) (.mov (.t 17)) <|
    .op (some 100) (.bin .gtr (.t 99) (.c (.i .u64 9223372036854775807))) <|
    .done))
  (.cnd (.t 100)
  (.seq (.reg false [] (.op (some 101) (.mov (.t 14)) <|
    .op (some 102) (.cv .i64 (.t 101)) <|
    .op (some 103) (.call false false 46 [(.t 102)]) <|
    .op none (.st false 2 (.t 6) (.t 103)) <|
    .done))
  .ret)
  .skip))
  (.seq (.reg false [] (.op (some 104) (.mov (.t 17)) <|
    .op (some 105) (.cv .i64 (.t 104)) <|
    .op (some 106) (.mov (.t 10)) <|
    .op (some 107) (.mov (.t 16)) <|
    .op (some 108) (.bin .quo (.t 106) (.t 107)) <|
    .op (some 109) (.bld [(.i .i64 0), (.i .i64 0)] [(0, 1, (.t 105)), (1, 1, (.t 108))]) <|
    .op none (.st false 2 (.t 6) (.t 109)) <|
    .done))
  .ret))))))))))))))
def fn24 : Fn := ⟨3, [.c 6 true 2], fn24b⟩
theorem rd24 : Read Try.prog 24 fn24 := Read.of Try.func24 (by decide +kernel) (by kernel_rfl) (by kernel_rfl)
/-- mapsheets/mapsheetsref08.Dist -/
def fn25b : C := (.seq (.reg false [] (.op (some 3) (.box 23 2 (.t 0)) <|
    .op (some 4) (.box 23 2 (.t 1)) <|
    .op (some 5) (.box 23 2 (.t 2)) <|
    .op (some 6) (.box 32 2 (.c (.ag [(.i .i64 0), (.i .i64 0)]))) <|
    .done))
  (.seq (.seq (.reg false [] (.op (some 15) (.ld true 2 (.t 3)) <|
    .op (some 16) (.ld true 2 (.t 4)) <|
    .op (some 17) (.ld true 2 (.t 5)) <|
    .op (some 18) (.bsl false 23 2 [(.t 15), (.t 16), (.t 17)]) <|
    .op (some 19) (.call false false 22 [(.t 18)]) <|
    .op (some 20) (.un .not (.t 19)) <|
    .done))
  (.cnd (.t 20)
  (.seq (.reg false [] (.op (some 21) (.bld [(.i .i64 0), (.i .i64 0)] []) <|
    .op none (.st false 2 (.t 6) (.t 21)) <|
    .done))
  .ret)
  .skip))
  (.seq (.reg true [] (.op (some 22) (.ld true 2 (.t 3)) <|
    .op (some 23) (.ld true 2 (.t 4)) <|
    .op (some 24) (.ld true 2 (.t 3)) <|
    .op (some 25) (.ld true 2 (.t 4)) <|
    .op (some 26) (.call true false 38 [(.t 22), (.t 23), (.t 24), (.t 25)]) <|
    .op (some 27) (.ld true 2 (.t 3)) <|
    .op (some 28) (.ld true 2 (.t 4)) <|
    .op (some 29) (.ld true 2 (.t 3)) <|
    .op (some 30) (.ld true 2 (.t 5)) <|
    .op (some 31) (.call true false 38 [(.t 27), (.t 28), (.t 29), (.t 30)]) <|
    .op (some 7) (.mov (.t 26)) <|
    .op (some 8) (.mov (.t 31)) <|
    .done))
  (.seq (.seq (.reg false [] (.op (some 32) (.mov (.t 8)) <|
    .op (some 33) (.bin .leq (.t 32) (.c (.i .i64 0))) <|
    .done))
  (.cnd (.t 33)
  (.seq (.reg false [] (.op (some 34) (.ld true 2 (.t 3)) <|
    .op (some 35) (.ld true 2 (.t 5)) <|
    .op (some 36) (.ld true 2 (.t 3)) <|
    .op (some 37) (.ld true 2 (.t 5)) <|
    .op (some 38) (.call false false 38 [(.t 34), (.t 35), (.t 36), (.t 37)]) <|
    .op (some 39) (.bld [(.i .i64 0), (.i .i64 0)] [(0, 1, (.t 38)), (1, 1, (.c (.i .i64 1)))]) <|
    .op none (.st false 2 (.t 6) (.t 39)) <|
    .done))
  .ret)
  .skip))
  (.seq (.seq (.reg false [] (.op (some 40) (.mov (.t 8)) <|
    .op (some 41) (.mov (.t 7)) <|
    .op (some 42) (.bin .geq (.t 40) (.t 41)) <|
    .done))
  (.cnd (.t 42)
  (.seq (.reg false [] (.op (some 43) (.ld true 2 (.t 4)) <|
    .op (some 44) (.ld true 2 (.t 5)) <|
    .op (some 45) (.ld true 2 (.t 4)) <|
    .op (some 46) (.ld true 2 (.t 5)) <|
    .op (some 47) (.call false false 38 [(.t 43), (.t 44), (.t 45), (.t 46)]) <|
    .op (some 48) (.bld [(.i .i64 0), (.i .i64 0)] [(0, 1, (.t 47)), (1, 1, (.c (.i .i64 1)))]) <|
    .op none (.st false 2 (.t 6) (.t 48)) <|
    .done))
  .ret)
  .skip))
  (.seq (.reg false [] (.op (some 49) (.ld true 2 (.t 3)) <|
    .op (some 50) (.ld true 2 (.t 4)) <|
    .op (some 51) (.ld true 2 (.t 3)) <|
    .op (some 52) (.ld true 2 (.t 5)) <|
    .op (some 53) (.call false false 35 [(.t 49), (.t 50), (.t 51), (.t 52)]) <|
    .op (some 9) (.mov (.t 53)) <|
    .done))
  (.seq (.seq (.reg false [] (.op (some 54) (.mov (.t 9)) <|
    .op (some 55) (.bin .lss (.t 54) (.c (.i .i64 0))) <|
    .done))
  (.cnd (.t 55)
  (.reg false [] (.op (some 56) (.mov (.t 9)) <|
    .op (some 57) (.un .neg (.t 56)) <|
    .op (some 9) (.mov (.t 57)) <|
    .done))
  .skip))
  (.seq (.seq (.reg false [] (.op (some 58) (.mov (.t 9)) <|
    .op (some 59) (.bin .eql (.t 58) (.c (.i .i64 0))) <|
    .done))
  (.cnd (.t 59)
  (.seq (.reg false [] (.op (some 60) (.bld [(.i .i64 0), (.i .i64 0)] [(0, 1, (.c (.i .i64 0))), (1, 1, (.c (.i .i64 1)))]) <|
    .op none (.st false 2 (.t 6) (.t 60)) <|
    .done))
  .ret)
  .skip))
  (.seq (.reg false [] (.op (some 61) (.mov (.t 9)) <|
    .op (some 62) (.mov (.t 7)) <|
    .op (some 63) (.call false false 50 [(.t 61), (.t 62)]) <|
    .op (some 10) (.mov (.t 63)) <|
    .done))
  (.seq (.reg false [] (.op (some 64) (.mov (.t 9)) <|
    .op (some 65) (.mov (.t 7)) <|
    .op (some 66) (.mov (.t 10)) <|
    .op (some 67) (.bin .quo (.t 65) (.t 66)) <|
    .op (some 68) (.call false false 50 [(.t 64), (.t 67)]) <|
    .op (some 11) (.mov (.t 68)) <|
    .done))
  (.seq (.reg true [] (.op (some 69) (.mov (.t 9)) <|
    .op (some 70) (.mov (.t 10)) <|
    .op (some 71) (.bin .quo (.t 69) (.t 70)) <|
    .op (some 72) (.mov (.t 9)) <|
    .op (some 73) (.mov (.t 11)) <|
    .op (some 74) (.bin .quo (.t 72) (.t 73)) <|
    .op (some 75) (.mov (.t 7)) <|
    .op (some 76) (.mov (.t 10)) <|
    .op (some 77) (.bin .quo (.t 75) (.t 76)) <|
    .op (some 78) (.mov (.t 11)) <|
    .op (some 79) (.bin .quo (.t 77) (.t 78)) <|
    .op (some 12) (.mov (.t 71)) <|
    .op (some 13) (.mov (.t 74)) <|
    .op (some 14) (.mov (.t 79)) <|
    .done))
  (.seq (.seq (.reg false [] (.op (some 80) (.mov (.t 12)) <|
    .op (some 81) (.mov (.t 13)) <|
    .op (some 82) (.bin .quo (.c (.i .i64 9223372036854775807)) (.t 81)) <|
    .op (some 83) (.bin .gtr (.t 80) (.t 82)) <|
    .done))
  (.cnd (.t 83)
  (.seq (.reg false [] (.op (some 84) (.mov (.t 9)) <|
    .op (some 85) (.mov (.t 7)) <|
    .op (some 86) (.call false false 51 [(.t 84), (.t 85)]) <|
    .op (some 87) (.bld [(.i .i64 0), (.i .i64 0)] [(0, 1, (.t 86)), (1, 1, (.c (.i .i64 1)))]) <|
    .op none (.st false 2 (.t 6) (.t 87)) <|
    .done))
  .ret)
  .skip))
  (.seq (.reg false [] (.op (some 88) (.mov (.t 12)) <|
    .op (some 89) (.mov (.t 13)) <|
    .op (some 90) (.bin .mul (.t 88) (.t 89)) <|
    .op (some 91) (.mov (.t 14)) <|
    .op (some 92) (.bld [(.i .i64 0), (.i .i64 0)] [(0, 1, (.t 90)), (1, 1, (.t 91))]) <|
    .op none (.st false 2 (.t 6) (.t 92)) <|
    .done))
  .ret)))))))))))))
def fn25 : Fn := ⟨3, [.c 6 true 2], fn25b⟩
theorem rd25 : Read Try.prog 25 fn25 := Read.of Try.func25 (by decide +kernel) (by kernel_rfl) (by kernel_rfl)
/-- mapsheets/geom.Overlap -/
def fn26b : C := (.seq (.reg false [] (.op (some 2) (.box 35 4 (.t 0)) <|
    .op (some 3) (.box 35 4 (.t 1)) <|
    .op (some 4) (.mov (.c (.b false))) <|
    .done))
  (.seq (.reg false [] (.op (some 5) (.fa 0 (.t 2)) <|
    .op (some 6) (.ld false 1 (.t 5)) <|
    .op (some 7) (.fa 0 (.t 3)) <|
    .op (some 8) (.ld false 1 (.t 7)) <|
    .op (some 9) (.mm true (.t 6) (.t 8)) <|
    .op (some 10) (.fa 2 (.t 2)) <|
    .op (some 11) (.ld false 1 (.t 10)) <|
    .op (some 12) (.fa 2 (.t 3)) <|
    .op (some 13) (.ld false 1 (.t 12)) <|
    .op (some 14) (.mm false (.t 11) (.t 13)) <|
    .op (some 15) (.bin .lss (.t 9) (.t 14)) <|
    .op (some 16) (.mov (.t 15)) <|
    .sc 16 true (.op (some 17) (.fa 1 (.t 2)) <|
    .op (some 18) (.ld false 1 (.t 17)) <|
    .op (some 19) (.fa 1 (.t 3)) <|
    .op (some 20) (.ld false 1 (.t 19)) <|
    .op (some 21) (.mm true (.t 18) (.t 20)) <|
    .op (some 22) (.fa 3 (.t 2)) <|
    .op (some 23) (.ld false 1 (.t 22)) <|
    .op (some 24) (.fa 3 (.t 3)) <|
    .op (some 25) (.ld false 1 (.t 24)) <|
    .op (some 26) (.mm false (.t 23) (.t 25)) <|
    .op (some 27) (.bin .lss (.t 21) (.t 26)) <|
    .done) 28 (.t 27) <|
    .op (some 4) (.mov (.t 28)) <|
    .done))
  .ret))
def fn26 : Fn := ⟨2, [.t 4], fn26b⟩
theorem rd26 : Read Try.prog 26 fn26 := Read.of Try.func26 (by decide +kernel) (by kernel_rfl) (by kernel_rfl)
/-- mapsheets/geom.In -/
def fn27b : C := (.seq (.reg false [] (.op (some 2) (.box 35 4 (.t 0)) <|
    .op (some 3) (.box 23 2 (.t 1)) <|
    .op (some 4) (.mov (.c (.b false))) <|
    .done))
  (.seq (.reg false [] (.op (some 5) (.fa 0 (.t 2)) <|
    .op (some 6) (.ld false 1 (.t 5)) <|
    .op (some 7) (.fa 0 (.t 3)) <|
    .op (some 8) (.ld false 1 (.t 7)) <|
    .op (some 9) (.bin .leq (.t 6) (.t 8)) <|
    .op (some 10) (.mov (.t 9)) <|
    .sc 10 true (.op (some 11) (.fa 0 (.t 3)) <|
    .op (some 12) (.ld false 1 (.t 11)) <|
    .op (some 13) (.fa 2 (.t 2)) <|
    .op (some 14) (.ld false 1 (.t 13)) <|
    .op (some 15) (.bin .leq (.t 12) (.t 14)) <|
    .done) 16 (.t 15) <|
    .op (some 17) (.mov (.t 16)) <|
    .sc 17 true (.op (some 18) (.fa 1 (.t 2)) <|
    .op (some 19) (.ld false 1 (.t 18)) <|
    .op (some 20) (.fa 1 (.t 3)) <|
    .op (some 21) (.ld false 1 (.t 20)) <|
    .op (some 22) (.bin .leq (.t 19) (.t 21)) <|
    .done) 23 (.t 22) <|
    .op (some 24) (.mov (.t 23)) <|
    .sc 24 true (.op (some 25) (.fa 1 (.t 3)) <|
    .op (some 26) (.ld false 1 (.t 25)) <|
    .op (some 27) (.fa 3 (.t 2)) <|
    .op (some 28) (.ld false 1 (.t 27)) <|
    .op (some 29) (.bin .leq (.t 26) (.t 28)) <|
    .done) 30 (.t 29) <|
    .op (some 4) (.mov (.t 30)) <|
    .done))
  .ret))
def fn27 : Fn := ⟨2, [.t 4], fn27b⟩
theorem rd27 : Read Try.prog 27 fn27 := Read.of Try.func27 (by decide +kernel) (by kernel_rfl) (by kernel_rfl)
/-- mapsheets/mapsheetsref08.In -/
def fn28b : C := (.seq (.reg false [] (.op (some 2) (.box 35 4 (.t 0)) <|
    .op (some 3) (.box 23 2 (.t 1)) <|
    .op (some 4) (.mov (.c (.b false))) <|
    .done))
  (.seq (.reg false [] (.op (some 5) (.fa 0 (.t 3)) <|
    .op (some 6) (.ld false 1 (.t 5)) <|
    .op (some 7) (.fa 0 (.t 2)) <|
    .op (some 8) (.ld false 1 (.t 7)) <|
    .op (some 9) (.bin .geq (.t 6) (.t 8)) <|
    .op (some 10) (.mov (.t 9)) <|
    .sc 10 true (.op (some 11) (.fa 0 (.t 3)) <|
    .op (some 12) (.ld false 1 (.t 11)) <|
    .op (some 13) (.fa 2 (.t 2)) <|
    .op (some 14) (.ld false 1 (.t 13)) <|
    .op (some 15) (.bin .leq (.t 12) (.t 14)) <|
    .done) 16 (.t 15) <|
    .op (some 17) (.mov (.t 16)) <|
    .sc 17 true (.op (some 18) (.fa 1 (.t 3)) <|
    .op (some 19) (.ld false 1 (.t 18)) <|
    .op (some 20) (.fa 1 (.t 2)) <|
    .op (some 21) (.ld false 1 (.t 20)) <|
    .op (some 22) (.bin .geq (.t 19) (.t 21)) <|
    .done) 23 (.t 22) <|
    .op (some 24) (.mov (.t 23)) <|
    .sc 24 true (.op (some 25) (.fa 1 (.t 3)) <|
    .op (some 26) (.ld false 1 (.t 25)) <|
    .op (some 27) (.fa 3 (.t 2)) <|
    .op (some 28) (.ld false 1 (.t 27)) <|
    .op (some 29) (.bin .leq (.t 26) (.t 28)) <|
    .done) 30 (.t 29) <|
    .op (some 4) (.mov (.t 30)) <|
    .done))
  .ret))
def fn28 : Fn := ⟨2, [.t 4], fn28b⟩
theorem rd28 : Read Try.prog 28 fn28 := Read.of Try.func28 (by decide +kernel) (by kernel_rfl) (by kernel_rfl)
/-- mapsheets/mapsheetsref08.Overlap -/
def fn29b : C := (.seq (.reg false [] (.op (some 2) (.box 35 4 (.t 0)) <|
    .op (some 3) (.box 35 4 (.t 1)) <|
    .op (some 4) (.mov (.c (.b false))) <|
    .done))
  (.seq (.reg false [] (.op (some 5) (.fa 0 (.t 2)) <|
    .op (some 6) (.ld false 1 (.t 5)) <|
    .op (some 7) (.fa 2 (.t 2)) <|
    .op (some 8) (.ld false 1 (.t 7)) <|
    .op (some 9) (.bin .lss (.t 6) (.t 8)) <|
    .op (some 10) (.mov (.t 9)) <|
    .sc 10 true (.op (some 11) (.fa 0 (.t 3)) <|
    .op (some 12) (.ld false 1 (.t 11)) <|
    .op (some 13) (.fa 2 (.t 3)) <|
    .op (some 14) (.ld false 1 (.t 13)) <|
    .op (some 15) (.bin .lss (.t 12) (.t 14)) <|
    .done) 16 (.t 15) <|
    .op (some 17) (.mov (.t 16)) <|
    .sc 17 true (.op (some 18) (.fa 0 (.t 2)) <|
    .op (some 19) (.ld false 1 (.t 18)) <|
    .op (some 20) (.fa 2 (.t 3)) <|
    .op (some 21) (.ld false 1 (.t 20)) <|
    .op (some 22) (.bin .lss (.t 19) (.t 21)) <|
    .done) 23 (.t 22) <|
    .op (some 24) (.mov (.t 23)) <|
    .sc 24 true (.op (some 25) (.fa 0 (.t 3)) <|
    .op (some 26) (.ld false 1 (.t 25)) <|
    .op (some 27) (.fa 2 (.t 2)) <|
    .op (some 28) (.ld false 1 (.t 27)) <|
    .op (some 29) (.bin .lss (.t 26) (.t 28)) <|
    .done) 30 (.t 29) <|
    .op (some 31) (.mov (.t 30)) <|
    .sc 31 true (.op (some 32) (.fa 1 (.t 2)) <|
    .op (some 33) (.ld false 1 (.t 32)) <|
    .op (some 34) (.fa 3 (.t 2)) <|
    .op (some 35) (.ld false 1 (.t 34)) <|
    .op (some 36) (.bin .lss (.t 33) (.t 35)) <|
    .done) 37 (.t 36) <|
    .op (some 38) (.mov (.t 37)) <|
    .sc 38 true (.op (some 39) (.fa 1 (.t 3)) <|
    .op (some 40) (.ld false 1 (.t 39)) <|
    .op (some 41) (.fa 3 (.t 3)) <|
    .op (some 42) (.ld false 1 (.t 41)) <|
    .op (some 43) (.bin .lss (.t 40) (.t 42)) <|
    .done) 44 (.t 43) <|
    .op (some 45) (.mov (.t 44)) <|
    .sc 45 true (.op (some 46) (.fa 1 (.t 2)) <|
    .op (some 47) (.ld false 1 (.t 46)) <|
    .op (some 48) (.fa 3 (.t 3)) <|
    .op (some 49) (.ld false 1 (.t 48)) <|
    .op (some 50) (.bin .lss (.t 47) (.t 49)) <|
    .done) 51 (.t 50) <|
    .op (some 52) (.mov (.t 51)) <|
    .sc 52 true (.op (some 53) (.fa 1 (.t 3)) <|
    .op (some 54) (.ld false 1 (.t 53)) <|
    .op (some 55) (.fa 3 (.t 2)) <|
    .op (some 56) (.ld false 1 (.t 55)) <|
    .op (some 57) (.bin .lss (.t 54) (.t 56)) <|
    .done) 58 (.t 57) <|
    .op (some 4) (.mov (.t 58)) <|
    .done))
  .ret))
def fn29 : Fn := ⟨2, [.t 4], fn29b⟩
theorem rd29 : Read Try.prog 29 fn29 := Read.of Try.func29 (by decide +kernel) (by kernel_rfl) (by kernel_rfl)
/-- mapsheets/mapsheetslaw08.moved -/
def fn30b : C := (.seq (.reg false [] (.op (some 2) (.box 23 2 (.t 0)) <|
    .op (some 3) (.box 23 2 (.t 1)) <|
    .op (some 4) (.box 23 2 (.c (.ag [(.i .i64 0), (.i .i64 0)]))) <|
    .done))
  (.seq (.reg false [] (.op (some 5) (.fa 0 (.t 2)) <|
    .op (some 6) (.ld false 1 (.t 5)) <|
    .op (some 7) (.fa 0 (.t 3)) <|
    .op (some 8) (.ld false 1 (.t 7)) <|
    .op (some 9) (.bin .add (.t 6) (.t 8)) <|
    .op (some 10) (.fa 1 (.t 2)) <|
    .op (some 11) (.ld false 1 (.t 10)) <|
    .op (some 12) (.fa 1 (.t 3)) <|
    .op (some 13) (.ld false 1 (.t 12)) <|
    .op (some 14) (.bin .add (.t 11) (.t 13)) <|
    .op (some 15) (.call false false 39 [(.t 9), (.t 14)]) <|
    .op none (.st false 2 (.t 4) (.t 15)) <|
    .done))
  .ret))
def fn30 : Fn := ⟨2, [.c 4 true 2], fn30b⟩
theorem rd30 : Read Try.prog 30 fn30 := Read.of Try.func30 (by decide +kernel) (by kernel_rfl) (by kernel_rfl)
/-- mapsheets/mapsheetslaw08.turned -/
def fn31b : C := (.seq (.reg false [] (.op (some 1) (.box 23 2 (.t 0)) <|
    .op (some 2) (.box 23 2 (.c (.ag [(.i .i64 0), (.i .i64 0)]))) <|
    .done))
  (.seq (.reg false [] (.op (some 3) (.fa 1 (.t 1)) <|
    .op (some 4) (.ld false 1 (.t 3)) <|
    .op (some 5) (.un .neg (.t 4)) <|
    .op (some 6) (.fa 0 (.t 1)) <|
    .op (some 7) (.ld false 1 (.t 6)) <|
    .op (some 8) (.call false false 39 [(.t 5), (.t 7)]) <|
    .op none (.st false 2 (.t 2) (.t 8)) <|
    .done))
  .ret))
def fn31 : Fn := ⟨1, [.c 2 true 2], fn31b⟩
theorem rd31 : Read Try.prog 31 fn31 := Read.of Try.func31 (by decide +kernel) (by kernel_rfl) (by kernel_rfl)
def fn32k0 : List Nat := [5, 6, 7]
def fn32l0 : C := (.seq (.reg false [] (.op (some 8) (.bin .lss (.t 7) (.t 6)) <|
    .done))
  (.seq (.cnd (.t 8)
  .skip
  (.exit 0))
  (.seq (.blk 1 (.seq (.reg false [] (.op (some 9) (.ia 2 (.t 5) (.t 7)) <|
    .op (some 10) (.ld true 2 (.t 9)) <|
    .op (some 4) (.box 23 2 (.c (.ag [(.i .i64 0), (.i .i64 0)]))) <|
    .op none (.st false 2 (.t 4) (.t 10)) <|
    .done))
  (.seq (.reg false [] (.op (some 11) (.fa 0 (.t 4)) <|
    .op (some 12) (.ld false 1 (.t 11)) <|
    .op (some 13) (.bin .lss (.t 12) (.c (.i .i64 (-2097152)))) <|
    .op (some 14) (.mov (.t 13)) <|
    .sc 14 false (.op (some 15) (.fa 0 (.t 4)) <|
    .op (some 16) (.ld false 1 (.t 15)) <|
    .op (some 17) (.bin .gtr (.t 16) (.c (.i .i64 2097152))) <|
    .done) 18 (.t 17) <|
    .op (some 19) (.mov (.t 18)) <|
    .sc 19 false (.op (some 20) (.fa 1 (.t 4)) <|
    .op (some 21) (.ld false 1 (.t 20)) <|
    .op (some 22) (.bin .lss (.t 21) (.c (.i .i64 (-2097152)))) <|
    .done) 23 (.t 22) <|
    .op (some 24) (.mov (.t 23)) <|
    .sc 24 false (.op (some 25) (.fa 1 (.t 4)) <|
    .op (some 26) (.ld false 1 (.t 25)) <|
    .op (some 27) (.bin .gtr (.t 26) (.c (.i .i64 2097152))) <|
    .done) 28 (.t 27) <|
    .done))
  (.cnd (.t 28)
  (.seq (.reg false [] (.op (some 2) (.mov (.c (.b false))) <|
    .done))
  .ret)
  .skip))))
  (.reg false [] (.op (some 29) (.bin .add (.t 7) (.c (.i .i64 1))) <|
    .op (some 7) (.mov (.t 29)) <|
    .done)))))
/-- mapsheets/geom.near -/
def fn32b : C := (.seq (.reg false [] (.op (some 2) (.mov (.c (.b false))) <|
    .done))
  (.seq (.seq (.reg false [] (.op (some 5) (.mov (.t 0)) <|
    .op (some 6) (.len (.t 5)) <|
    .op (some 7) (.mov (.c (.i .i64 0))) <|
    .done))
  (.blk 0 (.loop fn32k0 fn32l0)))
  (.seq (.reg false [] (.op (some 2) (.mov (.c (.b true))) <|
    .done))
  .ret)))
def fn32 : Fn := ⟨1, [.t 2], fn32b⟩
theorem rd32 : Read Try.prog 32 fn32 := Read.of Try.func32 (by decide +kernel) (by kernel_rfl) (by kernel_rfl)
/-- mapsheets/geom.cross -/
def fn33b : C := (.seq (.reg false [] (.op (some 2) (.box 23 2 (.t 0)) <|
    .op (some 3) (.box 23 2 (.t 1)) <|
    .op (some 4) (.mov (.c (.i .i64 0))) <|
    .done))
  (.seq (.reg false [] (.op (some 5) (.fa 0 (.t 2)) <|
    .op (some 6) (.ld false 1 (.t 5)) <|
    .op (some 7) (.fa 1 (.t 3)) <|
    .op (some 8) (.ld false 1 (.t 7)) <|
    .op (some 9) (.bin .mul (.t 6) (.t 8)) <|
    .op (some 10) (.fa 1 (.t 2)) <|
    .op (some 11) (.ld false 1 (.t 10)) <|
    .op (some 12) (.fa 0 (.t 3)) <|
    .op (some 13) (.ld false 1 (.t 12)) <|
    .op (some 14) (.bin .mul (.t 11) (.t 13)) <|
    .op (some 15) (.bin .sub (.t 9) (.t 14)) <|
    .op (some 4) (.mov (.t 15)) <|
    .done))
  .ret))
def fn33 : Fn := ⟨2, [.t 4], fn33b⟩
theorem rd33 : Read Try.prog 33 fn33 := Read.of Try.func33 (by decide +kernel) (by kernel_rfl) (by kernel_rfl)
/-- mapsheets/geom.minus -/
def fn34b : C := (.seq (.reg false [] (.op (some 2) (.box 23 2 (.t 0)) <|
    .op (some 3) (.box 23 2 (.t 1)) <|
    .op (some 4) (.box 23 2 (.c (.ag [(.i .i64 0), (.i .i64 0)]))) <|
    .done))
  (.seq (.reg false [] (.op (some 5) (.fa 0 (.t 2)) <|
    .op (some 6) (.ld false 1 (.t 5)) <|
    .op (some 7) (.fa 0 (.t 3)) <|
    .op (some 8) (.ld false 1 (.t 7)) <|
    .op (some 9) (.bin .sub (.t 6) (.t 8)) <|
    .op (some 10) (.fa 1 (.t 2)) <|
    .op (some 11) (.ld false 1 (.t 10)) <|
    .op (some 12) (.fa 1 (.t 3)) <|
    .op (some 13) (.ld false 1 (.t 12)) <|
    .op (some 14) (.bin .sub (.t 11) (.t 13)) <|
    .op (some 15) (.bld [(.i .i64 0), (.i .i64 0)] [(0, 1, (.t 9)), (1, 1, (.t 14))]) <|
    .op none (.st false 2 (.t 4) (.t 15)) <|
    .done))
  .ret))
def fn34 : Fn := ⟨2, [.c 4 true 2], fn34b⟩
theorem rd34 : Read Try.prog 34 fn34 := Read.of Try.func34 (by decide +kernel) (by kernel_rfl) (by kernel_rfl)
/-- mapsheets/mapsheetsref08.cross -/
def fn35b : C := (.seq (.reg false [] (.op (some 4) (.box 23 2 (.t 0)) <|
    .op (some 5) (.box 23 2 (.t 1)) <|
    .op (some 6) (.box 23 2 (.t 2)) <|
    .op (some 7) (.box 23 2 (.t 3)) <|
    .op (some 8) (.mov (.c (.i .i64 0))) <|
    .done))
  (.seq (.reg false [] (.op (some 9) (.fa 0 (.t 5)) <|
    .op (some 10) (.ld false 1 (.t 9)) <|
    .op (some 11) (.fa 0 (.t 4)) <|
    .op (some 12) (.ld false 1 (.t 11)) <|
    .op (some 13) (.bin .sub (.t 10) (.t 12)) <|
    .op (some 14) (.fa 1 (.t 7)) <|
    .op (some 15) (.ld false 1 (.t 14)) <|
    .op (some 16) (.fa 1 (.t 6)) <|
    .op (some 17) (.ld false 1 (.t 16)) <|
    .op (some 18) (.bin .sub (.t 15) (.t 17)) <|
    .op (some 19) (.bin .mul (.t 13) (.t 18)) <|
    .op (some 20) (.fa 1 (.t 5)) <|
    .op (some 21) (.ld false 1 (.t 20)) <|
    .op (some 22) (.fa 1 (.t 4)) <|
    .op (some 23) (.ld false 1 (.t 22)) <|
    .op (some 24) (.bin .sub (.t 21) (.t 23)) <|
    .op (some 25) (.fa 0 (.t 7)) <|
    .op (some 26) (.ld false 1 (.t 25)) <|
    .op (some 27) (.fa 0 (.t 6)) <|
    .op (some 28) (.ld false 1 (.t 27)) <|
    .op (some 29) (.bin .sub (.t 26) (.t 28)) <|
    .op (some 30) (.bin .mul (.t 24) (.t 29)) <|
    .op (some 31) (.bin .sub (.t 19) (.t 30)) <|
    .op (some 8) (.mov (.t 31)) <|
    .done))
  .ret))
def fn35 : Fn := ⟨4, [.t 8], fn35b⟩
theorem rd35 : Read Try.prog 35 fn35 := Read.of Try.func35 (by decide +kernel) (by kernel_rfl) (by kernel_rfl)
/-- cmp.Compare[int] -/
def fn36b : C := (.seq (.reg false [] (.op (some 4) (.mov (.c (.i .i64 0))) <|
    .done))
  (.seq (.reg false [] (.op (some 7) (.mov (.t 0)) <|
    .op (some 8) (.call false false 52 [(.t 7)]) <|
    .op (some 5) (.mov (.t 8)) <|
    .done))
  (.seq (.reg false [] (.op (some 9) (.mov (.t 1)) <|
    .op (some 10) (.call false false 52 [(.t 9)]) <|
    .op (some 6) (.mov (.t 10)) <|
    .done))
  (.seq (.seq (.reg false [] (.op (some 11) (.mov (.t 5)) <|
    .done))
  (.cnd (.t 11)
  (.seq (.seq (.reg false [] (.op (some 12) (.mov (.t 6)) <|
    .done))
  (.cnd (.t 12)
  (.seq (.reg false [] (.op (some 4) (.mov (.c (.i .i64 0))) <|
    .done))
  .ret)
  .skip))
  (.seq (.reg false [] (.op (some 4) (.mov (.c (.i .i64 (-1)))) <|
    .done))
  .ret))
  .skip))
  (.seq (.seq (.reg false [] (.op (some 13) (.mov (.t 6)) <|
    .done))
  (.cnd (.t 13)
  (.seq (.reg false [] (.op (some 4) (.mov (.c (.i .i64 1))) <|
    .done))
  .ret)
  .skip))
  (.seq (.seq (.reg false [] (.op (some 14) (.mov (.t 0)) <|
    .op (some 15) (.mov (.t 1)) <|
    .op (some 16) (.bin .lss (.t 14) (.t 15)) <|
    .done))
  (.cnd (.t 16)
  (.seq (.reg false [] (.op (some 4) (.mov (.c (.i .i64 (-1)))) <|
    .done))
  .ret)
  .skip))
  (.seq (.seq (.reg false [] (.op (some 17) (.mov (.t 0)) <|
    .op (some 18) (.mov (.t 1)) <|
    .op (some 19) (.bin .gtr (.t 17) (.t 18)) <|
    .done))
  (.cnd (.t 19)
  (.seq (.reg false [] (.op (some 4) (.mov (.c (.i .i64 1))) <|
    .done))
  .ret)
  .skip))
  (.seq (.reg false [] (.op (some 4) (.mov (.c (.i .i64 0))) <|
    .done))
  .ret))))))))
def fn36 : Fn := ⟨2, [.t 4], fn36b⟩
theorem rd36 : Read Try.prog 36 fn36 := Read.of Try.func36 (by decide +kernel) (by kernel_rfl) (by kernel_rfl)
/-- mapsheets/geom.on -/
def fn37b : C := (.seq (.reg false [] (.op (some 3) (.box 23 2 (.t 0)) <|
    .op (some 4) (.box 23 2 (.t 1)) <|
    .op (some 5) (.box 23 2 (.t 2)) <|
    .op (some 6) (.mov (.c (.b false))) <|
    .done))
  (.seq (.reg true [] (.op (some 7) (.ld true 2 (.t 4)) <|
    .op (some 8) (.ld true 2 (.t 3)) <|
    .op (some 9) (.call true false 34 [(.t 7), (.t 8)]) <|
    .op (some 10) (.ld true 2 (.t 5)) <|
    .op (some 11) (.ld true 2 (.t 3)) <|
    .op (some 12) (.call true false 34 [(.t 10), (.t 11)]) <|
    .op (some 13) (.call true false 33 [(.t 9), (.t 12)]) <|
    .op (some 14) (.bin .eql (.t 13) (.c (.i .i64 0))) <|
    .op (some 15) (.mov (.t 14)) <|
    .sc 15 true (.op (some 16) (.ld true 2 (.t 3)) <|
    .op (some 17) (.ld true 2 (.t 5)) <|
    .op (some 18) (.call true false 34 [(.t 16), (.t 17)]) <|
    .op (some 19) (.ld true 2 (.t 4)) <|
    .op (some 20) (.ld true 2 (.t 5)) <|
    .op (some 21) (.call true false 34 [(.t 19), (.t 20)]) <|
    .op (some 22) (.call true false 45 [(.t 18), (.t 21)]) <|
    .op (some 23) (.bin .leq (.t 22) (.c (.i .i64 0))) <|
    .done) 24 (.t 23) <|
    .op (some 6) (.mov (.t 24)) <|
    .done))
  .ret))
def fn37 : Fn := ⟨3, [.t 6], fn37b⟩
theorem rd37 : Read Try.prog 37 fn37 := Read.of Try.func37 (by decide +kernel) (by kernel_rfl) (by kernel_rfl)
/-- mapsheets/mapsheetsref08.dot -/
def fn38b : C := (.seq (.reg false [] (.op (some 4) (.box 23 2 (.t 0)) <|
    .op (some 5) (.box 23 2 (.t 1)) <|
    .op (some 6) (.box 23 2 (.t 2)) <|
    .op (some 7) (.box 23 2 (.t 3)) <|
    .op (some 8) (.mov (.c (.i .i64 0))) <|
    .done))
  (.seq (.reg false [] (.op (some 9) (.fa 0 (.t 5)) <|
    .op (some 10) (.ld false 1 (.t 9)) <|
    .op (some 11) (.fa 0 (.t 4)) <|
    .op (some 12) (.ld false 1 (.t 11)) <|
    .op (some 13) (.bin .sub (.t 10) (.t 12)) <|
    .op (some 14) (.fa 0 (.t 7)) <|
    .op (some 15) (.ld false 1 (.t 14)) <|
    .op (some 16) (.fa 0 (.t 6)) <|
    .op (some 17) (.ld false 1 (.t 16)) <|
    .op (some 18) (.bin .sub (.t 15) (.t 17)) <|
    .op (some 19) (.bin .mul (.t 13) (.t 18)) <|
    .op (some 20) (.fa 1 (.t 5)) <|
    .op (some 21) (.ld false 1 (.t 20)) <|
    .op (some 22) (.fa 1 (.t 4)) <|
    .op (some 23) (.ld false 1 (.t 22)) <|
    .op (some 24) (.bin .sub (.t 21) (.t 23)) <|
    .op (some 25) (.fa 1 (.t 7)) <|
    .op (some 26) (.ld false 1 (.t 25)) <|
    .op (some 27) (.fa 1 (.t 6)) <|
    .op (some 28) (.ld false 1 (.t 27)) <|
    .op (some 29) (.bin .sub (.t 26) (.t 28)) <|
    .op (some 30) (.bin .mul (.t 24) (.t 29)) <|
    .op (some 31) (.bin .add (.t 19) (.t 30)) <|
    .op (some 8) (.mov (.t 31)) <|
    .done))
  .ret))
def fn38 : Fn := ⟨4, [.t 8], fn38b⟩
theorem rd38 : Read Try.prog 38 fn38 := Read.of Try.func38 (by decide +kernel) (by kernel_rfl) (by kernel_rfl)
/-- mapsheets/mapsheetslaw08.pt -/
def fn39b : C := (.seq (.reg false [] (.op (some 4) (.box 23 2 (.c (.ag [(.i .i64 0), (.i .i64 0)]))) <|
    .done))
  (.seq (.reg false [] (.op (some 5) (.mov (.t 0)) <|
    .op (some 6) (.mov (.t 1)) <|
    .op (some 7) (.bld [(.i .i64 0), (.i .i64 0)] [(0, 1, (.t 5)), (1, 1, (.t 6))]) <|
    .op none (.st false 2 (.t 4) (.t 7)) <|
    .done))
  .ret))
def fn39 : Fn := ⟨2, [.c 4 true 2], fn39b⟩
theorem rd39 : Read Try.prog 39 fn39 := Read.of Try.func39 (by decide +kernel) (by kernel_rfl) (by kernel_rfl)
/-- mapsheets/mapsheetsref08.shared -/
def fn40b : C := (.seq (.reg false [] (.op (some 4) (.box 23 2 (.t 0)) <|
    .op (some 5) (.box 23 2 (.t 1)) <|
    .op (some 6) (.box 23 2 (.t 2)) <|
    .op (some 7) (.box 23 2 (.t 3)) <|
    .op (some 8) (.mov (.c (.i .i64 0))) <|
    .done))
  (.seq (.seq (.reg false [] (.op (some 9) (.ld true 2 (.t 5)) <|
    .op (some 10) (.ld true 2 (.t 4)) <|
    .op (some 11) (.call false false 53 [(.t 9), (.t 10)]) <|
    .done))
  (.cnd (.t 11)
  (.reg false [] (.op (some 12) (.ld true 2 (.t 5)) <|
    .op (some 13) (.ld true 2 (.t 4)) <|
    .op none (.st false 2 (.t 4) (.t 12)) <|
    .op none (.st false 2 (.t 5) (.t 13)) <|
    .done))
  .skip))
  (.seq (.seq (.reg false [] (.op (some 14) (.ld true 2 (.t 7)) <|
    .op (some 15) (.ld true 2 (.t 6)) <|
    .op (some 16) (.call false false 53 [(.t 14), (.t 15)]) <|
    .done))
  (.cnd (.t 16)
  (.reg false [] (.op (some 17) (.ld true 2 (.t 7)) <|
    .op (some 18) (.ld true 2 (.t 6)) <|
    .op none (.st false 2 (.t 6) (.t 17)) <|
    .op none (.st false 2 (.t 7) (.t 18)) <|
    .done))
  .skip))
  (.seq (.seq (.reg false [] (.op (some 19) (.ld true 2 (.t 4)) <|
    .op (some 20) (.ld true 2 (.t 6)) <|
    .op (some 21) (.call false false 53 [(.t 19), (.t 20)]) <|
    .done))
  (.cnd (.t 21)
  (.reg false [] (.op (some 22) (.ld true 2 (.t 6)) <|
    .op none (.st false 2 (.t 4) (.t 22)) <|
    .done))
  .skip))
  (.seq (.seq (.reg false [] (.op (some 23) (.ld true 2 (.t 7)) <|
    .op (some 24) (.ld true 2 (.t 5)) <|
    .op (some 25) (.call false false 53 [(.t 23), (.t 24)]) <|
    .done))
  (.cnd (.t 25)
  (.reg false [] (.op (some 26) (.ld true 2 (.t 7)) <|
    .op none (.st false 2 (.t 5) (.t 26)) <|
    .done))
  .skip))
  (.seq (.seq (.reg false [] (.op (some 27) (.ld true 2 (.t 4)) <|
    .op (some 28) (.ld true 2 (.t 5)) <|
    .op (some 29) (.eq false true [false, false] (.t 27) (.t 28)) <|
    .done))
  (.cnd (.t 29)
  (.seq (.reg false [] (.op (some 8) (.mov (.c (.i .i64 1))) <|
    .done))
  .ret)
  .skip))
  (.seq (.seq (.reg false [] (.op (some 30) (.ld true 2 (.t 4)) <|
    .op (some 31) (.ld true 2 (.t 5)) <|
    .op (some 32) (.call false false 53 [(.t 30), (.t 31)]) <|
    .done))
  (.cnd (.t 32)
  (.seq (.reg false [] (.op (some 8) (.mov (.c (.i .i64 2))) <|
    .done))
  .ret)
  .skip))
  (.seq (.reg false [] (.op (some 8) (.mov (.c (.i .i64 0))) <|
    .done))
  .ret))))))))
def fn40 : Fn := ⟨4, [.t 8], fn40b⟩
theorem rd40 : Read Try.prog 40 fn40 := Read.of Try.func40 (by decide +kernel) (by kernel_rfl) (by kernel_rfl)
/-- mapsheets/geom.sorted -/
def fn41b : C := (.seq (.reg false [] (.op (some 2) (.box 23 2 (.t 0)) <|
    .op (some 3) (.box 23 2 (.t 1)) <|
    .op (some 4) (.box 23 2 (.c (.ag [(.i .i64 0), (.i .i64 0)]))) <|
    .op (some 5) (.box 23 2 (.c (.ag [(.i .i64 0), (.i .i64 0)]))) <|
    .done))
  (.seq (.seq (.reg false [] (.op (some 6) (.ld true 2 (.t 2)) <|
    .op (some 7) (.ld true 2 (.t 3)) <|
    .op (some 8) (.call false false 42 [(.t 6), (.t 7)]) <|
    .op (some 9) (.bin .gtr (.t 8) (.c (.i .i64 0))) <|
    .done))
  (.cnd (.t 9)
  (.seq (.reg true [(2, 4)] (.op (some 10) (.ld true 2 (.t 3)) <|
    .op (some 11) (.ld true 2 (.t 2)) <|
    .op none (.st true 2 (.t 4) (.t 10)) <|
    .op none (.st true 2 (.t 5) (.t 11)) <|
    .done))
  .ret)
  .skip))
  (.seq (.reg true [(3, 4)] (.op (some 12) (.ld true 2 (.t 2)) <|
    .op (some 13) (.ld true 2 (.t 3)) <|
    .op none (.st true 2 (.t 4) (.t 12)) <|
    .op none (.st true 2 (.t 5) (.t 13)) <|
    .done))
  .ret)))
def fn41 : Fn := ⟨2, [.c 4 true 2, .c 5 true 2], fn41b⟩
theorem rd41 : Read Try.prog 41 fn41 := Read.of Try.func41 (by decide +kernel) (by kernel_rfl) (by kernel_rfl)
/-- mapsheets/geom.order -/
def fn42b : C := (.seq (.reg false [] (.op (some 2) (.box 23 2 (.t 0)) <|
    .op (some 3) (.box 23 2 (.t 1)) <|
    .op (some 4) (.mov (.c (.i .i64 0))) <|
    .done))
  (.seq (.reg true [] (.op (some 5) (.fa 0 (.t 2)) <|
    .op (some 6) (.ld false 1 (.t 5)) <|
    .op (some 7) (.fa 0 (.t 3)) <|
    .op (some 8) (.ld false 1 (.t 7)) <|
    .op (some 9) (.call true false 36 [(.t 6), (.t 8)]) <|
    .op (some 10) (.fa 1 (.t 2)) <|
    .op (some 11) (.ld false 1 (.t 10)) <|
    .op (some 12) (.fa 1 (.t 3)) <|
    .op (some 13) (.ld false 1 (.t 12)) <|
    .op (some 14) (.call true false 36 [(.t 11), (.t 13)]) <|
    .op (some 15) (.bsl true 3 1 [(.t 9), (.t 14)]) <|
    .op (some 16) (.call true false 54 [(.t 15)]) <|
    .op (some 4) (.mov (.t 16)) <|
    .done))
  .ret))
def fn42 : Fn := ⟨2, [.t 4], fn42b⟩
theorem rd42 : Read Try.prog 42 fn42 := Read.of Try.func42 (by decide +kernel) (by kernel_rfl) (by kernel_rfl)
/-- mapsheets/geom.half -/
def fn43b : C := (.seq (.reg false [] (.op (some 1) (.box 23 2 (.t 0)) <|
    .op (some 2) (.mov (.c (.i .i64 0))) <|
    .done))
  (.seq (.seq (.reg false [] (.op (some 3) (.fa 1 (.t 1)) <|
    .op (some 4) (.ld false 1 (.t 3)) <|
    .op (some 5) (.bin .gtr (.t 4) (.c (.i .i64 0))) <|
    .op (some 6) (.mov (.t 5)) <|
    .sc 6 false (.op (some 7) (.fa 1 (.t 1)) <|
    .op (some 8) (.ld false 1 (.t 7)) <|
    .op (some 9) (.bin .eql (.t 8) (.c (.i .i64 0))) <|
    .op (some 10) (.mov (.t 9)) <|
    .sc 10 true (.op (some 11) (.fa 0 (.t 1)) <|
    .op (some 12) (.ld false 1 (.t 11)) <|
    .op (some 13) (.bin .gtr (.t 12) (.c (.i .i64 0))) <|
    .done) 14 (.t 13) <|
    .done) 15 (.t 14) <|
    .done))
  (.cnd (.t 15)
  (.seq (.reg false [] (.op (some 2) (.mov (.c (.i .i64 0))) <|
    .done))
  .ret)
  .skip))
  (.seq (.reg false [] (.op (some 2) (.mov (.c (.i .i64 1))) <|
    .done))
  .ret)))
def fn43 : Fn := ⟨1, [.t 2], fn43b⟩
theorem rd43 : Read Try.prog 43 fn43 := Read.of Try.func43 (by decide +kernel) (by kernel_rfl) (by kernel_rfl)
/-- mapsheets/mapsheetsref08.quarter -/
def fn44b : C := (.seq (.reg false [] (.op (some 2) (.box 23 2 (.t 0)) <|
    .op (some 3) (.box 23 2 (.t 1)) <|
    .op (some 4) (.mov (.c (.i .i64 0))) <|
    .done))
  (.seq (.reg true [] (.op (some 7) (.fa 0 (.t 3)) <|
    .op (some 8) (.ld false 1 (.t 7)) <|
    .op (some 9) (.fa 0 (.t 2)) <|
    .op (some 10) (.ld false 1 (.t 9)) <|
    .op (some 11) (.bin .sub (.t 8) (.t 10)) <|
    .op (some 12) (.fa 1 (.t 3)) <|
    .op (some 13) (.ld false 1 (.t 12)) <|
    .op (some 14) (.fa 1 (.t 2)) <|
    .op (some 15) (.ld false 1 (.t 14)) <|
    .op (some 16) (.bin .sub (.t 13) (.t 15)) <|
    .op (some 5) (.mov (.t 11)) <|
    .op (some 6) (.mov (.t 16)) <|
    .done))
  (.seq (.blk 0 (.seq (.reg false [] (.op (some 18) (.mov (.t 5)) <|
    .op (some 19) (.bin .gtr (.t 18) (.c (.i .i64 0))) <|
    .op (some 20) (.mov (.t 19)) <|
    .sc 20 true (.op (some 21) (.mov (.t 6)) <|
    .op (some 22) (.bin .geq (.t 21) (.c (.i .i64 0))) <|
    .done) 23 (.t 22) <|
    .op (some 17) (.mov (.t 23)) <|
    .done))
  (.cnd (.t 17)
  (.seq (.reg false [] (.op (some 4) (.mov (.c (.i .i64 0))) <|
    .done))
  .ret)
  (.seq (.reg false [] (.op (some 25) (.mov (.t 5)) <|
    .op (some 26) (.bin .leq (.t 25) (.c (.i .i64 0))) <|
    .op (some 27) (.mov (.t 26)) <|
    .sc 27 true (.op (some 28) (.mov (.t 6)) <|
    .op (some 29) (.bin .gtr (.t 28) (.c (.i .i64 0))) <|
    .done) 30 (.t 29) <|
    .op (some 24) (.mov (.t 30)) <|
    .done))
  (.cnd (.t 24)
  (.seq (.reg false [] (.op (some 4) (.mov (.c (.i .i64 1))) <|
    .done))
  .ret)
  (.seq (.reg false [] (.op (some 32) (.mov (.t 5)) <|
    .op (some 33) (.bin .lss (.t 32) (.c (.i .i64 0))) <|
    .op (some 31) (.mov (.t 33)) <|
    .done))
  (.cnd (.t 31)
  (.seq (.reg false [] (.op (some 4) (.mov (.c (.i .i64 2))) <|
    .done))
  .ret)
  .skip)))))))
  (.seq (.reg false [] (.op (some 4) (.mov (.c (.i .i64 3))) <|
    .done))
  .ret))))
def fn44 : Fn := ⟨2, [.t 4], fn44b⟩
theorem rd44 : Read Try.prog 44 fn44 := Read.of Try.func44 (by decide +kernel) (by kernel_rfl) (by kernel_rfl)
/-- mapsheets/geom.dot -/
def fn45b : C := (.seq (.reg false [] (.op (some 2) (.box 23 2 (.t 0)) <|
    .op (some 3) (.box 23 2 (.t 1)) <|
    .op (some 4) (.mov (.c (.i .i64 0))) <|
    .done))
  (.seq (.reg false [] (.op (some 5) (.fa 0 (.t 2)) <|
    .op (some 6) (.ld false 1 (.t 5)) <|
    .op (some 7) (.fa 0 (.t 3)) <|
    .op (some 8) (.ld false 1 (.t 7)) <|
    .op (some 9) (.bin .mul (.t 6) (.t 8)) <|
    .op (some 10) (.fa 1 (.t 2)) <|
    .op (some 11) (.ld false 1 (.t 10)) <|
    .op (some 12) (.fa 1 (.t 3)) <|
    .op (some 13) (.ld false 1 (.t 12)) <|
    .op (some 14) (.bin .mul (.t 11) (.t 13)) <|
    .op (some 15) (.bin .add (.t 9) (.t 14)) <|
    .op (some 4) (.mov (.t 15)) <|
    .done))
  .ret))
def fn45 : Fn := ⟨2, [.t 4], fn45b⟩
theorem rd45 : Read Try.prog 45 fn45 := Read.of Try.func45 (by decide +kernel) (by kernel_rfl) (by kernel_rfl)
/-- mapsheets/geom.whole -/
def fn46b : C := (.seq (.reg false [] (.op (some 2) (.box 32 2 (.c (.ag [(.i .i64 0), (.i .i64 0)]))) <|
    .done))
  (.seq (.reg false [] (.op (some 3) (.mov (.t 0)) <|
    .op (some 4) (.bld [(.i .i64 0), (.i .i64 0)] [(0, 1, (.t 3)), (1, 1, (.c (.i .i64 1)))]) <|
    .op none (.st false 2 (.t 2) (.t 4)) <|
    .done))
  .ret))
def fn46 : Fn := ⟨1, [.c 2 true 2], fn46b⟩
theorem rd46 : Read Try.prog 46 fn46 := Read.of Try.func46 (by decide +kernel) (by kernel_rfl) (by kernel_rfl)
/-- math/bits.Mul64 -/
def fn47b : C := (.seq (.reg false [] (.op (some 4) (.mov (.c (.i .u64 0))) <|
    .op (some 5) (.mov (.c (.i .u64 0))) <|
    .done))
  (.seq (.reg false [] (.op (some 14) (.mov (.t 0)) <|
    .op (some 15) (.bin .and (.t 14) (.c (.i .u64 4294967295))) <|
    .op (some 6) (.mov (.t 15)) <|
    .done))
  (.seq (.reg false [] (.op (some 16) (.mov (.t 0)) <|
    .op (some 17) (.bin .shr (.t 16) (.c (.i .u64 32))) <|
    .op (some 7) (.mov (.t 17)) <|
    .done))
  (.seq (.reg false [] (.op (some 18) (.mov (.t 1)) <|
    .op (some 19) (.bin .and (.t 18) (.c (.i .u64 4294967295))) <|
    .op (some 8) (.mov (.t 19)) <|
    .done))
  (.seq (.reg false [] (.op (some 20) (.mov (.t 1)) <|
    .op (some 21) (.bin .shr (.t 20) (.c (.i .u64 32))) <|
    .op (some 9) (.mov (.t 21)) <|
    .done))
  (.seq (.reg false [] (.op (some 22) (.mov (.t 6)) <|
    .op (some 23) (.mov (.t 8)) <|
    .op (some 24) (.bin .mul (.t 22) (.t 23)) <|
    .op (some 10) (.mov (.t 24)) <|
    .done))
  (.seq (.reg false [] (.op (some 25) (.mov (.t 7)) <|
    .op (some 26) (.mov (.t 8)) <|
    .op (some 27) (.bin .mul (.t 25) (.t 26)) <|
    .op (some 28) (.mov (.t 10)) <|
    .op (some 29) (.bin .shr (.t 28) (.c (.i .u64 32))) <|
    .op (some 30) (.bin .add (.t 27) (.t 29)) <|
    .op (some 11) (.mov (.t 30)) <|
    .done))
  (.seq (.reg false [] (.op (some 31) (.mov (.t 11)) <|
    .op (some 32) (.bin .and (.t 31) (.c (.i .u64 4294967295))) <|
    .op (some 12) (.mov (.t 32)) <|
    .done))
  (.seq (.reg false [] (.op (some 33) (.mov (.t 11)) <|
    .op (some 34) (.bin .shr (.t 33) (.c (.i .u64 32))) <|
    .op (some 13) (.mov (.t 34)) <|
    .done))
  (.seq (.reg false [] (.op (some 35) (.mov (.t 12)) <|
    .op (some 36) (.mov (.t 6)) <|
    .op (some 37) (.mov (.t 9)) <|
    .op (some 38) (.bin .mul (.t 36) (.t 37)) <|
    .op (some 39) (.bin .add (.t 35) (.t 38)) <|
    .op (some 12) (.mov (.t 39)) <|
    .done))
  (.seq (.reg false [] (.op (some 40) (.mov (.t 7)) <|
    .op (some 41) (.mov (.t 9)) <|
    .op (some 42) (.bin .mul (.t 40) (.t 41)) <|
    .op (some 43) (.mov (.t 13)) <|
    .op (some 44) (.bin .add (.t 42) (.t 43)) <|
    .op (some 45) (.mov (.t 12)) <|
    .op (some 46) (.bin .shr (.t 45) (.c (.i .u64 32))) <|
    .op (some 47) (.bin .add (.t 44) (.t 46)) <|
    .op (some 4) (.mov (.t 47)) <|
    .done))
  (.seq (.reg false [] (.op (some 48) (.mov (.t 0)) <|
    .op (some 49) (.mov (.t 1)) <|
    .op (some 50) (.bin .mul (.t 48) (.t 49)) <|
    .op (some 5) (.mov (.t 50)) <|
    .done))
  .ret))))))))))))
def fn47 : Fn := ⟨2, [.t 4, .t 5], fn47b⟩
theorem rd47 : Read Try.prog 47 fn47 := Read.of Try.func47 (by decide +kernel) (by kernel_rfl) (by kernel_rfl)
def fn48k0 : List Nat := [2, 8, 9, 10, 11, 13, 14, 15, 16]
def fn48l0 : C := (.seq (.seq (.reg false [] (.op (some 67) (.mov (.t 15)) <|
    .op (some 68) (.bin .geq (.t 67) (.c (.i .u64 4294967296))) <|
    .op (some 69) (.mov (.t 68)) <|
    .sc 69 false (.op (some 70) (.mov (.t 15)) <|
    .op (some 71) (.mov (.t 10)) <|
    .op (some 72) (.bin .mul (.t 70) (.t 71)) <|
    .op (some 73) (.mov (.t 16)) <|
    .op (some 74) (.bin .mul (.c (.i .u64 4294967296)) (.t 73)) <|
    .op (some 75) (.mov (.t 13)) <|
    .op (some 76) (.bin .add (.t 74) (.t 75)) <|
    .op (some 77) (.bin .gtr (.t 72) (.t 76)) <|
    .done) 78 (.t 77) <|
    .done))
  (.cnd (.t 78)
  .skip
  (.exit 0)))
  (.blk 1 (.seq (.reg false [] (.op (some 79) (.mov (.t 15)) <|
    .op (some 80) (.bin .sub (.t 79) (.c (.i .u64 1))) <|
    .op (some 15) (.mov (.t 80)) <|
    .done))
  (.seq (.reg false [] (.op (some 81) (.mov (.t 16)) <|
    .op (some 82) (.mov (.t 9)) <|
    .op (some 83) (.bin .add (.t 81) (.t 82)) <|
    .op (some 16) (.mov (.t 83)) <|
    .done))
  (.seq (.reg false [] (.op (some 84) (.mov (.t 16)) <|
    .op (some 85) (.bin .geq (.t 84) (.c (.i .u64 4294967296))) <|
    .done))
  (.cnd (.t 85)
  (.exit 0)
  .skip))))))
def fn48k1 : List Nat := [2, 8, 9, 10, 14, 15, 16, 17, 18]
def fn48l1 : C := (.seq (.seq (.reg false [] (.op (some 102) (.mov (.t 18)) <|
    .op (some 103) (.bin .geq (.t 102) (.c (.i .u64 4294967296))) <|
    .op (some 104) (.mov (.t 103)) <|
    .sc 104 false (.op (some 105) (.mov (.t 18)) <|
    .op (some 106) (.mov (.t 10)) <|
    .op (some 107) (.bin .mul (.t 105) (.t 106)) <|
    .op (some 108) (.mov (.t 16)) <|
    .op (some 109) (.bin .mul (.c (.i .u64 4294967296)) (.t 108)) <|
    .op (some 110) (.mov (.t 14)) <|
    .op (some 111) (.bin .add (.t 109) (.t 110)) <|
    .op (some 112) (.bin .gtr (.t 107) (.t 111)) <|
    .done) 113 (.t 112) <|
    .done))
  (.cnd (.t 113)
  .skip
  (.exit 2)))
  (.blk 3 (.seq (.reg false [] (.op (some 114) (.mov (.t 18)) <|
    .op (some 115) (.bin .sub (.t 114) (.c (.i .u64 1))) <|
    .op (some 18) (.mov (.t 115)) <|
    .done))
  (.seq (.reg false [] (.op (some 116) (.mov (.t 16)) <|
    .op (some 117) (.mov (.t 9)) <|
    .op (some 118) (.bin .add (.t 116) (.t 117)) <|
    .op (some 16) (.mov (.t 118)) <|
    .done))
  (.seq (.reg false [] (.op (some 119) (.mov (.t 16)) <|
    .op (some 120) (.bin .geq (.t 119) (.c (.i .u64 4294967296))) <|
    .done))
  (.cnd (.t 120)
  (.exit 2)
  .skip))))))
/-- math/bits.Div64 -/
def fn48b : C := (.seq (.reg false [] (.op (some 6) (.mov (.c (.i .u64 0))) <|
    .op (some 7) (.mov (.c (.i .u64 0))) <|
    .done))
  (.seq (.seq (.reg false [] (.op (some 19) (.mov (.t 2)) <|
    .op (some 20) (.bin .eql (.t 19) (.c (.i .u64 0))) <|
    .done))
  (.cnd (.t 20)
  (.reg false [] (.op (some 21) (.bad) <|
    .op none (.bad) <|
    .done))
  .skip))
  (.seq (.seq (.reg false [] (.op (some 22) (.mov (.t 2)) <|
    .op (some 23) (.mov (.t 0)) <|
    .op (some 24) (.bin .leq (.t 22) (.t 23)) <|
    .done))
  (.cnd (.t 24)
  (.reg false [] (.op (some 25) (.bad) <|
    .op none (.bad) <|
    .done))
  .skip))
  (.seq (.seq (.reg false [] (.op (some 26) (.mov (.t 0)) <|
    .op (some 27) (.bin .eql (.t 26) (.c (.i .u64 0))) <|
    .done))
  (.cnd (.t 27)
  (.seq (.reg true [] (.op (some 28) (.mov (.t 1)) <|
    .op (some 29) (.mov (.t 2)) <|
    .op (some 30) (.bin .quo (.t 28) (.t 29)) <|
    .op (some 31) (.mov (.t 1)) <|
    .op (some 32) (.mov (.t 2)) <|
    .op (some 33) (.bin .rem (.t 31) (.t 32)) <|
    .op (some 6) (.mov (.t 30)) <|
    .op (some 7) (.mov (.t 33)) <|
    .done))
  .ret)
  .skip))
  (.seq (.reg false [] (.op (some 34) (.mov (.t 2)) <|
    .op (some 35) (.call false false 55 [(.t 34)]) <|
    .op (some 36) (.cv .u64 (.t 35)) <|
    .op (some 8) (.mov (.t 36)) <|
    .done))
  (.seq (.reg false [] (.op (some 37) (.mov (.t 2)) <|
    .op (some 38) (.mov (.t 8)) <|
    .op (some 39) (.bin .shl (.t 37) (.t 38)) <|
    .op (some 2) (.mov (.t 39)) <|
    .done))
  (.seq (.reg false [] (.op (some 40) (.mov (.t 2)) <|
    .op (some 41) (.bin .shr (.t 40) (.c (.i .u64 32))) <|
    .op (some 9) (.mov (.t 41)) <|
    .done))
  (.seq (.reg false [] (.op (some 42) (.mov (.t 2)) <|
    .op (some 43) (.bin .and (.t 42) (.c (.i .u64 4294967295))) <|
    .op (some 10) (.mov (.t 43)) <|
    .done))
  (.seq (.reg false [] (.op (some 44) (.mov (.t 0)) <|
    .op (some 45) (.mov (.t 8)) <|
    .op (some 46) (.bin .shl (.t 44) (.t 45)) <|
    .op (some 47) (.mov (.t 1)) <|
    .op (some 48) (.mov (.t 8)) <|
    .op (some 49) (.bin .sub (.c (.i .u64 64)) (.t 48)) <|
    .op (some 50) (.bin .shr (.t 47) (.t 49)) <|
    .op (some 51) (.bin .or (.t 46) (.t 50)) <|
    .op (some 11) (.mov (.t 51)) <|
    .done))
  (.seq (.reg false [] (.op (some 52) (.mov (.t 1)) <|
    .op (some 53) (.mov (.t 8)) <|
    .op (some 54) (.bin .shl (.t 52) (.t 53)) <|
    .op (some 12) (.mov (.t 54)) <|
    .done))
  (.seq (.reg false [] (.op (some 55) (.mov (.t 12)) <|
    .op (some 56) (.bin .shr (.t 55) (.c (.i .u64 32))) <|
    .op (some 13) (.mov (.t 56)) <|
    .done))
  (.seq (.reg false [] (.op (some 57) (.mov (.t 12)) <|
    .op (some 58) (.bin .and (.t 57) (.c (.i .u64 4294967295))) <|
    .op (some 14) (.mov (.t 58)) <|
    .done))
  (.seq (.reg false [] (.op (some 59) (.mov (.t 11)) <|
    .op (some 60) (.mov (.t 9)) <|
    .op (some 61) (.bin .quo (.t 59) (.t 60)) <|
    .op (some 15) (.mov (.t 61)) <|
    .done))
  (.seq (.reg false [] (.op (some 62) (.mov (.t 11)) <|
    .op (some 63) (.mov (.t 15)) <|
    .op (some 64) (.mov (.t 9)) <|
    .op (some 65) (.bin .mul (.t 63) (.t 64)) <|
    .op (some 66) (.bin .sub (.t 62) (.t 65)) <|
    .op (some 16) (.mov (.t 66)) <|
    .done))
  (.seq (.blk 0 (.loop fn48k0 fn48l0))
  (.seq (.reg false [] (.op (some 86) (.mov (.t 11)) <|
    .op (some 87) (.bin .mul (.t 86) (.c (.i .u64 4294967296))) <|
    .op (some 88) (.mov (.t 13)) <|
    .op (some 89) (.bin .add (.t 87) (.t 88)) <|
    .op (some 90) (.mov (.t 15)) <|
    .op (some 91) (.mov (.t 2)) <|
    .op (some 92) (.bin .mul (.t 90) (.t 91)) <|
    .op (some 93) (.bin .sub (.t 89) (.t 92)) <|
    .op (some 17) (.mov (.t 93)) <|
    .done))
  (.seq (.reg false [] (.op (some 94) (.mov (.t 17)) <|
    .op (some 95) (.mov (.t 9)) <|
    .op (some 96) (.bin .quo (.t 94) (.t 95)) <|
    .op (some 18) (.mov (.t 96)) <|
    .done))
  (.seq (.reg false [] (.op (some 97) (.mov (.t 17)) <|
    .op (some 98) (.mov (.t 18)) <|
    .op (some 99) (.mov (.t 9)) <|
    .op (some 100) (.bin .mul (.t 98) (.t 99)) <|
    .op (some 101) (.bin .sub (.t 97) (.t 100)) <|
    .op (some 16) (.mov (.t 101)) <|
    .done))
  (.seq (.blk 2 (.loop fn48k1 fn48l1))
  (.seq (.reg false [] (.op (some 121) (.mov (.t 15)) <|
    .op (some 122) (.bin .mul (.t 121) (.c (.i .u64 4294967296))) <|
    .op (some 123) (.mov (.t 18)) <|
    .op (some 124) (.bin .add (.t 122) (.t 123)) <|
    .op (some 125) (.mov (.t 17)) <|
    .op (some 126) (.bin .mul (.t 125) (.c (.i .u64 4294967296))) <|
    .op (some 127) (.mov (.t 14)) <|
    .op (some 128) (.bin .add (.t 126) (.t 127)) <|
    .op (some 129) (.mov (.t 18)) <|
    .op (some 130) (.mov (.t 2)) <|
    .op (some 131) (.bin .mul (.t 129) (.t 130)) <|
    .op (some 132) (.bin .sub (.t 128) (.t 131)) <|
    .op (some 133) (.mov (.t 8)) <|
    .op (some 134) (.bin .shr (.t 132) (.t 133)) <|
    .op (some 6) (.mov (.t 124)) <|
    .op (some 7) (.mov (.t 134)) <|
    .done))
  .ret))))))))))))))))))))
def fn48 : Fn := ⟨3, [.t 6, .t 7], fn48b⟩
theorem rd48 : Read Try.prog 48 fn48 := Read.of Try.func48 (by decide +kernel) (by kernel_rfl) (by kernel_rfl)
/-- mapsheets/num.Gcd -/
def fn49b : C := (.seq (.reg false [] (.op (some 4) (.mov (.c (.i .i64 0))) <|
    .done))
  (.seq (.reg false [] (.op (some 6) (.mov (.t 0)) <|
    .op (some 7) (.call false false 57 [(.t 6)]) <|
    .op (some 8) (.mov (.t 1)) <|
    .op (some 9) (.call false false 57 [(.t 8)]) <|
    .op (some 10) (.call false false 56 [(.t 7), (.t 9)]) <|
    .op (some 5) (.mov (.t 10)) <|
    .done))
  (.seq (.seq (.reg false [] (.op (some 11) (.mov (.t 5)) <|
    .op (some 12) (.bin .gtr (.t 11) (.c (.i .u64 9223372036854775807))) <|
    .done))
  (.cnd (.t 12)
  (.seq (.reg false [] (.op (some 4) (.mov (.c (.i .i64 0))) <|
    .done))
  .ret)
  .skip))
  (.seq (.reg false [] (.op (some 13) (.mov (.t 5)) <|
    .op (some 14) (.cv .i64 (.t 13)) <|
    .op (some 4) (.mov (.t 14)) <|
    .done))
  .ret))))
def fn49 : Fn := ⟨2, [.t 4], fn49b⟩
theorem rd49 : Read Try.prog 49 fn49 := Read.of Try.func49 (by decide +kernel) (by kernel_rfl) (by kernel_rfl)
def fn50k0 : List Nat := [0, 1]
def fn50l0 : C := (.seq (.seq (.reg false [] (.op (some 5) (.mov (.t 1)) <|
    .op (some 6) (.bin .gtr (.t 5) (.c (.i .i64 0))) <|
    .done))
  (.cnd (.t 6)
  .skip
  (.exit 0)))
  (.blk 1 (.reg true [] (.op (some 7) (.mov (.t 1)) <|
    .op (some 8) (.mov (.t 0)) <|
    .op (some 9) (.mov (.t 1)) <|
    .op (some 10) (.bin .rem (.t 8) (.t 9)) <|
    .op (some 0) (.mov (.t 7)) <|
    .op (some 1) (.mov (.t 10)) <|
    .done))))
/-- mapsheets/mapsheetsref08.gcd -/
def fn50b : C := (.seq (.reg false [] (.op (some 4) (.mov (.c (.i .i64 0))) <|
    .done))
  (.seq (.blk 0 (.loop fn50k0 fn50l0))
  (.seq (.reg false [] (.op (some 11) (.mov (.t 0)) <|
    .op (some 4) (.mov (.t 11)) <|
    .done))
  .ret)))
def fn50 : Fn := ⟨2, [.t 4], fn50b⟩
theorem rd50 : Read Try.prog 50 fn50 := Read.of Try.func50 (by decide +kernel) (by kernel_rfl) (by kernel_rfl)
def fn51k0 : List Nat := [0, 1, 5, 6, 7]
def fn51l0 : C := (.seq (.seq (.reg false [] (.op (some 8) (.mov (.t 7)) <|
    .op (some 9) (.bin .gtr (.t 8) (.c (.i .i64 0))) <|
    .done))
  (.cnd (.t 9)
  .skip
  (.exit 0)))
  (.seq (.blk 1 (.seq (.reg false [] (.op (some 12) (.mov (.t 5)) <|
    .op (some 13) (.bin .mul (.c (.i .i64 2)) (.t 12)) <|
    .op (some 14) (.mov (.t 6)) <|
    .op (some 15) (.bin .mul (.c (.i .i64 2)) (.t 14)) <|
    .op (some 5) (.mov (.t 13)) <|
    .op (some 6) (.mov (.t 15)) <|
    .done))
  (.seq (.seq (.reg false [] (.op (some 16) (.mov (.t 0)) <|
    .op (some 17) (.mov (.t 7)) <|
    .op (some 18) (.bin .and (.t 16) (.t 17)) <|
    .op (some 19) (.bin .neq (.t 18) (.c (.i .i64 0))) <|
    .done))
  (.cnd (.t 19)
  (.reg true [] (.op (some 20) (.mov (.t 5)) <|
    .op (some 21) (.mov (.t 0)) <|
    .op (some 22) (.mov (.t 1)) <|
    .op (some 23) (.bin .quo (.t 21) (.t 22)) <|
    .op (some 24) (.bin .add (.t 20) (.t 23)) <|
    .op (some 25) (.mov (.t 6)) <|
    .op (some 26) (.mov (.t 0)) <|
    .op (some 27) (.mov (.t 1)) <|
    .op (some 28) (.bin .rem (.t 26) (.t 27)) <|
    .op (some 29) (.bin .add (.t 25) (.t 28)) <|
    .op (some 5) (.mov (.t 24)) <|
    .op (some 6) (.mov (.t 29)) <|
    .done))
  .skip))
  (.reg true [] (.op (some 30) (.mov (.t 5)) <|
    .op (some 31) (.mov (.t 6)) <|
    .op (some 32) (.mov (.t 1)) <|
    .op (some 33) (.bin .quo (.t 31) (.t 32)) <|
    .op (some 34) (.bin .add (.t 30) (.t 33)) <|
    .op (some 35) (.mov (.t 6)) <|
    .op (some 36) (.mov (.t 1)) <|
    .op (some 37) (.bin .rem (.t 35) (.t 36)) <|
    .op (some 5) (.mov (.t 34)) <|
    .op (some 6) (.mov (.t 37)) <|
    .done)))))
  (.reg false [] (.op (some 10) (.mov (.t 7)) <|
    .op (some 11) (.bin .quo (.t 10) (.c (.i .i64 2))) <|
    .op (some 7) (.mov (.t 11)) <|
    .done))))
/-- mapsheets/mapsheetsref08.square -/
def fn51b : C := (.seq (.reg false [] (.op (some 4) (.mov (.c (.i .i64 0))) <|
    .done))
  (.seq (.reg false [] (.op (some 5) (.mov (.c (.i .i64 0))) <|
    .op (some 6) (.mov (.c (.i .i64 0))) <|
    .done))
  (.seq (.seq (.reg false [] (.op (some 7) (.mov (.c (.i .i64 70368744177664))) <|
    .done))
  (.blk 0 (.loop fn51k0 fn51l0)))
  (.seq (.reg false [] (.op (some 38) (.mov (.t 5)) <|
    .op (some 4) (.mov (.t 38)) <|
    .done))
  .ret))))
def fn51 : Fn := ⟨2, [.t 4], fn51b⟩
theorem rd51 : Read Try.prog 51 fn51 := Read.of Try.func51 (by decide +kernel) (by kernel_rfl) (by kernel_rfl)
/-- cmp.isNaN[int] -/
def fn52b : C := (.seq (.reg false [] (.op (some 2) (.mov (.c (.b false))) <|
    .done))
  (.seq (.reg false [] (.op (some 3) (.mov (.t 0)) <|
    .op (some 4) (.mov (.t 0)) <|
    .op (some 5) (.bin .neq (.t 3) (.t 4)) <|
    .op (some 2) (.mov (.t 5)) <|
    .done))
  .ret))
def fn52 : Fn := ⟨1, [.t 2], fn52b⟩
theorem rd52 : Read Try.prog 52 fn52 := Read.of Try.func52 (by decide +kernel) (by kernel_rfl) (by kernel_rfl)
/-- mapsheets/mapsheetsref08.first -/
def fn53b : C := (.seq (.reg false [] (.op (some 2) (.box 23 2 (.t 0)) <|
    .op (some 3) (.box 23 2 (.t 1)) <|
    .op (some 4) (.mov (.c (.b false))) <|
    .done))
  (.seq (.reg false [] (.op (some 5) (.fa 0 (.t 2)) <|
    .op (some 6) (.ld false 1 (.t 5)) <|
    .op (some 7) (.fa 0 (.t 3)) <|
    .op (some 8) (.ld false 1 (.t 7)) <|
    .op (some 9) (.bin .lss (.t 6) (.t 8)) <|
    .op (some 10) (.mov (.t 9)) <|
    .sc 10 false (.op (some 11) (.fa 0 (.t 2)) <|
    .op (some 12) (.ld false 1 (.t 11)) <|
    .op (some 13) (.fa 0 (.t 3)) <|
    .op (some 14) (.ld false 1 (.t 13)) <|
    .op (some 15) (.bin .eql (.t 12) (.t 14)) <|
    .op (some 16) (.mov (.t 15)) <|
    .sc 16 true (.op (some 17) (.fa 1 (.t 2)) <|
    .op (some 18) (.ld false 1 (.t 17)) <|
    .op (some 19) (.fa 1 (.t 3)) <|
    .op (some 20) (.ld false 1 (.t 19)) <|
    .op (some 21) (.bin .lss (.t 18) (.t 20)) <|
    .done) 22 (.t 21) <|
    .done) 23 (.t 22) <|
    .op (some 4) (.mov (.t 23)) <|
    .done))
  .ret))
def fn53 : Fn := ⟨2, [.t 4], fn53b⟩
theorem rd53 : Read Try.prog 53 fn53 := Read.of Try.func53 (by decide +kernel) (by kernel_rfl) (by kernel_rfl)
def fn54k0 : List Nat := [3, 6, 7, 8]
def fn54l0 : C := (.seq (.reg false [] (.op (some 9) (.bin .lss (.t 8) (.t 7)) <|
    .done))
  (.seq (.cnd (.t 9)
  .skip
  (.exit 0))
  (.seq (.blk 1 (.seq (.reg false [] (.op (some 10) (.ia 1 (.t 6) (.t 8)) <|
    .op (some 11) (.ld false 1 (.t 10)) <|
    .op (some 5) (.mov (.t 11)) <|
    .done))
  (.seq (.reg false [] (.op (some 12) (.mov (.t 5)) <|
    .op (some 13) (.mov (.t 3)) <|
    .op (some 14) (.bin .neq (.t 12) (.t 13)) <|
    .done))
  (.cnd (.t 14)
  (.seq (.reg false [] (.op (some 15) (.mov (.t 5)) <|
    .op (some 2) (.mov (.t 15)) <|
    .done))
  .ret)
  .skip))))
  (.reg false [] (.op (some 16) (.bin .add (.t 8) (.c (.i .i64 1))) <|
    .op (some 8) (.mov (.t 16)) <|
    .done)))))
/-- cmp.Or[int] -/
def fn54b : C := (.seq (.reg false [] (.op (some 2) (.mov (.c (.i .i64 0))) <|
    .done))
  (.seq (.reg false [] (.op (some 3) (.mov (.c (.i .i64 0))) <|
    .done))
  (.seq (.seq (.reg false [] (.op (some 6) (.mov (.t 0)) <|
    .op (some 7) (.len (.t 6)) <|
    .op (some 8) (.mov (.c (.i .i64 0))) <|
    .done))
  (.blk 0 (.loop fn54k0 fn54l0)))
  (.seq (.reg false [] (.op (some 17) (.mov (.t 3)) <|
    .op (some 2) (.mov (.t 17)) <|
    .done))
  .ret))))
def fn54 : Fn := ⟨1, [.t 2], fn54b⟩
theorem rd54 : Read Try.prog 54 fn54 := Read.of Try.func54 (by decide +kernel) (by kernel_rfl) (by kernel_rfl)
/-- math/bits.LeadingZeros64 -/
def fn55b : C := (.seq (.reg false [] (.op (some 2) (.mov (.c (.i .i64 0))) <|
    .done))
  (.seq (.reg false [] (.op (some 3) (.mov (.t 0)) <|
    .op (some 4) (.call false false 58 [(.t 3)]) <|
    .op (some 5) (.bin .sub (.c (.i .i64 64)) (.t 4)) <|
    .op (some 2) (.mov (.t 5)) <|
    .done))
  .ret))
def fn55 : Fn := ⟨1, [.t 2], fn55b⟩
theorem rd55 : Read Try.prog 55 fn55 := Read.of Try.func55 (by decide +kernel) (by kernel_rfl) (by kernel_rfl)
def fn56k0 : List Nat := [0, 1]
def fn56l0 : C := (.seq (.seq (.reg false [] (.op (some 5) (.mov (.t 1)) <|
    .op (some 6) (.bin .neq (.t 5) (.c (.i .u64 0))) <|
    .done))
  (.cnd (.t 6)
  .skip
  (.exit 0)))
  (.blk 1 (.reg true [] (.op (some 7) (.mov (.t 1)) <|
    .op (some 8) (.mov (.t 0)) <|
    .op (some 9) (.mov (.t 1)) <|
    .op (some 10) (.bin .rem (.t 8) (.t 9)) <|
    .op (some 0) (.mov (.t 7)) <|
    .op (some 1) (.mov (.t 10)) <|
    .done))))
/-- mapsheets/num.gcd -/
def fn56b : C := (.seq (.reg false [] (.op (some 4) (.mov (.c (.i .u64 0))) <|
    .done))
  (.seq (.blk 0 (.loop fn56k0 fn56l0))
  (.seq (.reg false [] (.op (some 11) (.mov (.t 0)) <|
    .op (some 4) (.mov (.t 11)) <|
    .done))
  .ret)))
def fn56 : Fn := ⟨2, [.t 4], fn56b⟩
theorem rd56 : Read Try.prog 56 fn56 := Read.of Try.func56 (by decide +kernel) (by kernel_rfl) (by kernel_rfl)
/-- mapsheets/num.abs -/
def fn57b : C := (.seq (.reg false [] (.op (some 2) (.mov (.c (.i .u64 0))) <|
    .done))
  (.seq (.seq (.reg false [] (.op (some 3) (.mov (.t 0)) <|
    .op (some 4) (.bin .lss (.t 3) (.c (.i .i64 0))) <|
    .done))
  (.cnd (.t 4)
  (.seq (.reg false [] (.op (some 5) (.mov (.t 0)) <|
    .op (some 6) (.cv .u64 (.t 5)) <|
    .op (some 7) (.un .neg (.t 6)) <|
    .op (some 2) (.mov (.t 7)) <|
    .done))
  .ret)
  .skip))
  (.seq (.reg false [] (.op (some 8) (.mov (.t 0)) <|
    .op (some 9) (.cv .u64 (.t 8)) <|
    .op (some 2) (.mov (.t 9)) <|
    .done))
  .ret)))
def fn57 : Fn := ⟨1, [.t 2], fn57b⟩
theorem rd57 : Read Try.prog 57 fn57 := Read.of Try.func57 (by decide +kernel) (by kernel_rfl) (by kernel_rfl)
/-- math/bits.Len64 -/
def fn58b : C := (.seq (.reg false [] (.op (some 2) (.mov (.c (.i .i64 0))) <|
    .done))
  (.seq (.seq (.reg false [] (.op (some 3) (.mov (.t 0)) <|
    .op (some 4) (.bin .geq (.t 3) (.c (.i .u64 4294967296))) <|
    .done))
  (.cnd (.t 4)
  (.seq (.reg false [] (.op (some 5) (.mov (.t 0)) <|
    .op (some 6) (.bin .shr (.t 5) (.c (.i .u64 32))) <|
    .op (some 0) (.mov (.t 6)) <|
    .done))
  (.reg false [] (.op (some 2) (.mov (.c (.i .i64 32))) <|
    .done)))
  .skip))
  (.seq (.seq (.reg false [] (.op (some 7) (.mov (.t 0)) <|
    .op (some 8) (.bin .geq (.t 7) (.c (.i .u64 65536))) <|
    .done))
  (.cnd (.t 8)
  (.seq (.reg false [] (.op (some 9) (.mov (.t 0)) <|
    .op (some 10) (.bin .shr (.t 9) (.c (.i .u64 16))) <|
    .op (some 0) (.mov (.t 10)) <|
    .done))
  (.reg false [] (.op (some 11) (.mov (.t 2)) <|
    .op (some 12) (.bin .add (.t 11) (.c (.i .i64 16))) <|
    .op (some 2) (.mov (.t 12)) <|
    .done)))
  .skip))
  (.seq (.seq (.reg false [] (.op (some 13) (.mov (.t 0)) <|
    .op (some 14) (.bin .geq (.t 13) (.c (.i .u64 256))) <|
    .done))
  (.cnd (.t 14)
  (.seq (.reg false [] (.op (some 15) (.mov (.t 0)) <|
    .op (some 16) (.bin .shr (.t 15) (.c (.i .u64 8))) <|
    .op (some 0) (.mov (.t 16)) <|
    .done))
  (.reg false [] (.op (some 17) (.mov (.t 2)) <|
    .op (some 18) (.bin .add (.t 17) (.c (.i .i64 8))) <|
    .op (some 2) (.mov (.t 18)) <|
    .done)))
  .skip))
  (.seq (.reg false [] (.op (some 19) (.mov (.t 2)) <|
    .op (some 20) (.mov (.t 0)) <|
    .op (some 21) (.cv .u8 (.t 20)) <|
    .op (some 22) (.bad) <|
    .op (some 23) (.cv .i64 (.t 22)) <|
    .op (some 24) (.bin .add (.t 19) (.t 23)) <|
    .op (some 2) (.mov (.t 24)) <|
    .done))
  .ret)))))
def fn58 : Fn := ⟨1, [.t 2], fn58b⟩
theorem rd58 : Read Try.prog 58 fn58 := Read.of Try.func58 (by decide +kernel) (by kernel_rfl) (by kernel_rfl)
def table : List (Nat × Fn) := [(3, fn3), (4, fn4), (5, fn5), (6, fn6), (7, fn7), (8, fn8), (9, fn9), (10, fn10), (11, fn11), (12, fn12), (13, fn13), (14, fn14), (15, fn15), (16, fn16), (17, fn17), (18, fn18), (19, fn19), (20, fn20), (21, fn21), (22, fn22), (23, fn23), (24, fn24), (25, fn25), (26, fn26), (27, fn27), (28, fn28), (29, fn29), (30, fn30), (31, fn31), (32, fn32), (33, fn33), (34, fn34), (35, fn35), (36, fn36), (37, fn37), (38, fn38), (39, fn39), (40, fn40), (41, fn41), (42, fn42), (43, fn43), (44, fn44), (45, fn45), (46, fn46), (47, fn47), (48, fn48), (49, fn49), (50, fn50), (51, fn51), (52, fn52), (53, fn53), (54, fn54), (55, fn55), (56, fn56), (57, fn57), (58, fn58)]
theorem reads : Reads Try.prog (FL table) := Reads.cons rd3 <| Reads.cons rd4 <| Reads.cons rd5 <| Reads.cons rd6 <| Reads.cons rd7 <| Reads.cons rd8 <| Reads.cons rd9 <| Reads.cons rd10 <| Reads.cons rd11 <| Reads.cons rd12 <| Reads.cons rd13 <| Reads.cons rd14 <| Reads.cons rd15 <| Reads.cons rd16 <| Reads.cons rd17 <| Reads.cons rd18 <| Reads.cons rd19 <| Reads.cons rd20 <| Reads.cons rd21 <| Reads.cons rd22 <| Reads.cons rd23 <| Reads.cons rd24 <| Reads.cons rd25 <| Reads.cons rd26 <| Reads.cons rd27 <| Reads.cons rd28 <| Reads.cons rd29 <| Reads.cons rd30 <| Reads.cons rd31 <| Reads.cons rd32 <| Reads.cons rd33 <| Reads.cons rd34 <| Reads.cons rd35 <| Reads.cons rd36 <| Reads.cons rd37 <| Reads.cons rd38 <| Reads.cons rd39 <| Reads.cons rd40 <| Reads.cons rd41 <| Reads.cons rd42 <| Reads.cons rd43 <| Reads.cons rd44 <| Reads.cons rd45 <| Reads.cons rd46 <| Reads.cons rd47 <| Reads.cons rd48 <| Reads.cons rd49 <| Reads.cons rd50 <| Reads.cons rd51 <| Reads.cons rd52 <| Reads.cons rd53 <| Reads.cons rd54 <| Reads.cons rd55 <| Reads.cons rd56 <| Reads.cons rd57 <| Reads.cons rd58 <| Reads.nil _
end Go.Proofs.YtnanlipnhdifgaaM
