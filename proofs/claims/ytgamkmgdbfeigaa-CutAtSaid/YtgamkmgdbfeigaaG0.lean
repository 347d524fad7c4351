/- Functions of the program, read into the machine (text 0). Written by gen.py. -/
import Derived.Test.YtgamkmgdbfeigaaM19
import Derived.Test.YtgamkmgdbfeigaaProg
import Derived.ProofKit
namespace Go.Proofs.YtgamkmgdbfeigaaM
open Go Go.RowKit
set_option maxRecDepth 100000
/-- mapsheets/mapsheetslaw09.CutCrosses -/
def fn3b : C := (.seq (.reg false [] (.op (some 1) (.box 25 8 (.t 0)) <|
    .op (some 2) (.mov (.c (.b false))) <|
    .done))
  (.seq (.reg false [] (.op (some 14) (.fa 0 (.t 1)) <|
    .op (some 15) (.ld true 2 (.t 14)) <|
    .op (some 16) (.fa 2 (.t 1)) <|
    .op (some 17) (.ld true 2 (.t 16)) <|
    .op (some 18) (.fa 4 (.t 1)) <|
    .op (some 19) (.ld true 2 (.t 18)) <|
    .op (some 20) (.fa 6 (.t 1)) <|
    .op (some 21) (.ld true 2 (.t 20)) <|
    .op (some 22) (.call false false 10 [(.t 15), (.t 17), (.t 19), (.t 21)]) <|
    .op (some 13) (.mov (.t 22)) <|
    .op (some 23) (.ext (.t 13) 0) <|
    .op (some 24) (.ext (.t 13) 1) <|
    .op (some 3) (.box 23 2 (.c (.ag [(.i .i64 0), (.i .i64 0)]))) <|
    .op none (.st false 2 (.t 3) (.t 23)) <|
    .op (some 4) (.mov (.t 24)) <|
    .done))
  (.seq (.reg false [] (.op (some 26) (.fa 0 (.t 1)) <|
    .op (some 27) (.ld true 2 (.t 26)) <|
    .op (some 28) (.fa 2 (.t 1)) <|
    .op (some 29) (.ld true 2 (.t 28)) <|
    .op (some 30) (.fa 4 (.t 1)) <|
    .op (some 31) (.ld true 2 (.t 30)) <|
    .op (some 32) (.fa 6 (.t 1)) <|
    .op (some 33) (.ld true 2 (.t 32)) <|
    .op (some 34) (.call false false 11 [(.t 27), (.t 29), (.t 31), (.t 33)]) <|
    .op (some 25) (.mov (.t 34)) <|
    .op (some 35) (.ext (.t 25) 0) <|
    .op (some 36) (.ext (.t 25) 1) <|
    .op (some 5) (.box 23 2 (.c (.ag [(.i .i64 0), (.i .i64 0)]))) <|
    .op none (.st false 2 (.t 5) (.t 35)) <|
    .op (some 6) (.mov (.t 36)) <|
    .done))
  (.seq (.reg false [] (.op (some 38) (.fa 4 (.t 1)) <|
    .op (some 39) (.ld true 2 (.t 38)) <|
    .op (some 40) (.fa 6 (.t 1)) <|
    .op (some 41) (.ld true 2 (.t 40)) <|
    .op (some 42) (.fa 0 (.t 1)) <|
    .op (some 43) (.ld true 2 (.t 42)) <|
    .op (some 44) (.fa 2 (.t 1)) <|
    .op (some 45) (.ld true 2 (.t 44)) <|
    .op (some 46) (.call false false 10 [(.t 39), (.t 41), (.t 43), (.t 45)]) <|
    .op (some 37) (.mov (.t 46)) <|
    .op (some 47) (.ext (.t 37) 0) <|
    .op (some 48) (.ext (.t 37) 1) <|
    .op (some 7) (.box 23 2 (.c (.ag [(.i .i64 0), (.i .i64 0)]))) <|
    .op none (.st false 2 (.t 7) (.t 47)) <|
    .op (some 8) (.mov (.t 48)) <|
    .done))
  (.seq (.reg false [] (.op (some 50) (.fa 2 (.t 1)) <|
    .op (some 51) (.ld true 2 (.t 50)) <|
    .op (some 52) (.fa 0 (.t 1)) <|
    .op (some 53) (.ld true 2 (.t 52)) <|
    .op (some 54) (.fa 4 (.t 1)) <|
    .op (some 55) (.ld true 2 (.t 54)) <|
    .op (some 56) (.fa 6 (.t 1)) <|
    .op (some 57) (.ld true 2 (.t 56)) <|
    .op (some 58) (.call false false 10 [(.t 51), (.t 53), (.t 55), (.t 57)]) <|
    .op (some 49) (.mov (.t 58)) <|
    .op (some 59) (.ext (.t 49) 0) <|
    .op (some 60) (.ext (.t 49) 1) <|
    .op (some 9) (.box 23 2 (.c (.ag [(.i .i64 0), (.i .i64 0)]))) <|
    .op none (.st false 2 (.t 9) (.t 59)) <|
    .op (some 10) (.mov (.t 60)) <|
    .done))
  (.seq (.reg false [] (.op (some 62) (.fa 0 (.t 1)) <|
    .op (some 63) (.ld true 2 (.t 62)) <|
    .op (some 64) (.fa 2 (.t 1)) <|
    .op (some 65) (.ld true 2 (.t 64)) <|
    .op (some 66) (.fa 6 (.t 1)) <|
    .op (some 67) (.ld true 2 (.t 66)) <|
    .op (some 68) (.fa 4 (.t 1)) <|
    .op (some 69) (.ld true 2 (.t 68)) <|
    .op (some 70) (.call false false 10 [(.t 63), (.t 65), (.t 67), (.t 69)]) <|
    .op (some 61) (.mov (.t 70)) <|
    .op (some 71) (.ext (.t 61) 0) <|
    .op (some 72) (.ext (.t 61) 1) <|
    .op (some 11) (.box 23 2 (.c (.ag [(.i .i64 0), (.i .i64 0)]))) <|
    .op none (.st false 2 (.t 11) (.t 71)) <|
    .op (some 12) (.mov (.t 72)) <|
    .done))
  (.seq (.reg false [] (.op (some 73) (.ld true 2 (.t 3)) <|
    .op (some 74) (.ld true 2 (.t 5)) <|
    .op (some 75) (.eq false true [false, false] (.t 73) (.t 74)) <|
    .op (some 76) (.mov (.t 75)) <|
    .sc 76 true (.op (some 77) (.mov (.t 4)) <|
    .op (some 78) (.mov (.t 6)) <|
    .op (some 79) (.bin .eql (.t 77) (.t 78)) <|
    .done) 80 (.t 79) <|
    .op (some 81) (.mov (.t 80)) <|
    .sc 81 true (.op (some 82) (.ld true 2 (.t 7)) <|
    .op (some 83) (.ld true 2 (.t 5)) <|
    .op (some 84) (.eq false true [false, false] (.t 82) (.t 83)) <|
    .done) 85 (.t 84) <|
    .op (some 86) (.mov (.t 85)) <|
    .sc 86 true (.op (some 87) (.mov (.t 8)) <|
    .op (some 88) (.mov (.t 6)) <|
    .op (some 89) (.bin .eql (.t 87) (.t 88)) <|
    .done) 90 (.t 89) <|
    .op (some 91) (.mov (.t 90)) <|
    .sc 91 true (.op (some 92) (.ld true 2 (.t 9)) <|
    .op (some 93) (.ld true 2 (.t 5)) <|
    .op (some 94) (.eq false true [false, false] (.t 92) (.t 93)) <|
    .done) 95 (.t 94) <|
    .op (some 96) (.mov (.t 95)) <|
    .sc 96 true (.op (some 97) (.mov (.t 10)) <|
    .op (some 98) (.mov (.t 6)) <|
    .op (some 99) (.bin .eql (.t 97) (.t 98)) <|
    .done) 100 (.t 99) <|
    .op (some 101) (.mov (.t 100)) <|
    .sc 101 true (.op (some 102) (.ld true 2 (.t 11)) <|
    .op (some 103) (.ld true 2 (.t 5)) <|
    .op (some 104) (.eq false true [false, false] (.t 102) (.t 103)) <|
    .done) 105 (.t 104) <|
    .op (some 106) (.mov (.t 105)) <|
    .sc 106 true (.op (some 107) (.mov (.t 12)) <|
    .op (some 108) (.mov (.t 6)) <|
    .op (some 109) (.bin .eql (.t 107) (.t 108)) <|
    .done) 110 (.t 109) <|
    .op (some 111) (.mov (.t 110)) <|
    .sc 111 true (.op (some 112) (.call false false 12 []) <|
    .done) 113 (.t 112) <|
    .op (some 2) (.mov (.t 113)) <|
    .done))
  .ret)))))))
def fn3 : Fn := ⟨1, [.t 2], fn3b⟩
theorem rd3 : Read Try.prog 3 fn3 := Read.of Try.func3 (by decide +kernel) (by kernel_rfl) (by kernel_rfl)
/-- mapsheets/mapsheetslaw09.CutAt -/
def fn4b : C := (.seq (.reg false [] (.op (some 3) (.box 23 2 (.t 0)) <|
    .op (some 4) (.box 23 2 (.t 1)) <|
    .op (some 6) (.mov (.c (.b false))) <|
    .done))
  (.seq (.reg false [] (.op (some 14) (.ld true 2 (.t 3)) <|
    .op (some 15) (.ld true 2 (.t 4)) <|
    .op (some 16) (.mov (.t 2)) <|
    .op (some 17) (.call false false 13 [(.t 14), (.t 15), (.t 16)]) <|
    .op (some 13) (.mov (.t 17)) <|
    .op (some 18) (.ext (.t 13) 0) <|
    .op (some 19) (.ext (.t 13) 1) <|
    .op (some 7) (.mov (.t 18)) <|
    .op (some 8) (.mov (.t 19)) <|
    .done))
  (.seq (.reg false [] (.op (some 21) (.ld true 2 (.t 3)) <|
    .op (some 22) (.ld true 2 (.t 4)) <|
    .op (some 23) (.mov (.t 2)) <|
    .op (some 24) (.call false false 14 [(.t 21), (.t 22), (.t 23)]) <|
    .op (some 20) (.mov (.t 24)) <|
    .op (some 25) (.ext (.t 20) 0) <|
    .op (some 26) (.ext (.t 20) 1) <|
    .op (some 9) (.mov (.t 25)) <|
    .op (some 10) (.mov (.t 26)) <|
    .done))
  (.seq (.reg false [] (.op (some 28) (.ld true 2 (.t 4)) <|
    .op (some 29) (.ld true 2 (.t 3)) <|
    .op (some 30) (.mov (.t 2)) <|
    .op (some 31) (.call false false 13 [(.t 28), (.t 29), (.t 30)]) <|
    .op (some 27) (.mov (.t 31)) <|
    .op (some 32) (.ext (.t 27) 0) <|
    .op (some 33) (.ext (.t 27) 1) <|
    .op (some 11) (.mov (.t 32)) <|
    .op (some 12) (.mov (.t 33)) <|
    .done))
  (.seq (.seq (.reg false [] (.op (some 34) (.mov (.t 7)) <|
    .op (some 35) (.mov (.t 9)) <|
    .op (some 36) (.bin .neq (.t 34) (.t 35)) <|
    .op (some 37) (.mov (.t 36)) <|
    .sc 37 false (.op (some 38) (.mov (.t 8)) <|
    .op (some 39) (.mov (.t 10)) <|
    .op (some 40) (.bin .neq (.t 38) (.t 39)) <|
    .done) 41 (.t 40) <|
    .op (some 42) (.mov (.t 41)) <|
    .sc 42 false (.op (some 43) (.mov (.t 11)) <|
    .op (some 44) (.mov (.t 9)) <|
    .op (some 45) (.bin .neq (.t 43) (.t 44)) <|
    .done) 46 (.t 45) <|
    .op (some 47) (.mov (.t 46)) <|
    .sc 47 false (.op (some 48) (.mov (.t 12)) <|
    .op (some 49) (.mov (.t 10)) <|
    .op (some 50) (.bin .neq (.t 48) (.t 49)) <|
    .done) 51 (.t 50) <|
    .done))
  (.cnd (.t 51)
  (.seq (.reg false [] (.op (some 6) (.mov (.c (.b false))) <|
    .done))
  .ret)
  .skip))
  (.seq (.reg false [] (.op (some 53) (.ld true 2 (.t 3)) <|
    .op (some 54) (.ld true 2 (.t 4)) <|
    .op (some 55) (.mov (.t 2)) <|
    .op (some 56) (.call false false 15 [(.t 53), (.t 54), (.t 55)]) <|
    .op (some 52) (.mov (.t 56)) <|
    .op (some 57) (.ext (.t 52) 0) <|
    .op (some 58) (.ext (.t 52) 1) <|
    .op (some 7) (.mov (.t 57)) <|
    .op (some 8) (.mov (.t 58)) <|
    .done))
  (.seq (.reg false [] (.op (some 60) (.ld true 2 (.t 3)) <|
    .op (some 61) (.ld true 2 (.t 4)) <|
    .op (some 62) (.mov (.t 2)) <|
    .op (some 63) (.call false false 16 [(.t 60), (.t 61), (.t 62)]) <|
    .op (some 59) (.mov (.t 63)) <|
    .op (some 64) (.ext (.t 59) 0) <|
    .op (some 65) (.ext (.t 59) 1) <|
    .op (some 9) (.mov (.t 64)) <|
    .op (some 10) (.mov (.t 65)) <|
    .done))
  (.seq (.reg false [] (.op (some 67) (.ld true 2 (.t 4)) <|
    .op (some 68) (.ld true 2 (.t 3)) <|
    .op (some 69) (.mov (.t 2)) <|
    .op (some 70) (.call false false 15 [(.t 67), (.t 68), (.t 69)]) <|
    .op (some 66) (.mov (.t 70)) <|
    .op (some 71) (.ext (.t 66) 0) <|
    .op (some 72) (.ext (.t 66) 1) <|
    .op (some 11) (.mov (.t 71)) <|
    .op (some 12) (.mov (.t 72)) <|
    .done))
  (.seq (.reg false [] (.op (some 73) (.mov (.t 7)) <|
    .op (some 74) (.mov (.t 9)) <|
    .op (some 75) (.bin .eql (.t 73) (.t 74)) <|
    .op (some 76) (.mov (.t 75)) <|
    .sc 76 true (.op (some 77) (.mov (.t 8)) <|
    .op (some 78) (.mov (.t 10)) <|
    .op (some 79) (.bin .eql (.t 77) (.t 78)) <|
    .done) 80 (.t 79) <|
    .op (some 81) (.mov (.t 80)) <|
    .sc 81 true (.op (some 82) (.mov (.t 11)) <|
    .op (some 83) (.mov (.t 9)) <|
    .op (some 84) (.bin .eql (.t 82) (.t 83)) <|
    .done) 85 (.t 84) <|
    .op (some 86) (.mov (.t 85)) <|
    .sc 86 true (.op (some 87) (.mov (.t 12)) <|
    .op (some 88) (.mov (.t 10)) <|
    .op (some 89) (.bin .eql (.t 87) (.t 88)) <|
    .done) 90 (.t 89) <|
    .op (some 91) (.mov (.t 90)) <|
    .sc 91 true (.op (some 92) (.call false false 12 []) <|
    .done) 93 (.t 92) <|
    .op (some 6) (.mov (.t 93)) <|
    .done))
  .ret)))))))))
def fn4 : Fn := ⟨3, [.t 6], fn4b⟩
theorem rd4 : Read Try.prog 4 fn4 := Read.of Try.func4 (by decide +kernel) (by kernel_rfl) (by kernel_rfl)
/-- mapsheets/mapsheetslaw09.CutClips -/
def fn5b : C := (.seq (.reg false [] (.op (some 3) (.box 23 2 (.t 0)) <|
    .op (some 4) (.box 23 2 (.t 1)) <|
    .op (some 5) (.box 35 4 (.t 2)) <|
    .op (some 6) (.mov (.c (.b false))) <|
    .done))
  (.seq (.reg false [] (.op (some 14) (.ld true 2 (.t 3)) <|
    .op (some 15) (.ld true 2 (.t 4)) <|
    .op (some 16) (.ld true 4 (.t 5)) <|
    .op (some 17) (.call false false 17 [(.t 14), (.t 15), (.t 16)]) <|
    .op (some 13) (.mov (.t 17)) <|
    .op (some 18) (.ext (.t 13) 0) <|
    .op (some 19) (.ext (.t 13) 1) <|
    .op (some 20) (.ext (.t 13) 2) <|
    .op (some 7) (.box 23 2 (.c (.ag [(.i .i64 0), (.i .i64 0)]))) <|
    .op (some 8) (.box 23 2 (.c (.ag [(.i .i64 0), (.i .i64 0)]))) <|
    .op none (.st false 2 (.t 7) (.t 18)) <|
    .op none (.st false 2 (.t 8) (.t 19)) <|
    .op (some 9) (.mov (.t 20)) <|
    .done))
  (.seq (.reg false [] (.op (some 22) (.ld true 2 (.t 3)) <|
    .op (some 23) (.ld true 2 (.t 4)) <|
    .op (some 24) (.ld true 4 (.t 5)) <|
    .op (some 25) (.call false false 18 [(.t 22), (.t 23), (.t 24)]) <|
    .op (some 21) (.mov (.t 25)) <|
    .op (some 26) (.ext (.t 21) 0) <|
    .op (some 27) (.ext (.t 21) 1) <|
    .op (some 28) (.ext (.t 21) 2) <|
    .op (some 10) (.box 23 2 (.c (.ag [(.i .i64 0), (.i .i64 0)]))) <|
    .op (some 11) (.box 23 2 (.c (.ag [(.i .i64 0), (.i .i64 0)]))) <|
    .op none (.st false 2 (.t 10) (.t 26)) <|
    .op none (.st false 2 (.t 11) (.t 27)) <|
    .op (some 12) (.mov (.t 28)) <|
    .done))
  (.seq (.reg false [] (.op (some 29) (.ld true 2 (.t 7)) <|
    .op (some 30) (.ld true 2 (.t 10)) <|
    .op (some 31) (.eq false true [false, false] (.t 29) (.t 30)) <|
    .op (some 32) (.mov (.t 31)) <|
    .sc 32 true (.op (some 33) (.ld true 2 (.t 8)) <|
    .op (some 34) (.ld true 2 (.t 11)) <|
    .op (some 35) (.eq false true [false, false] (.t 33) (.t 34)) <|
    .done) 36 (.t 35) <|
    .op (some 37) (.mov (.t 36)) <|
    .sc 37 true (.op (some 38) (.mov (.t 9)) <|
    .op (some 39) (.mov (.t 12)) <|
    .op (some 40) (.eq false false [true] (.t 38) (.t 39)) <|
    .done) 41 (.t 40) <|
    .op (some 42) (.mov (.t 41)) <|
    .sc 42 true (.op (some 43) (.call false false 12 []) <|
    .done) 44 (.t 43) <|
    .op (some 6) (.mov (.t 44)) <|
    .done))
  .ret))))
def fn5 : Fn := ⟨3, [.t 6], fn5b⟩
theorem rd5 : Read Try.prog 5 fn5 := Read.of Try.func5 (by decide +kernel) (by kernel_rfl) (by kernel_rfl)
/-- mapsheets/mapsheetslaw09.CutWithin -/
def fn6b : C := (.seq (.reg false [] (.op (some 3) (.box 23 2 (.t 0)) <|
    .op (some 4) (.box 23 2 (.t 1)) <|
    .op (some 5) (.box 35 4 (.t 2)) <|
    .op (some 6) (.mov (.c (.b false))) <|
    .done))
  (.seq (.reg false [] (.op (some 14) (.ld true 2 (.t 3)) <|
    .op (some 15) (.ld true 2 (.t 4)) <|
    .op (some 16) (.ld true 4 (.t 5)) <|
    .op (some 17) (.call false false 17 [(.t 14), (.t 15), (.t 16)]) <|
    .op (some 13) (.mov (.t 17)) <|
    .op (some 18) (.ext (.t 13) 0) <|
    .op (some 19) (.ext (.t 13) 1) <|
    .op (some 20) (.ext (.t 13) 2) <|
    .op (some 7) (.box 23 2 (.c (.ag [(.i .i64 0), (.i .i64 0)]))) <|
    .op (some 8) (.box 23 2 (.c (.ag [(.i .i64 0), (.i .i64 0)]))) <|
    .op none (.st false 2 (.t 7) (.t 18)) <|
    .op none (.st false 2 (.t 8) (.t 19)) <|
    .op (some 9) (.mov (.t 20)) <|
    .done))
  (.seq (.reg false [] (.op (some 22) (.ld true 2 (.t 4)) <|
    .op (some 23) (.ld true 2 (.t 3)) <|
    .op (some 24) (.ld true 4 (.t 5)) <|
    .op (some 25) (.call false false 17 [(.t 22), (.t 23), (.t 24)]) <|
    .op (some 21) (.mov (.t 25)) <|
    .op (some 26) (.ext (.t 21) 0) <|
    .op (some 27) (.ext (.t 21) 1) <|
    .op (some 28) (.ext (.t 21) 2) <|
    .op (some 10) (.box 23 2 (.c (.ag [(.i .i64 0), (.i .i64 0)]))) <|
    .op (some 11) (.box 23 2 (.c (.ag [(.i .i64 0), (.i .i64 0)]))) <|
    .op none (.st false 2 (.t 10) (.t 26)) <|
    .op none (.st false 2 (.t 11) (.t 27)) <|
    .op (some 12) (.mov (.t 28)) <|
    .done))
  (.seq (.seq (.reg false [] (.op (some 29) (.mov (.t 9)) <|
    .op (some 30) (.mov (.t 12)) <|
    .op (some 31) (.eq true false [true] (.t 29) (.t 30)) <|
    .op (some 32) (.mov (.t 31)) <|
    .sc 32 false (.op (some 33) (.ld true 2 (.t 7)) <|
    .op (some 34) (.ld true 2 (.t 11)) <|
    .op (some 35) (.eq true true [false, false] (.t 33) (.t 34)) <|
    .done) 36 (.t 35) <|
    .op (some 37) (.mov (.t 36)) <|
    .sc 37 false (.op (some 38) (.ld true 2 (.t 8)) <|
    .op (some 39) (.ld true 2 (.t 10)) <|
    .op (some 40) (.eq true true [false, false] (.t 38) (.t 39)) <|
    .done) 41 (.t 40) <|
    .done))
  (.cnd (.t 41)
  (.seq (.reg false [] (.op (some 6) (.mov (.c (.b false))) <|
    .done))
  .ret)
  .skip))
  (.seq (.seq (.reg false [] (.op (some 42) (.mov (.t 9)) <|
    .op (some 43) (.mov (.t 42)) <|
    .sc 43 true (.op (some 44) (.ld true 4 (.t 5)) <|
    .op (some 45) (.ld true 2 (.t 7)) <|
    .op (some 46) (.call false false 19 [(.t 44), (.t 45)]) <|
    .op (some 47) (.un .not (.t 46)) <|
    .op (some 48) (.mov (.t 47)) <|
    .sc 48 false (.op (some 49) (.ld true 4 (.t 5)) <|
    .op (some 50) (.ld true 2 (.t 8)) <|
    .op (some 51) (.call false false 19 [(.t 49), (.t 50)]) <|
    .op (some 52) (.un .not (.t 51)) <|
    .done) 53 (.t 52) <|
    .done) 54 (.t 53) <|
    .done))
  (.cnd (.t 54)
  (.seq (.reg false [] (.op (some 6) (.mov (.c (.b false))) <|
    .done))
  .ret)
  .skip))
  (.seq (.seq (.reg false [] (.op (some 55) (.ld true 2 (.t 3)) <|
    .op (some 56) (.ld true 2 (.t 4)) <|
    .op (some 57) (.bsl false 23 2 [(.t 55), (.t 56)]) <|
    .op (some 58) (.call false false 20 [(.t 57)]) <|
    .op (some 59) (.mov (.t 58)) <|
    .sc 59 true (.op (some 60) (.ld true 4 (.t 5)) <|
    .op (some 61) (.ld true 2 (.t 3)) <|
    .op (some 62) (.call false false 19 [(.t 60), (.t 61)]) <|
    .done) 63 (.t 62) <|
    .op (some 64) (.mov (.t 63)) <|
    .sc 64 true (.op (some 65) (.ld true 4 (.t 5)) <|
    .op (some 66) (.ld true 2 (.t 4)) <|
    .op (some 67) (.call false false 19 [(.t 65), (.t 66)]) <|
    .done) 68 (.t 67) <|
    .op (some 69) (.mov (.t 68)) <|
    .sc 69 true (.op (some 70) (.mov (.t 9)) <|
    .op (some 71) (.un .not (.t 70)) <|
    .op (some 72) (.mov (.t 71)) <|
    .sc 72 false (.op (some 73) (.ld true 2 (.t 7)) <|
    .op (some 74) (.ld true 2 (.t 3)) <|
    .op (some 75) (.eq true true [false, false] (.t 73) (.t 74)) <|
    .done) 76 (.t 75) <|
    .op (some 77) (.mov (.t 76)) <|
    .sc 77 false (.op (some 78) (.ld true 2 (.t 8)) <|
    .op (some 79) (.ld true 2 (.t 4)) <|
    .op (some 80) (.eq true true [false, false] (.t 78) (.t 79)) <|
    .done) 81 (.t 80) <|
    .done) 82 (.t 81) <|
    .done))
  (.cnd (.t 82)
  (.seq (.reg false [] (.op (some 6) (.mov (.c (.b false))) <|
    .done))
  .ret)
  .skip))
  (.seq (.reg false [] (.op (some 83) (.call false false 12 []) <|
    .op (some 6) (.mov (.t 83)) <|
    .done))
  .ret)))))))
def fn6 : Fn := ⟨3, [.t 6], fn6b⟩
theorem rd6 : Read Try.prog 6 fn6 := Read.of Try.func6 (by decide +kernel) (by kernel_rfl) (by kernel_rfl)
/-- mapsheets/mapsheetslaw09.CutPaths -/
def fn7b : C := (.seq (.reg false [] (.op (some 3) (.box 35 4 (.t 1)) <|
    .op (some 4) (.mov (.c (.b false))) <|
    .done))
  (.seq (.seq (.reg false [] (.op (some 5) (.mov (.t 0)) <|
    .op (some 6) (.len (.t 5)) <|
    .op (some 7) (.bin .gtr (.t 6) (.c (.i .i64 200))) <|
    .done))
  (.cnd (.t 7)
  (.seq (.reg false [] (.op (some 8) (.call false false 12 []) <|
    .op (some 4) (.mov (.t 8)) <|
    .done))
  .ret)
  .skip))
  (.seq (.reg true [] (.op (some 9) (.mov (.t 0)) <|
    .op (some 10) (.ld true 4 (.t 3)) <|
    .op (some 11) (.call true false 22 [(.t 9), (.t 10)]) <|
    .op (some 12) (.mov (.t 0)) <|
    .op (some 13) (.ld true 4 (.t 3)) <|
    .op (some 14) (.call true false 23 [(.t 12), (.t 13)]) <|
    .op (some 15) (.call true false 21 [(.t 11), (.t 14)]) <|
    .op (some 16) (.mov (.t 15)) <|
    .sc 16 true (.op (some 17) (.call true false 12 []) <|
    .done) 18 (.t 17) <|
    .op (some 4) (.mov (.t 18)) <|
    .done))
  .ret)))
def fn7 : Fn := ⟨2, [.t 4], fn7b⟩
theorem rd7 : Read Try.prog 7 fn7 := Read.of Try.func7 (by decide +kernel) (by kernel_rfl) (by kernel_rfl)
def fn8k0 : List Nat := [3, 5, 6, 7, 8]
def fn8l0 : C := (.seq (.seq (.reg false [] (.op (some 54) (.mov (.t 8)) <|
    .op (some 55) (.mov (.t 5)) <|
    .op (some 56) (.mov (.t 7)) <|
    .op (some 57) (.ia 1 (.t 55) (.t 56)) <|
    .op (some 58) (.ld false 1 (.t 57)) <|
    .op (some 59) (.len (.t 58)) <|
    .op (some 60) (.bin .lss (.t 54) (.t 59)) <|
    .done))
  (.cnd (.t 60)
  .skip
  (.exit 2)))
  (.seq (.blk 3 (.seq (.reg true [] (.op (some 63) (.ld true 4 (.t 3)) <|
    .op (some 64) (.mov (.t 5)) <|
    .op (some 65) (.mov (.t 7)) <|
    .op (some 66) (.ia 1 (.t 64) (.t 65)) <|
    .op (some 67) (.ld false 1 (.t 66)) <|
    .op (some 68) (.mov (.t 8)) <|
    .op (some 69) (.ia 2 (.t 67) (.t 68)) <|
    .op (some 70) (.ld true 2 (.t 69)) <|
    .op (some 71) (.call true false 19 [(.t 63), (.t 70)]) <|
    .op (some 72) (.un .not (.t 71)) <|
    .op (some 73) (.mov (.t 72)) <|
    .sc 73 false (.op (some 74) (.mov (.t 8)) <|
    .op (some 75) (.bin .gtr (.t 74) (.c (.i .i64 0))) <|
    .op (some 76) (.mov (.t 75)) <|
    .sc 76 true (.op (some 77) (.mov (.t 5)) <|
    .op (some 78) (.mov (.t 7)) <|
    .op (some 79) (.ia 1 (.t 77) (.t 78)) <|
    .op (some 80) (.ld false 1 (.t 79)) <|
    .op (some 81) (.mov (.t 8)) <|
    .op (some 82) (.ia 2 (.t 80) (.t 81)) <|
    .op (some 83) (.ld true 2 (.t 82)) <|
    .op (some 84) (.mov (.t 5)) <|
    .op (some 85) (.mov (.t 7)) <|
    .op (some 86) (.ia 1 (.t 84) (.t 85)) <|
    .op (some 87) (.ld false 1 (.t 86)) <|
    .op (some 88) (.mov (.t 8)) <|
    .op (some 89) (.bin .sub (.t 88) (.c (.i .i64 1))) <|
    .op (some 90) (.ia 2 (.t 87) (.t 89)) <|
    .op (some 91) (.ld true 2 (.t 90)) <|
    .op (some 92) (.eq false true [false, false] (.t 83) (.t 91)) <|
    .done) 93 (.t 92) <|
    .done) 94 (.t 93) <|
    .done))
  (.cnd (.t 94)
  (.seq (.reg false [] (.op (some 4) (.mov (.c (.b false))) <|
    .done))
  .ret)
  .skip)))
  (.reg false [] (.op (some 61) (.mov (.t 8)) <|
    .op (some 62) (.bin .add (.t 61) (.c (.i .i64 1))) <|
    .op (some 8) (.mov (.t 62)) <|
    .done))))
def fn8k1 : List Nat := [3, 5, 6, 7]
def fn8l1 : C := (.seq (.seq (.reg false [] (.op (some 25) (.mov (.t 7)) <|
    .op (some 26) (.mov (.t 5)) <|
    .op (some 27) (.len (.t 26)) <|
    .op (some 28) (.bin .lss (.t 25) (.t 27)) <|
    .done))
  (.cnd (.t 28)
  .skip
  (.exit 0)))
  (.seq (.blk 1 (.seq (.seq (.reg true [] (.op (some 31) (.mov (.t 5)) <|
    .op (some 32) (.mov (.t 7)) <|
    .op (some 33) (.ia 1 (.t 31) (.t 32)) <|
    .op (some 34) (.ld false 1 (.t 33)) <|
    .op (some 35) (.len (.t 34)) <|
    .op (some 36) (.bin .lss (.t 35) (.c (.i .i64 2))) <|
    .op (some 37) (.mov (.t 36)) <|
    .sc 37 false (.op (some 38) (.mov (.t 5)) <|
    .op (some 39) (.mov (.t 7)) <|
    .op (some 40) (.ia 1 (.t 38) (.t 39)) <|
    .op (some 41) (.ld false 1 (.t 40)) <|
    .op (some 42) (.call true false 24 [(.t 41)]) <|
    .op (some 43) (.mov (.t 6)) <|
    .op (some 44) (.mov (.t 6)) <|
    .op (some 45) (.len (.t 44)) <|
    .op (some 46) (.bin .sub (.t 45) (.c (.i .i64 1))) <|
    .op (some 47) (.mov (.t 7)) <|
    .op (some 48) (.bin .sub (.t 46) (.t 47)) <|
    .op (some 49) (.ia 1 (.t 43) (.t 48)) <|
    .op (some 50) (.ld false 1 (.t 49)) <|
    .op (some 51) (.call true false 25 [(.t 42), (.t 50)]) <|
    .op (some 52) (.un .not (.t 51)) <|
    .done) 53 (.t 52) <|
    .done))
  (.cnd (.t 53)
  (.seq (.reg false [] (.op (some 4) (.mov (.c (.b false))) <|
    .done))
  .ret)
  .skip))
  (.seq (.reg false [] (.op (some 8) (.mov (.c (.i .i64 0))) <|
    .done))
  (.blk 2 (.loop fn8k0 fn8l0)))))
  (.reg false [] (.op (some 29) (.mov (.t 7)) <|
    .op (some 30) (.bin .add (.t 29) (.c (.i .i64 1))) <|
    .op (some 7) (.mov (.t 30)) <|
    .done))))
/-- mapsheets/mapsheetslaw09.CutParts -/
def fn8b : C := (.seq (.reg false [] (.op (some 3) (.box 35 4 (.t 1)) <|
    .op (some 4) (.mov (.c (.b false))) <|
    .done))
  (.seq (.seq (.reg false [] (.op (some 9) (.mov (.t 0)) <|
    .op (some 10) (.len (.t 9)) <|
    .op (some 11) (.bin .gtr (.t 10) (.c (.i .i64 200))) <|
    .done))
  (.cnd (.t 11)
  (.seq (.reg false [] (.op (some 12) (.call false false 12 []) <|
    .op (some 4) (.mov (.t 12)) <|
    .done))
  .ret)
  .skip))
  (.seq (.reg true [] (.op (some 13) (.mov (.t 0)) <|
    .op (some 14) (.ld true 4 (.t 3)) <|
    .op (some 15) (.call true false 22 [(.t 13), (.t 14)]) <|
    .op (some 16) (.mov (.t 0)) <|
    .op (some 17) (.call true false 24 [(.t 16)]) <|
    .op (some 18) (.ld true 4 (.t 3)) <|
    .op (some 19) (.call true false 22 [(.t 17), (.t 18)]) <|
    .op (some 5) (.mov (.t 15)) <|
    .op (some 6) (.mov (.t 19)) <|
    .done))
  (.seq (.seq (.reg false [] (.op (some 20) (.mov (.t 5)) <|
    .op (some 21) (.len (.t 20)) <|
    .op (some 22) (.mov (.t 6)) <|
    .op (some 23) (.len (.t 22)) <|
    .op (some 24) (.bin .neq (.t 21) (.t 23)) <|
    .done))
  (.cnd (.t 24)
  (.seq (.reg false [] (.op (some 4) (.mov (.c (.b false))) <|
    .done))
  .ret)
  .skip))
  (.seq (.seq (.reg false [] (.op (some 7) (.mov (.c (.i .i64 0))) <|
    .done))
  (.blk 0 (.loop fn8k1 fn8l1)))
  (.seq (.reg false [] (.op (some 95) (.call false false 12 []) <|
    .op (some 4) (.mov (.t 95)) <|
    .done))
  .ret))))))
def fn8 : Fn := ⟨2, [.t 4], fn8b⟩
theorem rd8 : Read Try.prog 8 fn8 := Read.of Try.func8 (by decide +kernel) (by kernel_rfl) (by kernel_rfl)
/-- mapsheets/mapsheetslaw09.CutEdges -/
def fn9b : C := (.seq (.reg false [] (.op (some 4) (.box 23 2 (.t 0)) <|
    .op (some 5) (.box 23 2 (.t 1)) <|
    .op (some 6) (.box 35 4 (.t 2)) <|
    .op (some 8) (.mov (.c (.b false))) <|
    .done))
  (.seq (.seq (.reg false [] (.op (some 19) (.fa 0 (.t 4)) <|
    .op (some 20) (.ld false 1 (.t 19)) <|
    .op (some 21) (.mov (.t 3)) <|
    .op (some 22) (.bin .geq (.t 20) (.t 21)) <|
    .op (some 23) (.mov (.t 22)) <|
    .sc 23 false (.op (some 24) (.fa 0 (.t 5)) <|
    .op (some 25) (.ld false 1 (.t 24)) <|
    .op (some 26) (.mov (.t 3)) <|
    .op (some 27) (.bin .leq (.t 25) (.t 26)) <|
    .done) 28 (.t 27) <|
    .op (some 29) (.mov (.t 28)) <|
    .sc 29 false (.op (some 30) (.fa 0 (.t 6)) <|
    .op (some 31) (.ld false 1 (.t 30)) <|
    .op (some 32) (.mov (.t 3)) <|
    .op (some 33) (.bin .gtr (.t 31) (.t 32)) <|
    .done) 34 (.t 33) <|
    .op (some 35) (.mov (.t 34)) <|
    .sc 35 false (.op (some 36) (.fa 2 (.t 6)) <|
    .op (some 37) (.ld false 1 (.t 36)) <|
    .op (some 38) (.mov (.t 3)) <|
    .op (some 39) (.bin .lss (.t 37) (.t 38)) <|
    .done) 40 (.t 39) <|
    .op (some 41) (.mov (.t 40)) <|
    .sc 41 false (.op (some 42) (.fa 1 (.t 6)) <|
    .op (some 43) (.ld false 1 (.t 42)) <|
    .op (some 44) (.fa 3 (.t 6)) <|
    .op (some 45) (.ld false 1 (.t 44)) <|
    .op (some 46) (.bin .gtr (.t 43) (.t 45)) <|
    .done) 47 (.t 46) <|
    .op (some 48) (.mov (.t 47)) <|
    .sc 48 false (.op (some 49) (.ld true 2 (.t 4)) <|
    .op (some 50) (.ld true 2 (.t 5)) <|
    .op (some 51) (.mov (.t 3)) <|
    .op (some 52) (.fa 1 (.t 6)) <|
    .op (some 53) (.ld false 1 (.t 52)) <|
    .op (some 54) (.bld [(.i .i64 0), (.i .i64 0)] [(0, 1, (.t 51)), (1, 1, (.t 53))]) <|
    .op (some 55) (.mov (.t 3)) <|
    .op (some 56) (.fa 3 (.t 6)) <|
    .op (some 57) (.ld false 1 (.t 56)) <|
    .op (some 58) (.bld [(.i .i64 0), (.i .i64 0)] [(0, 1, (.t 55)), (1, 1, (.t 57))]) <|
    .op (some 59) (.call false false 26 [(.t 49), (.t 50), (.t 54), (.t 58)]) <|
    .op (some 60) (.bin .eql (.t 59) (.c (.i .i64 0))) <|
    .done) 61 (.t 60) <|
    .done))
  (.cnd (.t 61)
  (.seq (.reg false [] (.op (some 62) (.call false false 12 []) <|
    .op (some 8) (.mov (.t 62)) <|
    .done))
  .ret)
  .skip))
  (.seq (.reg true [(6, 9)] (.op (some 63) (.ld true 4 (.t 6)) <|
    .op (some 64) (.ld true 4 (.t 6)) <|
    .op (some 9) (.box 35 4 (.c (.ag [(.i .i64 0), (.i .i64 0), (.i .i64 0), (.i .i64 0)]))) <|
    .op (some 10) (.box 35 4 (.c (.ag [(.i .i64 0), (.i .i64 0), (.i .i64 0), (.i .i64 0)]))) <|
    .op none (.st true 4 (.t 9) (.t 63)) <|
    .op none (.st true 4 (.t 10) (.t 64)) <|
    .done))
  (.seq (.reg false [] (.op (some 65) (.mov (.t 3)) <|
    .op (some 66) (.mov (.t 3)) <|
    .op (some 67) (.fa 2 (.t 9)) <|
    .op none (.st false 1 (.t 67) (.t 65)) <|
    .op (some 68) (.fa 0 (.t 10)) <|
    .op none (.st false 1 (.t 68) (.t 66)) <|
    .done))
  (.seq (.seq (.reg false [] (.op (some 69) (.ld true 2 (.t 4)) <|
    .op (some 70) (.ld true 2 (.t 5)) <|
    .op (some 71) (.ld true 4 (.t 9)) <|
    .op (some 72) (.ld true 4 (.t 10)) <|
    .op (some 73) (.call false false 27 [(.t 69), (.t 70), (.t 71), (.t 72)]) <|
    .op (some 74) (.un .not (.t 73)) <|
    .done))
  (.cnd (.t 74)
  (.seq (.reg false [] (.op (some 8) (.mov (.c (.b false))) <|
    .done))
  .ret)
  .skip))
  (.seq (.reg true [] (.op (some 75) (.ld true 2 (.t 4)) <|
    .op (some 76) (.call true false 28 [(.t 75)]) <|
    .op (some 77) (.ld true 2 (.t 5)) <|
    .op (some 78) (.call true false 28 [(.t 77)]) <|
    .op (some 11) (.box 23 2 (.c (.ag [(.i .i64 0), (.i .i64 0)]))) <|
    .op (some 12) (.box 23 2 (.c (.ag [(.i .i64 0), (.i .i64 0)]))) <|
    .op none (.st true 2 (.t 11) (.t 76)) <|
    .op none (.st true 2 (.t 12) (.t 78)) <|
    .done))
  (.seq (.reg false [] (.op (some 80) (.ld true 2 (.t 11)) <|
    .op (some 81) (.ld true 2 (.t 12)) <|
    .op (some 82) (.fa 1 (.t 9)) <|
    .op (some 83) (.ld false 1 (.t 82)) <|
    .op (some 84) (.fa 0 (.t 9)) <|
    .op (some 85) (.ld false 1 (.t 84)) <|
    .op (some 86) (.fa 3 (.t 9)) <|
    .op (some 87) (.ld false 1 (.t 86)) <|
    .op (some 88) (.fa 2 (.t 9)) <|
    .op (some 89) (.ld false 1 (.t 88)) <|
    .op (some 90) (.bld [(.i .i64 0), (.i .i64 0), (.i .i64 0), (.i .i64 0)] [(0, 1, (.t 83)), (1, 1, (.t 85)), (2, 1, (.t 87)), (3, 1, (.t 89))]) <|
    .op (some 91) (.call false false 17 [(.t 80), (.t 81), (.t 90)]) <|
    .op (some 79) (.mov (.t 91)) <|
    .op (some 92) (.ext (.t 79) 0) <|
    .op (some 93) (.ext (.t 79) 1) <|
    .op (some 94) (.ext (.t 79) 2) <|
    .op (some 13) (.box 23 2 (.c (.ag [(.i .i64 0), (.i .i64 0)]))) <|
    .op (some 14) (.box 23 2 (.c (.ag [(.i .i64 0), (.i .i64 0)]))) <|
    .op none (.st false 2 (.t 13) (.t 92)) <|
    .op none (.st false 2 (.t 14) (.t 93)) <|
    .op (some 15) (.mov (.t 94)) <|
    .done))
  (.seq (.reg false [] (.op (some 96) (.ld true 2 (.t 11)) <|
    .op (some 97) (.ld true 2 (.t 12)) <|
    .op (some 98) (.fa 1 (.t 10)) <|
    .op (some 99) (.ld false 1 (.t 98)) <|
    .op (some 100) (.fa 0 (.t 10)) <|
    .op (some 101) (.ld false 1 (.t 100)) <|
    .op (some 102) (.fa 3 (.t 10)) <|
    .op (some 103) (.ld false 1 (.t 102)) <|
    .op (some 104) (.fa 2 (.t 10)) <|
    .op (some 105) (.ld false 1 (.t 104)) <|
    .op (some 106) (.bld [(.i .i64 0), (.i .i64 0), (.i .i64 0), (.i .i64 0)] [(0, 1, (.t 99)), (1, 1, (.t 101)), (2, 1, (.t 103)), (3, 1, (.t 105))]) <|
    .op (some 107) (.call false false 17 [(.t 96), (.t 97), (.t 106)]) <|
    .op (some 95) (.mov (.t 107)) <|
    .op (some 108) (.ext (.t 95) 0) <|
    .op (some 109) (.ext (.t 95) 1) <|
    .op (some 110) (.ext (.t 95) 2) <|
    .op (some 16) (.box 23 2 (.c (.ag [(.i .i64 0), (.i .i64 0)]))) <|
    .op (some 17) (.box 23 2 (.c (.ag [(.i .i64 0), (.i .i64 0)]))) <|
    .op none (.st false 2 (.t 16) (.t 108)) <|
    .op none (.st false 2 (.t 17) (.t 109)) <|
    .op (some 18) (.mov (.t 110)) <|
    .done))
  (.seq (.reg false [] (.op (some 111) (.mov (.t 15)) <|
    .op (some 112) (.mov (.t 111)) <|
    .sc 112 true (.op (some 113) (.mov (.t 18)) <|
    .done) 114 (.t 113) <|
    .op (some 115) (.mov (.t 114)) <|
    .sc 115 true (.op (some 116) (.ld true 2 (.t 14)) <|
    .op (some 117) (.ld true 2 (.t 16)) <|
    .op (some 118) (.eq false true [false, false] (.t 116) (.t 117)) <|
    .done) 119 (.t 118) <|
    .op (some 120) (.mov (.t 119)) <|
    .sc 120 true (.op (some 121) (.fa 1 (.t 14)) <|
    .op (some 122) (.ld false 1 (.t 121)) <|
    .op (some 123) (.mov (.t 3)) <|
    .op (some 124) (.bin .eql (.t 122) (.t 123)) <|
    .done) 125 (.t 124) <|
    .op (some 126) (.mov (.t 125)) <|
    .sc 126 true (.op (some 127) (.call false false 12 []) <|
    .done) 128 (.t 127) <|
    .op (some 8) (.mov (.t 128)) <|
    .done))
  .ret)))))))))
def fn9 : Fn := ⟨4, [.t 8], fn9b⟩
theorem rd9 : Read Try.prog 9 fn9 := Read.of Try.func9 (by decide +kernel) (by kernel_rfl) (by kernel_rfl)
def fn10k0 : List Nat := [4, 5, 6, 7, 8, 37, 38, 39]
def fn10l0 : C := (.seq (.reg false [] (.op (some 40) (.bin .lss (.t 39) (.t 38)) <|
    .done))
  (.seq (.cnd (.t 40)
  .skip
  (.exit 1))
  (.seq (.blk 2 (.seq (.reg false [] (.op (some 41) (.ia 2 (.t 37) (.t 39)) <|
    .op (some 42) (.ld true 2 (.t 41)) <|
    .op (some 11) (.box 23 2 (.c (.ag [(.i .i64 0), (.i .i64 0)]))) <|
    .op none (.st false 2 (.t 11) (.t 42)) <|
    .done))
  (.seq (.reg false [] (.op (some 43) (.ld true 2 (.t 6)) <|
    .op (some 44) (.ld true 2 (.t 7)) <|
    .op (some 45) (.ld true 2 (.t 11)) <|
    .op (some 46) (.call false false 31 [(.t 43), (.t 44), (.t 45)]) <|
    .done))
  (.cnd (.t 46)
  (.seq (.reg false [] (.op (some 47) (.ld true 2 (.t 11)) <|
    .op none (.st false 2 (.t 8) (.t 47)) <|
    .op (some 9) (.mov (.c (.i .i64 0))) <|
    .done))
  .ret)
  .skip))))
  (.reg false [] (.op (some 48) (.bin .add (.t 39) (.c (.i .i64 1))) <|
    .op (some 39) (.mov (.t 48)) <|
    .done)))))
def fn10k1 : List Nat := [4, 5, 6, 7, 8, 51, 52, 53]
def fn10l1 : C := (.seq (.reg false [] (.op (some 54) (.bin .lss (.t 53) (.t 52)) <|
    .done))
  (.seq (.cnd (.t 54)
  .skip
  (.exit 3))
  (.seq (.blk 4 (.seq (.reg false [] (.op (some 55) (.ia 2 (.t 51) (.t 53)) <|
    .op (some 56) (.ld true 2 (.t 55)) <|
    .op (some 13) (.box 23 2 (.c (.ag [(.i .i64 0), (.i .i64 0)]))) <|
    .op none (.st false 2 (.t 13) (.t 56)) <|
    .done))
  (.seq (.reg false [] (.op (some 57) (.ld true 2 (.t 4)) <|
    .op (some 58) (.ld true 2 (.t 5)) <|
    .op (some 59) (.ld true 2 (.t 13)) <|
    .op (some 60) (.call false false 31 [(.t 57), (.t 58), (.t 59)]) <|
    .done))
  (.cnd (.t 60)
  (.seq (.reg false [] (.op (some 61) (.ld true 2 (.t 13)) <|
    .op none (.st false 2 (.t 8) (.t 61)) <|
    .op (some 9) (.mov (.c (.i .i64 0))) <|
    .done))
  .ret)
  .skip))))
  (.reg false [] (.op (some 62) (.bin .add (.t 53) (.c (.i .i64 1))) <|
    .op (some 53) (.mov (.t 62)) <|
    .done)))))
/-- mapsheets/cut.Cross -/
def fn10b : C := (.seq (.reg false [] (.op (some 4) (.box 23 2 (.t 0)) <|
    .op (some 5) (.box 23 2 (.t 1)) <|
    .op (some 6) (.box 23 2 (.t 2)) <|
    .op (some 7) (.box 23 2 (.t 3)) <|
    .op (some 8) (.box 23 2 (.c (.ag [(.i .i64 0), (.i .i64 0)]))) <|
    .op (some 9) (.mov (.c (.i .i64 0))) <|
    .done))
  (.seq (.seq (.reg false [] (.op (some 16) (.ld true 2 (.t 4)) <|
    .op (some 17) (.ld true 2 (.t 5)) <|
    .op (some 18) (.ld true 2 (.t 6)) <|
    .op (some 19) (.ld true 2 (.t 7)) <|
    .op (some 20) (.bsl false 23 2 [(.t 16), (.t 17), (.t 18), (.t 19)]) <|
    .op (some 21) (.call false false 29 [(.t 20)]) <|
    .op (some 22) (.un .not (.t 21)) <|
    .done))
  (.cnd (.t 22)
  (.seq (.reg false [] (.op (some 23) (.bld [(.i .i64 0), (.i .i64 0)] []) <|
    .op none (.st false 2 (.t 8) (.t 23)) <|
    .op (some 9) (.mov (.c (.i .i64 2))) <|
    .done))
  .ret)
  .skip))
  (.seq (.seq (.reg false [] (.op (some 24) (.ld true 2 (.t 4)) <|
    .op (some 25) (.ld true 2 (.t 5)) <|
    .op (some 26) (.ld true 2 (.t 6)) <|
    .op (some 27) (.ld true 2 (.t 7)) <|
    .op (some 28) (.call false false 30 [(.t 24), (.t 25), (.t 26), (.t 27)]) <|
    .done))
  (.blk 0 (.seq (.reg false [] (.op (some 31) (.bin .eql (.t 28) (.c (.i .i64 0))) <|
    .op (some 30) (.mov (.t 31)) <|
    .done))
  (.cnd (.t 30)
  (.seq (.reg false [] (.op (some 32) (.bld [(.i .i64 0), (.i .i64 0)] []) <|
    .op none (.st false 2 (.t 8) (.t 32)) <|
    .op (some 9) (.mov (.c (.i .i64 7))) <|
    .done))
  .ret)
  (.seq (.reg false [] (.op (some 34) (.bin .eql (.t 28) (.c (.i .i64 1))) <|
    .op (some 33) (.mov (.t 34)) <|
    .done))
  (.cnd (.t 33)
  .skip
  (.seq (.reg false [] (.op (some 29) (.bld [(.i .i64 0), (.i .i64 0)] []) <|
    .op none (.st false 2 (.t 8) (.t 29)) <|
    .op (some 9) (.mov (.c (.i .i64 1))) <|
    .done))
  .ret)))))))
  (.seq (.seq (.reg false [] (.op (some 35) (.ld true 2 (.t 4)) <|
    .op (some 36) (.ld true 2 (.t 5)) <|
    .op (some 37) (.bsl false 23 2 [(.t 35), (.t 36)]) <|
    .op (some 38) (.len (.t 37)) <|
    .op (some 39) (.mov (.c (.i .i64 0))) <|
    .done))
  (.blk 1 (.loop fn10k0 fn10l0)))
  (.seq (.seq (.reg false [] (.op (some 49) (.ld true 2 (.t 6)) <|
    .op (some 50) (.ld true 2 (.t 7)) <|
    .op (some 51) (.bsl false 23 2 [(.t 49), (.t 50)]) <|
    .op (some 52) (.len (.t 51)) <|
    .op (some 53) (.mov (.c (.i .i64 0))) <|
    .done))
  (.blk 3 (.loop fn10k1 fn10l1)))
  (.seq (.reg false [] (.op (some 63) (.fa 0 (.t 6)) <|
    .op (some 64) (.ld false 1 (.t 63)) <|
    .op (some 65) (.fa 0 (.t 4)) <|
    .op (some 66) (.ld false 1 (.t 65)) <|
    .op (some 67) (.bin .sub (.t 64) (.t 66)) <|
    .op (some 68) (.fa 1 (.t 7)) <|
    .op (some 69) (.ld false 1 (.t 68)) <|
    .op (some 70) (.fa 1 (.t 6)) <|
    .op (some 71) (.ld false 1 (.t 70)) <|
    .op (some 72) (.bin .sub (.t 69) (.t 71)) <|
    .op (some 73) (.bin .mul (.t 67) (.t 72)) <|
    .op (some 74) (.fa 1 (.t 6)) <|
    .op (some 75) (.ld false 1 (.t 74)) <|
    .op (some 76) (.fa 1 (.t 4)) <|
    .op (some 77) (.ld false 1 (.t 76)) <|
    .op (some 78) (.bin .sub (.t 75) (.t 77)) <|
    .op (some 79) (.fa 0 (.t 7)) <|
    .op (some 80) (.ld false 1 (.t 79)) <|
    .op (some 81) (.fa 0 (.t 6)) <|
    .op (some 82) (.ld false 1 (.t 81)) <|
    .op (some 83) (.bin .sub (.t 80) (.t 82)) <|
    .op (some 84) (.bin .mul (.t 78) (.t 83)) <|
    .op (some 85) (.bin .sub (.t 73) (.t 84)) <|
    .op (some 14) (.mov (.t 85)) <|
    .done))
  (.seq (.reg false [] (.op (some 86) (.fa 0 (.t 5)) <|
    .op (some 87) (.ld false 1 (.t 86)) <|
    .op (some 88) (.fa 0 (.t 4)) <|
    .op (some 89) (.ld false 1 (.t 88)) <|
    .op (some 90) (.bin .sub (.t 87) (.t 89)) <|
    .op (some 91) (.fa 1 (.t 7)) <|
    .op (some 92) (.ld false 1 (.t 91)) <|
    .op (some 93) (.fa 1 (.t 6)) <|
    .op (some 94) (.ld false 1 (.t 93)) <|
    .op (some 95) (.bin .sub (.t 92) (.t 94)) <|
    .op (some 96) (.bin .mul (.t 90) (.t 95)) <|
    .op (some 97) (.fa 1 (.t 5)) <|
    .op (some 98) (.ld false 1 (.t 97)) <|
    .op (some 99) (.fa 1 (.t 4)) <|
    .op (some 100) (.ld false 1 (.t 99)) <|
    .op (some 101) (.bin .sub (.t 98) (.t 100)) <|
    .op (some 102) (.fa 0 (.t 7)) <|
    .op (some 103) (.ld false 1 (.t 102)) <|
    .op (some 104) (.fa 0 (.t 6)) <|
    .op (some 105) (.ld false 1 (.t 104)) <|
    .op (some 106) (.bin .sub (.t 103) (.t 105)) <|
    .op (some 107) (.bin .mul (.t 101) (.t 106)) <|
    .op (some 108) (.bin .sub (.t 96) (.t 107)) <|
    .op (some 15) (.mov (.t 108)) <|
    .done))
  (.seq (.seq (.reg false [] (.op (some 109) (.mov (.t 15)) <|
    .op (some 110) (.bin .lss (.t 109) (.c (.i .i64 0))) <|
    .done))
  (.cnd (.t 110)
  (.reg false [] (.op (some 111) (.mov (.t 14)) <|
    .op (some 112) (.un .neg (.t 111)) <|
    .op (some 113) (.mov (.t 15)) <|
    .op (some 114) (.un .neg (.t 113)) <|
    .op (some 14) (.mov (.t 112)) <|
    .op (some 15) (.mov (.t 114)) <|
    .done))
  .skip))
  (.seq (.reg true [] (.op (some 115) (.fa 0 (.t 4)) <|
    .op (some 116) (.ld false 1 (.t 115)) <|
    .op (some 117) (.fa 0 (.t 5)) <|
    .op (some 118) (.ld false 1 (.t 117)) <|
    .op (some 119) (.fa 0 (.t 4)) <|
    .op (some 120) (.ld false 1 (.t 119)) <|
    .op (some 121) (.bin .sub (.t 118) (.t 120)) <|
    .op (some 122) (.mov (.t 14)) <|
    .op (some 123) (.mov (.t 15)) <|
    .op (some 124) (.call true false 32 [(.t 121), (.t 122), (.t 123)]) <|
    .op (some 125) (.bin .add (.t 116) (.t 124)) <|
    .op (some 126) (.fa 1 (.t 4)) <|
    .op (some 127) (.ld false 1 (.t 126)) <|
    .op (some 128) (.fa 1 (.t 5)) <|
    .op (some 129) (.ld false 1 (.t 128)) <|
    .op (some 130) (.fa 1 (.t 4)) <|
    .op (some 131) (.ld false 1 (.t 130)) <|
    .op (some 132) (.bin .sub (.t 129) (.t 131)) <|
    .op (some 133) (.mov (.t 14)) <|
    .op (some 134) (.mov (.t 15)) <|
    .op (some 135) (.call true false 32 [(.t 132), (.t 133), (.t 134)]) <|
    .op (some 136) (.bin .add (.t 127) (.t 135)) <|
    .op (some 137) (.bld [(.i .i64 0), (.i .i64 0)] [(0, 1, (.t 125)), (1, 1, (.t 136))]) <|
    .op none (.st true 2 (.t 8) (.t 137)) <|
    .op (some 9) (.mov (.c (.i .i64 0))) <|
    .done))
  .ret)))))))))
def fn10 : Fn := ⟨4, [.c 8 true 2, .t 9], fn10b⟩
theorem rd10 : Read Try.prog 10 fn10 := Read.of Try.func10 (by decide +kernel) (by kernel_rfl) (by kernel_rfl)
/-- mapsheets/mapsheetsref09.Cross -/
def fn11b : C := (.seq (.reg false [] (.op (some 4) (.box 23 2 (.t 0)) <|
    .op (some 5) (.box 23 2 (.t 1)) <|
    .op (some 6) (.box 23 2 (.t 2)) <|
    .op (some 7) (.box 23 2 (.t 3)) <|
    .op (some 8) (.box 23 2 (.c (.ag [(.i .i64 0), (.i .i64 0)]))) <|
    .op (some 9) (.mov (.c (.i .i64 0))) <|
    .done))
  (.seq (.seq (.reg false [] (.op (some 12) (.ld true 2 (.t 4)) <|
    .op (some 13) (.ld true 2 (.t 5)) <|
    .op (some 14) (.ld true 2 (.t 6)) <|
    .op (some 15) (.ld true 2 (.t 7)) <|
    .op (some 16) (.bsl false 23 2 [(.t 12), (.t 13), (.t 14), (.t 15)]) <|
    .op (some 17) (.call false false 20 [(.t 16)]) <|
    .op (some 18) (.un .not (.t 17)) <|
    .done))
  (.cnd (.t 18)
  (.seq (.reg false [] (.op (some 19) (.bld [(.i .i64 0), (.i .i64 0)] []) <|
    .op none (.st false 2 (.t 8) (.t 19)) <|
    .op (some 9) (.mov (.c (.i .i64 2))) <|
    .done))
  .ret)
  .skip))
  (.seq (.seq (.reg false [] (.op (some 20) (.ld true 2 (.t 4)) <|
    .op (some 21) (.ld true 2 (.t 5)) <|
    .op (some 22) (.ld true 2 (.t 6)) <|
    .op (some 23) (.ld true 2 (.t 7)) <|
    .op (some 24) (.call false false 26 [(.t 20), (.t 21), (.t 22), (.t 23)]) <|
    .done))
  (.blk 0 (.seq (.reg false [] (.op (some 26) (.bin .eql (.t 24) (.c (.i .i64 0))) <|
    .op (some 25) (.mov (.t 26)) <|
    .done))
  (.cnd (.t 25)
  (.seq (.reg false [] (.op (some 27) (.bld [(.i .i64 0), (.i .i64 0)] []) <|
    .op none (.st false 2 (.t 8) (.t 27)) <|
    .op (some 9) (.mov (.c (.i .i64 7))) <|
    .done))
  .ret)
  (.seq (.reg false [] (.op (some 29) (.bin .eql (.t 24) (.c (.i .i64 2))) <|
    .op (some 28) (.mov (.t 29)) <|
    .done))
  (.cnd (.t 28)
  (.seq (.reg false [] (.op (some 30) (.bld [(.i .i64 0), (.i .i64 0)] []) <|
    .op none (.st false 2 (.t 8) (.t 30)) <|
    .op (some 9) (.mov (.c (.i .i64 1))) <|
    .done))
  .ret)
  .skip))))))
  (.seq (.blk 1 (.seq (.reg false [] (.op (some 32) (.ld true 2 (.t 6)) <|
    .op (some 33) (.ld true 2 (.t 7)) <|
    .op (some 34) (.ld true 2 (.t 4)) <|
    .op (some 35) (.call false false 33 [(.t 32), (.t 33), (.t 34)]) <|
    .op (some 31) (.mov (.t 35)) <|
    .done))
  (.cnd (.t 31)
  (.seq (.reg false [] (.op (some 36) (.ld true 2 (.t 4)) <|
    .op none (.st false 2 (.t 8) (.t 36)) <|
    .op (some 9) (.mov (.c (.i .i64 0))) <|
    .done))
  .ret)
  (.seq (.reg false [] (.op (some 38) (.ld true 2 (.t 6)) <|
    .op (some 39) (.ld true 2 (.t 7)) <|
    .op (some 40) (.ld true 2 (.t 5)) <|
    .op (some 41) (.call false false 33 [(.t 38), (.t 39), (.t 40)]) <|
    .op (some 37) (.mov (.t 41)) <|
    .done))
  (.cnd (.t 37)
  (.seq (.reg false [] (.op (some 42) (.ld true 2 (.t 5)) <|
    .op none (.st false 2 (.t 8) (.t 42)) <|
    .op (some 9) (.mov (.c (.i .i64 0))) <|
    .done))
  .ret)
  (.seq (.reg false [] (.op (some 44) (.ld true 2 (.t 4)) <|
    .op (some 45) (.ld true 2 (.t 5)) <|
    .op (some 46) (.ld true 2 (.t 6)) <|
    .op (some 47) (.call false false 33 [(.t 44), (.t 45), (.t 46)]) <|
    .op (some 43) (.mov (.t 47)) <|
    .done))
  (.cnd (.t 43)
  (.seq (.reg false [] (.op (some 48) (.ld true 2 (.t 6)) <|
    .op none (.st false 2 (.t 8) (.t 48)) <|
    .op (some 9) (.mov (.c (.i .i64 0))) <|
    .done))
  .ret)
  (.seq (.reg false [] (.op (some 50) (.ld true 2 (.t 4)) <|
    .op (some 51) (.ld true 2 (.t 5)) <|
    .op (some 52) (.ld true 2 (.t 7)) <|
    .op (some 53) (.call false false 33 [(.t 50), (.t 51), (.t 52)]) <|
    .op (some 49) (.mov (.t 53)) <|
    .done))
  (.cnd (.t 49)
  (.seq (.reg false [] (.op (some 54) (.ld true 2 (.t 7)) <|
    .op none (.st false 2 (.t 8) (.t 54)) <|
    .op (some 9) (.mov (.c (.i .i64 0))) <|
    .done))
  .ret)
  .skip)))))))))
  (.seq (.reg true [] (.op (some 55) (.ld true 2 (.t 4)) <|
    .op (some 56) (.ld true 2 (.t 6)) <|
    .op (some 57) (.ld true 2 (.t 6)) <|
    .op (some 58) (.ld true 2 (.t 7)) <|
    .op (some 59) (.call true false 34 [(.t 55), (.t 56), (.t 57), (.t 58)]) <|
    .op (some 60) (.ld true 2 (.t 4)) <|
    .op (some 61) (.ld true 2 (.t 5)) <|
    .op (some 62) (.ld true 2 (.t 6)) <|
    .op (some 63) (.ld true 2 (.t 7)) <|
    .op (some 64) (.call true false 34 [(.t 60), (.t 61), (.t 62), (.t 63)]) <|
    .op (some 10) (.mov (.t 59)) <|
    .op (some 11) (.mov (.t 64)) <|
    .done))
  (.seq (.reg true [] (.op (some 65) (.fa 0 (.t 4)) <|
    .op (some 66) (.ld false 1 (.t 65)) <|
    .op (some 67) (.fa 0 (.t 5)) <|
    .op (some 68) (.ld false 1 (.t 67)) <|
    .op (some 69) (.fa 0 (.t 4)) <|
    .op (some 70) (.ld false 1 (.t 69)) <|
    .op (some 71) (.bin .sub (.t 68) (.t 70)) <|
    .op (some 72) (.mov (.t 10)) <|
    .op (some 73) (.mov (.t 11)) <|
    .op (some 74) (.call true false 35 [(.t 66), (.t 71), (.t 72), (.t 73)]) <|
    .op (some 75) (.fa 1 (.t 4)) <|
    .op (some 76) (.ld false 1 (.t 75)) <|
    .op (some 77) (.fa 1 (.t 5)) <|
    .op (some 78) (.ld false 1 (.t 77)) <|
    .op (some 79) (.fa 1 (.t 4)) <|
    .op (some 80) (.ld false 1 (.t 79)) <|
    .op (some 81) (.bin .sub (.t 78) (.t 80)) <|
    .op (some 82) (.mov (.t 10)) <|
    .op (some 83) (.mov (.t 11)) <|
    .op (some 84) (.call true false 35 [(.t 76), (.t 81), (.t 82), (.t 83)]) <|
    .op (some 85) (.bld [(.i .i64 0), (.i .i64 0)] [(0, 1, (.t 74)), (1, 1, (.t 84))]) <|
    .op none (.st true 2 (.t 8) (.t 85)) <|
    .op (some 9) (.mov (.c (.i .i64 0))) <|
    .done))
  .ret))))))
def fn11 : Fn := ⟨4, [.c 8 true 2, .t 9], fn11b⟩
theorem rd11 : Read Try.prog 11 fn11 := Read.of Try.func11 (by decide +kernel) (by kernel_rfl) (by kernel_rfl)
/-- mapsheets/mapsheetslaw09.awake -/
def fn12b : C := (.seq (.reg false [] (.op (some 0) (.mov (.c (.b false))) <|
    .done))
  (.seq (.reg false [] (.op (some 12) (.bld [(.i .i64 0), (.i .i64 0)] []) <|
    .op (some 13) (.bld [(.i .i64 0), (.i .i64 0)] [(0, 1, (.c (.i .i64 3))), (1, 1, (.c (.i .i64 3)))]) <|
    .op (some 14) (.bld [(.i .i64 0), (.i .i64 0)] [(1, 1, (.c (.i .i64 1)))]) <|
    .op (some 15) (.bld [(.i .i64 0), (.i .i64 0)] [(0, 1, (.c (.i .i64 1)))]) <|
    .op (some 16) (.call false false 10 [(.t 12), (.t 13), (.t 14), (.t 15)]) <|
    .op (some 11) (.mov (.t 16)) <|
    .op (some 17) (.ext (.t 11) 0) <|
    .op (some 18) (.ext (.t 11) 1) <|
    .op (some 1) (.box 23 2 (.c (.ag [(.i .i64 0), (.i .i64 0)]))) <|
    .op none (.st false 2 (.t 1) (.t 17)) <|
    .op (some 2) (.mov (.t 18)) <|
    .done))
  (.seq (.reg false [] (.op (some 20) (.bld [(.i .i64 0), (.i .i64 0)] []) <|
    .op (some 21) (.bld [(.i .i64 0), (.i .i64 0)] [(0, 1, (.c (.i .i64 4)))]) <|
    .op (some 22) (.bld [(.i .i64 0), (.i .i64 0)] [(0, 1, (.c (.i .i64 2)))]) <|
    .op (some 23) (.bld [(.i .i64 0), (.i .i64 0)] [(0, 1, (.c (.i .i64 6)))]) <|
    .op (some 24) (.call false false 10 [(.t 20), (.t 21), (.t 22), (.t 23)]) <|
    .op (some 19) (.mov (.t 24)) <|
    .op (some 25) (.ext (.t 19) 0) <|
    .op (some 26) (.ext (.t 19) 1) <|
    .op (some 3) (.box 23 2 (.c (.ag [(.i .i64 0), (.i .i64 0)]))) <|
    .op none (.st false 2 (.t 3) (.t 25)) <|
    .op (some 4) (.mov (.t 26)) <|
    .done))
  (.seq (.reg false [] (.op (some 28) (.bld [(.i .i64 0), (.i .i64 0)] []) <|
    .op (some 29) (.bld [(.i .i64 0), (.i .i64 0)] [(0, 1, (.c (.i .i64 2))), (1, 1, (.c (.i .i64 3)))]) <|
    .op (some 30) (.call false false 13 [(.t 28), (.t 29), (.c (.i .i64 1))]) <|
    .op (some 27) (.mov (.t 30)) <|
    .op (some 31) (.ext (.t 27) 0) <|
    .op (some 32) (.ext (.t 27) 1) <|
    .op (some 5) (.mov (.t 31)) <|
    .op (some 6) (.mov (.t 32)) <|
    .done))
  (.seq (.reg false [] (.op (some 34) (.bld [(.i .i64 0), (.i .i64 0)] [(0, 1, (.c (.i .i64 (-4))))]) <|
    .op (some 35) (.bld [(.i .i64 0), (.i .i64 0)] [(0, 1, (.c (.i .i64 8))), (1, 1, (.c (.i .i64 6)))]) <|
    .op (some 36) (.bld [(.i .i64 0), (.i .i64 0), (.i .i64 0), (.i .i64 0)] [(2, 1, (.c (.i .i64 4))), (3, 1, (.c (.i .i64 4)))]) <|
    .op (some 37) (.call false false 17 [(.t 34), (.t 35), (.t 36)]) <|
    .op (some 33) (.mov (.t 37)) <|
    .op (some 38) (.ext (.t 33) 0) <|
    .op (some 39) (.ext (.t 33) 1) <|
    .op (some 40) (.ext (.t 33) 2) <|
    .op (some 7) (.box 23 2 (.c (.ag [(.i .i64 0), (.i .i64 0)]))) <|
    .op (some 8) (.box 23 2 (.c (.ag [(.i .i64 0), (.i .i64 0)]))) <|
    .op none (.st false 2 (.t 7) (.t 38)) <|
    .op none (.st false 2 (.t 8) (.t 39)) <|
    .op (some 9) (.mov (.t 40)) <|
    .done))
  (.seq (.reg false [] (.op (some 41) (.bld [(.i .i64 0), (.i .i64 0)] [(0, 1, (.c (.i .i64 (-2)))), (1, 1, (.c (.i .i64 1)))]) <|
    .op (some 42) (.bld [(.i .i64 0), (.i .i64 0)] [(0, 1, (.c (.i .i64 2))), (1, 1, (.c (.i .i64 1)))]) <|
    .op (some 43) (.bld [(.i .i64 0), (.i .i64 0)] [(0, 1, (.c (.i .i64 2))), (1, 1, (.c (.i .i64 9)))]) <|
    .op (some 44) (.bld [(.i .i64 0), (.i .i64 0)] [(0, 1, (.c (.i .i64 3))), (1, 1, (.c (.i .i64 9)))]) <|
    .op (some 45) (.bld [(.i .i64 0), (.i .i64 0)] [(0, 1, (.c (.i .i64 3))), (1, 1, (.c (.i .i64 1)))]) <|
    .op (some 46) (.bsl false 23 2 [(.t 41), (.t 42), (.t 43), (.t 44), (.t 45)]) <|
    .op (some 47) (.bld [(.i .i64 0), (.i .i64 0), (.i .i64 0), (.i .i64 0)] [(2, 1, (.c (.i .i64 4))), (3, 1, (.c (.i .i64 4)))]) <|
    .op (some 48) (.call false false 22 [(.t 46), (.t 47)]) <|
    .op (some 10) (.mov (.t 48)) <|
    .done))
  (.seq (.seq (.reg false [] (.op (some 49) (.ld true 2 (.t 1)) <|
    .op (some 50) (.bld [(.i .i64 0), (.i .i64 0)] [(0, 1, (.c (.i .i64 1))), (1, 1, (.c (.i .i64 1)))]) <|
    .op (some 51) (.eq true true [false, false] (.t 49) (.t 50)) <|
    .op (some 52) (.mov (.t 51)) <|
    .sc 52 false (.op (some 53) (.mov (.t 2)) <|
    .op (some 54) (.bin .neq (.t 53) (.c (.i .i64 0))) <|
    .done) 55 (.t 54) <|
    .op (some 56) (.mov (.t 55)) <|
    .sc 56 false (.op (some 57) (.mov (.t 4)) <|
    .op (some 58) (.bin .neq (.t 57) (.c (.i .i64 1))) <|
    .done) 59 (.t 58) <|
    .op (some 60) (.mov (.t 59)) <|
    .sc 60 false (.op (some 61) (.mov (.t 5)) <|
    .op (some 62) (.bin .neq (.t 61) (.c (.i .i64 2))) <|
    .done) 63 (.t 62) <|
    .op (some 64) (.mov (.t 63)) <|
    .sc 64 false (.op (some 65) (.mov (.t 6)) <|
    .op (some 66) (.bin .neq (.t 65) (.c (.i .i64 0))) <|
    .done) 67 (.t 66) <|
    .op (some 68) (.mov (.t 67)) <|
    .sc 68 false (.op (some 69) (.ld true 2 (.t 7)) <|
    .op (some 70) (.bld [(.i .i64 0), (.i .i64 0)] [(1, 1, (.c (.i .i64 2)))]) <|
    .op (some 71) (.eq true true [false, false] (.t 69) (.t 70)) <|
    .done) 72 (.t 71) <|
    .op (some 73) (.mov (.t 72)) <|
    .sc 73 false (.op (some 74) (.ld true 2 (.t 8)) <|
    .op (some 75) (.bld [(.i .i64 0), (.i .i64 0)] [(0, 1, (.c (.i .i64 4))), (1, 1, (.c (.i .i64 4)))]) <|
    .op (some 76) (.eq true true [false, false] (.t 74) (.t 75)) <|
    .done) 77 (.t 76) <|
    .op (some 78) (.mov (.t 77)) <|
    .sc 78 false (.op (some 79) (.mov (.t 9)) <|
    .op (some 80) (.un .not (.t 79)) <|
    .done) 81 (.t 80) <|
    .done))
  (.cnd (.t 81)
  (.seq (.reg false [] (.op (some 0) (.mov (.c (.b false))) <|
    .done))
  .ret)
  .skip))
  (.seq (.reg false [] (.op (some 82) (.mov (.t 10)) <|
    .op (some 83) (.bld [(.i .i64 0), (.i .i64 0)] [(1, 1, (.c (.i .i64 1)))]) <|
    .op (some 84) (.bld [(.i .i64 0), (.i .i64 0)] [(0, 1, (.c (.i .i64 2))), (1, 1, (.c (.i .i64 1)))]) <|
    .op (some 85) (.bld [(.i .i64 0), (.i .i64 0)] [(0, 1, (.c (.i .i64 2))), (1, 1, (.c (.i .i64 4)))]) <|
    .op (some 86) (.bsl false 23 2 [(.t 83), (.t 84), (.t 85)]) <|
    .op (some 87) (.bld [(.i .i64 0), (.i .i64 0)] [(0, 1, (.c (.i .i64 3))), (1, 1, (.c (.i .i64 4)))]) <|
    .op (some 88) (.bld [(.i .i64 0), (.i .i64 0)] [(0, 1, (.c (.i .i64 3))), (1, 1, (.c (.i .i64 1)))]) <|
    .op (some 89) (.bsl false 23 2 [(.t 87), (.t 88)]) <|
    .op (some 90) (.bsl false 41 1 [(.t 86), (.t 89)]) <|
    .op (some 91) (.call false false 21 [(.t 82), (.t 90)]) <|
    .op (some 0) (.mov (.t 91)) <|
    .done))
  .ret))))))))
def fn12 : Fn := ⟨0, [.t 0], fn12b⟩
theorem rd12 : Read Try.prog 12 fn12 := Read.of Try.func12 (by decide +kernel) (by kernel_rfl) (by kernel_rfl)
/-- mapsheets/cut.AtX -/
def fn13b : C := (.seq (.reg false [] (.op (some 3) (.box 23 2 (.t 0)) <|
    .op (some 4) (.box 23 2 (.t 1)) <|
    .op (some 6) (.mov (.c (.i .i64 0))) <|
    .op (some 7) (.mov (.c (.i .i64 0))) <|
    .done))
  (.seq (.blk 0 (.seq (.reg false [] (.op (some 11) (.ld true 2 (.t 3)) <|
    .op (some 12) (.ld true 2 (.t 4)) <|
    .op (some 13) (.bsl false 23 2 [(.t 11), (.t 12)]) <|
    .op (some 14) (.call false false 29 [(.t 13)]) <|
    .op (some 15) (.un .not (.t 14)) <|
    .op (some 10) (.mov (.t 15)) <|
    .done))
  (.cnd (.t 10)
  (.seq (.reg false [] (.op (some 6) (.mov (.c (.i .i64 0))) <|
    .op (some 7) (.mov (.c (.i .i64 2))) <|
    .done))
  .ret)
  (.seq (.reg false [] (.op (some 17) (.fa 0 (.t 3)) <|
    .op (some 18) (.ld false 1 (.t 17)) <|
    .op (some 19) (.fa 0 (.t 4)) <|
    .op (some 20) (.ld false 1 (.t 19)) <|
    .op (some 21) (.bin .eql (.t 18) (.t 20)) <|
    .op (some 16) (.mov (.t 21)) <|
    .done))
  (.cnd (.t 16)
  (.seq (.reg false [] (.op (some 6) (.mov (.c (.i .i64 0))) <|
    .op (some 7) (.mov (.c (.i .i64 1))) <|
    .done))
  .ret)
  (.seq (.reg false [] (.op (some 23) (.mov (.t 2)) <|
    .op (some 24) (.fa 0 (.t 3)) <|
    .op (some 25) (.ld false 1 (.t 24)) <|
    .op (some 26) (.fa 0 (.t 4)) <|
    .op (some 27) (.ld false 1 (.t 26)) <|
    .op (some 28) (.mm false (.t 25) (.t 27)) <|
    .op (some 29) (.bin .lss (.t 23) (.t 28)) <|
    .op (some 30) (.mov (.t 29)) <|
    .sc 30 false (.op (some 31) (.mov (.t 2)) <|
    .op (some 32) (.fa 0 (.t 3)) <|
    .op (some 33) (.ld false 1 (.t 32)) <|
    .op (some 34) (.fa 0 (.t 4)) <|
    .op (some 35) (.ld false 1 (.t 34)) <|
    .op (some 36) (.mm true (.t 33) (.t 35)) <|
    .op (some 37) (.bin .gtr (.t 31) (.t 36)) <|
    .done) 38 (.t 37) <|
    .op (some 22) (.mov (.t 38)) <|
    .done))
  (.cnd (.t 22)
  (.seq (.reg false [] (.op (some 6) (.mov (.c (.i .i64 0))) <|
    .op (some 7) (.mov (.c (.i .i64 7))) <|
    .done))
  .ret)
  .skip)))))))
  (.seq (.reg false [] (.op (some 40) (.mov (.t 2)) <|
    .op (some 41) (.fa 0 (.t 3)) <|
    .op (some 42) (.ld false 1 (.t 41)) <|
    .op (some 43) (.bin .sub (.t 40) (.t 42)) <|
    .op (some 44) (.fa 1 (.t 4)) <|
    .op (some 45) (.ld false 1 (.t 44)) <|
    .op (some 46) (.fa 1 (.t 3)) <|
    .op (some 47) (.ld false 1 (.t 46)) <|
    .op (some 48) (.bin .sub (.t 45) (.t 47)) <|
    .op (some 49) (.bin .mul (.t 43) (.t 48)) <|
    .op (some 50) (.fa 0 (.t 4)) <|
    .op (some 51) (.ld false 1 (.t 50)) <|
    .op (some 52) (.fa 0 (.t 3)) <|
    .op (some 53) (.ld false 1 (.t 52)) <|
    .op (some 54) (.bin .sub (.t 51) (.t 53)) <|
    .op (some 55) (.call false false 36 [(.t 49), (.t 54)]) <|
    .op (some 39) (.mov (.t 55)) <|
    .op (some 56) (.ext (.t 39) 0) <|
    .op (some 57) (.ext (.t 39) 1) <|
    .op (some 8) (.mov (.t 56)) <|
    .op (some 9) (.mov (.t 57)) <|
    .done))
  (.seq (.reg false [] (.op (some 58) (.fa 1 (.t 3)) <|
    .op (some 59) (.ld false 1 (.t 58)) <|
    .op (some 60) (.mov (.t 8)) <|
    .op (some 61) (.bin .add (.t 59) (.t 60)) <|
    .op (some 6) (.mov (.t 61)) <|
    .op (some 7) (.mov (.c (.i .i64 0))) <|
    .done))
  .ret))))
def fn13 : Fn := ⟨3, [.t 6, .t 7], fn13b⟩
theorem rd13 : Read Try.prog 13 fn13 := Read.of Try.func13 (by decide +kernel) (by kernel_rfl) (by kernel_rfl)
/-- mapsheets/mapsheetsref09.AtX -/
def fn14b : C := (.seq (.reg false [] (.op (some 3) (.box 23 2 (.t 0)) <|
    .op (some 4) (.box 23 2 (.t 1)) <|
    .op (some 6) (.mov (.c (.i .i64 0))) <|
    .op (some 7) (.mov (.c (.i .i64 0))) <|
    .done))
  (.seq (.seq (.reg false [] (.op (some 10) (.ld true 2 (.t 3)) <|
    .op (some 11) (.ld true 2 (.t 4)) <|
    .op (some 12) (.bsl false 23 2 [(.t 10), (.t 11)]) <|
    .op (some 13) (.call false false 20 [(.t 12)]) <|
    .op (some 14) (.un .not (.t 13)) <|
    .done))
  (.cnd (.t 14)
  (.seq (.reg false [] (.op (some 6) (.mov (.c (.i .i64 0))) <|
    .op (some 7) (.mov (.c (.i .i64 2))) <|
    .done))
  .ret)
  .skip))
  (.seq (.seq (.reg false [] (.op (some 15) (.fa 0 (.t 3)) <|
    .op (some 16) (.ld false 1 (.t 15)) <|
    .op (some 17) (.fa 0 (.t 4)) <|
    .op (some 18) (.ld false 1 (.t 17)) <|
    .op (some 19) (.bin .eql (.t 16) (.t 18)) <|
    .done))
  (.cnd (.t 19)
  (.seq (.reg false [] (.op (some 6) (.mov (.c (.i .i64 0))) <|
    .op (some 7) (.mov (.c (.i .i64 1))) <|
    .done))
  .ret)
  .skip))
  (.seq (.seq (.reg false [] (.op (some 20) (.mov (.t 2)) <|
    .op (some 21) (.fa 0 (.t 3)) <|
    .op (some 22) (.ld false 1 (.t 21)) <|
    .op (some 23) (.bin .lss (.t 20) (.t 22)) <|
    .op (some 24) (.mov (.t 23)) <|
    .sc 24 true (.op (some 25) (.mov (.t 2)) <|
    .op (some 26) (.fa 0 (.t 4)) <|
    .op (some 27) (.ld false 1 (.t 26)) <|
    .op (some 28) (.bin .lss (.t 25) (.t 27)) <|
    .done) 29 (.t 28) <|
    .op (some 30) (.mov (.t 29)) <|
    .sc 30 false (.op (some 31) (.mov (.t 2)) <|
    .op (some 32) (.fa 0 (.t 3)) <|
    .op (some 33) (.ld false 1 (.t 32)) <|
    .op (some 34) (.bin .gtr (.t 31) (.t 33)) <|
    .op (some 35) (.mov (.t 34)) <|
    .sc 35 true (.op (some 36) (.mov (.t 2)) <|
    .op (some 37) (.fa 0 (.t 4)) <|
    .op (some 38) (.ld false 1 (.t 37)) <|
    .op (some 39) (.bin .gtr (.t 36) (.t 38)) <|
    .done) 40 (.t 39) <|
    .done) 41 (.t 40) <|
    .done))
  (.cnd (.t 41)
  (.seq (.reg false [] (.op (some 6) (.mov (.c (.i .i64 0))) <|
    .op (some 7) (.mov (.c (.i .i64 7))) <|
    .done))
  .ret)
  .skip))
  (.seq (.reg false [] (.op (some 43) (.fa 1 (.t 4)) <|
    .op (some 44) (.ld false 1 (.t 43)) <|
    .op (some 45) (.fa 1 (.t 3)) <|
    .op (some 46) (.ld false 1 (.t 45)) <|
    .op (some 47) (.bin .sub (.t 44) (.t 46)) <|
    .op (some 48) (.mov (.t 2)) <|
    .op (some 49) (.fa 0 (.t 3)) <|
    .op (some 50) (.ld false 1 (.t 49)) <|
    .op (some 51) (.bin .sub (.t 48) (.t 50)) <|
    .op (some 52) (.bin .mul (.t 47) (.t 51)) <|
    .op (some 53) (.fa 0 (.t 4)) <|
    .op (some 54) (.ld false 1 (.t 53)) <|
    .op (some 55) (.fa 0 (.t 3)) <|
    .op (some 56) (.ld false 1 (.t 55)) <|
    .op (some 57) (.bin .sub (.t 54) (.t 56)) <|
    .op (some 58) (.call false false 37 [(.t 52), (.t 57)]) <|
    .op (some 42) (.mov (.t 58)) <|
    .op (some 59) (.ext (.t 42) 0) <|
    .op (some 60) (.ext (.t 42) 1) <|
    .op (some 8) (.mov (.t 59)) <|
    .op (some 9) (.mov (.t 60)) <|
    .done))
  (.seq (.reg false [] (.op (some 61) (.fa 1 (.t 3)) <|
    .op (some 62) (.ld false 1 (.t 61)) <|
    .op (some 63) (.mov (.t 8)) <|
    .op (some 64) (.bin .add (.t 62) (.t 63)) <|
    .op (some 6) (.mov (.t 64)) <|
    .op (some 7) (.mov (.c (.i .i64 0))) <|
    .done))
  .ret))))))
def fn14 : Fn := ⟨3, [.t 6, .t 7], fn14b⟩
theorem rd14 : Read Try.prog 14 fn14 := Read.of Try.func14 (by decide +kernel) (by kernel_rfl) (by kernel_rfl)
/-- mapsheets/cut.AtY -/
def fn15b : C := (.seq (.reg false [] (.op (some 3) (.box 23 2 (.t 0)) <|
    .op (some 4) (.box 23 2 (.t 1)) <|
    .op (some 6) (.mov (.c (.i .i64 0))) <|
    .op (some 7) (.mov (.c (.i .i64 0))) <|
    .done))
  (.seq (.reg true [] (.op (some 8) (.ld true 2 (.t 3)) <|
    .op (some 9) (.call true false 38 [(.t 8)]) <|
    .op (some 10) (.ld true 2 (.t 4)) <|
    .op (some 11) (.call true false 38 [(.t 10)]) <|
    .op (some 12) (.mov (.t 2)) <|
    .op (some 13) (.call true false 13 [(.t 9), (.t 11), (.t 12)]) <|
    .op (some 14) (.ext (.t 13) 0) <|
    .op (some 15) (.ext (.t 13) 1) <|
    .op (some 6) (.mov (.t 14)) <|
    .op (some 7) (.mov (.t 15)) <|
    .done))
  .ret))
def fn15 : Fn := ⟨3, [.t 6, .t 7], fn15b⟩
theorem rd15 : Read Try.prog 15 fn15 := Read.of Try.func15 (by decide +kernel) (by kernel_rfl) (by kernel_rfl)
/-- mapsheets/mapsheetsref09.AtY -/
def fn16b : C := (.seq (.reg false [] (.op (some 3) (.box 23 2 (.t 0)) <|
    .op (some 4) (.box 23 2 (.t 1)) <|
    .op (some 6) (.mov (.c (.i .i64 0))) <|
    .op (some 7) (.mov (.c (.i .i64 0))) <|
    .done))
  (.seq (.reg true [] (.op (some 8) (.ld true 2 (.t 3)) <|
    .op (some 9) (.call true false 39 [(.t 8)]) <|
    .op (some 10) (.ld true 2 (.t 4)) <|
    .op (some 11) (.call true false 39 [(.t 10)]) <|
    .op (some 12) (.mov (.t 2)) <|
    .op (some 13) (.call true false 14 [(.t 9), (.t 11), (.t 12)]) <|
    .op (some 14) (.ext (.t 13) 0) <|
    .op (some 15) (.ext (.t 13) 1) <|
    .op (some 6) (.mov (.t 14)) <|
    .op (some 7) (.mov (.t 15)) <|
    .done))
  .ret))
def fn16 : Fn := ⟨3, [.t 6, .t 7], fn16b⟩
theorem rd16 : Read Try.prog 16 fn16 := Read.of Try.func16 (by decide +kernel) (by kernel_rfl) (by kernel_rfl)
/-- mapsheets/cut.Clip -/
def fn17b : C := (.seq (.reg false [] (.op (some 3) (.box 23 2 (.t 0)) <|
    .op (some 4) (.box 23 2 (.t 1)) <|
    .op (some 5) (.box 35 4 (.t 2)) <|
    .op (some 6) (.box 23 2 (.c (.ag [(.i .i64 0), (.i .i64 0)]))) <|
    .op (some 7) (.box 23 2 (.c (.ag [(.i .i64 0), (.i .i64 0)]))) <|
    .op (some 8) (.mov (.c (.b false))) <|
    .done))
  (.seq (.seq (.reg false [] (.op (some 14) (.ld true 2 (.t 3)) <|
    .op (some 15) (.ld true 2 (.t 4)) <|
    .op (some 16) (.bsl false 23 2 [(.t 14), (.t 15)]) <|
    .op (some 17) (.call false false 29 [(.t 16)]) <|
    .op (some 18) (.un .not (.t 17)) <|
    .op (some 19) (.mov (.t 18)) <|
    .sc 19 false (.op (some 20) (.fa 0 (.t 5)) <|
    .op (some 21) (.ld false 1 (.t 20)) <|
    .op (some 22) (.fa 2 (.t 5)) <|
    .op (some 23) (.ld false 1 (.t 22)) <|
    .op (some 24) (.bin .gtr (.t 21) (.t 23)) <|
    .done) 25 (.t 24) <|
    .op (some 26) (.mov (.t 25)) <|
    .sc 26 false (.op (some 27) (.fa 1 (.t 5)) <|
    .op (some 28) (.ld false 1 (.t 27)) <|
    .op (some 29) (.fa 3 (.t 5)) <|
    .op (some 30) (.ld false 1 (.t 29)) <|
    .op (some 31) (.bin .gtr (.t 28) (.t 30)) <|
    .done) 32 (.t 31) <|
    .done))
  (.cnd (.t 32)
  (.seq (.reg false [] (.op (some 33) (.bld [(.i .i64 0), (.i .i64 0)] []) <|
    .op (some 34) (.bld [(.i .i64 0), (.i .i64 0)] []) <|
    .op none (.st false 2 (.t 6) (.t 33)) <|
    .op none (.st false 2 (.t 7) (.t 34)) <|
    .op (some 8) (.mov (.c (.b false))) <|
    .done))
  .ret)
  .skip))
  (.seq (.reg false [] (.op (some 9) (.mov (.c (.fn 40 []))) <|
    .done))
  (.seq (.reg true [(4, 10)] (.op (some 35) (.ld true 2 (.t 3)) <|
    .op (some 36) (.bld [(.i .i64 0), (.i .i64 0), (.i .i64 0), (.i .i64 0)] [(0, 1, (.c (.i .i64 0))), (1, 1, (.c (.i .i64 1))), (2, 2, (.t 35))]) <|
    .op (some 37) (.ld true 2 (.t 4)) <|
    .op (some 38) (.bld [(.i .i64 0), (.i .i64 0), (.i .i64 0), (.i .i64 0)] [(0, 1, (.c (.i .i64 1))), (1, 1, (.c (.i .i64 1))), (2, 2, (.t 37))]) <|
    .op (some 10) (.box 59 4 (.c (.ag [(.i .i64 0), (.i .i64 0), (.i .i64 0), (.i .i64 0)]))) <|
    .op (some 11) (.box 59 4 (.c (.ag [(.i .i64 0), (.i .i64 0), (.i .i64 0), (.i .i64 0)]))) <|
    .op none (.st true 4 (.t 10) (.t 36)) <|
    .op none (.st true 4 (.t 11) (.t 38)) <|
    .done))
  (.seq (.reg false [] (.op (some 39) (.mf 41 [(.t 3), (.t 4)]) <|
    .op (some 12) (.mov (.t 39)) <|
    .done))
  (.seq (.reg false [] (.op (some 40) (.mf 42 [(.t 3), (.t 4)]) <|
    .op (some 13) (.mov (.t 40)) <|
    .done))
  (.seq (.seq (.reg true [] (.op (some 41) (.ld true 2 (.t 3)) <|
    .op (some 42) (.ld true 2 (.t 4)) <|
    .op (some 43) (.mov (.t 9)) <|
    .op (some 44) (.fa 0 (.t 5)) <|
    .op (some 45) (.ld false 1 (.t 44)) <|
    .op (some 46) (.callv true false (.t 43) [(.t 45)]) <|
    .op (some 47) (.mov (.t 9)) <|
    .op (some 48) (.fa 2 (.t 5)) <|
    .op (some 49) (.ld false 1 (.t 48)) <|
    .op (some 50) (.callv true false (.t 47) [(.t 49)]) <|
    .op (some 51) (.mov (.t 12)) <|
    .op (some 52) (.call false true 43 [(.t 41), (.t 42), (.t 46), (.t 50), (.t 10), (.t 11), (.t 51)]) <|
    .op (some 53) (.un .not (.t 52)) <|
    .op (some 54) (.mov (.t 53)) <|
    .sc 54 false (.op (some 55) (.ld true 2 (.t 3)) <|
    .op (some 56) (.call true false 38 [(.t 55)]) <|
    .op (some 57) (.ld true 2 (.t 4)) <|
    .op (some 58) (.call true false 38 [(.t 57)]) <|
    .op (some 59) (.mov (.t 9)) <|
    .op (some 60) (.fa 1 (.t 5)) <|
    .op (some 61) (.ld false 1 (.t 60)) <|
    .op (some 62) (.callv true false (.t 59) [(.t 61)]) <|
    .op (some 63) (.mov (.t 9)) <|
    .op (some 64) (.fa 3 (.t 5)) <|
    .op (some 65) (.ld false 1 (.t 64)) <|
    .op (some 66) (.callv true false (.t 63) [(.t 65)]) <|
    .op (some 67) (.mov (.t 13)) <|
    .op (some 68) (.call false true 43 [(.t 56), (.t 58), (.t 62), (.t 66), (.t 10), (.t 11), (.t 67)]) <|
    .op (some 69) (.un .not (.t 68)) <|
    .done) 70 (.t 69) <|
    .done))
  (.cnd (.t 70)
  (.seq (.reg false [] (.op (some 71) (.bld [(.i .i64 0), (.i .i64 0)] []) <|
    .op (some 72) (.bld [(.i .i64 0), (.i .i64 0)] []) <|
    .op none (.st false 2 (.t 6) (.t 71)) <|
    .op none (.st false 2 (.t 7) (.t 72)) <|
    .op (some 8) (.mov (.c (.b false))) <|
    .done))
  .ret)
  .skip))
  (.seq (.reg true [(75, 6)] (.op (some 73) (.fa 2 (.t 10)) <|
    .op (some 74) (.ld true 2 (.t 73)) <|
    .op (some 75) (.fa 2 (.t 11)) <|
    .op (some 76) (.ld true 2 (.t 75)) <|
    .op none (.st true 2 (.t 6) (.t 74)) <|
    .op none (.st true 2 (.t 7) (.t 76)) <|
    .op (some 8) (.mov (.c (.b true))) <|
    .done))
  .ret))))))))
def fn17 : Fn := ⟨3, [.c 6 true 2, .c 7 true 2, .t 8], fn17b⟩
theorem rd17 : Read Try.prog 17 fn17 := Read.of Try.func17 (by decide +kernel) (by kernel_rfl) (by kernel_rfl)
/-- mapsheets/mapsheetsref09.Clip -/
def fn18b : C := (.seq (.reg false [] (.op (some 3) (.box 23 2 (.t 0)) <|
    .op (some 4) (.box 23 2 (.t 1)) <|
    .op (some 5) (.box 35 4 (.t 2)) <|
    .op (some 6) (.box 23 2 (.c (.ag [(.i .i64 0), (.i .i64 0)]))) <|
    .op (some 7) (.box 23 2 (.c (.ag [(.i .i64 0), (.i .i64 0)]))) <|
    .op (some 8) (.mov (.c (.b false))) <|
    .done))
  (.seq (.seq (.reg false [] (.op (some 10) (.ld true 2 (.t 3)) <|
    .op (some 11) (.ld true 2 (.t 4)) <|
    .op (some 12) (.bsl false 23 2 [(.t 10), (.t 11)]) <|
    .op (some 13) (.call false false 20 [(.t 12)]) <|
    .op (some 14) (.un .not (.t 13)) <|
    .op (some 15) (.mov (.t 14)) <|
    .sc 15 false (.op (some 16) (.fa 0 (.t 5)) <|
    .op (some 17) (.ld false 1 (.t 16)) <|
    .op (some 18) (.fa 2 (.t 5)) <|
    .op (some 19) (.ld false 1 (.t 18)) <|
    .op (some 20) (.bin .gtr (.t 17) (.t 19)) <|
    .done) 21 (.t 20) <|
    .op (some 22) (.mov (.t 21)) <|
    .sc 22 false (.op (some 23) (.fa 1 (.t 5)) <|
    .op (some 24) (.ld false 1 (.t 23)) <|
    .op (some 25) (.fa 3 (.t 5)) <|
    .op (some 26) (.ld false 1 (.t 25)) <|
    .op (some 27) (.bin .gtr (.t 24) (.t 26)) <|
    .done) 28 (.t 27) <|
    .done))
  (.cnd (.t 28)
  (.seq (.reg false [] (.op (some 29) (.bld [(.i .i64 0), (.i .i64 0)] []) <|
    .op (some 30) (.bld [(.i .i64 0), (.i .i64 0)] []) <|
    .op none (.st false 2 (.t 6) (.t 29)) <|
    .op none (.st false 2 (.t 7) (.t 30)) <|
    .op (some 8) (.mov (.c (.b false))) <|
    .done))
  .ret)
  .skip))
  (.seq (.reg false [] (.op (some 31) (.bld [(.i .i64 0), (.i .i64 0)] [(0, 1, (.c (.i .i64 0))), (1, 1, (.c (.i .i64 1)))]) <|
    .op (some 32) (.bld [(.i .i64 0), (.i .i64 0)] [(0, 1, (.c (.i .i64 1))), (1, 1, (.c (.i .i64 1)))]) <|
    .op (some 33) (.bld [(.i .i64 0), (.i .i64 0), (.i .i64 0), (.i .i64 0), (.b false)] [(0, 2, (.t 31)), (2, 2, (.t 32))]) <|
    .op (some 9) (.box 66 5 (.c (.ag [(.i .i64 0), (.i .i64 0), (.i .i64 0), (.i .i64 0), (.b false)]))) <|
    .op none (.st false 5 (.t 9) (.t 33)) <|
    .done))
  (.seq (.reg false [] (.op (some 34) (.ld true 5 (.t 9)) <|
    .op (some 35) (.fa 0 (.t 3)) <|
    .op (some 36) (.ld false 1 (.t 35)) <|
    .op (some 37) (.fa 0 (.t 4)) <|
    .op (some 38) (.ld false 1 (.t 37)) <|
    .op (some 39) (.fa 0 (.t 5)) <|
    .op (some 40) (.ld false 1 (.t 39)) <|
    .op (some 41) (.fa 2 (.t 5)) <|
    .op (some 42) (.ld false 1 (.t 41)) <|
    .op (some 43) (.call false false 44 [(.t 34), (.t 36), (.t 38), (.t 40), (.t 42)]) <|
    .op none (.st false 5 (.t 9) (.t 43)) <|
    .done))
  (.seq (.reg false [] (.op (some 44) (.ld true 5 (.t 9)) <|
    .op (some 45) (.fa 1 (.t 3)) <|
    .op (some 46) (.ld false 1 (.t 45)) <|
    .op (some 47) (.fa 1 (.t 4)) <|
    .op (some 48) (.ld false 1 (.t 47)) <|
    .op (some 49) (.fa 1 (.t 5)) <|
    .op (some 50) (.ld false 1 (.t 49)) <|
    .op (some 51) (.fa 3 (.t 5)) <|
    .op (some 52) (.ld false 1 (.t 51)) <|
    .op (some 53) (.call false false 44 [(.t 44), (.t 46), (.t 48), (.t 50), (.t 52)]) <|
    .op none (.st false 5 (.t 9) (.t 53)) <|
    .done))
  (.seq (.seq (.reg false [] (.op (some 54) (.fa 4 (.t 9)) <|
    .op (some 55) (.ld false 1 (.t 54)) <|
    .op (some 56) (.mov (.t 55)) <|
    .sc 56 false (.op (some 57) (.fa 0 (.t 9)) <|
    .op (some 58) (.ld true 2 (.t 57)) <|
    .op (some 59) (.fa 2 (.t 9)) <|
    .op (some 60) (.ld true 2 (.t 59)) <|
    .op (some 61) (.call false false 45 [(.t 58), (.t 60)]) <|
    .op (some 62) (.bin .gtr (.t 61) (.c (.i .i64 0))) <|
    .done) 63 (.t 62) <|
    .done))
  (.cnd (.t 63)
  (.seq (.reg false [] (.op (some 64) (.bld [(.i .i64 0), (.i .i64 0)] []) <|
    .op (some 65) (.bld [(.i .i64 0), (.i .i64 0)] []) <|
    .op none (.st false 2 (.t 6) (.t 64)) <|
    .op none (.st false 2 (.t 7) (.t 65)) <|
    .op (some 8) (.mov (.c (.b false))) <|
    .done))
  .ret)
  .skip))
  (.seq (.reg true [] (.op (some 66) (.ld true 2 (.t 3)) <|
    .op (some 67) (.ld true 2 (.t 4)) <|
    .op (some 68) (.fa 0 (.t 9)) <|
    .op (some 69) (.ld true 2 (.t 68)) <|
    .op (some 70) (.ld true 4 (.t 5)) <|
    .op (some 71) (.call true false 46 [(.t 66), (.t 67), (.t 69), (.t 70)]) <|
    .op (some 72) (.ld true 2 (.t 3)) <|
    .op (some 73) (.ld true 2 (.t 4)) <|
    .op (some 74) (.fa 2 (.t 9)) <|
    .op (some 75) (.ld true 2 (.t 74)) <|
    .op (some 76) (.ld true 4 (.t 5)) <|
    .op (some 77) (.call true false 46 [(.t 72), (.t 73), (.t 75), (.t 76)]) <|
    .op none (.st true 2 (.t 6) (.t 71)) <|
    .op none (.st true 2 (.t 7) (.t 77)) <|
    .op (some 8) (.mov (.c (.b true))) <|
    .done))
  .ret)))))))
def fn18 : Fn := ⟨3, [.c 6 true 2, .c 7 true 2, .t 8], fn18b⟩
theorem rd18 : Read Try.prog 18 fn18 := Read.of Try.func18 (by decide +kernel) (by kernel_rfl) (by kernel_rfl)
/-- mapsheets/mapsheetsref08.In -/
def fn19b : C := (.seq (.reg false [] (.op (some 2) (.box 35 4 (.t 0)) <|
    .op (some 3) (.box 23 2 (.t 1)) <|
    .op (some 4) (.mov (.c (.b false))) <|
    .done))
  (.seq (.reg false [] (.op (some 5) (.fa 0 (.t 3)) <|
    .op (some 6) (.ld false 1 (.t 5)) <|
    .op (some 7) (.fa 0 (.t 2)) <|
    .op (some 8) (.ld false 1 (.t 7)) <|
    .op (some 9) (.bin .geq (.t 6) (.t 8)) <|
    .op (some 10) (.mov (.t 9)) <|
    .sc 10 true (.op (some 11) (.fa 0 (.t 3)) <|
    .op (some 12) (.ld false 1 (.t 11)) <|
    .op (some 13) (.fa 2 (.t 2)) <|
    .op (some 14) (.ld false 1 (.t 13)) <|
    .op (some 15) (.bin .leq (.t 12) (.t 14)) <|
    .done) 16 (.t 15) <|
    .op (some 17) (.mov (.t 16)) <|
    .sc 17 true (.op (some 18) (.fa 1 (.t 3)) <|
    .op (some 19) (.ld false 1 (.t 18)) <|
    .op (some 20) (.fa 1 (.t 2)) <|
    .op (some 21) (.ld false 1 (.t 20)) <|
    .op (some 22) (.bin .geq (.t 19) (.t 21)) <|
    .done) 23 (.t 22) <|
    .op (some 24) (.mov (.t 23)) <|
    .sc 24 true (.op (some 25) (.fa 1 (.t 3)) <|
    .op (some 26) (.ld false 1 (.t 25)) <|
    .op (some 27) (.fa 3 (.t 2)) <|
    .op (some 28) (.ld false 1 (.t 27)) <|
    .op (some 29) (.bin .leq (.t 26) (.t 28)) <|
    .done) 30 (.t 29) <|
    .op (some 4) (.mov (.t 30)) <|
    .done))
  .ret))
def fn19 : Fn := ⟨2, [.t 4], fn19b⟩
theorem rd19 : Read Try.prog 19 fn19 := Read.of Try.func19 (by decide +kernel) (by kernel_rfl) (by kernel_rfl)
def fn20k0 : List Nat := [0, 3]
def fn20l0 : C := (.seq (.seq (.reg false [] (.op (some 4) (.mov (.t 3)) <|
    .op (some 5) (.mov (.t 0)) <|
    .op (some 6) (.len (.t 5)) <|
    .op (some 7) (.bin .lss (.t 4) (.t 6)) <|
    .done))
  (.cnd (.t 7)
  .skip
  (.exit 0)))
  (.seq (.blk 1 (.seq (.reg false [] (.op (some 10) (.mov (.t 0)) <|
    .op (some 11) (.mov (.t 3)) <|
    .op (some 12) (.ia 2 (.t 10) (.t 11)) <|
    .op (some 13) (.fa 0 (.t 12)) <|
    .op (some 14) (.ld false 1 (.t 13)) <|
    .op (some 15) (.bin .lss (.t 14) (.c (.i .i64 (-2097152)))) <|
    .op (some 16) (.mov (.t 15)) <|
    .sc 16 false (.op (some 17) (.mov (.t 0)) <|
    .op (some 18) (.mov (.t 3)) <|
    .op (some 19) (.ia 2 (.t 17) (.t 18)) <|
    .op (some 20) (.fa 0 (.t 19)) <|
    .op (some 21) (.ld false 1 (.t 20)) <|
    .op (some 22) (.bin .gtr (.t 21) (.c (.i .i64 2097152))) <|
    .done) 23 (.t 22) <|
    .op (some 24) (.mov (.t 23)) <|
    .sc 24 false (.op (some 25) (.mov (.t 0)) <|
    .op (some 26) (.mov (.t 3)) <|
    .op (some 27) (.ia 2 (.t 25) (.t 26)) <|
    .op (some 28) (.fa 1 (.t 27)) <|
    .op (some 29) (.ld false 1 (.t 28)) <|
    .op (some 30) (.bin .lss (.t 29) (.c (.i .i64 (-2097152)))) <|
    .done) 31 (.t 30) <|
    .op (some 32) (.mov (.t 31)) <|
    .sc 32 false (.op (some 33) (.mov (.t 0)) <|
    .op (some 34) (.mov (.t 3)) <|
    .op (some 35) (.ia 2 (.t 33) (.t 34)) <|
    .op (some 36) (.fa 1 (.t 35)) <|
    .op (some 37) (.ld false 1 (.t 36)) <|
    .op (some 38) (.bin .gtr (.t 37) (.c (.i .i64 2097152))) <|
    .done) 39 (.t 38) <|
    .done))
  (.cnd (.t 39)
  (.seq (.reg false [] (.op (some 2) (.mov (.c (.b false))) <|
    .done))
  .ret)
  .skip)))
  (.reg false [] (.op (some 8) (.mov (.t 3)) <|
    .op (some 9) (.bin .add (.t 8) (.c (.i .i64 1))) <|
    .op (some 3) (.mov (.t 9)) <|
    .done))))
/-- mapsheets/mapsheetsref08.Near -/
def fn20b : C := (.seq (.reg false [] (.op (some 2) (.mov (.c (.b false))) <|
    .done))
  (.seq (.seq (.reg false [] (.op (some 3) (.mov (.c (.i .i64 0))) <|
    .done))
  (.blk 0 (.loop fn20k0 fn20l0)))
  (.seq (.reg false [] (.op (some 2) (.mov (.c (.b true))) <|
    .done))
  .ret)))
def fn20 : Fn := ⟨1, [.t 2], fn20b⟩
theorem rd20 : Read Try.prog 20 fn20 := Read.of Try.func20 (by decide +kernel) (by kernel_rfl) (by kernel_rfl)
def fn21k0 : List Nat := [0, 1, 5]
def fn21l0 : C := (.seq (.seq (.reg false [] (.op (some 11) (.mov (.t 5)) <|
    .op (some 12) (.mov (.t 0)) <|
    .op (some 13) (.len (.t 12)) <|
    .op (some 14) (.bin .lss (.t 11) (.t 13)) <|
    .done))
  (.cnd (.t 14)
  .skip
  (.exit 0)))
  (.seq (.blk 1 (.seq (.reg true [] (.op (some 17) (.mov (.t 0)) <|
    .op (some 18) (.mov (.t 5)) <|
    .op (some 19) (.ia 1 (.t 17) (.t 18)) <|
    .op (some 20) (.ld false 1 (.t 19)) <|
    .op (some 21) (.mov (.t 1)) <|
    .op (some 22) (.mov (.t 5)) <|
    .op (some 23) (.ia 1 (.t 21) (.t 22)) <|
    .op (some 24) (.ld false 1 (.t 23)) <|
    .op (some 25) (.call true false 25 [(.t 20), (.t 24)]) <|
    .op (some 26) (.un .not (.t 25)) <|
    .done))
  (.cnd (.t 26)
  (.seq (.reg false [] (.op (some 4) (.mov (.c (.b false))) <|
    .done))
  .ret)
  .skip)))
  (.reg false [] (.op (some 15) (.mov (.t 5)) <|
    .op (some 16) (.bin .add (.t 15) (.c (.i .i64 1))) <|
    .op (some 5) (.mov (.t 16)) <|
    .done))))
/-- mapsheets/mapsheetsref09.SameParts -/
def fn21b : C := (.seq (.reg false [] (.op (some 4) (.mov (.c (.b false))) <|
    .done))
  (.seq (.seq (.reg false [] (.op (some 6) (.mov (.t 0)) <|
    .op (some 7) (.len (.t 6)) <|
    .op (some 8) (.mov (.t 1)) <|
    .op (some 9) (.len (.t 8)) <|
    .op (some 10) (.bin .neq (.t 7) (.t 9)) <|
    .done))
  (.cnd (.t 10)
  (.seq (.reg false [] (.op (some 4) (.mov (.c (.b false))) <|
    .done))
  .ret)
  .skip))
  (.seq (.seq (.reg false [] (.op (some 5) (.mov (.c (.i .i64 0))) <|
    .done))
  (.blk 0 (.loop fn21k0 fn21l0)))
  (.seq (.reg false [] (.op (some 4) (.mov (.c (.b true))) <|
    .done))
  .ret))))
def fn21 : Fn := ⟨2, [.t 4], fn21b⟩
theorem rd21 : Read Try.prog 21 fn21 := Read.of Try.func21 (by decide +kernel) (by kernel_rfl) (by kernel_rfl)
def fn22k0 : List Nat := [0, 3, 5, 6, 7, 8, 9]
def fn22l0 : C := (.seq (.seq (.reg false [] (.op (some 18) (.mov (.t 9)) <|
    .op (some 19) (.mov (.t 0)) <|
    .op (some 20) (.len (.t 19)) <|
    .op (some 21) (.bin .lss (.t 18) (.t 20)) <|
    .done))
  (.cnd (.t 21)
  .skip
  (.exit 0)))
  (.seq (.blk 1 (.seq (.reg true [] (.op (some 25) (.mov (.t 0)) <|
    .op (some 26) (.mov (.t 9)) <|
    .op (some 27) (.bin .sub (.t 26) (.c (.i .i64 1))) <|
    .op (some 28) (.ia 2 (.t 25) (.t 27)) <|
    .op (some 29) (.ld true 2 (.t 28)) <|
    .op (some 30) (.mov (.t 0)) <|
    .op (some 31) (.mov (.t 9)) <|
    .op (some 32) (.ia 2 (.t 30) (.t 31)) <|
    .op (some 33) (.ld true 2 (.t 32)) <|
    .op (some 34) (.ld true 4 (.t 3)) <|
    .op (some 35) (.call true false 17 [(.t 29), (.t 33), (.t 34)]) <|
    .op (some 24) (.mov (.t 35)) <|
    .op (some 36) (.ext (.t 24) 0) <|
    .op (some 37) (.ext (.t 24) 1) <|
    .op (some 38) (.ext (.t 24) 2) <|
    .op (some 10) (.box 23 2 (.c (.ag [(.i .i64 0), (.i .i64 0)]))) <|
    .op (some 11) (.box 23 2 (.c (.ag [(.i .i64 0), (.i .i64 0)]))) <|
    .op none (.st true 2 (.t 10) (.t 36)) <|
    .op none (.st true 2 (.t 11) (.t 37)) <|
    .op (some 12) (.mov (.t 38)) <|
    .done))
  (.seq (.seq (.reg false [] (.op (some 39) (.mov (.t 12)) <|
    .op (some 40) (.un .not (.t 39)) <|
    .done))
  (.cnd (.t 40)
  (.seq (.reg false [] (.op (some 41) (.mov (.t 8)) <|
    .op (some 42) (.callv false true (.t 41) []) <|
    .done))
  (.exit 1))
  .skip))
  (.seq (.seq (.reg false [] (.op (some 43) (.ld false 1 (.t 6)) <|
    .op (some 44) (.len (.t 43)) <|
    .op (some 45) (.bin .eql (.t 44) (.c (.i .i64 0))) <|
    .done))
  (.cnd (.t 45)
  (.reg false [] (.op (some 46) (.mov (.t 7)) <|
    .op (some 47) (.ld true 2 (.t 10)) <|
    .op (some 48) (.callv false true (.t 46) [(.t 47)]) <|
    .done))
  .skip))
  (.seq (.reg false [] (.op (some 49) (.mov (.t 7)) <|
    .op (some 50) (.ld true 2 (.t 11)) <|
    .op (some 51) (.callv false true (.t 49) [(.t 50)]) <|
    .done))
  (.seq (.reg true [] (.op (some 52) (.ld true 4 (.t 3)) <|
    .op (some 53) (.mov (.t 0)) <|
    .op (some 54) (.mov (.t 9)) <|
    .op (some 55) (.ia 2 (.t 53) (.t 54)) <|
    .op (some 56) (.ld true 2 (.t 55)) <|
    .op (some 57) (.call true false 49 [(.t 52), (.t 56)]) <|
    .op (some 58) (.un .not (.t 57)) <|
    .done))
  (.cnd (.t 58)
  (.reg false [] (.op (some 59) (.mov (.t 8)) <|
    .op (some 60) (.callv false true (.t 59) []) <|
    .done))
  .skip)))))))
  (.reg false [] (.op (some 22) (.mov (.t 9)) <|
    .op (some 23) (.bin .add (.t 22) (.c (.i .i64 1))) <|
    .op (some 9) (.mov (.t 23)) <|
    .done))))
/-- mapsheets/cut.Path -/
def fn22b : C := (.seq (.reg false [] (.op (some 3) (.box 35 4 (.t 1)) <|
    .op (some 4) (.mov (.c (.nl 41 1))) <|
    .done))
  (.seq (.seq (.reg false [] (.op (some 13) (.mov (.t 0)) <|
    .op (some 14) (.call false false 29 [(.t 13)]) <|
    .op (some 15) (.un .not (.t 14)) <|
    .done))
  (.cnd (.t 15)
  (.seq (.reg false [] (.op (some 4) (.mov (.c (.nl 41 1))) <|
    .done))
  .ret)
  .skip))
  (.seq (.reg false [] (.op (some 5) (.box 43 1 (.c (.nl 41 1))) <|
    .done))
  (.seq (.reg false [] (.op (some 6) (.box 41 1 (.c (.nl 23 2))) <|
    .done))
  (.seq (.reg false [] (.op (some 16) (.mf 47 [(.t 6)]) <|
    .op (some 7) (.mov (.t 16)) <|
    .done))
  (.seq (.reg false [] (.op (some 17) (.mf 48 [(.t 6), (.t 5)]) <|
    .op (some 8) (.mov (.t 17)) <|
    .done))
  (.seq (.seq (.reg false [] (.op (some 9) (.mov (.c (.i .i64 1))) <|
    .done))
  (.blk 0 (.loop fn22k0 fn22l0)))
  (.seq (.reg false [] (.op (some 61) (.mov (.t 8)) <|
    .op (some 62) (.callv false true (.t 61) []) <|
    .done))
  (.seq (.reg false [] (.op (some 63) (.ld false 1 (.t 5)) <|
    .op (some 4) (.mov (.t 63)) <|
    .done))
  .ret)))))))))
def fn22 : Fn := ⟨2, [.t 4], fn22b⟩
theorem rd22 : Read Try.prog 22 fn22 := Read.of Try.func22 (by decide +kernel) (by kernel_rfl) (by kernel_rfl)
def fn23k0 : List Nat := [0, 3, 5, 6, 7]
def fn23l0 : C := (.seq (.seq (.reg false [] (.op (some 17) (.mov (.t 7)) <|
    .op (some 18) (.mov (.t 0)) <|
    .op (some 19) (.len (.t 18)) <|
    .op (some 20) (.bin .lss (.t 17) (.t 19)) <|
    .done))
  (.cnd (.t 20)
  .skip
  (.exit 0)))
  (.seq (.blk 1 (.seq (.reg true [] (.op (some 24) (.mov (.t 0)) <|
    .op (some 25) (.mov (.t 7)) <|
    .op (some 26) (.bin .sub (.t 25) (.c (.i .i64 1))) <|
    .op (some 27) (.ia 2 (.t 24) (.t 26)) <|
    .op (some 28) (.ld true 2 (.t 27)) <|
    .op (some 29) (.mov (.t 0)) <|
    .op (some 30) (.mov (.t 7)) <|
    .op (some 31) (.ia 2 (.t 29) (.t 30)) <|
    .op (some 32) (.ld true 2 (.t 31)) <|
    .op (some 33) (.ld true 4 (.t 3)) <|
    .op (some 34) (.call true false 18 [(.t 28), (.t 32), (.t 33)]) <|
    .op (some 23) (.mov (.t 34)) <|
    .op (some 35) (.ext (.t 23) 0) <|
    .op (some 36) (.ext (.t 23) 1) <|
    .op (some 37) (.ext (.t 23) 2) <|
    .op (some 8) (.box 23 2 (.c (.ag [(.i .i64 0), (.i .i64 0)]))) <|
    .op (some 9) (.box 23 2 (.c (.ag [(.i .i64 0), (.i .i64 0)]))) <|
    .op none (.st true 2 (.t 8) (.t 35)) <|
    .op none (.st true 2 (.t 9) (.t 36)) <|
    .op (some 10) (.mov (.t 37)) <|
    .done))
  (.seq (.seq (.reg false [] (.op (some 38) (.mov (.t 10)) <|
    .op (some 39) (.mov (.t 38)) <|
    .sc 39 true (.op (some 40) (.mov (.t 6)) <|
    .op (some 41) (.len (.t 40)) <|
    .op (some 42) (.bin .eql (.t 41) (.c (.i .i64 0))) <|
    .done) 43 (.t 42) <|
    .done))
  (.cnd (.t 43)
  (.reg false [] (.op (some 44) (.mov (.t 6)) <|
    .op (some 45) (.ld true 2 (.t 8)) <|
    .op (some 46) (.bsl false 23 2 [(.t 45)]) <|
    .op (some 47) (.app 23 2 16 (.t 44) (.t 46)) <|
    .op (some 6) (.mov (.t 47)) <|
    .done))
  .skip))
  (.seq (.seq (.reg false [] (.op (some 48) (.mov (.t 10)) <|
    .done))
  (.cnd (.t 48)
  (.reg false [] (.op (some 49) (.mov (.t 6)) <|
    .op (some 50) (.ld true 2 (.t 9)) <|
    .op (some 51) (.bsl false 23 2 [(.t 50)]) <|
    .op (some 52) (.app 23 2 16 (.t 49) (.t 51)) <|
    .op (some 6) (.mov (.t 52)) <|
    .done))
  .skip))
  (.seq (.reg true [] (.op (some 53) (.mov (.t 10)) <|
    .op (some 54) (.un .not (.t 53)) <|
    .op (some 55) (.mov (.t 54)) <|
    .sc 55 false (.op (some 56) (.ld true 4 (.t 3)) <|
    .op (some 57) (.mov (.t 0)) <|
    .op (some 58) (.mov (.t 7)) <|
    .op (some 59) (.ia 2 (.t 57) (.t 58)) <|
    .op (some 60) (.ld true 2 (.t 59)) <|
    .op (some 61) (.call true false 19 [(.t 56), (.t 60)]) <|
    .op (some 62) (.un .not (.t 61)) <|
    .done) 63 (.t 62) <|
    .done))
  (.cnd (.t 63)
  (.seq (.reg false [] (.op (some 64) (.mov (.t 5)) <|
    .op (some 65) (.mov (.t 6)) <|
    .op (some 66) (.bsl false 41 1 [(.t 65)]) <|
    .op (some 67) (.app 41 1 24 (.t 64) (.t 66)) <|
    .op (some 5) (.mov (.t 67)) <|
    .done))
  (.reg false [] (.op (some 6) (.mov (.c (.nl 23 2))) <|
    .done)))
  .skip))))))
  (.reg false [] (.op (some 21) (.mov (.t 7)) <|
    .op (some 22) (.bin .add (.t 21) (.c (.i .i64 1))) <|
    .op (some 7) (.mov (.t 22)) <|
    .done))))
def fn23k1 : List Nat := [5, 11, 12]
def fn23l1 : C := (.seq (.seq (.reg false [] (.op (some 72) (.mov (.t 12)) <|
    .op (some 73) (.mov (.t 5)) <|
    .op (some 74) (.len (.t 73)) <|
    .op (some 75) (.bin .lss (.t 72) (.t 74)) <|
    .done))
  (.cnd (.t 75)
  .skip
  (.exit 2)))
  (.seq (.blk 3 (.seq (.reg false [] (.op (some 78) (.mov (.t 5)) <|
    .op (some 79) (.mov (.t 12)) <|
    .op (some 80) (.ia 1 (.t 78) (.t 79)) <|
    .op (some 81) (.ld false 1 (.t 80)) <|
    .op (some 82) (.call false false 50 [(.t 81)]) <|
    .op (some 13) (.mov (.t 82)) <|
    .done))
  (.seq (.reg false [] (.op (some 83) (.mov (.t 13)) <|
    .op (some 84) (.len (.t 83)) <|
    .op (some 85) (.bin .gtr (.t 84) (.c (.i .i64 1))) <|
    .done))
  (.cnd (.t 85)
  (.reg false [] (.op (some 86) (.mov (.t 11)) <|
    .op (some 87) (.mov (.t 13)) <|
    .op (some 88) (.bsl false 41 1 [(.t 87)]) <|
    .op (some 89) (.app 41 1 24 (.t 86) (.t 88)) <|
    .op (some 11) (.mov (.t 89)) <|
    .done))
  .skip))))
  (.reg false [] (.op (some 76) (.mov (.t 12)) <|
    .op (some 77) (.bin .add (.t 76) (.c (.i .i64 1))) <|
    .op (some 12) (.mov (.t 77)) <|
    .done))))
/-- mapsheets/mapsheetsref09.Path -/
def fn23b : C := (.seq (.reg false [] (.op (some 3) (.box 35 4 (.t 1)) <|
    .op (some 4) (.mov (.c (.nl 41 1))) <|
    .done))
  (.seq (.seq (.reg false [] (.op (some 14) (.mov (.t 0)) <|
    .op (some 15) (.call false false 20 [(.t 14)]) <|
    .op (some 16) (.un .not (.t 15)) <|
    .done))
  (.cnd (.t 16)
  (.seq (.reg false [] (.op (some 4) (.mov (.c (.nl 41 1))) <|
    .done))
  .ret)
  .skip))
  (.seq (.reg false [] (.op (some 5) (.mov (.c (.nl 41 1))) <|
    .done))
  (.seq (.reg false [] (.op (some 6) (.mov (.c (.nl 23 2))) <|
    .done))
  (.seq (.seq (.reg false [] (.op (some 7) (.mov (.c (.i .i64 1))) <|
    .done))
  (.blk 0 (.loop fn23k0 fn23l0)))
  (.seq (.reg false [] (.op (some 68) (.mov (.t 5)) <|
    .op (some 69) (.mov (.t 6)) <|
    .op (some 70) (.bsl false 41 1 [(.t 69)]) <|
    .op (some 71) (.app 41 1 24 (.t 68) (.t 70)) <|
    .op (some 5) (.mov (.t 71)) <|
    .done))
  (.seq (.reg false [] (.op (some 11) (.mov (.c (.nl 41 1))) <|
    .done))
  (.seq (.seq (.reg false [] (.op (some 12) (.mov (.c (.i .i64 0))) <|
    .done))
  (.blk 2 (.loop fn23k1 fn23l1)))
  (.seq (.reg false [] (.op (some 90) (.mov (.t 11)) <|
    .op (some 4) (.mov (.t 90)) <|
    .done))
  .ret)))))))))
def fn23 : Fn := ⟨2, [.t 4], fn23b⟩
theorem rd23 : Read Try.prog 23 fn23 := Read.of Try.func23 (by decide +kernel) (by kernel_rfl) (by kernel_rfl)
def fn24k0 : List Nat := [0, 3, 4]
def fn24l0 : C := (.seq (.seq (.reg false [] (.op (some 8) (.mov (.t 4)) <|
    .op (some 9) (.bin .geq (.t 8) (.c (.i .i64 0))) <|
    .done))
  (.cnd (.t 9)
  .skip
  (.exit 0)))
  (.seq (.blk 1 (.reg false [] (.op (some 12) (.mov (.t 3)) <|
    .op (some 13) (.mov (.t 0)) <|
    .op (some 14) (.mov (.t 4)) <|
    .op (some 15) (.ia 2 (.t 13) (.t 14)) <|
    .op (some 16) (.ld true 2 (.t 15)) <|
    .op (some 17) (.bsl false 23 2 [(.t 16)]) <|
    .op (some 18) (.app 23 2 16 (.t 12) (.t 17)) <|
    .op (some 3) (.mov (.t 18)) <|
    .done)))
  (.reg false [] (.op (some 10) (.mov (.t 4)) <|
    .op (some 11) (.bin .sub (.t 10) (.c (.i .i64 1))) <|
    .op (some 4) (.mov (.t 11)) <|
    .done))))
/-- mapsheets/mapsheetslaw09.reversed -/
def fn24b : C := (.seq (.reg false [] (.op (some 2) (.mov (.c (.nl 23 2))) <|
    .done))
  (.seq (.reg false [] (.op (some 3) (.mov (.c (.nl 23 2))) <|
    .done))
  (.seq (.seq (.reg false [] (.op (some 5) (.mov (.t 0)) <|
    .op (some 6) (.len (.t 5)) <|
    .op (some 7) (.bin .sub (.t 6) (.c (.i .i64 1))) <|
    .op (some 4) (.mov (.t 7)) <|
    .done))
  (.blk 0 (.loop fn24k0 fn24l0)))
  (.seq (.reg false [] (.op (some 19) (.mov (.t 3)) <|
    .op (some 2) (.mov (.t 19)) <|
    .done))
  .ret))))
def fn24 : Fn := ⟨1, [.t 2], fn24b⟩
theorem rd24 : Read Try.prog 24 fn24 := Read.of Try.func24 (by decide +kernel) (by kernel_rfl) (by kernel_rfl)
def fn25k0 : List Nat := [0, 1, 5]
def fn25l0 : C := (.seq (.seq (.reg false [] (.op (some 11) (.mov (.t 5)) <|
    .op (some 12) (.mov (.t 0)) <|
    .op (some 13) (.len (.t 12)) <|
    .op (some 14) (.bin .lss (.t 11) (.t 13)) <|
    .done))
  (.cnd (.t 14)
  .skip
  (.exit 0)))
  (.seq (.blk 1 (.seq (.reg true [] (.op (some 17) (.mov (.t 0)) <|
    .op (some 18) (.mov (.t 5)) <|
    .op (some 19) (.ia 2 (.t 17) (.t 18)) <|
    .op (some 20) (.ld true 2 (.t 19)) <|
    .op (some 21) (.mov (.t 1)) <|
    .op (some 22) (.mov (.t 5)) <|
    .op (some 23) (.ia 2 (.t 21) (.t 22)) <|
    .op (some 24) (.ld true 2 (.t 23)) <|
    .op (some 25) (.eq true true [false, false] (.t 20) (.t 24)) <|
    .done))
  (.cnd (.t 25)
  (.seq (.reg false [] (.op (some 4) (.mov (.c (.b false))) <|
    .done))
  .ret)
  .skip)))
  (.reg false [] (.op (some 15) (.mov (.t 5)) <|
    .op (some 16) (.bin .add (.t 15) (.c (.i .i64 1))) <|
    .op (some 5) (.mov (.t 16)) <|
    .done))))
/-- mapsheets/mapsheetsref09.Same -/
def fn25b : C := (.seq (.reg false [] (.op (some 4) (.mov (.c (.b false))) <|
    .done))
  (.seq (.seq (.reg false [] (.op (some 6) (.mov (.t 0)) <|
    .op (some 7) (.len (.t 6)) <|
    .op (some 8) (.mov (.t 1)) <|
    .op (some 9) (.len (.t 8)) <|
    .op (some 10) (.bin .neq (.t 7) (.t 9)) <|
    .done))
  (.cnd (.t 10)
  (.seq (.reg false [] (.op (some 4) (.mov (.c (.b false))) <|
    .done))
  .ret)
  .skip))
  (.seq (.seq (.reg false [] (.op (some 5) (.mov (.c (.i .i64 0))) <|
    .done))
  (.blk 0 (.loop fn25k0 fn25l0)))
  (.seq (.reg false [] (.op (some 4) (.mov (.c (.b true))) <|
    .done))
  .ret))))
def fn25 : Fn := ⟨2, [.t 4], fn25b⟩
theorem rd25 : Read Try.prog 25 fn25 := Read.of Try.func25 (by decide +kernel) (by kernel_rfl) (by kernel_rfl)
/-- mapsheets/mapsheetsref08.Meet -/
def fn26b : C := (.seq (.reg false [] (.op (some 4) (.box 23 2 (.t 0)) <|
    .op (some 5) (.box 23 2 (.t 1)) <|
    .op (some 6) (.box 23 2 (.t 2)) <|
    .op (some 7) (.box 23 2 (.t 3)) <|
    .op (some 8) (.mov (.c (.i .i64 0))) <|
    .done))
  (.seq (.seq (.reg false [] (.op (some 12) (.ld true 2 (.t 4)) <|
    .op (some 13) (.ld true 2 (.t 5)) <|
    .op (some 14) (.ld true 2 (.t 6)) <|
    .op (some 15) (.ld true 2 (.t 7)) <|
    .op (some 16) (.bsl false 23 2 [(.t 12), (.t 13), (.t 14), (.t 15)]) <|
    .op (some 17) (.call false false 20 [(.t 16)]) <|
    .op (some 18) (.un .not (.t 17)) <|
    .done))
  (.cnd (.t 18)
  (.seq (.reg false [] (.op (some 8) (.mov (.c (.i .i64 0))) <|
    .done))
  .ret)
  .skip))
  (.seq (.seq (.reg false [] (.op (some 19) (.ld true 2 (.t 4)) <|
    .op (some 20) (.ld true 2 (.t 5)) <|
    .op (some 21) (.eq false true [false, false] (.t 19) (.t 20)) <|
    .op (some 22) (.mov (.t 21)) <|
    .sc 22 true (.op (some 23) (.ld true 2 (.t 6)) <|
    .op (some 24) (.ld true 2 (.t 7)) <|
    .op (some 25) (.eq false true [false, false] (.t 23) (.t 24)) <|
    .done) 26 (.t 25) <|
    .op (some 27) (.mov (.t 26)) <|
    .sc 27 true (.op (some 28) (.ld true 2 (.t 4)) <|
    .op (some 29) (.ld true 2 (.t 6)) <|
    .op (some 30) (.eq true true [false, false] (.t 28) (.t 29)) <|
    .done) 31 (.t 30) <|
    .done))
  (.cnd (.t 31)
  (.seq (.reg false [] (.op (some 8) (.mov (.c (.i .i64 0))) <|
    .done))
  .ret)
  .skip))
  (.seq (.reg false [] (.op (some 32) (.ld true 2 (.t 4)) <|
    .op (some 33) (.ld true 2 (.t 5)) <|
    .op (some 34) (.ld true 2 (.t 6)) <|
    .op (some 35) (.ld true 2 (.t 7)) <|
    .op (some 36) (.call false false 51 [(.t 32), (.t 33), (.t 34), (.t 35)]) <|
    .op (some 9) (.mov (.t 36)) <|
    .done))
  (.seq (.seq (.reg false [] (.op (some 37) (.mov (.t 9)) <|
    .op (some 38) (.bin .eql (.t 37) (.c (.i .i64 0))) <|
    .done))
  (.cnd (.t 38)
  (.seq (.seq (.reg false [] (.op (some 39) (.ld true 2 (.t 4)) <|
    .op (some 40) (.ld true 2 (.t 5)) <|
    .op (some 41) (.ld true 2 (.t 4)) <|
    .op (some 42) (.ld true 2 (.t 6)) <|
    .op (some 43) (.call false false 51 [(.t 39), (.t 40), (.t 41), (.t 42)]) <|
    .op (some 44) (.bin .neq (.t 43) (.c (.i .i64 0))) <|
    .op (some 45) (.mov (.t 44)) <|
    .sc 45 false (.op (some 46) (.ld true 2 (.t 4)) <|
    .op (some 47) (.ld true 2 (.t 5)) <|
    .op (some 48) (.ld true 2 (.t 4)) <|
    .op (some 49) (.ld true 2 (.t 7)) <|
    .op (some 50) (.call false false 51 [(.t 46), (.t 47), (.t 48), (.t 49)]) <|
    .op (some 51) (.bin .neq (.t 50) (.c (.i .i64 0))) <|
    .done) 52 (.t 51) <|
    .op (some 53) (.mov (.t 52)) <|
    .sc 53 false (.op (some 54) (.ld true 2 (.t 6)) <|
    .op (some 55) (.ld true 2 (.t 7)) <|
    .op (some 56) (.ld true 2 (.t 6)) <|
    .op (some 57) (.ld true 2 (.t 4)) <|
    .op (some 58) (.call false false 51 [(.t 54), (.t 55), (.t 56), (.t 57)]) <|
    .op (some 59) (.bin .neq (.t 58) (.c (.i .i64 0))) <|
    .done) 60 (.t 59) <|
    .op (some 61) (.mov (.t 60)) <|
    .sc 61 false (.op (some 62) (.ld true 2 (.t 6)) <|
    .op (some 63) (.ld true 2 (.t 7)) <|
    .op (some 64) (.ld true 2 (.t 6)) <|
    .op (some 65) (.ld true 2 (.t 5)) <|
    .op (some 66) (.call false false 51 [(.t 62), (.t 63), (.t 64), (.t 65)]) <|
    .op (some 67) (.bin .neq (.t 66) (.c (.i .i64 0))) <|
    .done) 68 (.t 67) <|
    .done))
  (.cnd (.t 68)
  (.seq (.reg false [] (.op (some 8) (.mov (.c (.i .i64 0))) <|
    .done))
  .ret)
  .skip))
  (.seq (.reg false [] (.op (some 69) (.ld true 2 (.t 4)) <|
    .op (some 70) (.ld true 2 (.t 5)) <|
    .op (some 71) (.ld true 2 (.t 6)) <|
    .op (some 72) (.ld true 2 (.t 7)) <|
    .op (some 73) (.call false false 52 [(.t 69), (.t 70), (.t 71), (.t 72)]) <|
    .op (some 8) (.mov (.t 73)) <|
    .done))
  .ret))
  .skip))
  (.seq (.reg true [] (.op (some 74) (.ld true 2 (.t 4)) <|
    .op (some 75) (.ld true 2 (.t 6)) <|
    .op (some 76) (.ld true 2 (.t 6)) <|
    .op (some 77) (.ld true 2 (.t 7)) <|
    .op (some 78) (.call true false 51 [(.t 74), (.t 75), (.t 76), (.t 77)]) <|
    .op (some 79) (.ld true 2 (.t 4)) <|
    .op (some 80) (.ld true 2 (.t 6)) <|
    .op (some 81) (.ld true 2 (.t 4)) <|
    .op (some 82) (.ld true 2 (.t 5)) <|
    .op (some 83) (.call true false 51 [(.t 79), (.t 80), (.t 81), (.t 82)]) <|
    .op (some 10) (.mov (.t 78)) <|
    .op (some 11) (.mov (.t 83)) <|
    .done))
  (.seq (.seq (.reg false [] (.op (some 84) (.mov (.t 9)) <|
    .op (some 85) (.bin .lss (.t 84) (.c (.i .i64 0))) <|
    .done))
  (.cnd (.t 85)
  (.reg false [] (.op (some 86) (.mov (.t 9)) <|
    .op (some 87) (.un .neg (.t 86)) <|
    .op (some 88) (.mov (.t 10)) <|
    .op (some 89) (.un .neg (.t 88)) <|
    .op (some 90) (.mov (.t 11)) <|
    .op (some 91) (.un .neg (.t 90)) <|
    .op (some 9) (.mov (.t 87)) <|
    .op (some 10) (.mov (.t 89)) <|
    .op (some 11) (.mov (.t 91)) <|
    .done))
  .skip))
  (.seq (.seq (.reg false [] (.op (some 92) (.mov (.t 10)) <|
    .op (some 93) (.bin .geq (.t 92) (.c (.i .i64 0))) <|
    .op (some 94) (.mov (.t 93)) <|
    .sc 94 true (.op (some 95) (.mov (.t 10)) <|
    .op (some 96) (.mov (.t 9)) <|
    .op (some 97) (.bin .leq (.t 95) (.t 96)) <|
    .done) 98 (.t 97) <|
    .op (some 99) (.mov (.t 98)) <|
    .sc 99 true (.op (some 100) (.mov (.t 11)) <|
    .op (some 101) (.bin .geq (.t 100) (.c (.i .i64 0))) <|
    .done) 102 (.t 101) <|
    .op (some 103) (.mov (.t 102)) <|
    .sc 103 true (.op (some 104) (.mov (.t 11)) <|
    .op (some 105) (.mov (.t 9)) <|
    .op (some 106) (.bin .leq (.t 104) (.t 105)) <|
    .done) 107 (.t 106) <|
    .done))
  (.cnd (.t 107)
  (.seq (.reg false [] (.op (some 8) (.mov (.c (.i .i64 1))) <|
    .done))
  .ret)
  .skip))
  (.seq (.reg false [] (.op (some 8) (.mov (.c (.i .i64 0))) <|
    .done))
  .ret)))))))))
def fn26 : Fn := ⟨4, [.t 8], fn26b⟩
theorem rd26 : Read Try.prog 26 fn26 := Read.of Try.func26 (by decide +kernel) (by kernel_rfl) (by kernel_rfl)
/-- mapsheets/mapsheetslaw09.meets -/
def fn27b : C := (.seq (.reg false [] (.op (some 4) (.box 23 2 (.t 0)) <|
    .op (some 5) (.box 23 2 (.t 1)) <|
    .op (some 6) (.box 35 4 (.t 2)) <|
    .op (some 7) (.box 35 4 (.t 3)) <|
    .op (some 8) (.mov (.c (.b false))) <|
    .done))
  (.seq (.reg false [] (.op (some 18) (.ld true 2 (.t 4)) <|
    .op (some 19) (.ld true 2 (.t 5)) <|
    .op (some 20) (.ld true 4 (.t 6)) <|
    .op (some 21) (.call false false 17 [(.t 18), (.t 19), (.t 20)]) <|
    .op (some 17) (.mov (.t 21)) <|
    .op (some 22) (.ext (.t 17) 0) <|
    .op (some 23) (.ext (.t 17) 1) <|
    .op (some 24) (.ext (.t 17) 2) <|
    .op (some 9) (.box 23 2 (.c (.ag [(.i .i64 0), (.i .i64 0)]))) <|
    .op (some 10) (.box 23 2 (.c (.ag [(.i .i64 0), (.i .i64 0)]))) <|
    .op none (.st false 2 (.t 9) (.t 22)) <|
    .op none (.st false 2 (.t 10) (.t 23)) <|
    .op (some 11) (.mov (.t 24)) <|
    .done))
  (.seq (.reg false [] (.op (some 26) (.ld true 2 (.t 4)) <|
    .op (some 27) (.ld true 2 (.t 5)) <|
    .op (some 28) (.ld true 4 (.t 7)) <|
    .op (some 29) (.call false false 17 [(.t 26), (.t 27), (.t 28)]) <|
    .op (some 25) (.mov (.t 29)) <|
    .op (some 30) (.ext (.t 25) 0) <|
    .op (some 31) (.ext (.t 25) 1) <|
    .op (some 32) (.ext (.t 25) 2) <|
    .op (some 12) (.box 23 2 (.c (.ag [(.i .i64 0), (.i .i64 0)]))) <|
    .op (some 13) (.box 23 2 (.c (.ag [(.i .i64 0), (.i .i64 0)]))) <|
    .op none (.st false 2 (.t 12) (.t 30)) <|
    .op none (.st false 2 (.t 13) (.t 31)) <|
    .op (some 14) (.mov (.t 32)) <|
    .done))
  (.seq (.reg false [] (.op (some 34) (.ld true 2 (.t 4)) <|
    .op (some 35) (.ld true 2 (.t 5)) <|
    .op (some 36) (.fa 2 (.t 6)) <|
    .op (some 37) (.ld false 1 (.t 36)) <|
    .op (some 38) (.call false false 13 [(.t 34), (.t 35), (.t 37)]) <|
    .op (some 33) (.mov (.t 38)) <|
    .op (some 39) (.ext (.t 33) 0) <|
    .op (some 40) (.ext (.t 33) 1) <|
    .op (some 15) (.mov (.t 39)) <|
    .op (some 16) (.mov (.t 40)) <|
    .done))
  (.seq (.reg false [] (.op (some 41) (.mov (.t 11)) <|
    .op (some 42) (.mov (.t 41)) <|
    .sc 42 true (.op (some 43) (.mov (.t 14)) <|
    .done) 44 (.t 43) <|
    .op (some 45) (.mov (.t 44)) <|
    .sc 45 true (.op (some 46) (.mov (.t 16)) <|
    .op (some 47) (.bin .eql (.t 46) (.c (.i .i64 0))) <|
    .done) 48 (.t 47) <|
    .op (some 49) (.mov (.t 48)) <|
    .sc 49 true (.op (some 50) (.ld true 2 (.t 10)) <|
    .op (some 51) (.ld true 2 (.t 12)) <|
    .op (some 52) (.eq false true [false, false] (.t 50) (.t 51)) <|
    .done) 53 (.t 52) <|
    .op (some 54) (.mov (.t 53)) <|
    .sc 54 true (.op (some 55) (.ld true 2 (.t 10)) <|
    .op (some 56) (.fa 2 (.t 6)) <|
    .op (some 57) (.ld false 1 (.t 56)) <|
    .op (some 58) (.mov (.t 15)) <|
    .op (some 59) (.bld [(.i .i64 0), (.i .i64 0)] [(0, 1, (.t 57)), (1, 1, (.t 58))]) <|
    .op (some 60) (.eq false true [false, false] (.t 55) (.t 59)) <|
    .done) 61 (.t 60) <|
    .op (some 8) (.mov (.t 61)) <|
    .done))
  .ret)))))
def fn27 : Fn := ⟨4, [.t 8], fn27b⟩
theorem rd27 : Read Try.prog 27 fn27 := Read.of Try.func27 (by decide +kernel) (by kernel_rfl) (by kernel_rfl)
/-- mapsheets/mapsheetslaw09.turn -/
def fn28b : C := (.seq (.reg false [] (.op (some 1) (.box 23 2 (.t 0)) <|
    .op (some 2) (.box 23 2 (.c (.ag [(.i .i64 0), (.i .i64 0)]))) <|
    .done))
  (.seq (.reg false [] (.op (some 3) (.fa 1 (.t 1)) <|
    .op (some 4) (.ld false 1 (.t 3)) <|
    .op (some 5) (.fa 0 (.t 1)) <|
    .op (some 6) (.ld false 1 (.t 5)) <|
    .op (some 7) (.bld [(.i .i64 0), (.i .i64 0)] [(0, 1, (.t 4)), (1, 1, (.t 6))]) <|
    .op none (.st false 2 (.t 2) (.t 7)) <|
    .done))
  .ret))
def fn28 : Fn := ⟨1, [.c 2 true 2], fn28b⟩
theorem rd28 : Read Try.prog 28 fn28 := Read.of Try.func28 (by decide +kernel) (by kernel_rfl) (by kernel_rfl)
def fn29k0 : List Nat := [5, 6, 7]
def fn29l0 : C := (.seq (.reg false [] (.op (some 8) (.bin .lss (.t 7) (.t 6)) <|
    .done))
  (.seq (.cnd (.t 8)
  .skip
  (.exit 0))
  (.seq (.blk 1 (.seq (.reg false [] (.op (some 9) (.ia 2 (.t 5) (.t 7)) <|
    .op (some 10) (.ld true 2 (.t 9)) <|
    .op (some 4) (.box 23 2 (.c (.ag [(.i .i64 0), (.i .i64 0)]))) <|
    .op none (.st false 2 (.t 4) (.t 10)) <|
    .done))
  (.seq (.reg false [] (.op (some 11) (.fa 0 (.t 4)) <|
    .op (some 12) (.ld false 1 (.t 11)) <|
    .op (some 13) (.bin .lss (.t 12) (.c (.i .i64 (-2097152)))) <|
    .op (some 14) (.mov (.t 13)) <|
    .sc 14 false (.op (some 15) (.fa 0 (.t 4)) <|
    .op (some 16) (.ld false 1 (.t 15)) <|
    .op (some 17) (.bin .gtr (.t 16) (.c (.i .i64 2097152))) <|
    .done) 18 (.t 17) <|
    .op (some 19) (.mov (.t 18)) <|
    .sc 19 false (.op (some 20) (.fa 1 (.t 4)) <|
    .op (some 21) (.ld false 1 (.t 20)) <|
    .op (some 22) (.bin .lss (.t 21) (.c (.i .i64 (-2097152)))) <|
    .done) 23 (.t 22) <|
    .op (some 24) (.mov (.t 23)) <|
    .sc 24 false (.op (some 25) (.fa 1 (.t 4)) <|
    .op (some 26) (.ld false 1 (.t 25)) <|
    .op (some 27) (.bin .gtr (.t 26) (.c (.i .i64 2097152))) <|
    .done) 28 (.t 27) <|
    .done))
  (.cnd (.t 28)
  (.seq (.reg false [] (.op (some 2) (.mov (.c (.b false))) <|
    .done))
  .ret)
  .skip))))
  (.reg false [] (.op (some 29) (.bin .add (.t 7) (.c (.i .i64 1))) <|
    .op (some 7) (.mov (.t 29)) <|
    .done)))))
/-- mapsheets/cut.accepted -/
def fn29b : C := (.seq (.reg false [] (.op (some 2) (.mov (.c (.b false))) <|
    .done))
  (.seq (.seq (.reg false [] (.op (some 5) (.mov (.t 0)) <|
    .op (some 6) (.len (.t 5)) <|
    .op (some 7) (.mov (.c (.i .i64 0))) <|
    .done))
  (.blk 0 (.loop fn29k0 fn29l0)))
  (.seq (.reg false [] (.op (some 2) (.mov (.c (.b true))) <|
    .done))
  .ret)))
def fn29 : Fn := ⟨1, [.t 2], fn29b⟩
theorem rd29 : Read Try.prog 29 fn29 := Read.of Try.func29 (by decide +kernel) (by kernel_rfl) (by kernel_rfl)
/-- mapsheets/geom.Meet -/
def fn30b : C := (.seq (.reg false [] (.op (some 4) (.box 23 2 (.t 0)) <|
    .op (some 5) (.box 23 2 (.t 1)) <|
    .op (some 6) (.box 23 2 (.t 2)) <|
    .op (some 7) (.box 23 2 (.t 3)) <|
    .op (some 8) (.mov (.c (.i .i64 0))) <|
    .done))
  (.seq (.seq (.reg false [] (.op (some 11) (.ld true 2 (.t 4)) <|
    .op (some 12) (.ld true 2 (.t 5)) <|
    .op (some 13) (.ld true 2 (.t 6)) <|
    .op (some 14) (.ld true 2 (.t 7)) <|
    .op (some 15) (.bsl false 23 2 [(.t 11), (.t 12), (.t 13), (.t 14)]) <|
    .op (some 16) (.call false false 53 [(.t 15)]) <|
    .op (some 17) (.un .not (.t 16)) <|
    .done))
  (.cnd (.t 17)
  (.seq (.reg false [] (.op (some 8) (.mov (.c (.i .i64 0))) <|
    .done))
  .ret)
  .skip))
  (.seq (.blk 0 (.seq (.reg false [] (.op (some 19) (.ld true 2 (.t 4)) <|
    .op (some 20) (.ld true 2 (.t 5)) <|
    .op (some 21) (.eq false true [false, false] (.t 19) (.t 20)) <|
    .op (some 18) (.mov (.t 21)) <|
    .done))
  (.cnd (.t 18)
  (.seq (.seq (.reg false [] (.op (some 22) (.ld true 2 (.t 6)) <|
    .op (some 23) (.ld true 2 (.t 7)) <|
    .op (some 24) (.ld true 2 (.t 4)) <|
    .op (some 25) (.call false false 54 [(.t 22), (.t 23), (.t 24)]) <|
    .done))
  (.cnd (.t 25)
  (.seq (.reg false [] (.op (some 8) (.mov (.c (.i .i64 1))) <|
    .done))
  .ret)
  .skip))
  (.seq (.reg false [] (.op (some 8) (.mov (.c (.i .i64 0))) <|
    .done))
  .ret))
  (.seq (.reg false [] (.op (some 27) (.ld true 2 (.t 6)) <|
    .op (some 28) (.ld true 2 (.t 7)) <|
    .op (some 29) (.eq false true [false, false] (.t 27) (.t 28)) <|
    .op (some 26) (.mov (.t 29)) <|
    .done))
  (.cnd (.t 26)
  (.seq (.seq (.reg false [] (.op (some 30) (.ld true 2 (.t 4)) <|
    .op (some 31) (.ld true 2 (.t 5)) <|
    .op (some 32) (.ld true 2 (.t 6)) <|
    .op (some 33) (.call false false 54 [(.t 30), (.t 31), (.t 32)]) <|
    .done))
  (.cnd (.t 33)
  (.seq (.reg false [] (.op (some 8) (.mov (.c (.i .i64 1))) <|
    .done))
  .ret)
  .skip))
  (.seq (.reg false [] (.op (some 8) (.mov (.c (.i .i64 0))) <|
    .done))
  .ret))
  .skip)))))
  (.seq (.reg true [] (.op (some 34) (.ld true 2 (.t 4)) <|
    .op (some 35) (.ld true 2 (.t 5)) <|
    .op (some 36) (.ld true 2 (.t 6)) <|
    .op (some 37) (.call true false 55 [(.t 34), (.t 35), (.t 36)]) <|
    .op (some 38) (.ld true 2 (.t 4)) <|
    .op (some 39) (.ld true 2 (.t 5)) <|
    .op (some 40) (.ld true 2 (.t 7)) <|
    .op (some 41) (.call true false 55 [(.t 38), (.t 39), (.t 40)]) <|
    .op (some 9) (.mov (.t 37)) <|
    .op (some 10) (.mov (.t 41)) <|
    .done))
  (.seq (.seq (.reg false [] (.op (some 42) (.mov (.t 9)) <|
    .op (some 43) (.bin .neq (.t 42) (.c (.i .i64 0))) <|
    .op (some 44) (.mov (.t 43)) <|
    .sc 44 false (.op (some 45) (.mov (.t 10)) <|
    .op (some 46) (.bin .neq (.t 45) (.c (.i .i64 0))) <|
    .done) 47 (.t 46) <|
    .done))
  (.cnd (.t 47)
  (.seq (.seq (.reg true [] (.op (some 48) (.mov (.t 9)) <|
    .op (some 49) (.mov (.t 10)) <|
    .op (some 50) (.bin .mul (.t 48) (.t 49)) <|
    .op (some 51) (.bin .leq (.t 50) (.c (.i .i64 0))) <|
    .op (some 52) (.mov (.t 51)) <|
    .sc 52 true (.op (some 53) (.ld true 2 (.t 6)) <|
    .op (some 54) (.ld true 2 (.t 7)) <|
    .op (some 55) (.ld true 2 (.t 4)) <|
    .op (some 56) (.call true false 55 [(.t 53), (.t 54), (.t 55)]) <|
    .op (some 57) (.ld true 2 (.t 6)) <|
    .op (some 58) (.ld true 2 (.t 7)) <|
    .op (some 59) (.ld true 2 (.t 5)) <|
    .op (some 60) (.call true false 55 [(.t 57), (.t 58), (.t 59)]) <|
    .op (some 61) (.bin .mul (.t 56) (.t 60)) <|
    .op (some 62) (.bin .leq (.t 61) (.c (.i .i64 0))) <|
    .done) 63 (.t 62) <|
    .done))
  (.cnd (.t 63)
  (.seq (.reg false [] (.op (some 8) (.mov (.c (.i .i64 1))) <|
    .done))
  .ret)
  .skip))
  (.seq (.reg false [] (.op (some 8) (.mov (.c (.i .i64 0))) <|
    .done))
  .ret))
  .skip))
  (.seq (.reg false [] (.op (some 65) (.ld true 2 (.t 4)) <|
    .op (some 66) (.ld true 2 (.t 5)) <|
    .op (some 67) (.call false false 56 [(.t 65), (.t 66)]) <|
    .op (some 64) (.mov (.t 67)) <|
    .op (some 68) (.ext (.t 64) 0) <|
    .op (some 69) (.ext (.t 64) 1) <|
    .op none (.st false 2 (.t 4) (.t 68)) <|
    .op none (.st false 2 (.t 5) (.t 69)) <|
    .done))
  (.seq (.reg false [] (.op (some 71) (.ld true 2 (.t 6)) <|
    .op (some 72) (.ld true 2 (.t 7)) <|
    .op (some 73) (.call false false 56 [(.t 71), (.t 72)]) <|
    .op (some 70) (.mov (.t 73)) <|
    .op (some 74) (.ext (.t 70) 0) <|
    .op (some 75) (.ext (.t 70) 1) <|
    .op none (.st false 2 (.t 6) (.t 74)) <|
    .op none (.st false 2 (.t 7) (.t 75)) <|
    .done))
  (.seq (.seq (.reg false [] (.op (some 76) (.ld true 2 (.t 4)) <|
    .op (some 77) (.ld true 2 (.t 6)) <|
    .op (some 78) (.call false false 57 [(.t 76), (.t 77)]) <|
    .op (some 79) (.bin .lss (.t 78) (.c (.i .i64 0))) <|
    .done))
  (.cnd (.t 79)
  (.reg false [] (.op (some 80) (.ld true 2 (.t 6)) <|
    .op none (.st false 2 (.t 4) (.t 80)) <|
    .done))
  .skip))
  (.seq (.seq (.reg false [] (.op (some 81) (.ld true 2 (.t 5)) <|
    .op (some 82) (.ld true 2 (.t 7)) <|
    .op (some 83) (.call false false 57 [(.t 81), (.t 82)]) <|
    .op (some 84) (.bin .gtr (.t 83) (.c (.i .i64 0))) <|
    .done))
  (.cnd (.t 84)
  (.reg false [] (.op (some 85) (.ld true 2 (.t 7)) <|
    .op none (.st false 2 (.t 5) (.t 85)) <|
    .done))
  .skip))
  (.seq (.reg false [] (.op (some 86) (.ld true 2 (.t 4)) <|
    .op (some 87) (.ld true 2 (.t 5)) <|
    .op (some 88) (.call false false 57 [(.t 86), (.t 87)]) <|
    .op (some 89) (.bin .sub (.c (.i .i64 1)) (.t 88)) <|
    .op (some 8) (.mov (.t 89)) <|
    .done))
  .ret))))))))))
def fn30 : Fn := ⟨4, [.t 8], fn30b⟩
theorem rd30 : Read Try.prog 30 fn30 := Read.of Try.func30 (by decide +kernel) (by kernel_rfl) (by kernel_rfl)
/-- mapsheets/geom.On -/
def fn31b : C := (.seq (.reg false [] (.op (some 3) (.box 23 2 (.t 0)) <|
    .op (some 4) (.box 23 2 (.t 1)) <|
    .op (some 5) (.box 23 2 (.t 2)) <|
    .op (some 6) (.mov (.c (.b false))) <|
    .done))
  (.seq (.reg false [] (.op (some 7) (.ld true 2 (.t 3)) <|
    .op (some 8) (.ld true 2 (.t 4)) <|
    .op (some 9) (.ld true 2 (.t 5)) <|
    .op (some 10) (.bsl false 23 2 [(.t 7), (.t 8), (.t 9)]) <|
    .op (some 11) (.call false false 53 [(.t 10)]) <|
    .op (some 12) (.mov (.t 11)) <|
    .sc 12 true (.op (some 13) (.ld true 2 (.t 3)) <|
    .op (some 14) (.ld true 2 (.t 4)) <|
    .op (some 15) (.ld true 2 (.t 5)) <|
    .op (some 16) (.call false false 54 [(.t 13), (.t 14), (.t 15)]) <|
    .done) 17 (.t 16) <|
    .op (some 6) (.mov (.t 17)) <|
    .done))
  .ret))
def fn31 : Fn := ⟨3, [.t 6], fn31b⟩
theorem rd31 : Read Try.prog 31 fn31 := Read.of Try.func31 (by decide +kernel) (by kernel_rfl) (by kernel_rfl)
/-- mapsheets/cut.scaled -/
def fn32b : C := (.seq (.reg false [] (.op (some 6) (.mov (.c (.i .i64 0))) <|
    .done))
  (.seq (.reg false [] (.op (some 10) (.mov (.t 0)) <|
    .op (some 11) (.mov (.t 1)) <|
    .op (some 12) (.bin .mul (.c (.i .i64 2)) (.t 11)) <|
    .op (some 13) (.mov (.t 2)) <|
    .op (some 14) (.call false false 58 [(.t 10), (.t 12), (.t 13)]) <|
    .op (some 9) (.mov (.t 14)) <|
    .op (some 15) (.ext (.t 9) 0) <|
    .op (some 16) (.ext (.t 9) 1) <|
    .op (some 7) (.mov (.t 15)) <|
    .op (some 8) (.mov (.t 16)) <|
    .done))
  (.seq (.reg false [] (.op (some 17) (.mov (.t 7)) <|
    .op (some 18) (.bin .add (.t 17) (.c (.i .i64 1))) <|
    .op (some 19) (.bin .shr (.t 18) (.c (.i .u64 1))) <|
    .op (some 6) (.mov (.t 19)) <|
    .done))
  .ret)))
def fn32 : Fn := ⟨3, [.t 6], fn32b⟩
theorem rd32 : Read Try.prog 32 fn32 := Read.of Try.func32 (by decide +kernel) (by kernel_rfl) (by kernel_rfl)
/-- mapsheets/mapsheetsref08.On -/
def fn33b : C := (.seq (.reg false [] (.op (some 3) (.box 23 2 (.t 0)) <|
    .op (some 4) (.box 23 2 (.t 1)) <|
    .op (some 5) (.box 23 2 (.t 2)) <|
    .op (some 6) (.mov (.c (.b false))) <|
    .done))
  (.seq (.reg false [] (.op (some 7) (.ld true 2 (.t 3)) <|
    .op (some 8) (.ld true 2 (.t 4)) <|
    .op (some 9) (.ld true 2 (.t 5)) <|
    .op (some 10) (.bsl false 23 2 [(.t 7), (.t 8), (.t 9)]) <|
    .op (some 11) (.call false false 20 [(.t 10)]) <|
    .op (some 12) (.mov (.t 11)) <|
    .sc 12 true (.op (some 13) (.ld true 2 (.t 3)) <|
    .op (some 14) (.ld true 2 (.t 4)) <|
    .op (some 15) (.ld true 2 (.t 3)) <|
    .op (some 16) (.ld true 2 (.t 5)) <|
    .op (some 17) (.call false false 51 [(.t 13), (.t 14), (.t 15), (.t 16)]) <|
    .op (some 18) (.bin .eql (.t 17) (.c (.i .i64 0))) <|
    .done) 19 (.t 18) <|
    .op (some 20) (.mov (.t 19)) <|
    .sc 20 true (.op (some 21) (.ld true 2 (.t 3)) <|
    .op (some 22) (.ld true 2 (.t 5)) <|
    .op (some 23) (.ld true 2 (.t 4)) <|
    .op (some 24) (.ld true 2 (.t 5)) <|
    .op (some 25) (.call false false 59 [(.t 21), (.t 22), (.t 23), (.t 24)]) <|
    .op (some 26) (.bin .leq (.t 25) (.c (.i .i64 0))) <|
    .done) 27 (.t 26) <|
    .op (some 6) (.mov (.t 27)) <|
    .done))
  .ret))
def fn33 : Fn := ⟨3, [.t 6], fn33b⟩
theorem rd33 : Read Try.prog 33 fn33 := Read.of Try.func33 (by decide +kernel) (by kernel_rfl) (by kernel_rfl)
/-- mapsheets/mapsheetsref09.cross -/
def fn34b : C := (.seq (.reg false [] (.op (some 4) (.box 23 2 (.t 0)) <|
    .op (some 5) (.box 23 2 (.t 1)) <|
    .op (some 6) (.box 23 2 (.t 2)) <|
    .op (some 7) (.box 23 2 (.t 3)) <|
    .op (some 8) (.mov (.c (.i .i64 0))) <|
    .done))
  (.seq (.reg false [] (.op (some 9) (.fa 0 (.t 5)) <|
    .op (some 10) (.ld false 1 (.t 9)) <|
    .op (some 11) (.fa 0 (.t 4)) <|
    .op (some 12) (.ld false 1 (.t 11)) <|
    .op (some 13) (.bin .sub (.t 10) (.t 12)) <|
    .op (some 14) (.fa 1 (.t 7)) <|
    .op (some 15) (.ld false 1 (.t 14)) <|
    .op (some 16) (.fa 1 (.t 6)) <|
    .op (some 17) (.ld false 1 (.t 16)) <|
    .op (some 18) (.bin .sub (.t 15) (.t 17)) <|
    .op (some 19) (.bin .mul (.t 13) (.t 18)) <|
    .op (some 20) (.fa 1 (.t 5)) <|
    .op (some 21) (.ld false 1 (.t 20)) <|
    .op (some 22) (.fa 1 (.t 4)) <|
    .op (some 23) (.ld false 1 (.t 22)) <|
    .op (some 24) (.bin .sub (.t 21) (.t 23)) <|
    .op (some 25) (.fa 0 (.t 7)) <|
    .op (some 26) (.ld false 1 (.t 25)) <|
    .op (some 27) (.fa 0 (.t 6)) <|
    .op (some 28) (.ld false 1 (.t 27)) <|
    .op (some 29) (.bin .sub (.t 26) (.t 28)) <|
    .op (some 30) (.bin .mul (.t 24) (.t 29)) <|
    .op (some 31) (.bin .sub (.t 19) (.t 30)) <|
    .op (some 8) (.mov (.t 31)) <|
    .done))
  .ret))
def fn34 : Fn := ⟨4, [.t 8], fn34b⟩
theorem rd34 : Read Try.prog 34 fn34 := Read.of Try.func34 (by decide +kernel) (by kernel_rfl) (by kernel_rfl)
def fn35k0 : List Nat := [0, 1, 2, 3, 9, 10]
def fn35l0 : C := (.seq (.seq (.reg false [] (.op (some 15) (.mov (.t 10)) <|
    .op (some 16) (.mov (.t 9)) <|
    .op (some 17) (.bin .sub (.t 15) (.t 16)) <|
    .op (some 18) (.bin .gtr (.t 17) (.c (.i .i64 1))) <|
    .done))
  (.cnd (.t 18)
  .skip
  (.exit 0)))
  (.blk 1 (.seq (.reg false [] (.op (some 19) (.mov (.t 9)) <|
    .op (some 20) (.mov (.t 10)) <|
    .op (some 21) (.bin .add (.t 19) (.t 20)) <|
    .op (some 22) (.bin .quo (.t 21) (.c (.i .i64 2))) <|
    .op (some 11) (.mov (.t 22)) <|
    .done))
  (.seq (.reg false [] (.op (some 23) (.mov (.t 11)) <|
    .op (some 24) (.mov (.t 1)) <|
    .op (some 25) (.mov (.t 2)) <|
    .op (some 26) (.mov (.t 3)) <|
    .op (some 27) (.call false false 60 [(.t 23), (.t 24), (.t 25), (.t 26)]) <|
    .done))
  (.cnd (.t 27)
  (.reg false [] (.op (some 28) (.mov (.t 11)) <|
    .op (some 9) (.mov (.t 28)) <|
    .done))
  (.reg false [] (.op (some 29) (.mov (.t 11)) <|
    .op (some 10) (.mov (.t 29)) <|
    .done)))))))
/-- mapsheets/mapsheetsref09.along -/
def fn35b : C := (.seq (.reg false [] (.op (some 8) (.mov (.c (.i .i64 0))) <|
    .done))
  (.seq (.seq (.reg false [] (.op (some 12) (.mov (.t 1)) <|
    .op (some 13) (.bin .eql (.t 12) (.c (.i .i64 0))) <|
    .done))
  (.cnd (.t 13)
  (.seq (.reg false [] (.op (some 14) (.mov (.t 0)) <|
    .op (some 8) (.mov (.t 14)) <|
    .done))
  .ret)
  .skip))
  (.seq (.reg false [] (.op (some 9) (.mov (.c (.i .i64 (-4194304)))) <|
    .op (some 10) (.mov (.c (.i .i64 4194305))) <|
    .done))
  (.seq (.blk 0 (.loop fn35k0 fn35l0))
  (.seq (.reg false [] (.op (some 30) (.mov (.t 0)) <|
    .op (some 31) (.mov (.t 9)) <|
    .op (some 32) (.bin .add (.t 30) (.t 31)) <|
    .op (some 8) (.mov (.t 32)) <|
    .done))
  .ret)))))
def fn35 : Fn := ⟨4, [.t 8], fn35b⟩
theorem rd35 : Read Try.prog 35 fn35 := Read.of Try.func35 (by decide +kernel) (by kernel_rfl) (by kernel_rfl)
/-- mapsheets/num.Round -/
def fn36b : C := (.seq (.reg false [] (.op (some 4) (.mov (.c (.i .i64 0))) <|
    .op (some 5) (.mov (.c (.i .i64 0))) <|
    .done))
  (.seq (.reg false [] (.op (some 10) (.mov (.t 0)) <|
    .op (some 11) (.mov (.t 1)) <|
    .op (some 12) (.call false false 61 [(.t 10), (.t 11)]) <|
    .op (some 9) (.mov (.t 12)) <|
    .op (some 13) (.ext (.t 9) 0) <|
    .op (some 14) (.ext (.t 9) 1) <|
    .op (some 15) (.ext (.t 9) 2) <|
    .op (some 6) (.mov (.t 13)) <|
    .op (some 7) (.mov (.t 14)) <|
    .op (some 8) (.mov (.t 15)) <|
    .done))
  (.seq (.seq (.reg false [] (.op (some 16) (.mov (.t 7)) <|
    .op (some 17) (.bin .neq (.t 16) (.c (.i .i64 0))) <|
    .op (some 18) (.mov (.t 17)) <|
    .sc 18 true (.op (some 19) (.mov (.t 7)) <|
    .op (some 20) (.call false false 62 [(.t 19)]) <|
    .op (some 21) (.mov (.t 1)) <|
    .op (some 22) (.call false false 62 [(.t 21)]) <|
    .op (some 23) (.mov (.t 7)) <|
    .op (some 24) (.call false false 62 [(.t 23)]) <|
    .op (some 25) (.bin .sub (.t 22) (.t 24)) <|
    .op (some 26) (.bin .geq (.t 20) (.t 25)) <|
    .done) 27 (.t 26) <|
    .done))
  (.cnd (.t 27)
  (.reg false [] (.op (some 28) (.mov (.t 6)) <|
    .op (some 29) (.bin .add (.t 28) (.c (.i .i64 1))) <|
    .op (some 6) (.mov (.t 29)) <|
    .done))
  .skip))
  (.seq (.reg false [] (.op (some 30) (.mov (.t 6)) <|
    .op (some 31) (.mov (.t 8)) <|
    .op (some 4) (.mov (.t 30)) <|
    .op (some 5) (.mov (.t 31)) <|
    .done))
  .ret))))
def fn36 : Fn := ⟨2, [.t 4, .t 5], fn36b⟩
theorem rd36 : Read Try.prog 36 fn36 := Read.of Try.func36 (by decide +kernel) (by kernel_rfl) (by kernel_rfl)
/-- mapsheets/mapsheetsref01.Round -/
def fn37b : C := (.seq (.reg false [] (.op (some 4) (.mov (.c (.i .i64 0))) <|
    .op (some 5) (.mov (.c (.i .i64 0))) <|
    .done))
  (.seq (.seq (.reg false [] (.op (some 10) (.mov (.t 1)) <|
    .op (some 11) (.bin .eql (.t 10) (.c (.i .i64 0))) <|
    .done))
  (.cnd (.t 11)
  (.seq (.reg false [] (.op (some 4) (.mov (.c (.i .i64 0))) <|
    .op (some 5) (.mov (.c (.i .i64 21))) <|
    .done))
  .ret)
  .skip))
  (.seq (.reg false [] (.op (some 13) (.mov (.t 0)) <|
    .op (some 14) (.mov (.t 1)) <|
    .op (some 15) (.call false false 63 [(.t 13), (.t 14)]) <|
    .op (some 12) (.mov (.t 15)) <|
    .op (some 16) (.ext (.t 12) 0) <|
    .op (some 17) (.ext (.t 12) 1) <|
    .op (some 18) (.ext (.t 12) 2) <|
    .op (some 6) (.mov (.t 16)) <|
    .op (some 7) (.mov (.t 17)) <|
    .op (some 8) (.mov (.t 18)) <|
    .done))
  (.seq (.reg false [] (.op (some 19) (.mov (.t 1)) <|
    .op (some 20) (.call false false 64 [(.t 19)]) <|
    .op (some 21) (.mov (.t 7)) <|
    .op (some 22) (.bin .sub (.t 20) (.t 21)) <|
    .op (some 9) (.mov (.t 22)) <|
    .done))
  (.seq (.seq (.reg false [] (.op (some 23) (.mov (.t 7)) <|
    .op (some 24) (.mov (.t 9)) <|
    .op (some 25) (.bin .gtr (.t 23) (.t 24)) <|
    .op (some 26) (.mov (.t 25)) <|
    .sc 26 false (.op (some 27) (.mov (.t 7)) <|
    .op (some 28) (.mov (.t 9)) <|
    .op (some 29) (.bin .eql (.t 27) (.t 28)) <|
    .op (some 30) (.mov (.t 29)) <|
    .sc 30 true (.op (some 31) (.mov (.t 8)) <|
    .op (some 32) (.un .not (.t 31)) <|
    .done) 33 (.t 32) <|
    .done) 34 (.t 33) <|
    .done))
  (.cnd (.t 34)
  (.reg false [] (.op (some 35) (.mov (.t 6)) <|
    .op (some 36) (.bin .add (.t 35) (.c (.i .u64 1))) <|
    .op (some 6) (.mov (.t 36)) <|
    .done))
  .skip))
  (.seq (.reg false [] (.op (some 37) (.mov (.t 8)) <|
    .op (some 38) (.mov (.t 6)) <|
    .op (some 39) (.call false false 65 [(.t 37), (.t 38)]) <|
    .op (some 40) (.ext (.t 39) 0) <|
    .op (some 41) (.ext (.t 39) 1) <|
    .op (some 4) (.mov (.t 40)) <|
    .op (some 5) (.mov (.t 41)) <|
    .done))
  .ret))))))
def fn37 : Fn := ⟨2, [.t 4, .t 5], fn37b⟩
theorem rd37 : Read Try.prog 37 fn37 := Read.of Try.func37 (by decide +kernel) (by kernel_rfl) (by kernel_rfl)
/-- mapsheets/cut.turned -/
def fn38b : C := (.seq (.reg false [] (.op (some 1) (.box 23 2 (.t 0)) <|
    .op (some 2) (.box 23 2 (.c (.ag [(.i .i64 0), (.i .i64 0)]))) <|
    .done))
  (.seq (.reg false [] (.op (some 3) (.fa 1 (.t 1)) <|
    .op (some 4) (.ld false 1 (.t 3)) <|
    .op (some 5) (.fa 0 (.t 1)) <|
    .op (some 6) (.ld false 1 (.t 5)) <|
    .op (some 7) (.bld [(.i .i64 0), (.i .i64 0)] [(0, 1, (.t 4)), (1, 1, (.t 6))]) <|
    .op none (.st false 2 (.t 2) (.t 7)) <|
    .done))
  .ret))
def fn38 : Fn := ⟨1, [.c 2 true 2], fn38b⟩
theorem rd38 : Read Try.prog 38 fn38 := Read.of Try.func38 (by decide +kernel) (by kernel_rfl) (by kernel_rfl)
/-- mapsheets/mapsheetsref09.turn -/
def fn39b : C := (.seq (.reg false [] (.op (some 1) (.box 23 2 (.t 0)) <|
    .op (some 2) (.box 23 2 (.c (.ag [(.i .i64 0), (.i .i64 0)]))) <|
    .done))
  (.seq (.reg false [] (.op (some 3) (.fa 1 (.t 1)) <|
    .op (some 4) (.ld false 1 (.t 3)) <|
    .op (some 5) (.fa 0 (.t 1)) <|
    .op (some 6) (.ld false 1 (.t 5)) <|
    .op (some 7) (.bld [(.i .i64 0), (.i .i64 0)] [(0, 1, (.t 4)), (1, 1, (.t 6))]) <|
    .op none (.st false 2 (.t 2) (.t 7)) <|
    .done))
  .ret))
def fn39 : Fn := ⟨1, [.c 2 true 2], fn39b⟩
theorem rd39 : Read Try.prog 39 fn39 := Read.of Try.func39 (by decide +kernel) (by kernel_rfl) (by kernel_rfl)
/-- mapsheets/cut.Clip$1 -/
def fn40b : C := (.seq (.reg false [] (.op (some 2) (.mov (.c (.i .i64 0))) <|
    .done))
  (.seq (.reg false [] (.op (some 3) (.mov (.t 0)) <|
    .op (some 4) (.mm true (.t 3) (.c (.i .i64 (-2097153)))) <|
    .op (some 5) (.mm false (.t 4) (.c (.i .i64 2097153))) <|
    .op (some 2) (.mov (.t 5)) <|
    .done))
  .ret))
def fn40 : Fn := ⟨1, [.t 2], fn40b⟩
theorem rd40 : Read Try.prog 40 fn40 := Read.of Try.func40 (by decide +kernel) (by kernel_rfl) (by kernel_rfl)
/-- mapsheets/cut.Clip$2 -/
def fn41b : C := (.seq (.reg false [] (.op (some 4) (.box 23 2 (.c (.ag [(.i .i64 0), (.i .i64 0)]))) <|
    .done))
  (.seq (.reg false [] (.op (some 8) (.ld true 2 (.t 1)) <|
    .op (some 9) (.ld true 2 (.t 2)) <|
    .op (some 10) (.mov (.t 0)) <|
    .op (some 11) (.call false false 13 [(.t 8), (.t 9), (.t 10)]) <|
    .op (some 7) (.mov (.t 11)) <|
    .op (some 12) (.ext (.t 7) 0) <|
    .op (some 13) (.ext (.t 7) 1) <|
    .op (some 5) (.mov (.t 12)) <|
    .op (some 6) (.mov (.t 13)) <|
    .done))
  (.seq (.reg false [] (.op (some 14) (.mov (.t 0)) <|
    .op (some 15) (.mov (.t 5)) <|
    .op (some 16) (.bld [(.i .i64 0), (.i .i64 0)] [(0, 1, (.t 14)), (1, 1, (.t 15))]) <|
    .op none (.st false 2 (.t 4) (.t 16)) <|
    .done))
  .ret)))
def fn41 : Fn := ⟨3, [.c 4 true 2], fn41b⟩
theorem rd41 : Read Try.prog 41 fn41 := Read.of Try.func41 (by decide +kernel) (by kernel_rfl) (by kernel_rfl)
/-- mapsheets/cut.Clip$3 -/
def fn42b : C := (.seq (.reg false [] (.op (some 4) (.box 23 2 (.c (.ag [(.i .i64 0), (.i .i64 0)]))) <|
    .done))
  (.seq (.reg false [] (.op (some 8) (.ld true 2 (.t 1)) <|
    .op (some 9) (.ld true 2 (.t 2)) <|
    .op (some 10) (.mov (.t 0)) <|
    .op (some 11) (.call false false 15 [(.t 8), (.t 9), (.t 10)]) <|
    .op (some 7) (.mov (.t 11)) <|
    .op (some 12) (.ext (.t 7) 0) <|
    .op (some 13) (.ext (.t 7) 1) <|
    .op (some 5) (.mov (.t 12)) <|
    .op (some 6) (.mov (.t 13)) <|
    .done))
  (.seq (.reg false [] (.op (some 14) (.mov (.t 5)) <|
    .op (some 15) (.mov (.t 0)) <|
    .op (some 16) (.bld [(.i .i64 0), (.i .i64 0)] [(0, 1, (.t 14)), (1, 1, (.t 15))]) <|
    .op none (.st false 2 (.t 4) (.t 16)) <|
    .done))
  .ret)))
def fn42 : Fn := ⟨3, [.c 4 true 2], fn42b⟩
theorem rd42 : Read Try.prog 42 fn42 := Read.of Try.func42 (by decide +kernel) (by kernel_rfl) (by kernel_rfl)
/-- mapsheets/cut.limit -/
def fn43b : C := (.seq (.reg false [] (.op (some 7) (.box 23 2 (.t 0)) <|
    .op (some 8) (.box 23 2 (.t 1)) <|
    .op (some 14) (.mov (.c (.b false))) <|
    .done))
  (.seq (.reg false [] (.op (some 20) (.fa 0 (.t 8)) <|
    .op (some 21) (.ld false 1 (.t 20)) <|
    .op (some 22) (.fa 0 (.t 7)) <|
    .op (some 23) (.ld false 1 (.t 22)) <|
    .op (some 24) (.bin .sub (.t 21) (.t 23)) <|
    .op (some 15) (.mov (.t 24)) <|
    .done))
  (.seq (.seq (.reg false [] (.op (some 25) (.mov (.t 15)) <|
    .op (some 26) (.bin .eql (.t 25) (.c (.i .i64 0))) <|
    .done))
  (.cnd (.t 26)
  (.seq (.reg false [] (.op (some 27) (.fa 0 (.t 7)) <|
    .op (some 28) (.ld false 1 (.t 27)) <|
    .op (some 29) (.mov (.t 2)) <|
    .op (some 30) (.bin .geq (.t 28) (.t 29)) <|
    .op (some 31) (.mov (.t 30)) <|
    .sc 31 true (.op (some 32) (.fa 0 (.t 7)) <|
    .op (some 33) (.ld false 1 (.t 32)) <|
    .op (some 34) (.mov (.t 3)) <|
    .op (some 35) (.bin .leq (.t 33) (.t 34)) <|
    .done) 36 (.t 35) <|
    .op (some 14) (.mov (.t 36)) <|
    .done))
  .ret)
  .skip))
  (.seq (.reg false [] (.op (some 37) (.mov (.t 2)) <|
    .op (some 38) (.mov (.t 3)) <|
    .op (some 16) (.mov (.t 37)) <|
    .op (some 17) (.mov (.t 38)) <|
    .done))
  (.seq (.seq (.reg false [] (.op (some 39) (.mov (.t 15)) <|
    .op (some 40) (.bin .lss (.t 39) (.c (.i .i64 0))) <|
    .done))
  (.cnd (.t 40)
  (.reg false [] (.op (some 41) (.mov (.t 3)) <|
    .op (some 42) (.mov (.t 2)) <|
    .op (some 16) (.mov (.t 41)) <|
    .op (some 17) (.mov (.t 42)) <|
    .done))
  .skip))
  (.seq (.reg true [] (.op (some 43) (.mov (.t 16)) <|
    .op (some 44) (.fa 0 (.t 7)) <|
    .op (some 45) (.ld false 1 (.t 44)) <|
    .op (some 46) (.bin .sub (.t 43) (.t 45)) <|
    .op (some 47) (.mov (.t 15)) <|
    .op (some 48) (.mov (.t 6)) <|
    .op (some 49) (.mov (.t 16)) <|
    .op (some 50) (.callv true false (.t 48) [(.t 49)]) <|
    .op (some 51) (.bld [(.i .i64 0), (.i .i64 0), (.i .i64 0), (.i .i64 0)] [(0, 1, (.t 46)), (1, 1, (.t 47)), (2, 2, (.t 50))]) <|
    .op (some 18) (.box 59 4 (.c (.ag [(.i .i64 0), (.i .i64 0), (.i .i64 0), (.i .i64 0)]))) <|
    .op none (.st true 4 (.t 18) (.t 51)) <|
    .done))
  (.seq (.reg true [] (.op (some 52) (.mov (.t 17)) <|
    .op (some 53) (.fa 0 (.t 7)) <|
    .op (some 54) (.ld false 1 (.t 53)) <|
    .op (some 55) (.bin .sub (.t 52) (.t 54)) <|
    .op (some 56) (.mov (.t 15)) <|
    .op (some 57) (.mov (.t 6)) <|
    .op (some 58) (.mov (.t 17)) <|
    .op (some 59) (.callv true false (.t 57) [(.t 58)]) <|
    .op (some 60) (.bld [(.i .i64 0), (.i .i64 0), (.i .i64 0), (.i .i64 0)] [(0, 1, (.t 55)), (1, 1, (.t 56)), (2, 2, (.t 59))]) <|
    .op (some 19) (.box 59 4 (.c (.ag [(.i .i64 0), (.i .i64 0), (.i .i64 0), (.i .i64 0)]))) <|
    .op none (.st true 4 (.t 19) (.t 60)) <|
    .done))
  (.seq (.seq (.reg false [] (.op (some 61) (.mov (.t 15)) <|
    .op (some 62) (.bin .lss (.t 61) (.c (.i .i64 0))) <|
    .done))
  (.cnd (.t 62)
  (.reg true [(68, 73), (68, 74)] (.op (some 63) (.fa 0 (.t 18)) <|
    .op (some 64) (.ld false 1 (.t 63)) <|
    .op (some 65) (.un .neg (.t 64)) <|
    .op (some 66) (.mov (.t 15)) <|
    .op (some 67) (.un .neg (.t 66)) <|
    .op (some 68) (.fa 0 (.t 19)) <|
    .op (some 69) (.ld false 1 (.t 68)) <|
    .op (some 70) (.un .neg (.t 69)) <|
    .op (some 71) (.mov (.t 15)) <|
    .op (some 72) (.un .neg (.t 71)) <|
    .op (some 73) (.fa 0 (.t 18)) <|
    .op none (.st true 1 (.t 73) (.t 65)) <|
    .op (some 74) (.fa 1 (.t 18)) <|
    .op none (.st true 1 (.t 74) (.t 67)) <|
    .op (some 75) (.fa 0 (.t 19)) <|
    .op none (.st true 1 (.t 75) (.t 70)) <|
    .op (some 76) (.fa 1 (.t 19)) <|
    .op none (.st true 1 (.t 76) (.t 72)) <|
    .done))
  .skip))
  (.seq (.seq (.reg true [] (.op (some 77) (.mov (.t 4)) <|
    .op (some 78) (.nck (.t 77)) <|
    .op (some 79) (.ld true 4 (.t 78)) <|
    .op (some 80) (.ld true 4 (.t 18)) <|
    .op (some 81) (.call true false 66 [(.t 79), (.t 80)]) <|
    .done))
  (.cnd (.t 81)
  (.reg false [] (.op (some 82) (.mov (.t 4)) <|
    .op (some 83) (.ld true 4 (.t 18)) <|
    .op (some 84) (.nck (.t 82)) <|
    .op none (.st false 4 (.t 84) (.t 83)) <|
    .done))
  .skip))
  (.seq (.seq (.reg true [] (.op (some 85) (.ld true 4 (.t 19)) <|
    .op (some 86) (.mov (.t 5)) <|
    .op (some 87) (.nck (.t 86)) <|
    .op (some 88) (.ld true 4 (.t 87)) <|
    .op (some 89) (.call true false 66 [(.t 85), (.t 88)]) <|
    .done))
  (.cnd (.t 89)
  (.reg false [] (.op (some 90) (.mov (.t 5)) <|
    .op (some 91) (.ld true 4 (.t 19)) <|
    .op (some 92) (.nck (.t 90)) <|
    .op none (.st false 4 (.t 92) (.t 91)) <|
    .done))
  .skip))
  (.seq (.reg true [] (.op (some 93) (.mov (.t 5)) <|
    .op (some 94) (.nck (.t 93)) <|
    .op (some 95) (.ld true 4 (.t 94)) <|
    .op (some 96) (.mov (.t 4)) <|
    .op (some 97) (.nck (.t 96)) <|
    .op (some 98) (.ld true 4 (.t 97)) <|
    .op (some 99) (.call true false 66 [(.t 95), (.t 98)]) <|
    .op (some 100) (.un .not (.t 99)) <|
    .op (some 14) (.mov (.t 100)) <|
    .done))
  .ret)))))))))))
def fn43 : Fn := ⟨7, [.t 14], fn43b⟩
theorem rd43 : Read Try.prog 43 fn43 := Read.of Try.func43 (by decide +kernel) (by kernel_rfl) (by kernel_rfl)
/-- mapsheets/mapsheetsref09.between -/
def fn44b : C := (.seq (.reg false [] (.op (some 5) (.box 66 5 (.t 0)) <|
    .op (some 10) (.box 66 5 (.c (.ag [(.i .i64 0), (.i .i64 0), (.i .i64 0), (.i .i64 0), (.b false)]))) <|
    .done))
  (.seq (.reg false [] (.op (some 15) (.mov (.t 3)) <|
    .op (some 16) (.mm true (.t 15) (.c (.i .i64 (-4194304)))) <|
    .op (some 17) (.mm false (.t 16) (.c (.i .i64 4194304))) <|
    .op (some 18) (.mov (.t 4)) <|
    .op (some 19) (.mm true (.t 18) (.c (.i .i64 (-4194304)))) <|
    .op (some 20) (.mm false (.t 19) (.c (.i .i64 4194304))) <|
    .op (some 3) (.mov (.t 17)) <|
    .op (some 4) (.mov (.t 20)) <|
    .done))
  (.seq (.seq (.reg false [] (.op (some 21) (.mov (.t 1)) <|
    .op (some 22) (.mov (.t 2)) <|
    .op (some 23) (.bin .eql (.t 21) (.t 22)) <|
    .done))
  (.cnd (.t 23)
  (.seq (.reg false [] (.op (some 24) (.fa 4 (.t 5)) <|
    .op (some 25) (.ld false 1 (.t 24)) <|
    .op (some 26) (.mov (.t 25)) <|
    .sc 26 false (.op (some 27) (.mov (.t 1)) <|
    .op (some 28) (.mov (.t 3)) <|
    .op (some 29) (.bin .lss (.t 27) (.t 28)) <|
    .done) 30 (.t 29) <|
    .op (some 31) (.mov (.t 30)) <|
    .sc 31 false (.op (some 32) (.mov (.t 1)) <|
    .op (some 33) (.mov (.t 4)) <|
    .op (some 34) (.bin .gtr (.t 32) (.t 33)) <|
    .done) 35 (.t 34) <|
    .op (some 36) (.fa 4 (.t 5)) <|
    .op none (.st false 1 (.t 36) (.t 35)) <|
    .done))
  (.seq (.reg false [] (.op (some 37) (.ld true 5 (.t 5)) <|
    .op none (.st false 5 (.t 10) (.t 37)) <|
    .done))
  .ret))
  .skip))
  (.seq (.reg false [] (.op (some 39) (.mov (.t 3)) <|
    .op (some 40) (.mov (.t 1)) <|
    .op (some 41) (.bin .sub (.t 39) (.t 40)) <|
    .op (some 42) (.mov (.t 2)) <|
    .op (some 43) (.mov (.t 1)) <|
    .op (some 44) (.bin .sub (.t 42) (.t 43)) <|
    .op (some 45) (.call false false 67 [(.t 41), (.t 44)]) <|
    .op (some 38) (.mov (.t 45)) <|
    .op (some 46) (.ext (.t 38) 0) <|
    .op (some 47) (.ext (.t 38) 1) <|
    .op (some 11) (.box 64 2 (.c (.ag [(.i .i64 0), (.i .i64 0)]))) <|
    .op none (.st false 2 (.t 11) (.t 46)) <|
    .op (some 12) (.mov (.t 47)) <|
    .done))
  (.seq (.reg false [] (.op (some 49) (.mov (.t 4)) <|
    .op (some 50) (.mov (.t 1)) <|
    .op (some 51) (.bin .sub (.t 49) (.t 50)) <|
    .op (some 52) (.mov (.t 2)) <|
    .op (some 53) (.mov (.t 1)) <|
    .op (some 54) (.bin .sub (.t 52) (.t 53)) <|
    .op (some 55) (.call false false 67 [(.t 51), (.t 54)]) <|
    .op (some 48) (.mov (.t 55)) <|
    .op (some 56) (.ext (.t 48) 0) <|
    .op (some 57) (.ext (.t 48) 1) <|
    .op (some 13) (.box 64 2 (.c (.ag [(.i .i64 0), (.i .i64 0)]))) <|
    .op none (.st false 2 (.t 13) (.t 56)) <|
    .op (some 14) (.mov (.t 57)) <|
    .done))
  (.seq (.reg true [] (.op (some 58) (.fa 0 (.t 5)) <|
    .op (some 59) (.ld true 2 (.t 58)) <|
    .op (some 60) (.ld true 2 (.t 11)) <|
    .op (some 61) (.ld true 2 (.t 13)) <|
    .op (some 62) (.call true false 69 [(.t 60), (.t 61)]) <|
    .op (some 63) (.call true false 68 [(.t 59), (.t 62)]) <|
    .op (some 64) (.fa 2 (.t 5)) <|
    .op (some 65) (.ld true 2 (.t 64)) <|
    .op (some 66) (.ld true 2 (.t 11)) <|
    .op (some 67) (.ld true 2 (.t 13)) <|
    .op (some 68) (.call true false 68 [(.t 66), (.t 67)]) <|
    .op (some 69) (.call true false 69 [(.t 65), (.t 68)]) <|
    .op (some 70) (.fa 0 (.t 5)) <|
    .op none (.st true 2 (.t 70) (.t 63)) <|
    .op (some 71) (.fa 2 (.t 5)) <|
    .op none (.st true 2 (.t 71) (.t 69)) <|
    .done))
  (.seq (.reg false [] (.op (some 72) (.ld true 5 (.t 5)) <|
    .op none (.st false 5 (.t 10) (.t 72)) <|
    .done))
  .ret)))))))
def fn44 : Fn := ⟨5, [.c 10 true 5], fn44b⟩
theorem rd44 : Read Try.prog 44 fn44 := Read.of Try.func44 (by decide +kernel) (by kernel_rfl) (by kernel_rfl)
def fn45k0 : List Nat := [2, 3]
def fn45l0 : C := (.blk 1 (.seq (.reg false [] (.op (some 20) (.fa 0 (.t 2)) <|
    .op (some 21) (.ld false 1 (.t 20)) <|
    .op (some 22) (.fa 1 (.t 2)) <|
    .op (some 23) (.ld false 1 (.t 22)) <|
    .op (some 24) (.call false false 71 [(.t 21), (.t 23)]) <|
    .op (some 19) (.mov (.t 24)) <|
    .op (some 25) (.ext (.t 19) 0) <|
    .op (some 26) (.ext (.t 19) 1) <|
    .op (some 5) (.mov (.t 25)) <|
    .op (some 6) (.mov (.t 26)) <|
    .done))
  (.seq (.reg false [] (.op (some 28) (.fa 0 (.t 3)) <|
    .op (some 29) (.ld false 1 (.t 28)) <|
    .op (some 30) (.fa 1 (.t 3)) <|
    .op (some 31) (.ld false 1 (.t 30)) <|
    .op (some 32) (.call false false 71 [(.t 29), (.t 31)]) <|
    .op (some 27) (.mov (.t 32)) <|
    .op (some 33) (.ext (.t 27) 0) <|
    .op (some 34) (.ext (.t 27) 1) <|
    .op (some 7) (.mov (.t 33)) <|
    .op (some 8) (.mov (.t 34)) <|
    .done))
  (.seq (.reg true [] (.op (some 35) (.fa 0 (.t 2)) <|
    .op (some 36) (.ld false 1 (.t 35)) <|
    .op (some 37) (.mov (.t 5)) <|
    .op (some 38) (.fa 1 (.t 2)) <|
    .op (some 39) (.ld false 1 (.t 38)) <|
    .op (some 40) (.bin .mul (.t 37) (.t 39)) <|
    .op (some 41) (.bin .sub (.t 36) (.t 40)) <|
    .op (some 42) (.fa 0 (.t 3)) <|
    .op (some 43) (.ld false 1 (.t 42)) <|
    .op (some 44) (.mov (.t 7)) <|
    .op (some 45) (.fa 1 (.t 3)) <|
    .op (some 46) (.ld false 1 (.t 45)) <|
    .op (some 47) (.bin .mul (.t 44) (.t 46)) <|
    .op (some 48) (.bin .sub (.t 43) (.t 47)) <|
    .op (some 9) (.mov (.t 41)) <|
    .op (some 10) (.mov (.t 48)) <|
    .done))
  (.seq (.seq (.reg false [] (.op (some 49) (.mov (.t 5)) <|
    .op (some 50) (.mov (.t 7)) <|
    .op (some 51) (.bin .neq (.t 49) (.t 50)) <|
    .done))
  (.cnd (.t 51)
  (.seq (.reg false [] (.op (some 52) (.mov (.t 5)) <|
    .op (some 53) (.mov (.t 7)) <|
    .op (some 54) (.call false false 72 [(.t 52), (.t 53)]) <|
    .op (some 4) (.mov (.t 54)) <|
    .done))
  .ret)
  .skip))
  (.seq (.seq (.reg false [] (.op (some 55) (.mov (.t 9)) <|
    .op (some 56) (.bin .eql (.t 55) (.c (.i .i64 0))) <|
    .op (some 57) (.mov (.t 56)) <|
    .sc 57 false (.op (some 58) (.mov (.t 10)) <|
    .op (some 59) (.bin .eql (.t 58) (.c (.i .i64 0))) <|
    .done) 60 (.t 59) <|
    .done))
  (.cnd (.t 60)
  (.seq (.reg false [] (.op (some 61) (.mov (.t 9)) <|
    .op (some 62) (.mov (.t 10)) <|
    .op (some 63) (.call false false 72 [(.t 61), (.t 62)]) <|
    .op (some 4) (.mov (.t 63)) <|
    .done))
  .ret)
  .skip))
  (.reg false [] (.op (some 64) (.fa 1 (.t 3)) <|
    .op (some 65) (.ld false 1 (.t 64)) <|
    .op (some 66) (.mov (.t 10)) <|
    .op (some 67) (.bld [(.i .i64 0), (.i .i64 0)] [(0, 1, (.t 65)), (1, 1, (.t 66))]) <|
    .op (some 68) (.fa 1 (.t 2)) <|
    .op (some 69) (.ld false 1 (.t 68)) <|
    .op (some 70) (.mov (.t 9)) <|
    .op (some 71) (.bld [(.i .i64 0), (.i .i64 0)] [(0, 1, (.t 69)), (1, 1, (.t 70))]) <|
    .op none (.st false 2 (.t 2) (.t 67)) <|
    .op none (.st false 2 (.t 3) (.t 71)) <|
    .done))))))))
/-- mapsheets/mapsheetsref01.Cmp -/
def fn45b : C := (.seq (.reg false [] (.op (some 2) (.box 64 2 (.t 0)) <|
    .op (some 3) (.box 64 2 (.t 1)) <|
    .op (some 4) (.mov (.c (.i .i64 0))) <|
    .done))
  (.seq (.seq (.reg false [] (.op (some 11) (.ld true 2 (.t 2)) <|
    .op (some 12) (.call false false 70 [(.t 11)]) <|
    .op (some 13) (.un .not (.t 12)) <|
    .op (some 14) (.mov (.t 13)) <|
    .sc 14 false (.op (some 15) (.ld true 2 (.t 3)) <|
    .op (some 16) (.call false false 70 [(.t 15)]) <|
    .op (some 17) (.un .not (.t 16)) <|
    .done) 18 (.t 17) <|
    .done))
  (.cnd (.t 18)
  (.seq (.reg false [] (.op (some 4) (.mov (.c (.i .i64 0))) <|
    .done))
  .ret)
  .skip))
  (.blk 0 (.loop fn45k0 fn45l0))))
def fn45 : Fn := ⟨2, [.t 4], fn45b⟩
theorem rd45 : Read Try.prog 45 fn45 := Read.of Try.func45 (by decide +kernel) (by kernel_rfl) (by kernel_rfl)
/-- mapsheets/mapsheetsref09.at -/
def fn46b : C := (.seq (.reg false [] (.op (some 4) (.box 23 2 (.t 0)) <|
    .op (some 5) (.box 23 2 (.t 1)) <|
    .op (some 6) (.box 64 2 (.t 2)) <|
    .op (some 7) (.box 35 4 (.t 3)) <|
    .op (some 8) (.box 23 2 (.c (.ag [(.i .i64 0), (.i .i64 0)]))) <|
    .done))
  (.seq (.reg true [] (.op (some 17) (.fa 0 (.t 5)) <|
    .op (some 18) (.ld false 1 (.t 17)) <|
    .op (some 19) (.fa 0 (.t 4)) <|
    .op (some 20) (.ld false 1 (.t 19)) <|
    .op (some 21) (.bin .sub (.t 18) (.t 20)) <|
    .op (some 22) (.fa 0 (.t 6)) <|
    .op (some 23) (.ld false 1 (.t 22)) <|
    .op (some 24) (.bin .mul (.t 21) (.t 23)) <|
    .op (some 25) (.fa 1 (.t 5)) <|
    .op (some 26) (.ld false 1 (.t 25)) <|
    .op (some 27) (.fa 1 (.t 4)) <|
    .op (some 28) (.ld false 1 (.t 27)) <|
    .op (some 29) (.bin .sub (.t 26) (.t 28)) <|
    .op (some 30) (.fa 0 (.t 6)) <|
    .op (some 31) (.ld false 1 (.t 30)) <|
    .op (some 32) (.bin .mul (.t 29) (.t 31)) <|
    .op (some 9) (.mov (.t 24)) <|
    .op (some 10) (.mov (.t 32)) <|
    .done))
  (.seq (.seq (.reg false [] (.op (some 33) (.mov (.t 9)) <|
    .op (some 34) (.fa 1 (.t 6)) <|
    .op (some 35) (.ld false 1 (.t 34)) <|
    .op (some 36) (.bin .rem (.t 33) (.t 35)) <|
    .op (some 37) (.bin .eql (.t 36) (.c (.i .i64 0))) <|
    .op (some 38) (.mov (.t 37)) <|
    .sc 38 true (.op (some 39) (.mov (.t 10)) <|
    .op (some 40) (.fa 1 (.t 6)) <|
    .op (some 41) (.ld false 1 (.t 40)) <|
    .op (some 42) (.bin .rem (.t 39) (.t 41)) <|
    .op (some 43) (.bin .eql (.t 42) (.c (.i .i64 0))) <|
    .done) 44 (.t 43) <|
    .done))
  (.cnd (.t 44)
  (.seq (.reg true [] (.op (some 45) (.fa 0 (.t 4)) <|
    .op (some 46) (.ld false 1 (.t 45)) <|
    .op (some 47) (.mov (.t 9)) <|
    .op (some 48) (.fa 1 (.t 6)) <|
    .op (some 49) (.ld false 1 (.t 48)) <|
    .op (some 50) (.bin .quo (.t 47) (.t 49)) <|
    .op (some 51) (.bin .add (.t 46) (.t 50)) <|
    .op (some 52) (.fa 1 (.t 4)) <|
    .op (some 53) (.ld false 1 (.t 52)) <|
    .op (some 54) (.mov (.t 10)) <|
    .op (some 55) (.fa 1 (.t 6)) <|
    .op (some 56) (.ld false 1 (.t 55)) <|
    .op (some 57) (.bin .quo (.t 54) (.t 56)) <|
    .op (some 58) (.bin .add (.t 53) (.t 57)) <|
    .op (some 59) (.bld [(.i .i64 0), (.i .i64 0)] [(0, 1, (.t 51)), (1, 1, (.t 58))]) <|
    .op none (.st true 2 (.t 8) (.t 59)) <|
    .done))
  .ret)
  .skip))
  (.seq (.seq (.reg false [] (.op (some 60) (.mov (.t 9)) <|
    .op (some 61) (.fa 1 (.t 6)) <|
    .op (some 62) (.ld false 1 (.t 61)) <|
    .op (some 63) (.bin .rem (.t 60) (.t 62)) <|
    .op (some 64) (.bin .eql (.t 63) (.c (.i .i64 0))) <|
    .done))
  (.cnd (.t 64)
  (.seq (.reg true [] (.op (some 65) (.fa 0 (.t 4)) <|
    .op (some 66) (.ld false 1 (.t 65)) <|
    .op (some 67) (.mov (.t 9)) <|
    .op (some 68) (.fa 1 (.t 6)) <|
    .op (some 69) (.ld false 1 (.t 68)) <|
    .op (some 70) (.bin .quo (.t 67) (.t 69)) <|
    .op (some 71) (.bin .add (.t 66) (.t 70)) <|
    .op (some 11) (.mov (.t 71)) <|
    .done))
  (.seq (.reg false [] (.op (some 72) (.mov (.t 11)) <|
    .op (some 73) (.fa 0 (.t 7)) <|
    .op (some 74) (.ld false 1 (.t 73)) <|
    .op (some 75) (.bin .eql (.t 72) (.t 74)) <|
    .op (some 76) (.mov (.t 75)) <|
    .sc 76 false (.op (some 77) (.mov (.t 11)) <|
    .op (some 78) (.fa 2 (.t 7)) <|
    .op (some 79) (.ld false 1 (.t 78)) <|
    .op (some 80) (.bin .eql (.t 77) (.t 79)) <|
    .done) 81 (.t 80) <|
    .done))
  (.cnd (.t 81)
  (.seq (.reg false [] (.op (some 83) (.ld true 2 (.t 4)) <|
    .op (some 84) (.ld true 2 (.t 5)) <|
    .op (some 85) (.mov (.t 11)) <|
    .op (some 86) (.call false false 14 [(.t 83), (.t 84), (.t 85)]) <|
    .op (some 82) (.mov (.t 86)) <|
    .op (some 87) (.ext (.t 82) 0) <|
    .op (some 88) (.ext (.t 82) 1) <|
    .op (some 12) (.mov (.t 87)) <|
    .op (some 13) (.mov (.t 88)) <|
    .done))
  (.seq (.reg false [] (.op (some 89) (.mov (.t 11)) <|
    .op (some 90) (.mov (.t 12)) <|
    .op (some 91) (.bld [(.i .i64 0), (.i .i64 0)] [(0, 1, (.t 89)), (1, 1, (.t 90))]) <|
    .op none (.st false 2 (.t 8) (.t 91)) <|
    .done))
  .ret))
  .skip)))
  .skip))
  (.seq (.reg true [] (.op (some 92) (.fa 1 (.t 4)) <|
    .op (some 93) (.ld false 1 (.t 92)) <|
    .op (some 94) (.mov (.t 10)) <|
    .op (some 95) (.fa 1 (.t 6)) <|
    .op (some 96) (.ld false 1 (.t 95)) <|
    .op (some 97) (.bin .quo (.t 94) (.t 96)) <|
    .op (some 98) (.bin .add (.t 93) (.t 97)) <|
    .op (some 14) (.mov (.t 98)) <|
    .done))
  (.seq (.reg false [] (.op (some 100) (.ld true 2 (.t 4)) <|
    .op (some 101) (.ld true 2 (.t 5)) <|
    .op (some 102) (.mov (.t 14)) <|
    .op (some 103) (.call false false 16 [(.t 100), (.t 101), (.t 102)]) <|
    .op (some 99) (.mov (.t 103)) <|
    .op (some 104) (.ext (.t 99) 0) <|
    .op (some 105) (.ext (.t 99) 1) <|
    .op (some 15) (.mov (.t 104)) <|
    .op (some 16) (.mov (.t 105)) <|
    .done))
  (.seq (.reg false [] (.op (some 106) (.mov (.t 15)) <|
    .op (some 107) (.mov (.t 14)) <|
    .op (some 108) (.bld [(.i .i64 0), (.i .i64 0)] [(0, 1, (.t 106)), (1, 1, (.t 107))]) <|
    .op none (.st false 2 (.t 8) (.t 108)) <|
    .done))
  .ret)))))))
def fn46 : Fn := ⟨4, [.c 8 true 2], fn46b⟩
theorem rd46 : Read Try.prog 46 fn46 := Read.of Try.func46 (by decide +kernel) (by kernel_rfl) (by kernel_rfl)
/-- mapsheets/cut.Path$1 -/
def fn47b : C := (.seq (.reg false [] (.op (some 2) (.box 23 2 (.t 0)) <|
    .done))
  (.seq (.reg true [] (.op (some 3) (.ld false 1 (.t 1)) <|
    .op (some 4) (.len (.t 3)) <|
    .op (some 5) (.bin .eql (.t 4) (.c (.i .i64 0))) <|
    .op (some 6) (.mov (.t 5)) <|
    .sc 6 false (.op (some 7) (.ld false 1 (.t 1)) <|
    .op (some 8) (.ld false 1 (.t 1)) <|
    .op (some 9) (.len (.t 8)) <|
    .op (some 10) (.bin .sub (.t 9) (.c (.i .i64 1))) <|
    .op (some 11) (.ia 2 (.t 7) (.t 10)) <|
    .op (some 12) (.ld true 2 (.t 11)) <|
    .op (some 13) (.ld true 2 (.t 2)) <|
    .op (some 14) (.eq true true [false, false] (.t 12) (.t 13)) <|
    .done) 15 (.t 14) <|
    .done))
  (.cnd (.t 15)
  (.reg false [] (.op (some 16) (.ld false 1 (.t 1)) <|
    .op (some 17) (.ld true 2 (.t 2)) <|
    .op (some 18) (.bsl false 23 2 [(.t 17)]) <|
    .op (some 19) (.app 23 2 16 (.t 16) (.t 18)) <|
    .op none (.st false 1 (.t 1) (.t 19)) <|
    .done))
  .skip)))
def fn47 : Fn := ⟨2, [], fn47b⟩
theorem rd47 : Read Try.prog 47 fn47 := Read.of Try.func47 (by decide +kernel) (by kernel_rfl) (by kernel_rfl)
/-- mapsheets/cut.Path$2 -/
def fn48b : C := (.seq (.seq (.reg false [] (.op (some 2) (.ld false 1 (.t 0)) <|
    .op (some 3) (.len (.t 2)) <|
    .op (some 4) (.bin .gtr (.t 3) (.c (.i .i64 1))) <|
    .done))
  (.cnd (.t 4)
  (.reg false [] (.op (some 5) (.ld false 1 (.t 1)) <|
    .op (some 6) (.ld false 1 (.t 0)) <|
    .op (some 7) (.bsl false 41 1 [(.t 6)]) <|
    .op (some 8) (.app 41 1 24 (.t 5) (.t 7)) <|
    .op none (.st false 1 (.t 1) (.t 8)) <|
    .done))
  .skip))
  (.reg false [] (.op none (.st false 1 (.t 0) (.c (.nl 23 2))) <|
    .done)))
def fn48 : Fn := ⟨2, [], fn48b⟩
theorem rd48 : Read Try.prog 48 fn48 := Read.of Try.func48 (by decide +kernel) (by kernel_rfl) (by kernel_rfl)
/-- mapsheets/geom.In -/
def fn49b : C := (.seq (.reg false [] (.op (some 2) (.box 35 4 (.t 0)) <|
    .op (some 3) (.box 23 2 (.t 1)) <|
    .op (some 4) (.mov (.c (.b false))) <|
    .done))
  (.seq (.reg false [] (.op (some 5) (.fa 0 (.t 2)) <|
    .op (some 6) (.ld false 1 (.t 5)) <|
    .op (some 7) (.fa 0 (.t 3)) <|
    .op (some 8) (.ld false 1 (.t 7)) <|
    .op (some 9) (.bin .leq (.t 6) (.t 8)) <|
    .op (some 10) (.mov (.t 9)) <|
    .sc 10 true (.op (some 11) (.fa 0 (.t 3)) <|
    .op (some 12) (.ld false 1 (.t 11)) <|
    .op (some 13) (.fa 2 (.t 2)) <|
    .op (some 14) (.ld false 1 (.t 13)) <|
    .op (some 15) (.bin .leq (.t 12) (.t 14)) <|
    .done) 16 (.t 15) <|
    .op (some 17) (.mov (.t 16)) <|
    .sc 17 true (.op (some 18) (.fa 1 (.t 2)) <|
    .op (some 19) (.ld false 1 (.t 18)) <|
    .op (some 20) (.fa 1 (.t 3)) <|
    .op (some 21) (.ld false 1 (.t 20)) <|
    .op (some 22) (.bin .leq (.t 19) (.t 21)) <|
    .done) 23 (.t 22) <|
    .op (some 24) (.mov (.t 23)) <|
    .sc 24 true (.op (some 25) (.fa 1 (.t 3)) <|
    .op (some 26) (.ld false 1 (.t 25)) <|
    .op (some 27) (.fa 3 (.t 2)) <|
    .op (some 28) (.ld false 1 (.t 27)) <|
    .op (some 29) (.bin .leq (.t 26) (.t 28)) <|
    .done) 30 (.t 29) <|
    .op (some 4) (.mov (.t 30)) <|
    .done))
  .ret))
def fn49 : Fn := ⟨2, [.t 4], fn49b⟩
theorem rd49 : Read Try.prog 49 fn49 := Read.of Try.func49 (by decide +kernel) (by kernel_rfl) (by kernel_rfl)
def fn50k0 : List Nat := [0, 3, 4]
def fn50l0 : C := (.seq (.seq (.reg false [] (.op (some 5) (.mov (.t 4)) <|
    .op (some 6) (.mov (.t 0)) <|
    .op (some 7) (.len (.t 6)) <|
    .op (some 8) (.bin .lss (.t 5) (.t 7)) <|
    .done))
  (.cnd (.t 8)
  .skip
  (.exit 0)))
  (.seq (.blk 1 (.seq (.reg true [] (.op (some 11) (.mov (.t 4)) <|
    .op (some 12) (.bin .eql (.t 11) (.c (.i .i64 0))) <|
    .op (some 13) (.mov (.t 12)) <|
    .sc 13 false (.op (some 14) (.mov (.t 0)) <|
    .op (some 15) (.mov (.t 4)) <|
    .op (some 16) (.ia 2 (.t 14) (.t 15)) <|
    .op (some 17) (.ld true 2 (.t 16)) <|
    .op (some 18) (.mov (.t 0)) <|
    .op (some 19) (.mov (.t 4)) <|
    .op (some 20) (.bin .sub (.t 19) (.c (.i .i64 1))) <|
    .op (some 21) (.ia 2 (.t 18) (.t 20)) <|
    .op (some 22) (.ld true 2 (.t 21)) <|
    .op (some 23) (.eq true true [false, false] (.t 17) (.t 22)) <|
    .done) 24 (.t 23) <|
    .done))
  (.cnd (.t 24)
  (.reg false [] (.op (some 25) (.mov (.t 3)) <|
    .op (some 26) (.mov (.t 0)) <|
    .op (some 27) (.mov (.t 4)) <|
    .op (some 28) (.ia 2 (.t 26) (.t 27)) <|
    .op (some 29) (.ld true 2 (.t 28)) <|
    .op (some 30) (.bsl false 23 2 [(.t 29)]) <|
    .op (some 31) (.app 23 2 16 (.t 25) (.t 30)) <|
    .op (some 3) (.mov (.t 31)) <|
    .done))
  .skip)))
  (.reg false [] (.op (some 9) (.mov (.t 4)) <|
    .op (some 10) (.bin .add (.t 9) (.c (.i .i64 1))) <|
    .op (some 4) (.mov (.t 10)) <|
    .done))))
/-- mapsheets/mapsheetsref09.tidy -/
def fn50b : C := (.seq (.reg false [] (.op (some 2) (.mov (.c (.nl 23 2))) <|
    .done))
  (.seq (.reg false [] (.op (some 3) (.mov (.c (.nl 23 2))) <|
    .done))
  (.seq (.seq (.reg false [] (.op (some 4) (.mov (.c (.i .i64 0))) <|
    .done))
  (.blk 0 (.loop fn50k0 fn50l0)))
  (.seq (.reg false [] (.op (some 32) (.mov (.t 3)) <|
    .op (some 2) (.mov (.t 32)) <|
    .done))
  .ret))))
def fn50 : Fn := ⟨1, [.t 2], fn50b⟩
theorem rd50 : Read Try.prog 50 fn50 := Read.of Try.func50 (by decide +kernel) (by kernel_rfl) (by kernel_rfl)
/-- mapsheets/mapsheetsref08.cross -/
def fn51b : C := (.seq (.reg false [] (.op (some 4) (.box 23 2 (.t 0)) <|
    .op (some 5) (.box 23 2 (.t 1)) <|
    .op (some 6) (.box 23 2 (.t 2)) <|
    .op (some 7) (.box 23 2 (.t 3)) <|
    .op (some 8) (.mov (.c (.i .i64 0))) <|
    .done))
  (.seq (.reg false [] (.op (some 9) (.fa 0 (.t 5)) <|
    .op (some 10) (.ld false 1 (.t 9)) <|
    .op (some 11) (.fa 0 (.t 4)) <|
    .op (some 12) (.ld false 1 (.t 11)) <|
    .op (some 13) (.bin .sub (.t 10) (.t 12)) <|
    .op (some 14) (.fa 1 (.t 7)) <|
    .op (some 15) (.ld false 1 (.t 14)) <|
    .op (some 16) (.fa 1 (.t 6)) <|
    .op (some 17) (.ld false 1 (.t 16)) <|
    .op (some 18) (.bin .sub (.t 15) (.t 17)) <|
    .op (some 19) (.bin .mul (.t 13) (.t 18)) <|
    .op (some 20) (.fa 1 (.t 5)) <|
    .op (some 21) (.ld false 1 (.t 20)) <|
    .op (some 22) (.fa 1 (.t 4)) <|
    .op (some 23) (.ld false 1 (.t 22)) <|
    .op (some 24) (.bin .sub (.t 21) (.t 23)) <|
    .op (some 25) (.fa 0 (.t 7)) <|
    .op (some 26) (.ld false 1 (.t 25)) <|
    .op (some 27) (.fa 0 (.t 6)) <|
    .op (some 28) (.ld false 1 (.t 27)) <|
    .op (some 29) (.bin .sub (.t 26) (.t 28)) <|
    .op (some 30) (.bin .mul (.t 24) (.t 29)) <|
    .op (some 31) (.bin .sub (.t 19) (.t 30)) <|
    .op (some 8) (.mov (.t 31)) <|
    .done))
  .ret))
def fn51 : Fn := ⟨4, [.t 8], fn51b⟩
theorem rd51 : Read Try.prog 51 fn51 := Read.of Try.func51 (by decide +kernel) (by kernel_rfl) (by kernel_rfl)
/-- mapsheets/mapsheetsref08.shared -/
def fn52b : C := (.seq (.reg false [] (.op (some 4) (.box 23 2 (.t 0)) <|
    .op (some 5) (.box 23 2 (.t 1)) <|
    .op (some 6) (.box 23 2 (.t 2)) <|
    .op (some 7) (.box 23 2 (.t 3)) <|
    .op (some 8) (.mov (.c (.i .i64 0))) <|
    .done))
  (.seq (.seq (.reg false [] (.op (some 9) (.ld true 2 (.t 5)) <|
    .op (some 10) (.ld true 2 (.t 4)) <|
    .op (some 11) (.call false false 73 [(.t 9), (.t 10)]) <|
    .done))
  (.cnd (.t 11)
  (.reg false [] (.op (some 12) (.ld true 2 (.t 5)) <|
    .op (some 13) (.ld true 2 (.t 4)) <|
    .op none (.st false 2 (.t 4) (.t 12)) <|
    .op none (.st false 2 (.t 5) (.t 13)) <|
    .done))
  .skip))
  (.seq (.seq (.reg false [] (.op (some 14) (.ld true 2 (.t 7)) <|
    .op (some 15) (.ld true 2 (.t 6)) <|
    .op (some 16) (.call false false 73 [(.t 14), (.t 15)]) <|
    .done))
  (.cnd (.t 16)
  (.reg false [] (.op (some 17) (.ld true 2 (.t 7)) <|
    .op (some 18) (.ld true 2 (.t 6)) <|
    .op none (.st false 2 (.t 6) (.t 17)) <|
    .op none (.st false 2 (.t 7) (.t 18)) <|
    .done))
  .skip))
  (.seq (.seq (.reg false [] (.op (some 19) (.ld true 2 (.t 4)) <|
    .op (some 20) (.ld true 2 (.t 6)) <|
    .op (some 21) (.call false false 73 [(.t 19), (.t 20)]) <|
    .done))
  (.cnd (.t 21)
  (.reg false [] (.op (some 22) (.ld true 2 (.t 6)) <|
    .op none (.st false 2 (.t 4) (.t 22)) <|
    .done))
  .skip))
  (.seq (.seq (.reg false [] (.op (some 23) (.ld true 2 (.t 7)) <|
    .op (some 24) (.ld true 2 (.t 5)) <|
    .op (some 25) (.call false false 73 [(.t 23), (.t 24)]) <|
    .done))
  (.cnd (.t 25)
  (.reg false [] (.op (some 26) (.ld true 2 (.t 7)) <|
    .op none (.st false 2 (.t 5) (.t 26)) <|
    .done))
  .skip))
  (.seq (.seq (.reg false [] (.op (some 27) (.ld true 2 (.t 4)) <|
    .op (some 28) (.ld true 2 (.t 5)) <|
    .op (some 29) (.eq false true [false, false] (.t 27) (.t 28)) <|
    .done))
  (.cnd (.t 29)
  (.seq (.reg false [] (.op (some 8) (.mov (.c (.i .i64 1))) <|
    .done))
  .ret)
  .skip))
  (.seq (.seq (.reg false [] (.op (some 30) (.ld true 2 (.t 4)) <|
    .op (some 31) (.ld true 2 (.t 5)) <|
    .op (some 32) (.call false false 73 [(.t 30), (.t 31)]) <|
    .done))
  (.cnd (.t 32)
  (.seq (.reg false [] (.op (some 8) (.mov (.c (.i .i64 2))) <|
    .done))
  .ret)
  .skip))
  (.seq (.reg false [] (.op (some 8) (.mov (.c (.i .i64 0))) <|
    .done))
  .ret))))))))
def fn52 : Fn := ⟨4, [.t 8], fn52b⟩
theorem rd52 : Read Try.prog 52 fn52 := Read.of Try.func52 (by decide +kernel) (by kernel_rfl) (by kernel_rfl)
end Go.Proofs.YtgamkmgdbfeigaaM
