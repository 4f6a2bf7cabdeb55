/- The types of the program, as rules. -/
import Derived.Test.YtjpjfokhdogopaaGreatDoorProg
import Derived.KernelRfl
import Derived.Lib.LaidTab
import Derived.Lib.ItoaNum
import Derived.Test.YtjpjfokhdogopaaGreatDoorVn
set_option linter.unusedSimpArgs false
open Go.Proofs
set_option maxRecDepth 20000
namespace Go.VS
theorem mixedP : Tryz.prog.follows .mixedOrders = true := by kernel_rfl
/-- what is known of the variables of the library -/
def GlZ (w : World) : Prop := Lib.TabIs Tryz.prog w "internal/strconv.uint64pow10" .u64 Lib.pow10Tab ∧ (∃ m, w.cell? ⟨0, 0, none⟩ = some (.int .i64 m)) ∧
  (∃ ev, w.cell? ⟨2, 0, none⟩ = some ev ∧ (ev = .nilIface ∨ ∃ te pe, ev = .iface te pe)) ∧ (∃ ev, w.cell? ⟨3, 0, none⟩ = some ev ∧ (ev = .nilIface ∨ ∃ te pe, ev = .iface te pe))
theorem GlZ_stay (w w' : World) (h : ∀ b, b < 8 → w'.heap[b]? = w.heap[b]?) (hg : GlZ w) : GlZ w' := by
  obtain ⟨h1, h2, h3, h4⟩ := hg
  have hn : Tryz.prog.globalNamed "internal/strconv.uint64pow10" = some 1 := by kernel_rfl
  refine ⟨?_, ?_, ?_, ?_⟩
  · unfold Lib.TabIs World.var? at h1 ⊢
    rw [hn] at h1 ⊢
    simp only [Option.bind_some] at h1 ⊢
    rw [h 1 (by decide)]
    exact h1
  · simpa only [World.cell?, h 0 (by decide)] using h2
  · simpa only [World.cell?, h 2 (by decide)] using h3
  · simpa only [World.cell?, h 3 (by decide)] using h4
/-- the program at work -/
noncomputable def gz : Sys := { P := Tryz.prog, mixed := mixedP, ng := 8, Gl := GlZ, stay := GlZ_stay }
theorem tc1 : gz.P.cellsOf 1 = 1 := by kernel_rfl
theorem ta1 : aggT gz.P 1 = some false := by kernel_rfl
theorem te1 : elemT gz.P 1 = none := by kernel_rfl
theorem tz1 : zeroOf gz.P 1 = some (.lit .nilFunc) := by kernel_rfl
theorem tc2 : gz.P.cellsOf 2 = 1 := by kernel_rfl
theorem ta2 : aggT gz.P 2 = some false := by kernel_rfl
theorem tu2 : gz.P.underlying 2 = some (.int .i64) := by kernel_rfl
theorem te2 : elemT gz.P 2 = none := by kernel_rfl
theorem tz2 : zeroOf gz.P 2 = some (.lit (.int .i64 0)) := by kernel_rfl
theorem tc3 : gz.P.cellsOf 3 = 1 := by kernel_rfl
theorem ta3 : aggT gz.P 3 = some false := by kernel_rfl
theorem tu3 : gz.P.underlying 3 = some (.int .i64) := by kernel_rfl
theorem te3 : elemT gz.P 3 = none := by kernel_rfl
theorem tz3 : zeroOf gz.P 3 = some (.lit (.int .i64 0)) := by kernel_rfl
theorem tc4 : gz.P.cellsOf 4 = 1 := by kernel_rfl
theorem ta4 : aggT gz.P 4 = some false := by kernel_rfl
theorem tu4 : gz.P.underlying 4 = some (.bool) := by kernel_rfl
theorem te4 : elemT gz.P 4 = none := by kernel_rfl
theorem tz4 : zeroOf gz.P 4 = some (.lit (.bool false)) := by kernel_rfl
theorem tc5 : gz.P.cellsOf 5 = 1 := by kernel_rfl
theorem ta5 : aggT gz.P 5 = some false := by kernel_rfl
theorem tu5 : gz.P.underlying 5 = some (.int .u8) := by kernel_rfl
theorem te5 : elemT gz.P 5 = none := by kernel_rfl
theorem tz5 : zeroOf gz.P 5 = some (.lit (.int .u8 0)) := by kernel_rfl
theorem tc6 : gz.P.cellsOf 6 = 1 := by kernel_rfl
theorem ta6 : aggT gz.P 6 = some false := by kernel_rfl
theorem tu6 : gz.P.underlying 6 = some (.int .u8) := by kernel_rfl
theorem te6 : elemT gz.P 6 = none := by kernel_rfl
theorem tz6 : zeroOf gz.P 6 = some (.lit (.int .u8 0)) := by kernel_rfl
theorem tc9 : gz.P.cellsOf 9 = 1 := by kernel_rfl
theorem ta9 : aggT gz.P 9 = some false := by kernel_rfl
theorem tu9 : gz.P.underlying 9 = some (.string) := by kernel_rfl
theorem te9 : elemT gz.P 9 = none := by kernel_rfl
theorem tz9 : zeroOf gz.P 9 = some (.lit (.string ByteArray.empty)) := by kernel_rfl
theorem tc10 : gz.P.cellsOf 10 = 1 := by kernel_rfl
theorem ta10 : aggT gz.P 10 = some false := by kernel_rfl
theorem tu10 : gz.P.underlying 10 = some (.string) := by kernel_rfl
theorem te10 : elemT gz.P 10 = none := by kernel_rfl
theorem tz10 : zeroOf gz.P 10 = some (.lit (.string ByteArray.empty)) := by kernel_rfl
theorem tc11 : gz.P.cellsOf 11 = 1 := by kernel_rfl
theorem ta11 : aggT gz.P 11 = some false := by kernel_rfl
theorem tu11 : gz.P.underlying 11 = some (.string) := by kernel_rfl
theorem te11 : elemT gz.P 11 = none := by kernel_rfl
theorem tz11 : zeroOf gz.P 11 = some (.lit (.string ByteArray.empty)) := by kernel_rfl
theorem tc12 : gz.P.cellsOf 12 = 1 := by kernel_rfl
theorem ta12 : aggT gz.P 12 = some false := by kernel_rfl
theorem tu12 : gz.P.underlying 12 = some (.int .u64) := by kernel_rfl
theorem te12 : elemT gz.P 12 = none := by kernel_rfl
theorem tz12 : zeroOf gz.P 12 = some (.lit (.int .u64 0)) := by kernel_rfl
theorem tc15 : gz.P.cellsOf 15 = 1 := by kernel_rfl
theorem ta15 : aggT gz.P 15 = some false := by kernel_rfl
theorem te15 : elemT gz.P 15 = none := by kernel_rfl
theorem tz15 : zeroOf gz.P 15 = some (.lit (.pointer none)) := by kernel_rfl
theorem tc16 : gz.P.cellsOf 16 = 1 := by kernel_rfl
theorem ta16 : aggT gz.P 16 = some false := by kernel_rfl
theorem te16 : elemT gz.P 16 = none := by kernel_rfl
theorem tz16 : zeroOf gz.P 16 = some (.lit (.pointer none)) := by kernel_rfl
theorem tc17 : gz.P.cellsOf 17 = 1 := by kernel_rfl
theorem ta17 : aggT gz.P 17 = some false := by kernel_rfl
theorem te17 : elemT gz.P 17 = none := by kernel_rfl
theorem tz17 : zeroOf gz.P 17 = some (.lit (.pointer none)) := by kernel_rfl
theorem tc20 : gz.P.cellsOf 20 = 1 := by kernel_rfl
theorem ta20 : aggT gz.P 20 = some false := by kernel_rfl
theorem tu20 : gz.P.underlying 20 = some (.interface #[]) := by kernel_rfl
theorem te20 : elemT gz.P 20 = none := by kernel_rfl
theorem tc21 : gz.P.cellsOf 21 = 1 := by kernel_rfl
theorem ta21 : aggT gz.P 21 = some false := by kernel_rfl
theorem tu21 : gz.P.underlying 21 = some (.int .i32) := by kernel_rfl
theorem te21 : elemT gz.P 21 = none := by kernel_rfl
theorem tz21 : zeroOf gz.P 21 = some (.lit (.int .i32 0)) := by kernel_rfl
theorem tc22 : gz.P.cellsOf 22 = 1 := by kernel_rfl
theorem ta22 : aggT gz.P 22 = some false := by kernel_rfl
theorem tu22 : gz.P.underlying 22 = some (.slice 2) := by kernel_rfl
theorem te22 : elemT gz.P 22 = some 2 := by kernel_rfl
theorem tz22 : zeroOf gz.P 22 = some (.lst true 1 []) := by kernel_rfl
theorem tc23 : gz.P.cellsOf 23 = 4 := by kernel_rfl
theorem ta23 : aggT gz.P 23 = some true := by kernel_rfl
theorem te23 : elemT gz.P 23 = none := by kernel_rfl
theorem tz23 : zeroOf gz.P 23 = some (.agg [.lit (.int .i64 0), .lit (.int .i64 0), .lst true 1 [], .lst true 1 []]) := by kernel_rfl
theorem tf23_0 : fieldT gz.P 23 0 = some (0, 2) := by kernel_rfl
theorem tf23_1 : fieldT gz.P 23 1 = some (1, 2) := by kernel_rfl
theorem tf23_2 : fieldT gz.P 23 2 = some (2, 22) := by kernel_rfl
theorem tf23_3 : fieldT gz.P 23 3 = some (3, 22) := by kernel_rfl
theorem ts23 : structOf gz.P 23 = some [.lit (.int .i64 0), .lit (.int .i64 0), .lst true 1 [], .lst true 1 []] := by kernel_rfl
theorem tc24 : gz.P.cellsOf 24 = 4 := by kernel_rfl
theorem ta24 : aggT gz.P 24 = some true := by kernel_rfl
theorem te24 : elemT gz.P 24 = none := by kernel_rfl
theorem tz24 : zeroOf gz.P 24 = some (.agg [.lit (.int .i64 0), .lit (.int .i64 0), .lst true 1 [], .lst true 1 []]) := by kernel_rfl
theorem tf24_0 : fieldT gz.P 24 0 = some (0, 2) := by kernel_rfl
theorem tf24_1 : fieldT gz.P 24 1 = some (1, 2) := by kernel_rfl
theorem tf24_2 : fieldT gz.P 24 2 = some (2, 22) := by kernel_rfl
theorem tf24_3 : fieldT gz.P 24 3 = some (3, 22) := by kernel_rfl
theorem ts24 : structOf gz.P 24 = some [.lit (.int .i64 0), .lit (.int .i64 0), .lst true 1 [], .lst true 1 []] := by kernel_rfl
theorem tc25 : gz.P.cellsOf 25 = 1 := by kernel_rfl
theorem ta25 : aggT gz.P 25 = some false := by kernel_rfl
theorem tu25 : gz.P.underlying 25 = some (.slice 211) := by kernel_rfl
theorem te25 : elemT gz.P 25 = some 211 := by kernel_rfl
theorem tz25 : zeroOf gz.P 25 = some (.lst true 8 []) := by kernel_rfl
theorem tc26 : gz.P.cellsOf 26 = 1 := by kernel_rfl
theorem ta26 : aggT gz.P 26 = some false := by kernel_rfl
theorem tu26 : gz.P.underlying 26 = some (.slice 219) := by kernel_rfl
theorem te26 : elemT gz.P 26 = some 219 := by kernel_rfl
theorem tz26 : zeroOf gz.P 26 = some (.lst true 4 []) := by kernel_rfl
theorem tc27 : gz.P.cellsOf 27 = 1 := by kernel_rfl
theorem ta27 : aggT gz.P 27 = some false := by kernel_rfl
theorem tu27 : gz.P.underlying 27 = some (.slice 221) := by kernel_rfl
theorem te27 : elemT gz.P 27 = some 221 := by kernel_rfl
theorem tz27 : zeroOf gz.P 27 = some (.lst true 2 []) := by kernel_rfl
theorem tc28 : gz.P.cellsOf 28 = 14 := by kernel_rfl
theorem ta28 : aggT gz.P 28 = some true := by kernel_rfl
theorem te28 : elemT gz.P 28 = none := by kernel_rfl
theorem tz28 : zeroOf gz.P 28 = some (.agg [.lit (.int .i64 0), .lit (.int .i64 0), .lit (.int .i64 0), .lit (.int .i64 0), .lit (.int .i64 0), .lit (.int .i64 0), .agg [.lit (.int .i64 0), .lit (.int .i64 0), .lst true 1 [], .lst true 1 []], .lst true 8 [], .lst true 4 [], .lst true 2 [], .lst true 1 []]) := by kernel_rfl
theorem tf28_0 : fieldT gz.P 28 0 = some (0, 2) := by kernel_rfl
theorem tf28_1 : fieldT gz.P 28 1 = some (1, 2) := by kernel_rfl
theorem tf28_2 : fieldT gz.P 28 2 = some (2, 2) := by kernel_rfl
theorem tf28_3 : fieldT gz.P 28 3 = some (3, 2) := by kernel_rfl
theorem tf28_4 : fieldT gz.P 28 4 = some (4, 2) := by kernel_rfl
theorem tf28_5 : fieldT gz.P 28 5 = some (5, 2) := by kernel_rfl
theorem tf28_6 : fieldT gz.P 28 6 = some (6, 24) := by kernel_rfl
theorem tf28_7 : fieldT gz.P 28 7 = some (10, 25) := by kernel_rfl
theorem tf28_8 : fieldT gz.P 28 8 = some (11, 26) := by kernel_rfl
theorem tf28_9 : fieldT gz.P 28 9 = some (12, 27) := by kernel_rfl
theorem tf28_10 : fieldT gz.P 28 10 = some (13, 22) := by kernel_rfl
theorem ts28 : structOf gz.P 28 = some [.lit (.int .i64 0), .lit (.int .i64 0), .lit (.int .i64 0), .lit (.int .i64 0), .lit (.int .i64 0), .lit (.int .i64 0), .agg [.lit (.int .i64 0), .lit (.int .i64 0), .lst true 1 [], .lst true 1 []], .lst true 8 [], .lst true 4 [], .lst true 2 [], .lst true 1 []] := by kernel_rfl
theorem tc29 : gz.P.cellsOf 29 = 14 := by kernel_rfl
theorem ta29 : aggT gz.P 29 = some true := by kernel_rfl
theorem te29 : elemT gz.P 29 = none := by kernel_rfl
theorem tz29 : zeroOf gz.P 29 = some (.agg [.lit (.int .i64 0), .lit (.int .i64 0), .lit (.int .i64 0), .lit (.int .i64 0), .lit (.int .i64 0), .lit (.int .i64 0), .agg [.lit (.int .i64 0), .lit (.int .i64 0), .lst true 1 [], .lst true 1 []], .lst true 8 [], .lst true 4 [], .lst true 2 [], .lst true 1 []]) := by kernel_rfl
theorem tf29_0 : fieldT gz.P 29 0 = some (0, 2) := by kernel_rfl
theorem tf29_1 : fieldT gz.P 29 1 = some (1, 2) := by kernel_rfl
theorem tf29_2 : fieldT gz.P 29 2 = some (2, 2) := by kernel_rfl
theorem tf29_3 : fieldT gz.P 29 3 = some (3, 2) := by kernel_rfl
theorem tf29_4 : fieldT gz.P 29 4 = some (4, 2) := by kernel_rfl
theorem tf29_5 : fieldT gz.P 29 5 = some (5, 2) := by kernel_rfl
theorem tf29_6 : fieldT gz.P 29 6 = some (6, 24) := by kernel_rfl
theorem tf29_7 : fieldT gz.P 29 7 = some (10, 25) := by kernel_rfl
theorem tf29_8 : fieldT gz.P 29 8 = some (11, 26) := by kernel_rfl
theorem tf29_9 : fieldT gz.P 29 9 = some (12, 27) := by kernel_rfl
theorem tf29_10 : fieldT gz.P 29 10 = some (13, 22) := by kernel_rfl
theorem ts29 : structOf gz.P 29 = some [.lit (.int .i64 0), .lit (.int .i64 0), .lit (.int .i64 0), .lit (.int .i64 0), .lit (.int .i64 0), .lit (.int .i64 0), .agg [.lit (.int .i64 0), .lit (.int .i64 0), .lst true 1 [], .lst true 1 []], .lst true 8 [], .lst true 4 [], .lst true 2 [], .lst true 1 []] := by kernel_rfl
theorem tc30 : gz.P.cellsOf 30 = 1 := by kernel_rfl
theorem ta30 : aggT gz.P 30 = some false := by kernel_rfl
theorem te30 : elemT gz.P 30 = none := by kernel_rfl
theorem tz30 : zeroOf gz.P 30 = some (.lit .nilFunc) := by kernel_rfl
theorem tc31 : gz.P.cellsOf 31 = 1 := by kernel_rfl
theorem ta31 : aggT gz.P 31 = some false := by kernel_rfl
theorem te31 : elemT gz.P 31 = none := by kernel_rfl
theorem tz31 : zeroOf gz.P 31 = some (.lit .nilFunc) := by kernel_rfl
theorem tc32 : gz.P.cellsOf 32 = 4 := by kernel_rfl
theorem ta32 : aggT gz.P 32 = some true := by kernel_rfl
theorem te32 : elemT gz.P 32 = none := by kernel_rfl
theorem tz32 : zeroOf gz.P 32 = some (.agg [.lit (.int .i64 0), .lit (.int .i64 0), .lst true 1 [], .lst true 1 []]) := by kernel_rfl
theorem tf32_0 : fieldT gz.P 32 0 = some (0, 2) := by kernel_rfl
theorem tf32_1 : fieldT gz.P 32 1 = some (1, 2) := by kernel_rfl
theorem tf32_2 : fieldT gz.P 32 2 = some (2, 22) := by kernel_rfl
theorem tf32_3 : fieldT gz.P 32 3 = some (3, 22) := by kernel_rfl
theorem ts32 : structOf gz.P 32 = some [.lit (.int .i64 0), .lit (.int .i64 0), .lst true 1 [], .lst true 1 []] := by kernel_rfl
theorem tc33 : gz.P.cellsOf 33 = 1 := by kernel_rfl
theorem ta33 : aggT gz.P 33 = some false := by kernel_rfl
theorem tu33 : gz.P.underlying 33 = some (.slice 115) := by kernel_rfl
theorem te33 : elemT gz.P 33 = some 115 := by kernel_rfl
theorem tz33 : zeroOf gz.P 33 = some (.lst true 8 []) := by kernel_rfl
theorem tc34 : gz.P.cellsOf 34 = 1 := by kernel_rfl
theorem ta34 : aggT gz.P 34 = some false := by kernel_rfl
theorem tu34 : gz.P.underlying 34 = some (.slice 121) := by kernel_rfl
theorem te34 : elemT gz.P 34 = some 121 := by kernel_rfl
theorem tz34 : zeroOf gz.P 34 = some (.lst true 4 []) := by kernel_rfl
theorem tc35 : gz.P.cellsOf 35 = 1 := by kernel_rfl
theorem ta35 : aggT gz.P 35 = some false := by kernel_rfl
theorem tu35 : gz.P.underlying 35 = some (.slice 123) := by kernel_rfl
theorem te35 : elemT gz.P 35 = some 123 := by kernel_rfl
theorem tz35 : zeroOf gz.P 35 = some (.lst true 2 []) := by kernel_rfl
theorem tc36 : gz.P.cellsOf 36 = 14 := by kernel_rfl
theorem ta36 : aggT gz.P 36 = some true := by kernel_rfl
theorem te36 : elemT gz.P 36 = none := by kernel_rfl
theorem tz36 : zeroOf gz.P 36 = some (.agg [.lit (.int .i64 0), .lit (.int .i64 0), .lit (.int .i64 0), .lit (.int .i64 0), .lit (.int .i64 0), .lit (.int .i64 0), .agg [.lit (.int .i64 0), .lit (.int .i64 0), .lst true 1 [], .lst true 1 []], .lst true 8 [], .lst true 4 [], .lst true 2 [], .lst true 1 []]) := by kernel_rfl
theorem tf36_0 : fieldT gz.P 36 0 = some (0, 2) := by kernel_rfl
theorem tf36_1 : fieldT gz.P 36 1 = some (1, 2) := by kernel_rfl
theorem tf36_2 : fieldT gz.P 36 2 = some (2, 2) := by kernel_rfl
theorem tf36_3 : fieldT gz.P 36 3 = some (3, 2) := by kernel_rfl
theorem tf36_4 : fieldT gz.P 36 4 = some (4, 2) := by kernel_rfl
theorem tf36_5 : fieldT gz.P 36 5 = some (5, 2) := by kernel_rfl
theorem tf36_6 : fieldT gz.P 36 6 = some (6, 32) := by kernel_rfl
theorem tf36_7 : fieldT gz.P 36 7 = some (10, 33) := by kernel_rfl
theorem tf36_8 : fieldT gz.P 36 8 = some (11, 34) := by kernel_rfl
theorem tf36_9 : fieldT gz.P 36 9 = some (12, 35) := by kernel_rfl
theorem tf36_10 : fieldT gz.P 36 10 = some (13, 22) := by kernel_rfl
theorem ts36 : structOf gz.P 36 = some [.lit (.int .i64 0), .lit (.int .i64 0), .lit (.int .i64 0), .lit (.int .i64 0), .lit (.int .i64 0), .lit (.int .i64 0), .agg [.lit (.int .i64 0), .lit (.int .i64 0), .lst true 1 [], .lst true 1 []], .lst true 8 [], .lst true 4 [], .lst true 2 [], .lst true 1 []] := by kernel_rfl
theorem tc37 : gz.P.cellsOf 37 = 14 := by kernel_rfl
theorem ta37 : aggT gz.P 37 = some true := by kernel_rfl
theorem te37 : elemT gz.P 37 = none := by kernel_rfl
theorem tz37 : zeroOf gz.P 37 = some (.agg [.lit (.int .i64 0), .lit (.int .i64 0), .lit (.int .i64 0), .lit (.int .i64 0), .lit (.int .i64 0), .lit (.int .i64 0), .agg [.lit (.int .i64 0), .lit (.int .i64 0), .lst true 1 [], .lst true 1 []], .lst true 8 [], .lst true 4 [], .lst true 2 [], .lst true 1 []]) := by kernel_rfl
theorem tf37_0 : fieldT gz.P 37 0 = some (0, 2) := by kernel_rfl
theorem tf37_1 : fieldT gz.P 37 1 = some (1, 2) := by kernel_rfl
theorem tf37_2 : fieldT gz.P 37 2 = some (2, 2) := by kernel_rfl
theorem tf37_3 : fieldT gz.P 37 3 = some (3, 2) := by kernel_rfl
theorem tf37_4 : fieldT gz.P 37 4 = some (4, 2) := by kernel_rfl
theorem tf37_5 : fieldT gz.P 37 5 = some (5, 2) := by kernel_rfl
theorem tf37_6 : fieldT gz.P 37 6 = some (6, 32) := by kernel_rfl
theorem tf37_7 : fieldT gz.P 37 7 = some (10, 33) := by kernel_rfl
theorem tf37_8 : fieldT gz.P 37 8 = some (11, 34) := by kernel_rfl
theorem tf37_9 : fieldT gz.P 37 9 = some (12, 35) := by kernel_rfl
theorem tf37_10 : fieldT gz.P 37 10 = some (13, 22) := by kernel_rfl
theorem ts37 : structOf gz.P 37 = some [.lit (.int .i64 0), .lit (.int .i64 0), .lit (.int .i64 0), .lit (.int .i64 0), .lit (.int .i64 0), .lit (.int .i64 0), .agg [.lit (.int .i64 0), .lit (.int .i64 0), .lst true 1 [], .lst true 1 []], .lst true 8 [], .lst true 4 [], .lst true 2 [], .lst true 1 []] := by kernel_rfl
theorem tc38 : gz.P.cellsOf 38 = 1 := by kernel_rfl
theorem ta38 : aggT gz.P 38 = some false := by kernel_rfl
theorem te38 : elemT gz.P 38 = none := by kernel_rfl
theorem tz38 : zeroOf gz.P 38 = some (.lit .nilFunc) := by kernel_rfl
theorem tc39 : gz.P.cellsOf 39 = 1 := by kernel_rfl
theorem ta39 : aggT gz.P 39 = some false := by kernel_rfl
theorem te39 : elemT gz.P 39 = none := by kernel_rfl
theorem tz39 : zeroOf gz.P 39 = some (.lit .nilFunc) := by kernel_rfl
theorem tc40 : gz.P.cellsOf 40 = 1 := by kernel_rfl
theorem ta40 : aggT gz.P 40 = some false := by kernel_rfl
theorem te40 : elemT gz.P 40 = none := by kernel_rfl
theorem tz40 : zeroOf gz.P 40 = some (.lit .nilFunc) := by kernel_rfl
theorem tc41 : gz.P.cellsOf 41 = 1 := by kernel_rfl
theorem ta41 : aggT gz.P 41 = some false := by kernel_rfl
theorem tu41 : gz.P.underlying 41 = some (.slice 9) := by kernel_rfl
theorem te41 : elemT gz.P 41 = some 9 := by kernel_rfl
theorem tz41 : zeroOf gz.P 41 = some (.lst true 1 []) := by kernel_rfl
theorem tc42 : gz.P.cellsOf 42 = 1 := by kernel_rfl
theorem ta42 : aggT gz.P 42 = some false := by kernel_rfl
theorem tu42 : gz.P.underlying 42 = some (.slice 234) := by kernel_rfl
theorem te42 : elemT gz.P 42 = some 234 := by kernel_rfl
theorem tz42 : zeroOf gz.P 42 = some (.lst true 2 []) := by kernel_rfl
theorem tc43 : gz.P.cellsOf 43 = 2 := by kernel_rfl
theorem ta43 : aggT gz.P 43 = some true := by kernel_rfl
theorem te43 : elemT gz.P 43 = none := by kernel_rfl
theorem tz43 : zeroOf gz.P 43 = some (.agg [.lst true 1 [], .lst true 2 []]) := by kernel_rfl
theorem tf43_0 : fieldT gz.P 43 0 = some (0, 41) := by kernel_rfl
theorem tf43_1 : fieldT gz.P 43 1 = some (1, 42) := by kernel_rfl
theorem ts43 : structOf gz.P 43 = some [.lst true 1 [], .lst true 2 []] := by kernel_rfl
theorem tc44 : gz.P.cellsOf 44 = 2 := by kernel_rfl
theorem ta44 : aggT gz.P 44 = some true := by kernel_rfl
theorem te44 : elemT gz.P 44 = none := by kernel_rfl
theorem tz44 : zeroOf gz.P 44 = some (.agg [.lst true 1 [], .lst true 2 []]) := by kernel_rfl
theorem tf44_0 : fieldT gz.P 44 0 = some (0, 41) := by kernel_rfl
theorem tf44_1 : fieldT gz.P 44 1 = some (1, 42) := by kernel_rfl
theorem ts44 : structOf gz.P 44 = some [.lst true 1 [], .lst true 2 []] := by kernel_rfl
theorem tc45 : gz.P.cellsOf 45 = 1 := by kernel_rfl
theorem ta45 : aggT gz.P 45 = some false := by kernel_rfl
theorem te45 : elemT gz.P 45 = none := by kernel_rfl
theorem tz45 : zeroOf gz.P 45 = some (.lit .nilFunc) := by kernel_rfl
theorem tc46 : gz.P.cellsOf 46 = 1 := by kernel_rfl
theorem ta46 : aggT gz.P 46 = some false := by kernel_rfl
theorem tu46 : gz.P.underlying 46 = some (.slice 170) := by kernel_rfl
theorem te46 : elemT gz.P 46 = some 170 := by kernel_rfl
theorem tz46 : zeroOf gz.P 46 = some (.lst true 2 []) := by kernel_rfl
theorem tc47 : gz.P.cellsOf 47 = 2 := by kernel_rfl
theorem ta47 : aggT gz.P 47 = some true := by kernel_rfl
theorem te47 : elemT gz.P 47 = none := by kernel_rfl
theorem tz47 : zeroOf gz.P 47 = some (.agg [.lst true 1 [], .lst true 2 []]) := by kernel_rfl
theorem tf47_0 : fieldT gz.P 47 0 = some (0, 41) := by kernel_rfl
theorem tf47_1 : fieldT gz.P 47 1 = some (1, 46) := by kernel_rfl
theorem ts47 : structOf gz.P 47 = some [.lst true 1 [], .lst true 2 []] := by kernel_rfl
theorem tc48 : gz.P.cellsOf 48 = 2 := by kernel_rfl
theorem ta48 : aggT gz.P 48 = some true := by kernel_rfl
theorem te48 : elemT gz.P 48 = none := by kernel_rfl
theorem tz48 : zeroOf gz.P 48 = some (.agg [.lst true 1 [], .lst true 2 []]) := by kernel_rfl
theorem tf48_0 : fieldT gz.P 48 0 = some (0, 41) := by kernel_rfl
theorem tf48_1 : fieldT gz.P 48 1 = some (1, 46) := by kernel_rfl
theorem ts48 : structOf gz.P 48 = some [.lst true 1 [], .lst true 2 []] := by kernel_rfl
theorem tc50 : gz.P.cellsOf 50 = 1 := by kernel_rfl
theorem ta50 : aggT gz.P 50 = some false := by kernel_rfl
theorem te50 : elemT gz.P 50 = none := by kernel_rfl
theorem tz50 : zeroOf gz.P 50 = some (.lit .nilFunc) := by kernel_rfl
theorem tc51 : gz.P.cellsOf 51 = 1 := by kernel_rfl
theorem ta51 : aggT gz.P 51 = some false := by kernel_rfl
theorem te51 : elemT gz.P 51 = none := by kernel_rfl
theorem tz51 : zeroOf gz.P 51 = some (.lit .nilFunc) := by kernel_rfl
theorem tc52 : gz.P.cellsOf 52 = 1 := by kernel_rfl
theorem ta52 : aggT gz.P 52 = some false := by kernel_rfl
theorem te52 : elemT gz.P 52 = none := by kernel_rfl
theorem tz52 : zeroOf gz.P 52 = some (.lit .nilFunc) := by kernel_rfl
theorem tc53 : gz.P.cellsOf 53 = 1 := by kernel_rfl
theorem ta53 : aggT gz.P 53 = some false := by kernel_rfl
theorem te53 : elemT gz.P 53 = none := by kernel_rfl
theorem tz53 : zeroOf gz.P 53 = some (.lit .nilFunc) := by kernel_rfl
theorem tc54 : gz.P.cellsOf 54 = 1 := by kernel_rfl
theorem ta54 : aggT gz.P 54 = some false := by kernel_rfl
theorem te54 : elemT gz.P 54 = none := by kernel_rfl
theorem tz54 : zeroOf gz.P 54 = some (.lit .nilFunc) := by kernel_rfl
theorem tc55 : gz.P.cellsOf 55 = 1 := by kernel_rfl
theorem ta55 : aggT gz.P 55 = some false := by kernel_rfl
theorem tu55 : gz.P.underlying 55 = some (.slice 5) := by kernel_rfl
theorem te55 : elemT gz.P 55 = some 5 := by kernel_rfl
theorem tz55 : zeroOf gz.P 55 = some (.lst true 1 []) := by kernel_rfl
theorem tc56 : gz.P.cellsOf 56 = 1 := by kernel_rfl
theorem ta56 : aggT gz.P 56 = some false := by kernel_rfl
theorem te56 : elemT gz.P 56 = none := by kernel_rfl
theorem tz56 : zeroOf gz.P 56 = some (.lit .nilFunc) := by kernel_rfl
theorem tc58 : gz.P.cellsOf 58 = 1 := by kernel_rfl
theorem ta58 : aggT gz.P 58 = some false := by kernel_rfl
theorem te58 : elemT gz.P 58 = none := by kernel_rfl
theorem tz58 : zeroOf gz.P 58 = some (.lit .nilFunc) := by kernel_rfl
theorem tc60 : gz.P.cellsOf 60 = 1 := by kernel_rfl
theorem ta60 : aggT gz.P 60 = some false := by kernel_rfl
theorem te60 : elemT gz.P 60 = none := by kernel_rfl
theorem tz60 : zeroOf gz.P 60 = some (.lit .nilFunc) := by kernel_rfl
theorem tc61 : gz.P.cellsOf 61 = 1 := by kernel_rfl
theorem ta61 : aggT gz.P 61 = some false := by kernel_rfl
theorem te61 : elemT gz.P 61 = none := by kernel_rfl
theorem tz61 : zeroOf gz.P 61 = some (.lit .nilFunc) := by kernel_rfl
theorem tc62 : gz.P.cellsOf 62 = 1 := by kernel_rfl
theorem ta62 : aggT gz.P 62 = some false := by kernel_rfl
theorem te62 : elemT gz.P 62 = none := by kernel_rfl
theorem tz62 : zeroOf gz.P 62 = some (.lit .nilFunc) := by kernel_rfl
theorem tc64 : gz.P.cellsOf 64 = 1 := by kernel_rfl
theorem ta64 : aggT gz.P 64 = some false := by kernel_rfl
theorem te64 : elemT gz.P 64 = none := by kernel_rfl
theorem tz64 : zeroOf gz.P 64 = some (.lit .nilFunc) := by kernel_rfl
theorem tc65 : gz.P.cellsOf 65 = 1 := by kernel_rfl
theorem ta65 : aggT gz.P 65 = some false := by kernel_rfl
theorem te65 : elemT gz.P 65 = none := by kernel_rfl
theorem tz65 : zeroOf gz.P 65 = some (.lit .nilFunc) := by kernel_rfl
theorem tc66 : gz.P.cellsOf 66 = 1 := by kernel_rfl
theorem ta66 : aggT gz.P 66 = some false := by kernel_rfl
theorem te66 : elemT gz.P 66 = none := by kernel_rfl
theorem tz66 : zeroOf gz.P 66 = some (.lit .nilFunc) := by kernel_rfl
theorem tc67 : gz.P.cellsOf 67 = 1 := by kernel_rfl
theorem ta67 : aggT gz.P 67 = some false := by kernel_rfl
theorem te67 : elemT gz.P 67 = none := by kernel_rfl
theorem tz67 : zeroOf gz.P 67 = some (.lit .nilFunc) := by kernel_rfl
theorem tc69 : gz.P.cellsOf 69 = 1 := by kernel_rfl
theorem ta69 : aggT gz.P 69 = some false := by kernel_rfl
theorem te69 : elemT gz.P 69 = none := by kernel_rfl
theorem tz69 : zeroOf gz.P 69 = some (.lit .nilFunc) := by kernel_rfl
theorem tc70 : gz.P.cellsOf 70 = 1 := by kernel_rfl
theorem ta70 : aggT gz.P 70 = some false := by kernel_rfl
theorem te70 : elemT gz.P 70 = none := by kernel_rfl
theorem tz70 : zeroOf gz.P 70 = some (.lit .nilFunc) := by kernel_rfl
theorem tc71 : gz.P.cellsOf 71 = 1 := by kernel_rfl
theorem ta71 : aggT gz.P 71 = some false := by kernel_rfl
theorem tu71 : gz.P.underlying 71 = some (.slice 29) := by kernel_rfl
theorem te71 : elemT gz.P 71 = some 29 := by kernel_rfl
theorem tz71 : zeroOf gz.P 71 = some (.lst true 14 []) := by kernel_rfl
theorem tc72 : gz.P.cellsOf 72 = 1 := by kernel_rfl
theorem ta72 : aggT gz.P 72 = some false := by kernel_rfl
theorem tu72 : gz.P.underlying 72 = some (.slice 254) := by kernel_rfl
theorem te72 : elemT gz.P 72 = some 254 := by kernel_rfl
theorem tz72 : zeroOf gz.P 72 = some (.lst true 20 []) := by kernel_rfl
theorem tc73 : gz.P.cellsOf 73 = 2 := by kernel_rfl
theorem ta73 : aggT gz.P 73 = some true := by kernel_rfl
theorem te73 : elemT gz.P 73 = none := by kernel_rfl
theorem tz73 : zeroOf gz.P 73 = some (.agg [.lst true 14 [], .lst true 20 []]) := by kernel_rfl
theorem tf73_0 : fieldT gz.P 73 0 = some (0, 71) := by kernel_rfl
theorem tf73_1 : fieldT gz.P 73 1 = some (1, 72) := by kernel_rfl
theorem ts73 : structOf gz.P 73 = some [.lst true 14 [], .lst true 20 []] := by kernel_rfl
theorem tc74 : gz.P.cellsOf 74 = 2 := by kernel_rfl
theorem ta74 : aggT gz.P 74 = some true := by kernel_rfl
theorem te74 : elemT gz.P 74 = none := by kernel_rfl
theorem tz74 : zeroOf gz.P 74 = some (.agg [.lst true 14 [], .lst true 20 []]) := by kernel_rfl
theorem tf74_0 : fieldT gz.P 74 0 = some (0, 71) := by kernel_rfl
theorem tf74_1 : fieldT gz.P 74 1 = some (1, 72) := by kernel_rfl
theorem ts74 : structOf gz.P 74 = some [.lst true 14 [], .lst true 20 []] := by kernel_rfl
theorem tc75 : gz.P.cellsOf 75 = 1 := by kernel_rfl
theorem ta75 : aggT gz.P 75 = some false := by kernel_rfl
theorem te75 : elemT gz.P 75 = none := by kernel_rfl
theorem tz75 : zeroOf gz.P 75 = some (.lit .nilFunc) := by kernel_rfl
theorem tc76 : gz.P.cellsOf 76 = 1 := by kernel_rfl
theorem ta76 : aggT gz.P 76 = some false := by kernel_rfl
theorem te76 : elemT gz.P 76 = none := by kernel_rfl
theorem tz76 : zeroOf gz.P 76 = some (.lit .nilFunc) := by kernel_rfl
theorem tc77 : gz.P.cellsOf 77 = 1 := by kernel_rfl
theorem ta77 : aggT gz.P 77 = some false := by kernel_rfl
theorem tu77 : gz.P.underlying 77 = some (.slice 37) := by kernel_rfl
theorem te77 : elemT gz.P 77 = some 37 := by kernel_rfl
theorem tz77 : zeroOf gz.P 77 = some (.lst true 14 []) := by kernel_rfl
theorem tc78 : gz.P.cellsOf 78 = 1 := by kernel_rfl
theorem ta78 : aggT gz.P 78 = some false := by kernel_rfl
theorem tu78 : gz.P.underlying 78 = some (.slice 183) := by kernel_rfl
theorem te78 : elemT gz.P 78 = some 183 := by kernel_rfl
theorem tz78 : zeroOf gz.P 78 = some (.lst true 20 []) := by kernel_rfl
theorem tc79 : gz.P.cellsOf 79 = 2 := by kernel_rfl
theorem ta79 : aggT gz.P 79 = some true := by kernel_rfl
theorem te79 : elemT gz.P 79 = none := by kernel_rfl
theorem tz79 : zeroOf gz.P 79 = some (.agg [.lst true 14 [], .lst true 20 []]) := by kernel_rfl
theorem tf79_0 : fieldT gz.P 79 0 = some (0, 77) := by kernel_rfl
theorem tf79_1 : fieldT gz.P 79 1 = some (1, 78) := by kernel_rfl
theorem ts79 : structOf gz.P 79 = some [.lst true 14 [], .lst true 20 []] := by kernel_rfl
theorem tc80 : gz.P.cellsOf 80 = 2 := by kernel_rfl
theorem ta80 : aggT gz.P 80 = some true := by kernel_rfl
theorem te80 : elemT gz.P 80 = none := by kernel_rfl
theorem tz80 : zeroOf gz.P 80 = some (.agg [.lst true 14 [], .lst true 20 []]) := by kernel_rfl
theorem tf80_0 : fieldT gz.P 80 0 = some (0, 77) := by kernel_rfl
theorem tf80_1 : fieldT gz.P 80 1 = some (1, 78) := by kernel_rfl
theorem ts80 : structOf gz.P 80 = some [.lst true 14 [], .lst true 20 []] := by kernel_rfl
theorem tc81 : gz.P.cellsOf 81 = 1 := by kernel_rfl
theorem ta81 : aggT gz.P 81 = some false := by kernel_rfl
theorem te81 : elemT gz.P 81 = none := by kernel_rfl
theorem tz81 : zeroOf gz.P 81 = some (.lit .nilFunc) := by kernel_rfl
theorem tc82 : gz.P.cellsOf 82 = 1 := by kernel_rfl
theorem ta82 : aggT gz.P 82 = some false := by kernel_rfl
theorem te82 : elemT gz.P 82 = none := by kernel_rfl
theorem tz82 : zeroOf gz.P 82 = some (.lit .nilFunc) := by kernel_rfl
theorem tc83 : gz.P.cellsOf 83 = 1 := by kernel_rfl
theorem ta83 : aggT gz.P 83 = some false := by kernel_rfl
theorem te83 : elemT gz.P 83 = none := by kernel_rfl
theorem tz83 : zeroOf gz.P 83 = some (.lit .nilFunc) := by kernel_rfl
theorem tc84 : gz.P.cellsOf 84 = 2 := by kernel_rfl
theorem ta84 : aggT gz.P 84 = some true := by kernel_rfl
theorem te84 : elemT gz.P 84 = none := by kernel_rfl
theorem tz84 : zeroOf gz.P 84 = some (.agg [.lst true 1 [], .lst true 1 []]) := by kernel_rfl
theorem tf84_0 : fieldT gz.P 84 0 = some (0, 22) := by kernel_rfl
theorem tf84_1 : fieldT gz.P 84 1 = some (1, 22) := by kernel_rfl
theorem ts84 : structOf gz.P 84 = some [.lst true 1 [], .lst true 1 []] := by kernel_rfl
theorem tc85 : gz.P.cellsOf 85 = 2 := by kernel_rfl
theorem ta85 : aggT gz.P 85 = some true := by kernel_rfl
theorem te85 : elemT gz.P 85 = none := by kernel_rfl
theorem tz85 : zeroOf gz.P 85 = some (.agg [.lst true 1 [], .lst true 1 []]) := by kernel_rfl
theorem tf85_0 : fieldT gz.P 85 0 = some (0, 22) := by kernel_rfl
theorem tf85_1 : fieldT gz.P 85 1 = some (1, 22) := by kernel_rfl
theorem ts85 : structOf gz.P 85 = some [.lst true 1 [], .lst true 1 []] := by kernel_rfl
theorem tc86 : gz.P.cellsOf 86 = 4 := by kernel_rfl
theorem ta86 : aggT gz.P 86 = some true := by kernel_rfl
theorem te86 : elemT gz.P 86 = none := by kernel_rfl
theorem tz86 : zeroOf gz.P 86 = some (.agg [.lit (.int .i64 0), .lit (.int .i64 0), .lit (.int .i64 0), .lit (.int .i64 0)]) := by kernel_rfl
theorem tf86_0 : fieldT gz.P 86 0 = some (0, 2) := by kernel_rfl
theorem tf86_1 : fieldT gz.P 86 1 = some (1, 2) := by kernel_rfl
theorem tf86_2 : fieldT gz.P 86 2 = some (2, 2) := by kernel_rfl
theorem tf86_3 : fieldT gz.P 86 3 = some (3, 2) := by kernel_rfl
theorem ts86 : structOf gz.P 86 = some [.lit (.int .i64 0), .lit (.int .i64 0), .lit (.int .i64 0), .lit (.int .i64 0)] := by kernel_rfl
theorem tp86 : plainStruct gz.P 86 = some [0, 0, 0, 0] := by kernel_rfl
theorem tc87 : gz.P.cellsOf 87 = 4 := by kernel_rfl
theorem ta87 : aggT gz.P 87 = some true := by kernel_rfl
theorem te87 : elemT gz.P 87 = none := by kernel_rfl
theorem tz87 : zeroOf gz.P 87 = some (.agg [.lit (.int .i64 0), .lit (.int .i64 0), .lit (.int .i64 0), .lit (.int .i64 0)]) := by kernel_rfl
theorem tf87_0 : fieldT gz.P 87 0 = some (0, 2) := by kernel_rfl
theorem tf87_1 : fieldT gz.P 87 1 = some (1, 2) := by kernel_rfl
theorem tf87_2 : fieldT gz.P 87 2 = some (2, 2) := by kernel_rfl
theorem tf87_3 : fieldT gz.P 87 3 = some (3, 2) := by kernel_rfl
theorem ts87 : structOf gz.P 87 = some [.lit (.int .i64 0), .lit (.int .i64 0), .lit (.int .i64 0), .lit (.int .i64 0)] := by kernel_rfl
theorem tp87 : plainStruct gz.P 87 = some [0, 0, 0, 0] := by kernel_rfl
theorem tc89 : gz.P.cellsOf 89 = 1 := by kernel_rfl
theorem ta89 : aggT gz.P 89 = some false := by kernel_rfl
theorem te89 : elemT gz.P 89 = none := by kernel_rfl
theorem tz89 : zeroOf gz.P 89 = some (.lit .nilFunc) := by kernel_rfl
theorem tc91 : gz.P.cellsOf 91 = 1 := by kernel_rfl
theorem ta91 : aggT gz.P 91 = some false := by kernel_rfl
theorem te91 : elemT gz.P 91 = none := by kernel_rfl
theorem tz91 : zeroOf gz.P 91 = some (.lit .nilFunc) := by kernel_rfl
theorem tc93 : gz.P.cellsOf 93 = 1 := by kernel_rfl
theorem ta93 : aggT gz.P 93 = some false := by kernel_rfl
theorem te93 : elemT gz.P 93 = none := by kernel_rfl
theorem tz93 : zeroOf gz.P 93 = some (.lit .nilFunc) := by kernel_rfl
theorem tc95 : gz.P.cellsOf 95 = 1 := by kernel_rfl
theorem ta95 : aggT gz.P 95 = some false := by kernel_rfl
theorem te95 : elemT gz.P 95 = none := by kernel_rfl
theorem tz95 : zeroOf gz.P 95 = some (.lit .nilFunc) := by kernel_rfl
theorem tc96 : gz.P.cellsOf 96 = 1 := by kernel_rfl
theorem ta96 : aggT gz.P 96 = some false := by kernel_rfl
theorem te96 : elemT gz.P 96 = none := by kernel_rfl
theorem tz96 : zeroOf gz.P 96 = some (.lit .nilFunc) := by kernel_rfl
theorem tc97 : gz.P.cellsOf 97 = 1 := by kernel_rfl
theorem ta97 : aggT gz.P 97 = some false := by kernel_rfl
theorem te97 : elemT gz.P 97 = none := by kernel_rfl
theorem tz97 : zeroOf gz.P 97 = some (.lit .nilFunc) := by kernel_rfl
theorem tc98 : gz.P.cellsOf 98 = 1 := by kernel_rfl
theorem ta98 : aggT gz.P 98 = some false := by kernel_rfl
theorem te98 : elemT gz.P 98 = none := by kernel_rfl
theorem tz98 : zeroOf gz.P 98 = some (.lit .nilFunc) := by kernel_rfl
theorem tc99 : gz.P.cellsOf 99 = 1 := by kernel_rfl
theorem ta99 : aggT gz.P 99 = some false := by kernel_rfl
theorem te99 : elemT gz.P 99 = none := by kernel_rfl
theorem tz99 : zeroOf gz.P 99 = some (.lit .nilFunc) := by kernel_rfl
theorem tc100 : gz.P.cellsOf 100 = 1 := by kernel_rfl
theorem ta100 : aggT gz.P 100 = some false := by kernel_rfl
theorem te100 : elemT gz.P 100 = none := by kernel_rfl
theorem tz100 : zeroOf gz.P 100 = some (.lit .nilFunc) := by kernel_rfl
theorem tc101 : gz.P.cellsOf 101 = 1 := by kernel_rfl
theorem ta101 : aggT gz.P 101 = some false := by kernel_rfl
theorem te101 : elemT gz.P 101 = none := by kernel_rfl
theorem tz101 : zeroOf gz.P 101 = some (.lit .nilFunc) := by kernel_rfl
theorem tc102 : gz.P.cellsOf 102 = 1 := by kernel_rfl
theorem ta102 : aggT gz.P 102 = some false := by kernel_rfl
theorem te102 : elemT gz.P 102 = none := by kernel_rfl
theorem tz102 : zeroOf gz.P 102 = some (.lit .nilFunc) := by kernel_rfl
theorem tc103 : gz.P.cellsOf 103 = 1 := by kernel_rfl
theorem ta103 : aggT gz.P 103 = some false := by kernel_rfl
theorem te103 : elemT gz.P 103 = none := by kernel_rfl
theorem tz103 : zeroOf gz.P 103 = some (.lit .nilFunc) := by kernel_rfl
theorem tc104 : gz.P.cellsOf 104 = 1 := by kernel_rfl
theorem ta104 : aggT gz.P 104 = some false := by kernel_rfl
theorem te104 : elemT gz.P 104 = none := by kernel_rfl
theorem tz104 : zeroOf gz.P 104 = some (.lit .nilFunc) := by kernel_rfl
theorem tc105 : gz.P.cellsOf 105 = 1 := by kernel_rfl
theorem ta105 : aggT gz.P 105 = some false := by kernel_rfl
theorem te105 : elemT gz.P 105 = none := by kernel_rfl
theorem tz105 : zeroOf gz.P 105 = some (.lit .nilFunc) := by kernel_rfl
theorem tc106 : gz.P.cellsOf 106 = 1 := by kernel_rfl
theorem ta106 : aggT gz.P 106 = some false := by kernel_rfl
theorem te106 : elemT gz.P 106 = none := by kernel_rfl
theorem tz106 : zeroOf gz.P 106 = some (.lit .nilFunc) := by kernel_rfl
theorem tc107 : gz.P.cellsOf 107 = 1 := by kernel_rfl
theorem ta107 : aggT gz.P 107 = some false := by kernel_rfl
theorem te107 : elemT gz.P 107 = none := by kernel_rfl
theorem tz107 : zeroOf gz.P 107 = some (.lit .nilFunc) := by kernel_rfl
theorem tc108 : gz.P.cellsOf 108 = 1 := by kernel_rfl
theorem ta108 : aggT gz.P 108 = some false := by kernel_rfl
theorem te108 : elemT gz.P 108 = none := by kernel_rfl
theorem tz108 : zeroOf gz.P 108 = some (.lit .nilFunc) := by kernel_rfl
theorem tc109 : gz.P.cellsOf 109 = 1 := by kernel_rfl
theorem ta109 : aggT gz.P 109 = some false := by kernel_rfl
theorem te109 : elemT gz.P 109 = none := by kernel_rfl
theorem tz109 : zeroOf gz.P 109 = some (.lit .nilFunc) := by kernel_rfl
theorem tc110 : gz.P.cellsOf 110 = 1 := by kernel_rfl
theorem ta110 : aggT gz.P 110 = some false := by kernel_rfl
theorem te110 : elemT gz.P 110 = none := by kernel_rfl
theorem tz110 : zeroOf gz.P 110 = some (.lit .nilFunc) := by kernel_rfl
theorem tc111 : gz.P.cellsOf 111 = 1 := by kernel_rfl
theorem ta111 : aggT gz.P 111 = some false := by kernel_rfl
theorem te111 : elemT gz.P 111 = none := by kernel_rfl
theorem tz111 : zeroOf gz.P 111 = some (.lit .nilFunc) := by kernel_rfl
theorem tc112 : gz.P.cellsOf 112 = 1 := by kernel_rfl
theorem ta112 : aggT gz.P 112 = some false := by kernel_rfl
theorem te112 : elemT gz.P 112 = none := by kernel_rfl
theorem tz112 : zeroOf gz.P 112 = some (.lit .nilFunc) := by kernel_rfl
theorem tc113 : gz.P.cellsOf 113 = 1 := by kernel_rfl
theorem ta113 : aggT gz.P 113 = some false := by kernel_rfl
theorem te113 : elemT gz.P 113 = none := by kernel_rfl
theorem tz113 : zeroOf gz.P 113 = some (.lit .nilFunc) := by kernel_rfl
theorem tc114 : gz.P.cellsOf 114 = 8 := by kernel_rfl
theorem ta114 : aggT gz.P 114 = some true := by kernel_rfl
theorem te114 : elemT gz.P 114 = none := by kernel_rfl
theorem tz114 : zeroOf gz.P 114 = some (.agg [.lit (.int .i64 0), .lit (.int .i64 0), .agg [.lit (.int .i64 0), .lit (.int .i64 0), .lst true 1 [], .lst true 1 []], .lst true 1 [], .lit (.int .i64 0)]) := by kernel_rfl
theorem tf114_0 : fieldT gz.P 114 0 = some (0, 2) := by kernel_rfl
theorem tf114_1 : fieldT gz.P 114 1 = some (1, 2) := by kernel_rfl
theorem tf114_2 : fieldT gz.P 114 2 = some (2, 32) := by kernel_rfl
theorem tf114_3 : fieldT gz.P 114 3 = some (6, 41) := by kernel_rfl
theorem tf114_4 : fieldT gz.P 114 4 = some (7, 2) := by kernel_rfl
theorem ts114 : structOf gz.P 114 = some [.lit (.int .i64 0), .lit (.int .i64 0), .agg [.lit (.int .i64 0), .lit (.int .i64 0), .lst true 1 [], .lst true 1 []], .lst true 1 [], .lit (.int .i64 0)] := by kernel_rfl
theorem tc115 : gz.P.cellsOf 115 = 8 := by kernel_rfl
theorem ta115 : aggT gz.P 115 = some true := by kernel_rfl
theorem te115 : elemT gz.P 115 = none := by kernel_rfl
theorem tz115 : zeroOf gz.P 115 = some (.agg [.lit (.int .i64 0), .lit (.int .i64 0), .agg [.lit (.int .i64 0), .lit (.int .i64 0), .lst true 1 [], .lst true 1 []], .lst true 1 [], .lit (.int .i64 0)]) := by kernel_rfl
theorem tf115_0 : fieldT gz.P 115 0 = some (0, 2) := by kernel_rfl
theorem tf115_1 : fieldT gz.P 115 1 = some (1, 2) := by kernel_rfl
theorem tf115_2 : fieldT gz.P 115 2 = some (2, 32) := by kernel_rfl
theorem tf115_3 : fieldT gz.P 115 3 = some (6, 41) := by kernel_rfl
theorem tf115_4 : fieldT gz.P 115 4 = some (7, 2) := by kernel_rfl
theorem ts115 : structOf gz.P 115 = some [.lit (.int .i64 0), .lit (.int .i64 0), .agg [.lit (.int .i64 0), .lit (.int .i64 0), .lst true 1 [], .lst true 1 []], .lst true 1 [], .lit (.int .i64 0)] := by kernel_rfl
theorem tc116 : gz.P.cellsOf 116 = 1 := by kernel_rfl
theorem ta116 : aggT gz.P 116 = some false := by kernel_rfl
theorem te116 : elemT gz.P 116 = none := by kernel_rfl
theorem tz116 : zeroOf gz.P 116 = some (.lit .nilFunc) := by kernel_rfl
theorem tc117 : gz.P.cellsOf 117 = 1 := by kernel_rfl
theorem ta117 : aggT gz.P 117 = some false := by kernel_rfl
theorem te117 : elemT gz.P 117 = none := by kernel_rfl
theorem tz117 : zeroOf gz.P 117 = some (.lit .nilFunc) := by kernel_rfl
theorem tc118 : gz.P.cellsOf 118 = 1 := by kernel_rfl
theorem ta118 : aggT gz.P 118 = some false := by kernel_rfl
theorem te118 : elemT gz.P 118 = none := by kernel_rfl
theorem tz118 : zeroOf gz.P 118 = some (.lit .nilFunc) := by kernel_rfl
theorem tc119 : gz.P.cellsOf 119 = 1 := by kernel_rfl
theorem ta119 : aggT gz.P 119 = some false := by kernel_rfl
theorem te119 : elemT gz.P 119 = none := by kernel_rfl
theorem tz119 : zeroOf gz.P 119 = some (.lit .nilFunc) := by kernel_rfl
theorem tc120 : gz.P.cellsOf 120 = 4 := by kernel_rfl
theorem ta120 : aggT gz.P 120 = some true := by kernel_rfl
theorem te120 : elemT gz.P 120 = none := by kernel_rfl
theorem tz120 : zeroOf gz.P 120 = some (.agg [.lit (.int .i64 0), .lit (.int .i64 0), .lit (.int .i64 0), .lit (.int .i64 0)]) := by kernel_rfl
theorem tf120_0 : fieldT gz.P 120 0 = some (0, 2) := by kernel_rfl
theorem tf120_1 : fieldT gz.P 120 1 = some (1, 2) := by kernel_rfl
theorem tf120_2 : fieldT gz.P 120 2 = some (2, 2) := by kernel_rfl
theorem tf120_3 : fieldT gz.P 120 3 = some (3, 2) := by kernel_rfl
theorem ts120 : structOf gz.P 120 = some [.lit (.int .i64 0), .lit (.int .i64 0), .lit (.int .i64 0), .lit (.int .i64 0)] := by kernel_rfl
theorem tp120 : plainStruct gz.P 120 = some [0, 0, 0, 0] := by kernel_rfl
theorem tc121 : gz.P.cellsOf 121 = 4 := by kernel_rfl
theorem ta121 : aggT gz.P 121 = some true := by kernel_rfl
theorem te121 : elemT gz.P 121 = none := by kernel_rfl
theorem tz121 : zeroOf gz.P 121 = some (.agg [.lit (.int .i64 0), .lit (.int .i64 0), .lit (.int .i64 0), .lit (.int .i64 0)]) := by kernel_rfl
theorem tf121_0 : fieldT gz.P 121 0 = some (0, 2) := by kernel_rfl
theorem tf121_1 : fieldT gz.P 121 1 = some (1, 2) := by kernel_rfl
theorem tf121_2 : fieldT gz.P 121 2 = some (2, 2) := by kernel_rfl
theorem tf121_3 : fieldT gz.P 121 3 = some (3, 2) := by kernel_rfl
theorem ts121 : structOf gz.P 121 = some [.lit (.int .i64 0), .lit (.int .i64 0), .lit (.int .i64 0), .lit (.int .i64 0)] := by kernel_rfl
theorem tp121 : plainStruct gz.P 121 = some [0, 0, 0, 0] := by kernel_rfl
theorem tc122 : gz.P.cellsOf 122 = 2 := by kernel_rfl
theorem ta122 : aggT gz.P 122 = some true := by kernel_rfl
theorem te122 : elemT gz.P 122 = none := by kernel_rfl
theorem tz122 : zeroOf gz.P 122 = some (.agg [.lit (.int .i64 0), .lit (.int .i64 0)]) := by kernel_rfl
theorem tf122_0 : fieldT gz.P 122 0 = some (0, 2) := by kernel_rfl
theorem tf122_1 : fieldT gz.P 122 1 = some (1, 2) := by kernel_rfl
theorem ts122 : structOf gz.P 122 = some [.lit (.int .i64 0), .lit (.int .i64 0)] := by kernel_rfl
theorem tp122 : plainStruct gz.P 122 = some [0, 0] := by kernel_rfl
theorem tc123 : gz.P.cellsOf 123 = 2 := by kernel_rfl
theorem ta123 : aggT gz.P 123 = some true := by kernel_rfl
theorem te123 : elemT gz.P 123 = none := by kernel_rfl
theorem tz123 : zeroOf gz.P 123 = some (.agg [.lit (.int .i64 0), .lit (.int .i64 0)]) := by kernel_rfl
theorem tf123_0 : fieldT gz.P 123 0 = some (0, 2) := by kernel_rfl
theorem tf123_1 : fieldT gz.P 123 1 = some (1, 2) := by kernel_rfl
theorem ts123 : structOf gz.P 123 = some [.lit (.int .i64 0), .lit (.int .i64 0)] := by kernel_rfl
theorem tp123 : plainStruct gz.P 123 = some [0, 0] := by kernel_rfl
theorem tc124 : gz.P.cellsOf 124 = 1 := by kernel_rfl
theorem ta124 : aggT gz.P 124 = some false := by kernel_rfl
theorem te124 : elemT gz.P 124 = none := by kernel_rfl
theorem tz124 : zeroOf gz.P 124 = some (.lit .nilFunc) := by kernel_rfl
theorem tc125 : gz.P.cellsOf 125 = 1 := by kernel_rfl
theorem ta125 : aggT gz.P 125 = some false := by kernel_rfl
theorem te125 : elemT gz.P 125 = none := by kernel_rfl
theorem tz125 : zeroOf gz.P 125 = some (.lit .nilFunc) := by kernel_rfl
theorem tc126 : gz.P.cellsOf 126 = 1 := by kernel_rfl
theorem ta126 : aggT gz.P 126 = some false := by kernel_rfl
theorem te126 : elemT gz.P 126 = none := by kernel_rfl
theorem tz126 : zeroOf gz.P 126 = some (.lit .nilFunc) := by kernel_rfl
theorem tc127 : gz.P.cellsOf 127 = 1 := by kernel_rfl
theorem ta127 : aggT gz.P 127 = some false := by kernel_rfl
theorem te127 : elemT gz.P 127 = none := by kernel_rfl
theorem tz127 : zeroOf gz.P 127 = some (.lit .nilFunc) := by kernel_rfl
theorem tc128 : gz.P.cellsOf 128 = 1 := by kernel_rfl
theorem ta128 : aggT gz.P 128 = some false := by kernel_rfl
theorem te128 : elemT gz.P 128 = none := by kernel_rfl
theorem tz128 : zeroOf gz.P 128 = some (.lit .nilFunc) := by kernel_rfl
theorem tc129 : gz.P.cellsOf 129 = 1 := by kernel_rfl
theorem ta129 : aggT gz.P 129 = some false := by kernel_rfl
theorem te129 : elemT gz.P 129 = none := by kernel_rfl
theorem tz129 : zeroOf gz.P 129 = some (.lit .nilFunc) := by kernel_rfl
theorem tc130 : gz.P.cellsOf 130 = 1 := by kernel_rfl
theorem ta130 : aggT gz.P 130 = some false := by kernel_rfl
theorem te130 : elemT gz.P 130 = none := by kernel_rfl
theorem tz130 : zeroOf gz.P 130 = some (.lit .nilFunc) := by kernel_rfl
theorem tc131 : gz.P.cellsOf 131 = 1 := by kernel_rfl
theorem ta131 : aggT gz.P 131 = some false := by kernel_rfl
theorem te131 : elemT gz.P 131 = none := by kernel_rfl
theorem tz131 : zeroOf gz.P 131 = some (.lit (.pointer none)) := by kernel_rfl
theorem tc132 : gz.P.cellsOf 132 = 1 := by kernel_rfl
theorem ta132 : aggT gz.P 132 = some false := by kernel_rfl
theorem te132 : elemT gz.P 132 = none := by kernel_rfl
theorem tz132 : zeroOf gz.P 132 = some (.lit .nilFunc) := by kernel_rfl
theorem tc133 : gz.P.cellsOf 133 = 1 := by kernel_rfl
theorem ta133 : aggT gz.P 133 = some false := by kernel_rfl
theorem te133 : elemT gz.P 133 = none := by kernel_rfl
theorem tz133 : zeroOf gz.P 133 = some (.lit .nilFunc) := by kernel_rfl
theorem tc134 : gz.P.cellsOf 134 = 1 := by kernel_rfl
theorem ta134 : aggT gz.P 134 = some false := by kernel_rfl
theorem te134 : elemT gz.P 134 = none := by kernel_rfl
theorem tz134 : zeroOf gz.P 134 = some (.lit .nilFunc) := by kernel_rfl
theorem tc135 : gz.P.cellsOf 135 = 1 := by kernel_rfl
theorem ta135 : aggT gz.P 135 = some false := by kernel_rfl
theorem te135 : elemT gz.P 135 = none := by kernel_rfl
theorem tz135 : zeroOf gz.P 135 = some (.lit .nilFunc) := by kernel_rfl
theorem tc136 : gz.P.cellsOf 136 = 1 := by kernel_rfl
theorem ta136 : aggT gz.P 136 = some false := by kernel_rfl
theorem te136 : elemT gz.P 136 = none := by kernel_rfl
theorem tz136 : zeroOf gz.P 136 = some (.lit .nilFunc) := by kernel_rfl
theorem tc137 : gz.P.cellsOf 137 = 1 := by kernel_rfl
theorem ta137 : aggT gz.P 137 = some false := by kernel_rfl
theorem te137 : elemT gz.P 137 = none := by kernel_rfl
theorem tz137 : zeroOf gz.P 137 = some (.lit .nilFunc) := by kernel_rfl
theorem tc138 : gz.P.cellsOf 138 = 1 := by kernel_rfl
theorem ta138 : aggT gz.P 138 = some false := by kernel_rfl
theorem te138 : elemT gz.P 138 = none := by kernel_rfl
theorem tz138 : zeroOf gz.P 138 = some (.lit .nilFunc) := by kernel_rfl
theorem tc139 : gz.P.cellsOf 139 = 1 := by kernel_rfl
theorem ta139 : aggT gz.P 139 = some false := by kernel_rfl
theorem te139 : elemT gz.P 139 = none := by kernel_rfl
theorem tz139 : zeroOf gz.P 139 = some (.lit .nilFunc) := by kernel_rfl
theorem tc140 : gz.P.cellsOf 140 = 1 := by kernel_rfl
theorem ta140 : aggT gz.P 140 = some false := by kernel_rfl
theorem te140 : elemT gz.P 140 = none := by kernel_rfl
theorem tz140 : zeroOf gz.P 140 = some (.lit .nilFunc) := by kernel_rfl
theorem tc141 : gz.P.cellsOf 141 = 1 := by kernel_rfl
theorem ta141 : aggT gz.P 141 = some false := by kernel_rfl
theorem te141 : elemT gz.P 141 = none := by kernel_rfl
theorem tz141 : zeroOf gz.P 141 = some (.lit .nilFunc) := by kernel_rfl
theorem tc142 : gz.P.cellsOf 142 = 1 := by kernel_rfl
theorem ta142 : aggT gz.P 142 = some false := by kernel_rfl
theorem te142 : elemT gz.P 142 = none := by kernel_rfl
theorem tz142 : zeroOf gz.P 142 = some (.lit .nilFunc) := by kernel_rfl
theorem tc143 : gz.P.cellsOf 143 = 1 := by kernel_rfl
theorem ta143 : aggT gz.P 143 = some false := by kernel_rfl
theorem te143 : elemT gz.P 143 = none := by kernel_rfl
theorem tz143 : zeroOf gz.P 143 = some (.lit .nilFunc) := by kernel_rfl
theorem tc144 : gz.P.cellsOf 144 = 1 := by kernel_rfl
theorem ta144 : aggT gz.P 144 = some false := by kernel_rfl
theorem te144 : elemT gz.P 144 = none := by kernel_rfl
theorem tz144 : zeroOf gz.P 144 = some (.lit .nilFunc) := by kernel_rfl
theorem tc145 : gz.P.cellsOf 145 = 1 := by kernel_rfl
theorem ta145 : aggT gz.P 145 = some false := by kernel_rfl
theorem te145 : elemT gz.P 145 = none := by kernel_rfl
theorem tz145 : zeroOf gz.P 145 = some (.lit .nilFunc) := by kernel_rfl
theorem tc146 : gz.P.cellsOf 146 = 1 := by kernel_rfl
theorem ta146 : aggT gz.P 146 = some false := by kernel_rfl
theorem te146 : elemT gz.P 146 = none := by kernel_rfl
theorem tz146 : zeroOf gz.P 146 = some (.lit .nilFunc) := by kernel_rfl
theorem tc147 : gz.P.cellsOf 147 = 1 := by kernel_rfl
theorem ta147 : aggT gz.P 147 = some false := by kernel_rfl
theorem te147 : elemT gz.P 147 = none := by kernel_rfl
theorem tz147 : zeroOf gz.P 147 = some (.lit .nilFunc) := by kernel_rfl
theorem tc148 : gz.P.cellsOf 148 = 1 := by kernel_rfl
theorem ta148 : aggT gz.P 148 = some false := by kernel_rfl
theorem te148 : elemT gz.P 148 = none := by kernel_rfl
theorem tz148 : zeroOf gz.P 148 = some (.lit .nilFunc) := by kernel_rfl
theorem tc149 : gz.P.cellsOf 149 = 1 := by kernel_rfl
theorem ta149 : aggT gz.P 149 = some false := by kernel_rfl
theorem te149 : elemT gz.P 149 = none := by kernel_rfl
theorem tz149 : zeroOf gz.P 149 = some (.lit .nilFunc) := by kernel_rfl
theorem tc150 : gz.P.cellsOf 150 = 1 := by kernel_rfl
theorem ta150 : aggT gz.P 150 = some false := by kernel_rfl
theorem te150 : elemT gz.P 150 = none := by kernel_rfl
theorem tz150 : zeroOf gz.P 150 = some (.lit .nilFunc) := by kernel_rfl
theorem tc151 : gz.P.cellsOf 151 = 1 := by kernel_rfl
theorem ta151 : aggT gz.P 151 = some false := by kernel_rfl
theorem te151 : elemT gz.P 151 = none := by kernel_rfl
theorem tz151 : zeroOf gz.P 151 = some (.lit .nilFunc) := by kernel_rfl
theorem tc152 : gz.P.cellsOf 152 = 1 := by kernel_rfl
theorem ta152 : aggT gz.P 152 = some false := by kernel_rfl
theorem te152 : elemT gz.P 152 = none := by kernel_rfl
theorem tz152 : zeroOf gz.P 152 = some (.lit (.pointer none)) := by kernel_rfl
theorem tc153 : gz.P.cellsOf 153 = 1 := by kernel_rfl
theorem ta153 : aggT gz.P 153 = some false := by kernel_rfl
theorem te153 : elemT gz.P 153 = none := by kernel_rfl
theorem tz153 : zeroOf gz.P 153 = some (.lit .nilFunc) := by kernel_rfl
theorem tc154 : gz.P.cellsOf 154 = 1 := by kernel_rfl
theorem ta154 : aggT gz.P 154 = some false := by kernel_rfl
theorem te154 : elemT gz.P 154 = none := by kernel_rfl
theorem tz154 : zeroOf gz.P 154 = some (.lit .nilFunc) := by kernel_rfl
theorem tc155 : gz.P.cellsOf 155 = 1 := by kernel_rfl
theorem ta155 : aggT gz.P 155 = some false := by kernel_rfl
theorem te155 : elemT gz.P 155 = none := by kernel_rfl
theorem tz155 : zeroOf gz.P 155 = some (.lit .nilFunc) := by kernel_rfl
theorem tc156 : gz.P.cellsOf 156 = 1 := by kernel_rfl
theorem ta156 : aggT gz.P 156 = some false := by kernel_rfl
theorem te156 : elemT gz.P 156 = none := by kernel_rfl
theorem tz156 : zeroOf gz.P 156 = some (.lit .nilFunc) := by kernel_rfl
theorem tc157 : gz.P.cellsOf 157 = 1 := by kernel_rfl
theorem ta157 : aggT gz.P 157 = some false := by kernel_rfl
theorem te157 : elemT gz.P 157 = none := by kernel_rfl
theorem tz157 : zeroOf gz.P 157 = some (.lit .nilFunc) := by kernel_rfl
theorem tc158 : gz.P.cellsOf 158 = 1 := by kernel_rfl
theorem ta158 : aggT gz.P 158 = some false := by kernel_rfl
theorem te158 : elemT gz.P 158 = none := by kernel_rfl
theorem tz158 : zeroOf gz.P 158 = some (.lit .nilFunc) := by kernel_rfl
theorem tc159 : gz.P.cellsOf 159 = 1 := by kernel_rfl
theorem ta159 : aggT gz.P 159 = some false := by kernel_rfl
theorem te159 : elemT gz.P 159 = none := by kernel_rfl
theorem tz159 : zeroOf gz.P 159 = some (.lit .nilFunc) := by kernel_rfl
theorem tc161 : gz.P.cellsOf 161 = 1 := by kernel_rfl
theorem ta161 : aggT gz.P 161 = some false := by kernel_rfl
theorem te161 : elemT gz.P 161 = none := by kernel_rfl
theorem tz161 : zeroOf gz.P 161 = some (.lit .nilFunc) := by kernel_rfl
theorem tc162 : gz.P.cellsOf 162 = 1 := by kernel_rfl
theorem ta162 : aggT gz.P 162 = some false := by kernel_rfl
theorem te162 : elemT gz.P 162 = none := by kernel_rfl
theorem tz162 : zeroOf gz.P 162 = some (.lit .nilFunc) := by kernel_rfl
theorem tc163 : gz.P.cellsOf 163 = 1 := by kernel_rfl
theorem ta163 : aggT gz.P 163 = some false := by kernel_rfl
theorem te163 : elemT gz.P 163 = none := by kernel_rfl
theorem tz163 : zeroOf gz.P 163 = some (.lit .nilFunc) := by kernel_rfl
theorem tc164 : gz.P.cellsOf 164 = 1 := by kernel_rfl
theorem ta164 : aggT gz.P 164 = some false := by kernel_rfl
theorem te164 : elemT gz.P 164 = none := by kernel_rfl
theorem tz164 : zeroOf gz.P 164 = some (.lit .nilFunc) := by kernel_rfl
theorem tc166 : gz.P.cellsOf 166 = 1 := by kernel_rfl
theorem ta166 : aggT gz.P 166 = some false := by kernel_rfl
theorem te166 : elemT gz.P 166 = none := by kernel_rfl
theorem tz166 : zeroOf gz.P 166 = some (.lit .nilFunc) := by kernel_rfl
theorem tc168 : gz.P.cellsOf 168 = 1 := by kernel_rfl
theorem ta168 : aggT gz.P 168 = some false := by kernel_rfl
theorem te168 : elemT gz.P 168 = none := by kernel_rfl
theorem tz168 : zeroOf gz.P 168 = some (.lit .nilFunc) := by kernel_rfl
theorem tc169 : gz.P.cellsOf 169 = 2 := by kernel_rfl
theorem ta169 : aggT gz.P 169 = some true := by kernel_rfl
theorem te169 : elemT gz.P 169 = none := by kernel_rfl
theorem tz169 : zeroOf gz.P 169 = some (.agg [.lit (.int .i64 0), .lit (.string ByteArray.empty)]) := by kernel_rfl
theorem tf169_0 : fieldT gz.P 169 0 = some (0, 2) := by kernel_rfl
theorem tf169_1 : fieldT gz.P 169 1 = some (1, 9) := by kernel_rfl
theorem ts169 : structOf gz.P 169 = some [.lit (.int .i64 0), .lit (.string ByteArray.empty)] := by kernel_rfl
theorem tp169 : plainStruct gz.P 169 = some [0, 2] := by kernel_rfl
theorem tc170 : gz.P.cellsOf 170 = 2 := by kernel_rfl
theorem ta170 : aggT gz.P 170 = some true := by kernel_rfl
theorem te170 : elemT gz.P 170 = none := by kernel_rfl
theorem tz170 : zeroOf gz.P 170 = some (.agg [.lit (.int .i64 0), .lit (.string ByteArray.empty)]) := by kernel_rfl
theorem tf170_0 : fieldT gz.P 170 0 = some (0, 2) := by kernel_rfl
theorem tf170_1 : fieldT gz.P 170 1 = some (1, 9) := by kernel_rfl
theorem ts170 : structOf gz.P 170 = some [.lit (.int .i64 0), .lit (.string ByteArray.empty)] := by kernel_rfl
theorem tp170 : plainStruct gz.P 170 = some [0, 2] := by kernel_rfl
theorem tc171 : gz.P.cellsOf 171 = 1 := by kernel_rfl
theorem ta171 : aggT gz.P 171 = some false := by kernel_rfl
theorem te171 : elemT gz.P 171 = none := by kernel_rfl
theorem tz171 : zeroOf gz.P 171 = some (.lit .nilFunc) := by kernel_rfl
theorem tc172 : gz.P.cellsOf 172 = 1 := by kernel_rfl
theorem ta172 : aggT gz.P 172 = some false := by kernel_rfl
theorem tu172 : gz.P.underlying 172 = some (.slice 4) := by kernel_rfl
theorem te172 : elemT gz.P 172 = some 4 := by kernel_rfl
theorem tz172 : zeroOf gz.P 172 = some (.lst true 1 []) := by kernel_rfl
theorem tc173 : gz.P.cellsOf 173 = 1 := by kernel_rfl
theorem ta173 : aggT gz.P 173 = some false := by kernel_rfl
theorem te173 : elemT gz.P 173 = none := by kernel_rfl
theorem tz173 : zeroOf gz.P 173 = some (.lit .nilFunc) := by kernel_rfl
theorem tc174 : gz.P.cellsOf 174 = 1 := by kernel_rfl
theorem ta174 : aggT gz.P 174 = some false := by kernel_rfl
theorem te174 : elemT gz.P 174 = none := by kernel_rfl
theorem tz174 : zeroOf gz.P 174 = some (.lit .nilFunc) := by kernel_rfl
theorem tc175 : gz.P.cellsOf 175 = 1 := by kernel_rfl
theorem ta175 : aggT gz.P 175 = some false := by kernel_rfl
theorem te175 : elemT gz.P 175 = none := by kernel_rfl
theorem tz175 : zeroOf gz.P 175 = some (.lit .nilFunc) := by kernel_rfl
theorem tc176 : gz.P.cellsOf 176 = 1 := by kernel_rfl
theorem ta176 : aggT gz.P 176 = some false := by kernel_rfl
theorem te176 : elemT gz.P 176 = none := by kernel_rfl
theorem tz176 : zeroOf gz.P 176 = some (.lit .nilFunc) := by kernel_rfl
theorem tc177 : gz.P.cellsOf 177 = 1 := by kernel_rfl
theorem ta177 : aggT gz.P 177 = some false := by kernel_rfl
theorem te177 : elemT gz.P 177 = none := by kernel_rfl
theorem tz177 : zeroOf gz.P 177 = some (.lit .nilFunc) := by kernel_rfl
theorem tc178 : gz.P.cellsOf 178 = 1 := by kernel_rfl
theorem ta178 : aggT gz.P 178 = some false := by kernel_rfl
theorem te178 : elemT gz.P 178 = none := by kernel_rfl
theorem tz178 : zeroOf gz.P 178 = some (.lit .nilFunc) := by kernel_rfl
theorem tc179 : gz.P.cellsOf 179 = 1 := by kernel_rfl
theorem ta179 : aggT gz.P 179 = some false := by kernel_rfl
theorem te179 : elemT gz.P 179 = none := by kernel_rfl
theorem tz179 : zeroOf gz.P 179 = some (.lit .nilFunc) := by kernel_rfl
theorem tc180 : gz.P.cellsOf 180 = 1 := by kernel_rfl
theorem ta180 : aggT gz.P 180 = some false := by kernel_rfl
theorem te180 : elemT gz.P 180 = none := by kernel_rfl
theorem tz180 : zeroOf gz.P 180 = some (.lit .nilFunc) := by kernel_rfl
theorem tc181 : gz.P.cellsOf 181 = 1 := by kernel_rfl
theorem ta181 : aggT gz.P 181 = some false := by kernel_rfl
theorem te181 : elemT gz.P 181 = none := by kernel_rfl
theorem tz181 : zeroOf gz.P 181 = some (.lit .nilFunc) := by kernel_rfl
theorem tc182 : gz.P.cellsOf 182 = 20 := by kernel_rfl
theorem ta182 : aggT gz.P 182 = some true := by kernel_rfl
theorem te182 : elemT gz.P 182 = none := by kernel_rfl
theorem tz182 : zeroOf gz.P 182 = some (.agg [.lit (.int .i64 0), .lit (.int .i64 0), .lit (.int .i64 0), .lit (.int .i64 0), .agg [.lit (.int .i64 0), .lit (.int .i64 0), .agg [.lit (.int .i64 0), .lit (.int .i64 0), .lst true 1 [], .lst true 1 []], .lst true 1 [], .lit (.int .i64 0)], .agg [.lit (.int .i64 0), .lit (.int .i64 0), .lit (.int .i64 0), .lit (.int .i64 0)], .agg [.lit (.int .i64 0), .lit (.int .i64 0), .lst true 1 [], .lst true 1 []]]) := by kernel_rfl
theorem tf182_0 : fieldT gz.P 182 0 = some (0, 2) := by kernel_rfl
theorem tf182_1 : fieldT gz.P 182 1 = some (1, 2) := by kernel_rfl
theorem tf182_2 : fieldT gz.P 182 2 = some (2, 2) := by kernel_rfl
theorem tf182_3 : fieldT gz.P 182 3 = some (3, 2) := by kernel_rfl
theorem tf182_4 : fieldT gz.P 182 4 = some (4, 115) := by kernel_rfl
theorem tf182_5 : fieldT gz.P 182 5 = some (12, 121) := by kernel_rfl
theorem tf182_6 : fieldT gz.P 182 6 = some (16, 32) := by kernel_rfl
theorem ts182 : structOf gz.P 182 = some [.lit (.int .i64 0), .lit (.int .i64 0), .lit (.int .i64 0), .lit (.int .i64 0), .agg [.lit (.int .i64 0), .lit (.int .i64 0), .agg [.lit (.int .i64 0), .lit (.int .i64 0), .lst true 1 [], .lst true 1 []], .lst true 1 [], .lit (.int .i64 0)], .agg [.lit (.int .i64 0), .lit (.int .i64 0), .lit (.int .i64 0), .lit (.int .i64 0)], .agg [.lit (.int .i64 0), .lit (.int .i64 0), .lst true 1 [], .lst true 1 []]] := by kernel_rfl
theorem tc183 : gz.P.cellsOf 183 = 20 := by kernel_rfl
theorem ta183 : aggT gz.P 183 = some true := by kernel_rfl
theorem te183 : elemT gz.P 183 = none := by kernel_rfl
theorem tz183 : zeroOf gz.P 183 = some (.agg [.lit (.int .i64 0), .lit (.int .i64 0), .lit (.int .i64 0), .lit (.int .i64 0), .agg [.lit (.int .i64 0), .lit (.int .i64 0), .agg [.lit (.int .i64 0), .lit (.int .i64 0), .lst true 1 [], .lst true 1 []], .lst true 1 [], .lit (.int .i64 0)], .agg [.lit (.int .i64 0), .lit (.int .i64 0), .lit (.int .i64 0), .lit (.int .i64 0)], .agg [.lit (.int .i64 0), .lit (.int .i64 0), .lst true 1 [], .lst true 1 []]]) := by kernel_rfl
theorem tf183_0 : fieldT gz.P 183 0 = some (0, 2) := by kernel_rfl
theorem tf183_1 : fieldT gz.P 183 1 = some (1, 2) := by kernel_rfl
theorem tf183_2 : fieldT gz.P 183 2 = some (2, 2) := by kernel_rfl
theorem tf183_3 : fieldT gz.P 183 3 = some (3, 2) := by kernel_rfl
theorem tf183_4 : fieldT gz.P 183 4 = some (4, 115) := by kernel_rfl
theorem tf183_5 : fieldT gz.P 183 5 = some (12, 121) := by kernel_rfl
theorem tf183_6 : fieldT gz.P 183 6 = some (16, 32) := by kernel_rfl
theorem ts183 : structOf gz.P 183 = some [.lit (.int .i64 0), .lit (.int .i64 0), .lit (.int .i64 0), .lit (.int .i64 0), .agg [.lit (.int .i64 0), .lit (.int .i64 0), .agg [.lit (.int .i64 0), .lit (.int .i64 0), .lst true 1 [], .lst true 1 []], .lst true 1 [], .lit (.int .i64 0)], .agg [.lit (.int .i64 0), .lit (.int .i64 0), .lit (.int .i64 0), .lit (.int .i64 0)], .agg [.lit (.int .i64 0), .lit (.int .i64 0), .lst true 1 [], .lst true 1 []]] := by kernel_rfl
theorem tc184 : gz.P.cellsOf 184 = 1 := by kernel_rfl
theorem ta184 : aggT gz.P 184 = some false := by kernel_rfl
theorem te184 : elemT gz.P 184 = none := by kernel_rfl
theorem tz184 : zeroOf gz.P 184 = some (.lit .nilFunc) := by kernel_rfl
theorem tc185 : gz.P.cellsOf 185 = 1 := by kernel_rfl
theorem ta185 : aggT gz.P 185 = some false := by kernel_rfl
theorem te185 : elemT gz.P 185 = none := by kernel_rfl
theorem tz185 : zeroOf gz.P 185 = some (.lit .nilFunc) := by kernel_rfl
theorem tc186 : gz.P.cellsOf 186 = 1 := by kernel_rfl
theorem ta186 : aggT gz.P 186 = some false := by kernel_rfl
theorem te186 : elemT gz.P 186 = none := by kernel_rfl
theorem tz186 : zeroOf gz.P 186 = some (.lit .nilFunc) := by kernel_rfl
theorem tc187 : gz.P.cellsOf 187 = 1 := by kernel_rfl
theorem ta187 : aggT gz.P 187 = some false := by kernel_rfl
theorem te187 : elemT gz.P 187 = none := by kernel_rfl
theorem tz187 : zeroOf gz.P 187 = some (.lit .nilFunc) := by kernel_rfl
theorem tc188 : gz.P.cellsOf 188 = 1 := by kernel_rfl
theorem ta188 : aggT gz.P 188 = some false := by kernel_rfl
theorem te188 : elemT gz.P 188 = none := by kernel_rfl
theorem tz188 : zeroOf gz.P 188 = some (.lit .nilFunc) := by kernel_rfl
theorem tc189 : gz.P.cellsOf 189 = 1 := by kernel_rfl
theorem ta189 : aggT gz.P 189 = some false := by kernel_rfl
theorem te189 : elemT gz.P 189 = none := by kernel_rfl
theorem tz189 : zeroOf gz.P 189 = some (.lit .nilFunc) := by kernel_rfl
theorem tc190 : gz.P.cellsOf 190 = 1 := by kernel_rfl
theorem ta190 : aggT gz.P 190 = some false := by kernel_rfl
theorem te190 : elemT gz.P 190 = none := by kernel_rfl
theorem tz190 : zeroOf gz.P 190 = some (.lit .nilFunc) := by kernel_rfl
theorem tc191 : gz.P.cellsOf 191 = 1 := by kernel_rfl
theorem ta191 : aggT gz.P 191 = some false := by kernel_rfl
theorem te191 : elemT gz.P 191 = none := by kernel_rfl
theorem tz191 : zeroOf gz.P 191 = some (.lit .nilFunc) := by kernel_rfl
theorem tc192 : gz.P.cellsOf 192 = 1 := by kernel_rfl
theorem ta192 : aggT gz.P 192 = some false := by kernel_rfl
theorem te192 : elemT gz.P 192 = none := by kernel_rfl
theorem tz192 : zeroOf gz.P 192 = some (.lit .nilFunc) := by kernel_rfl
theorem tc193 : gz.P.cellsOf 193 = 1 := by kernel_rfl
theorem ta193 : aggT gz.P 193 = some false := by kernel_rfl
theorem te193 : elemT gz.P 193 = none := by kernel_rfl
theorem tz193 : zeroOf gz.P 193 = some (.lit .nilFunc) := by kernel_rfl
theorem tc194 : gz.P.cellsOf 194 = 1 := by kernel_rfl
theorem ta194 : aggT gz.P 194 = some false := by kernel_rfl
theorem te194 : elemT gz.P 194 = none := by kernel_rfl
theorem tz194 : zeroOf gz.P 194 = some (.lit .nilFunc) := by kernel_rfl
theorem tc196 : gz.P.cellsOf 196 = 1 := by kernel_rfl
theorem ta196 : aggT gz.P 196 = some false := by kernel_rfl
theorem te196 : elemT gz.P 196 = none := by kernel_rfl
theorem tz196 : zeroOf gz.P 196 = some (.lit .nilFunc) := by kernel_rfl
theorem tc197 : gz.P.cellsOf 197 = 1 := by kernel_rfl
theorem ta197 : aggT gz.P 197 = some false := by kernel_rfl
theorem te197 : elemT gz.P 197 = none := by kernel_rfl
theorem tz197 : zeroOf gz.P 197 = some (.lit .nilFunc) := by kernel_rfl
theorem tc198 : gz.P.cellsOf 198 = 1 := by kernel_rfl
theorem ta198 : aggT gz.P 198 = some false := by kernel_rfl
theorem te198 : elemT gz.P 198 = none := by kernel_rfl
theorem tz198 : zeroOf gz.P 198 = some (.lit .nilFunc) := by kernel_rfl
theorem tc199 : gz.P.cellsOf 199 = 1 := by kernel_rfl
theorem ta199 : aggT gz.P 199 = some false := by kernel_rfl
theorem te199 : elemT gz.P 199 = none := by kernel_rfl
theorem tz199 : zeroOf gz.P 199 = some (.lit .nilFunc) := by kernel_rfl
theorem tc200 : gz.P.cellsOf 200 = 1 := by kernel_rfl
theorem ta200 : aggT gz.P 200 = some false := by kernel_rfl
theorem te200 : elemT gz.P 200 = none := by kernel_rfl
theorem tz200 : zeroOf gz.P 200 = some (.lit .nilFunc) := by kernel_rfl
theorem tc201 : gz.P.cellsOf 201 = 1 := by kernel_rfl
theorem ta201 : aggT gz.P 201 = some false := by kernel_rfl
theorem te201 : elemT gz.P 201 = none := by kernel_rfl
theorem tz201 : zeroOf gz.P 201 = some (.lit .nilFunc) := by kernel_rfl
theorem tc202 : gz.P.cellsOf 202 = 1 := by kernel_rfl
theorem ta202 : aggT gz.P 202 = some false := by kernel_rfl
theorem te202 : elemT gz.P 202 = none := by kernel_rfl
theorem tz202 : zeroOf gz.P 202 = some (.lit .nilFunc) := by kernel_rfl
theorem tc203 : gz.P.cellsOf 203 = 1 := by kernel_rfl
theorem ta203 : aggT gz.P 203 = some false := by kernel_rfl
theorem te203 : elemT gz.P 203 = none := by kernel_rfl
theorem tz203 : zeroOf gz.P 203 = some (.lit .nilFunc) := by kernel_rfl
theorem tc204 : gz.P.cellsOf 204 = 1 := by kernel_rfl
theorem ta204 : aggT gz.P 204 = some false := by kernel_rfl
theorem te204 : elemT gz.P 204 = none := by kernel_rfl
theorem tz204 : zeroOf gz.P 204 = some (.lit .nilFunc) := by kernel_rfl
theorem tc205 : gz.P.cellsOf 205 = 1 := by kernel_rfl
theorem ta205 : aggT gz.P 205 = some false := by kernel_rfl
theorem te205 : elemT gz.P 205 = none := by kernel_rfl
theorem tz205 : zeroOf gz.P 205 = some (.lit .nilFunc) := by kernel_rfl
theorem tc206 : gz.P.cellsOf 206 = 1 := by kernel_rfl
theorem ta206 : aggT gz.P 206 = some false := by kernel_rfl
theorem te206 : elemT gz.P 206 = none := by kernel_rfl
theorem tz206 : zeroOf gz.P 206 = some (.lit .nilFunc) := by kernel_rfl
theorem tc207 : gz.P.cellsOf 207 = 1 := by kernel_rfl
theorem ta207 : aggT gz.P 207 = some false := by kernel_rfl
theorem te207 : elemT gz.P 207 = none := by kernel_rfl
theorem tz207 : zeroOf gz.P 207 = some (.lit (.map none)) := by kernel_rfl
theorem tc209 : gz.P.cellsOf 209 = 1 := by kernel_rfl
theorem ta209 : aggT gz.P 209 = some false := by kernel_rfl
theorem te209 : elemT gz.P 209 = none := by kernel_rfl
theorem tz209 : zeroOf gz.P 209 = some (.lit .nilFunc) := by kernel_rfl
theorem tc210 : gz.P.cellsOf 210 = 8 := by kernel_rfl
theorem ta210 : aggT gz.P 210 = some true := by kernel_rfl
theorem te210 : elemT gz.P 210 = none := by kernel_rfl
theorem tz210 : zeroOf gz.P 210 = some (.agg [.lit (.int .i64 0), .lit (.int .i64 0), .agg [.lit (.int .i64 0), .lit (.int .i64 0), .lst true 1 [], .lst true 1 []], .lst true 1 [], .lit (.int .i64 0)]) := by kernel_rfl
theorem tf210_0 : fieldT gz.P 210 0 = some (0, 2) := by kernel_rfl
theorem tf210_1 : fieldT gz.P 210 1 = some (1, 2) := by kernel_rfl
theorem tf210_2 : fieldT gz.P 210 2 = some (2, 24) := by kernel_rfl
theorem tf210_3 : fieldT gz.P 210 3 = some (6, 41) := by kernel_rfl
theorem tf210_4 : fieldT gz.P 210 4 = some (7, 2) := by kernel_rfl
theorem ts210 : structOf gz.P 210 = some [.lit (.int .i64 0), .lit (.int .i64 0), .agg [.lit (.int .i64 0), .lit (.int .i64 0), .lst true 1 [], .lst true 1 []], .lst true 1 [], .lit (.int .i64 0)] := by kernel_rfl
theorem tc211 : gz.P.cellsOf 211 = 8 := by kernel_rfl
theorem ta211 : aggT gz.P 211 = some true := by kernel_rfl
theorem te211 : elemT gz.P 211 = none := by kernel_rfl
theorem tz211 : zeroOf gz.P 211 = some (.agg [.lit (.int .i64 0), .lit (.int .i64 0), .agg [.lit (.int .i64 0), .lit (.int .i64 0), .lst true 1 [], .lst true 1 []], .lst true 1 [], .lit (.int .i64 0)]) := by kernel_rfl
theorem tf211_0 : fieldT gz.P 211 0 = some (0, 2) := by kernel_rfl
theorem tf211_1 : fieldT gz.P 211 1 = some (1, 2) := by kernel_rfl
theorem tf211_2 : fieldT gz.P 211 2 = some (2, 24) := by kernel_rfl
theorem tf211_3 : fieldT gz.P 211 3 = some (6, 41) := by kernel_rfl
theorem tf211_4 : fieldT gz.P 211 4 = some (7, 2) := by kernel_rfl
theorem ts211 : structOf gz.P 211 = some [.lit (.int .i64 0), .lit (.int .i64 0), .agg [.lit (.int .i64 0), .lit (.int .i64 0), .lst true 1 [], .lst true 1 []], .lst true 1 [], .lit (.int .i64 0)] := by kernel_rfl
theorem tc212 : gz.P.cellsOf 212 = 1 := by kernel_rfl
theorem ta212 : aggT gz.P 212 = some false := by kernel_rfl
theorem te212 : elemT gz.P 212 = none := by kernel_rfl
theorem tz212 : zeroOf gz.P 212 = some (.lit .nilFunc) := by kernel_rfl
theorem tc213 : gz.P.cellsOf 213 = 1 := by kernel_rfl
theorem ta213 : aggT gz.P 213 = some false := by kernel_rfl
theorem te213 : elemT gz.P 213 = none := by kernel_rfl
theorem tz213 : zeroOf gz.P 213 = some (.lit .nilFunc) := by kernel_rfl
theorem tc214 : gz.P.cellsOf 214 = 1 := by kernel_rfl
theorem ta214 : aggT gz.P 214 = some false := by kernel_rfl
theorem te214 : elemT gz.P 214 = none := by kernel_rfl
theorem tz214 : zeroOf gz.P 214 = some (.lit .nilFunc) := by kernel_rfl
theorem tc215 : gz.P.cellsOf 215 = 1 := by kernel_rfl
theorem ta215 : aggT gz.P 215 = some false := by kernel_rfl
theorem te215 : elemT gz.P 215 = none := by kernel_rfl
theorem tz215 : zeroOf gz.P 215 = some (.lit .nilFunc) := by kernel_rfl
theorem tc216 : gz.P.cellsOf 216 = 1 := by kernel_rfl
theorem ta216 : aggT gz.P 216 = some false := by kernel_rfl
theorem te216 : elemT gz.P 216 = none := by kernel_rfl
theorem tz216 : zeroOf gz.P 216 = some (.lit .nilFunc) := by kernel_rfl
theorem tc217 : gz.P.cellsOf 217 = 1 := by kernel_rfl
theorem ta217 : aggT gz.P 217 = some false := by kernel_rfl
theorem te217 : elemT gz.P 217 = none := by kernel_rfl
theorem tz217 : zeroOf gz.P 217 = some (.lit .nilFunc) := by kernel_rfl
theorem tc218 : gz.P.cellsOf 218 = 1 := by kernel_rfl
theorem ta218 : aggT gz.P 218 = some false := by kernel_rfl
theorem te218 : elemT gz.P 218 = none := by kernel_rfl
theorem tz218 : zeroOf gz.P 218 = some (.lit .nilFunc) := by kernel_rfl
theorem tc219 : gz.P.cellsOf 219 = 4 := by kernel_rfl
theorem ta219 : aggT gz.P 219 = some true := by kernel_rfl
theorem te219 : elemT gz.P 219 = none := by kernel_rfl
theorem tz219 : zeroOf gz.P 219 = some (.agg [.lit (.int .i64 0), .lit (.int .i64 0), .lit (.int .i64 0), .lit (.int .i64 0)]) := by kernel_rfl
theorem tf219_0 : fieldT gz.P 219 0 = some (0, 2) := by kernel_rfl
theorem tf219_1 : fieldT gz.P 219 1 = some (1, 2) := by kernel_rfl
theorem tf219_2 : fieldT gz.P 219 2 = some (2, 2) := by kernel_rfl
theorem tf219_3 : fieldT gz.P 219 3 = some (3, 2) := by kernel_rfl
theorem ts219 : structOf gz.P 219 = some [.lit (.int .i64 0), .lit (.int .i64 0), .lit (.int .i64 0), .lit (.int .i64 0)] := by kernel_rfl
theorem tp219 : plainStruct gz.P 219 = some [0, 0, 0, 0] := by kernel_rfl
theorem tc220 : gz.P.cellsOf 220 = 1 := by kernel_rfl
theorem ta220 : aggT gz.P 220 = some false := by kernel_rfl
theorem te220 : elemT gz.P 220 = none := by kernel_rfl
theorem tz220 : zeroOf gz.P 220 = some (.lit .nilFunc) := by kernel_rfl
theorem tc221 : gz.P.cellsOf 221 = 2 := by kernel_rfl
theorem ta221 : aggT gz.P 221 = some true := by kernel_rfl
theorem te221 : elemT gz.P 221 = none := by kernel_rfl
theorem tz221 : zeroOf gz.P 221 = some (.agg [.lit (.int .i64 0), .lit (.int .i64 0)]) := by kernel_rfl
theorem tf221_0 : fieldT gz.P 221 0 = some (0, 2) := by kernel_rfl
theorem tf221_1 : fieldT gz.P 221 1 = some (1, 2) := by kernel_rfl
theorem ts221 : structOf gz.P 221 = some [.lit (.int .i64 0), .lit (.int .i64 0)] := by kernel_rfl
theorem tp221 : plainStruct gz.P 221 = some [0, 0] := by kernel_rfl
theorem tc222 : gz.P.cellsOf 222 = 1 := by kernel_rfl
theorem ta222 : aggT gz.P 222 = some false := by kernel_rfl
theorem te222 : elemT gz.P 222 = none := by kernel_rfl
theorem tz222 : zeroOf gz.P 222 = some (.lit .nilFunc) := by kernel_rfl
theorem tc223 : gz.P.cellsOf 223 = 16 := by kernel_rfl
theorem ta223 : aggT gz.P 223 = some true := by kernel_rfl
theorem te223 : elemT gz.P 223 = none := by kernel_rfl
theorem tz223 : zeroOf gz.P 223 = some (.agg [.agg [.lit (.int .i64 0), .lit (.int .i64 0), .lit (.int .i64 0), .lit (.int .i64 0), .lit (.int .i64 0), .lit (.int .i64 0), .agg [.lit (.int .i64 0), .lit (.int .i64 0), .lst true 1 [], .lst true 1 []], .lst true 8 [], .lst true 4 [], .lst true 2 [], .lst true 1 []], .lst true 1 [], .lst true 20 []]) := by kernel_rfl
theorem tf223_0 : fieldT gz.P 223 0 = some (0, 37) := by kernel_rfl
theorem tf223_1 : fieldT gz.P 223 1 = some (14, 22) := by kernel_rfl
theorem tf223_2 : fieldT gz.P 223 2 = some (15, 78) := by kernel_rfl
theorem ts223 : structOf gz.P 223 = some [.agg [.lit (.int .i64 0), .lit (.int .i64 0), .lit (.int .i64 0), .lit (.int .i64 0), .lit (.int .i64 0), .lit (.int .i64 0), .agg [.lit (.int .i64 0), .lit (.int .i64 0), .lst true 1 [], .lst true 1 []], .lst true 8 [], .lst true 4 [], .lst true 2 [], .lst true 1 []], .lst true 1 [], .lst true 20 []] := by kernel_rfl
theorem tc224 : gz.P.cellsOf 224 = 16 := by kernel_rfl
theorem ta224 : aggT gz.P 224 = some true := by kernel_rfl
theorem te224 : elemT gz.P 224 = none := by kernel_rfl
theorem tz224 : zeroOf gz.P 224 = some (.agg [.agg [.lit (.int .i64 0), .lit (.int .i64 0), .lit (.int .i64 0), .lit (.int .i64 0), .lit (.int .i64 0), .lit (.int .i64 0), .agg [.lit (.int .i64 0), .lit (.int .i64 0), .lst true 1 [], .lst true 1 []], .lst true 8 [], .lst true 4 [], .lst true 2 [], .lst true 1 []], .lst true 1 [], .lst true 20 []]) := by kernel_rfl
theorem tf224_0 : fieldT gz.P 224 0 = some (0, 37) := by kernel_rfl
theorem tf224_1 : fieldT gz.P 224 1 = some (14, 22) := by kernel_rfl
theorem tf224_2 : fieldT gz.P 224 2 = some (15, 78) := by kernel_rfl
theorem ts224 : structOf gz.P 224 = some [.agg [.lit (.int .i64 0), .lit (.int .i64 0), .lit (.int .i64 0), .lit (.int .i64 0), .lit (.int .i64 0), .lit (.int .i64 0), .agg [.lit (.int .i64 0), .lit (.int .i64 0), .lst true 1 [], .lst true 1 []], .lst true 8 [], .lst true 4 [], .lst true 2 [], .lst true 1 []], .lst true 1 [], .lst true 20 []] := by kernel_rfl
theorem tc225 : gz.P.cellsOf 225 = 1 := by kernel_rfl
theorem ta225 : aggT gz.P 225 = some false := by kernel_rfl
theorem te225 : elemT gz.P 225 = none := by kernel_rfl
theorem tz225 : zeroOf gz.P 225 = some (.lit .nilFunc) := by kernel_rfl
theorem tc226 : gz.P.cellsOf 226 = 1 := by kernel_rfl
theorem ta226 : aggT gz.P 226 = some false := by kernel_rfl
theorem te226 : elemT gz.P 226 = none := by kernel_rfl
theorem tz226 : zeroOf gz.P 226 = some (.lit .nilFunc) := by kernel_rfl
theorem tc227 : gz.P.cellsOf 227 = 1 := by kernel_rfl
theorem ta227 : aggT gz.P 227 = some false := by kernel_rfl
theorem te227 : elemT gz.P 227 = none := by kernel_rfl
theorem tz227 : zeroOf gz.P 227 = some (.lit .nilFunc) := by kernel_rfl
theorem tc228 : gz.P.cellsOf 228 = 1 := by kernel_rfl
theorem ta228 : aggT gz.P 228 = some false := by kernel_rfl
theorem te228 : elemT gz.P 228 = none := by kernel_rfl
theorem tz228 : zeroOf gz.P 228 = some (.lit .nilFunc) := by kernel_rfl
theorem tc229 : gz.P.cellsOf 229 = 1 := by kernel_rfl
theorem ta229 : aggT gz.P 229 = some false := by kernel_rfl
theorem te229 : elemT gz.P 229 = none := by kernel_rfl
theorem tz229 : zeroOf gz.P 229 = some (.lit .nilFunc) := by kernel_rfl
theorem tc230 : gz.P.cellsOf 230 = 1 := by kernel_rfl
theorem ta230 : aggT gz.P 230 = some false := by kernel_rfl
theorem te230 : elemT gz.P 230 = none := by kernel_rfl
theorem tz230 : zeroOf gz.P 230 = some (.lit .nilFunc) := by kernel_rfl
theorem tc231 : gz.P.cellsOf 231 = 1 := by kernel_rfl
theorem ta231 : aggT gz.P 231 = some false := by kernel_rfl
theorem te231 : elemT gz.P 231 = none := by kernel_rfl
theorem tz231 : zeroOf gz.P 231 = some (.lit .nilFunc) := by kernel_rfl
theorem tc232 : gz.P.cellsOf 232 = 1 := by kernel_rfl
theorem ta232 : aggT gz.P 232 = some false := by kernel_rfl
theorem te232 : elemT gz.P 232 = none := by kernel_rfl
theorem tz232 : zeroOf gz.P 232 = some (.lit .nilFunc) := by kernel_rfl
theorem tc233 : gz.P.cellsOf 233 = 1 := by kernel_rfl
theorem ta233 : aggT gz.P 233 = some false := by kernel_rfl
theorem te233 : elemT gz.P 233 = none := by kernel_rfl
theorem tz233 : zeroOf gz.P 233 = some (.lit .nilFunc) := by kernel_rfl
theorem tc234 : gz.P.cellsOf 234 = 2 := by kernel_rfl
theorem ta234 : aggT gz.P 234 = some true := by kernel_rfl
theorem te234 : elemT gz.P 234 = none := by kernel_rfl
theorem tz234 : zeroOf gz.P 234 = some (.agg [.lit (.int .i64 0), .lit (.string ByteArray.empty)]) := by kernel_rfl
theorem tf234_0 : fieldT gz.P 234 0 = some (0, 2) := by kernel_rfl
theorem tf234_1 : fieldT gz.P 234 1 = some (1, 9) := by kernel_rfl
theorem ts234 : structOf gz.P 234 = some [.lit (.int .i64 0), .lit (.string ByteArray.empty)] := by kernel_rfl
theorem tp234 : plainStruct gz.P 234 = some [0, 2] := by kernel_rfl
theorem tc235 : gz.P.cellsOf 235 = 1 := by kernel_rfl
theorem ta235 : aggT gz.P 235 = some false := by kernel_rfl
theorem te235 : elemT gz.P 235 = none := by kernel_rfl
theorem tz235 : zeroOf gz.P 235 = some (.lit .nilFunc) := by kernel_rfl
theorem tc236 : gz.P.cellsOf 236 = 1 := by kernel_rfl
theorem ta236 : aggT gz.P 236 = some false := by kernel_rfl
theorem te236 : elemT gz.P 236 = none := by kernel_rfl
theorem tz236 : zeroOf gz.P 236 = some (.lit .nilFunc) := by kernel_rfl
theorem tc237 : gz.P.cellsOf 237 = 1 := by kernel_rfl
theorem ta237 : aggT gz.P 237 = some false := by kernel_rfl
theorem te237 : elemT gz.P 237 = none := by kernel_rfl
theorem tz237 : zeroOf gz.P 237 = some (.lit .nilFunc) := by kernel_rfl
theorem tc238 : gz.P.cellsOf 238 = 1 := by kernel_rfl
theorem ta238 : aggT gz.P 238 = some false := by kernel_rfl
theorem te238 : elemT gz.P 238 = none := by kernel_rfl
theorem tz238 : zeroOf gz.P 238 = some (.lit .nilFunc) := by kernel_rfl
theorem tc239 : gz.P.cellsOf 239 = 1 := by kernel_rfl
theorem ta239 : aggT gz.P 239 = some false := by kernel_rfl
theorem te239 : elemT gz.P 239 = none := by kernel_rfl
theorem tz239 : zeroOf gz.P 239 = some (.lit .nilFunc) := by kernel_rfl
theorem tc240 : gz.P.cellsOf 240 = 3 := by kernel_rfl
theorem ta240 : aggT gz.P 240 = some true := by kernel_rfl
theorem te240 : elemT gz.P 240 = none := by kernel_rfl
theorem tz240 : zeroOf gz.P 240 = some (.agg [.lst true 1 [], .lit (.int .i64 0), .lit (.int .i64 0)]) := by kernel_rfl
theorem tf240_0 : fieldT gz.P 240 0 = some (0, 55) := by kernel_rfl
theorem tf240_1 : fieldT gz.P 240 1 = some (1, 3) := by kernel_rfl
theorem tf240_2 : fieldT gz.P 240 2 = some (2, 2) := by kernel_rfl
theorem ts240 : structOf gz.P 240 = some [.lst true 1 [], .lit (.int .i64 0), .lit (.int .i64 0)] := by kernel_rfl
theorem tc241 : gz.P.cellsOf 241 = 3 := by kernel_rfl
theorem ta241 : aggT gz.P 241 = some true := by kernel_rfl
theorem te241 : elemT gz.P 241 = none := by kernel_rfl
theorem tz241 : zeroOf gz.P 241 = some (.agg [.lst true 1 [], .lit (.int .i64 0), .lit (.int .i64 0)]) := by kernel_rfl
theorem tf241_0 : fieldT gz.P 241 0 = some (0, 55) := by kernel_rfl
theorem tf241_1 : fieldT gz.P 241 1 = some (1, 3) := by kernel_rfl
theorem tf241_2 : fieldT gz.P 241 2 = some (2, 2) := by kernel_rfl
theorem ts241 : structOf gz.P 241 = some [.lst true 1 [], .lit (.int .i64 0), .lit (.int .i64 0)] := by kernel_rfl
theorem tc242 : gz.P.cellsOf 242 = 1 := by kernel_rfl
theorem ta242 : aggT gz.P 242 = some false := by kernel_rfl
theorem te242 : elemT gz.P 242 = none := by kernel_rfl
theorem tz242 : zeroOf gz.P 242 = some (.lit .nilFunc) := by kernel_rfl
theorem tc243 : gz.P.cellsOf 243 = 1 := by kernel_rfl
theorem ta243 : aggT gz.P 243 = some false := by kernel_rfl
theorem te243 : elemT gz.P 243 = none := by kernel_rfl
theorem tz243 : zeroOf gz.P 243 = some (.lit .nilFunc) := by kernel_rfl
theorem tc244 : gz.P.cellsOf 244 = 1 := by kernel_rfl
theorem ta244 : aggT gz.P 244 = some false := by kernel_rfl
theorem te244 : elemT gz.P 244 = none := by kernel_rfl
theorem tz244 : zeroOf gz.P 244 = some (.lit .nilFunc) := by kernel_rfl
theorem tc245 : gz.P.cellsOf 245 = 1 := by kernel_rfl
theorem ta245 : aggT gz.P 245 = some false := by kernel_rfl
theorem te245 : elemT gz.P 245 = none := by kernel_rfl
theorem tc246 : gz.P.cellsOf 246 = 1 := by kernel_rfl
theorem ta246 : aggT gz.P 246 = some false := by kernel_rfl
theorem te246 : elemT gz.P 246 = none := by kernel_rfl
theorem tc248 : gz.P.cellsOf 248 = 1 := by kernel_rfl
theorem ta248 : aggT gz.P 248 = some false := by kernel_rfl
theorem te248 : elemT gz.P 248 = none := by kernel_rfl
theorem tz248 : zeroOf gz.P 248 = some (.lit .nilFunc) := by kernel_rfl
theorem tc249 : gz.P.cellsOf 249 = 1 := by kernel_rfl
theorem ta249 : aggT gz.P 249 = some false := by kernel_rfl
theorem te249 : elemT gz.P 249 = none := by kernel_rfl
theorem tz249 : zeroOf gz.P 249 = some (.lit .nilFunc) := by kernel_rfl
theorem tc250 : gz.P.cellsOf 250 = 1 := by kernel_rfl
theorem ta250 : aggT gz.P 250 = some false := by kernel_rfl
theorem te250 : elemT gz.P 250 = none := by kernel_rfl
theorem tz250 : zeroOf gz.P 250 = some (.lit .nilFunc) := by kernel_rfl
theorem tc251 : gz.P.cellsOf 251 = 1 := by kernel_rfl
theorem ta251 : aggT gz.P 251 = some false := by kernel_rfl
theorem te251 : elemT gz.P 251 = none := by kernel_rfl
theorem tz251 : zeroOf gz.P 251 = some (.lit .nilFunc) := by kernel_rfl
theorem tc252 : gz.P.cellsOf 252 = 1 := by kernel_rfl
theorem ta252 : aggT gz.P 252 = some false := by kernel_rfl
theorem te252 : elemT gz.P 252 = none := by kernel_rfl
theorem tz252 : zeroOf gz.P 252 = some (.lit .nilFunc) := by kernel_rfl
theorem tc253 : gz.P.cellsOf 253 = 20 := by kernel_rfl
theorem ta253 : aggT gz.P 253 = some true := by kernel_rfl
theorem te253 : elemT gz.P 253 = none := by kernel_rfl
theorem tz253 : zeroOf gz.P 253 = some (.agg [.lit (.int .i64 0), .lit (.int .i64 0), .lit (.int .i64 0), .lit (.int .i64 0), .agg [.lit (.int .i64 0), .lit (.int .i64 0), .agg [.lit (.int .i64 0), .lit (.int .i64 0), .lst true 1 [], .lst true 1 []], .lst true 1 [], .lit (.int .i64 0)], .agg [.lit (.int .i64 0), .lit (.int .i64 0), .lit (.int .i64 0), .lit (.int .i64 0)], .agg [.lit (.int .i64 0), .lit (.int .i64 0), .lst true 1 [], .lst true 1 []]]) := by kernel_rfl
theorem tf253_0 : fieldT gz.P 253 0 = some (0, 2) := by kernel_rfl
theorem tf253_1 : fieldT gz.P 253 1 = some (1, 2) := by kernel_rfl
theorem tf253_2 : fieldT gz.P 253 2 = some (2, 2) := by kernel_rfl
theorem tf253_3 : fieldT gz.P 253 3 = some (3, 2) := by kernel_rfl
theorem tf253_4 : fieldT gz.P 253 4 = some (4, 211) := by kernel_rfl
theorem tf253_5 : fieldT gz.P 253 5 = some (12, 219) := by kernel_rfl
theorem tf253_6 : fieldT gz.P 253 6 = some (16, 24) := by kernel_rfl
theorem ts253 : structOf gz.P 253 = some [.lit (.int .i64 0), .lit (.int .i64 0), .lit (.int .i64 0), .lit (.int .i64 0), .agg [.lit (.int .i64 0), .lit (.int .i64 0), .agg [.lit (.int .i64 0), .lit (.int .i64 0), .lst true 1 [], .lst true 1 []], .lst true 1 [], .lit (.int .i64 0)], .agg [.lit (.int .i64 0), .lit (.int .i64 0), .lit (.int .i64 0), .lit (.int .i64 0)], .agg [.lit (.int .i64 0), .lit (.int .i64 0), .lst true 1 [], .lst true 1 []]] := by kernel_rfl
theorem tc254 : gz.P.cellsOf 254 = 20 := by kernel_rfl
theorem ta254 : aggT gz.P 254 = some true := by kernel_rfl
theorem te254 : elemT gz.P 254 = none := by kernel_rfl
theorem tz254 : zeroOf gz.P 254 = some (.agg [.lit (.int .i64 0), .lit (.int .i64 0), .lit (.int .i64 0), .lit (.int .i64 0), .agg [.lit (.int .i64 0), .lit (.int .i64 0), .agg [.lit (.int .i64 0), .lit (.int .i64 0), .lst true 1 [], .lst true 1 []], .lst true 1 [], .lit (.int .i64 0)], .agg [.lit (.int .i64 0), .lit (.int .i64 0), .lit (.int .i64 0), .lit (.int .i64 0)], .agg [.lit (.int .i64 0), .lit (.int .i64 0), .lst true 1 [], .lst true 1 []]]) := by kernel_rfl
theorem tf254_0 : fieldT gz.P 254 0 = some (0, 2) := by kernel_rfl
theorem tf254_1 : fieldT gz.P 254 1 = some (1, 2) := by kernel_rfl
theorem tf254_2 : fieldT gz.P 254 2 = some (2, 2) := by kernel_rfl
theorem tf254_3 : fieldT gz.P 254 3 = some (3, 2) := by kernel_rfl
theorem tf254_4 : fieldT gz.P 254 4 = some (4, 211) := by kernel_rfl
theorem tf254_5 : fieldT gz.P 254 5 = some (12, 219) := by kernel_rfl
theorem tf254_6 : fieldT gz.P 254 6 = some (16, 24) := by kernel_rfl
theorem ts254 : structOf gz.P 254 = some [.lit (.int .i64 0), .lit (.int .i64 0), .lit (.int .i64 0), .lit (.int .i64 0), .agg [.lit (.int .i64 0), .lit (.int .i64 0), .agg [.lit (.int .i64 0), .lit (.int .i64 0), .lst true 1 [], .lst true 1 []], .lst true 1 [], .lit (.int .i64 0)], .agg [.lit (.int .i64 0), .lit (.int .i64 0), .lit (.int .i64 0), .lit (.int .i64 0)], .agg [.lit (.int .i64 0), .lit (.int .i64 0), .lst true 1 [], .lst true 1 []]] := by kernel_rfl
theorem tc255 : gz.P.cellsOf 255 = 1 := by kernel_rfl
theorem ta255 : aggT gz.P 255 = some false := by kernel_rfl
theorem te255 : elemT gz.P 255 = none := by kernel_rfl
theorem tz255 : zeroOf gz.P 255 = some (.lit .nilFunc) := by kernel_rfl
theorem tc256 : gz.P.cellsOf 256 = 1 := by kernel_rfl
theorem ta256 : aggT gz.P 256 = some false := by kernel_rfl
theorem te256 : elemT gz.P 256 = none := by kernel_rfl
theorem tz256 : zeroOf gz.P 256 = some (.lit .nilFunc) := by kernel_rfl
theorem tc257 : gz.P.cellsOf 257 = 1 := by kernel_rfl
theorem ta257 : aggT gz.P 257 = some false := by kernel_rfl
theorem te257 : elemT gz.P 257 = none := by kernel_rfl
theorem tz257 : zeroOf gz.P 257 = some (.lit .nilFunc) := by kernel_rfl
theorem tc258 : gz.P.cellsOf 258 = 1 := by kernel_rfl
theorem ta258 : aggT gz.P 258 = some false := by kernel_rfl
theorem te258 : elemT gz.P 258 = none := by kernel_rfl
theorem tz258 : zeroOf gz.P 258 = some (.lit .nilFunc) := by kernel_rfl
theorem tc259 : gz.P.cellsOf 259 = 1 := by kernel_rfl
theorem ta259 : aggT gz.P 259 = some false := by kernel_rfl
theorem te259 : elemT gz.P 259 = none := by kernel_rfl
theorem tz259 : zeroOf gz.P 259 = some (.lit .nilFunc) := by kernel_rfl
theorem tc260 : gz.P.cellsOf 260 = 1 := by kernel_rfl
theorem ta260 : aggT gz.P 260 = some false := by kernel_rfl
theorem tu260 : gz.P.underlying 260 = some (.int .u64) := by kernel_rfl
theorem te260 : elemT gz.P 260 = none := by kernel_rfl
theorem tz260 : zeroOf gz.P 260 = some (.lit (.int .u64 0)) := by kernel_rfl
theorem tc262 : gz.P.cellsOf 262 = 1 := by kernel_rfl
theorem ta262 : aggT gz.P 262 = some false := by kernel_rfl
theorem te262 : elemT gz.P 262 = none := by kernel_rfl
theorem tz262 : zeroOf gz.P 262 = some (.lit .nilFunc) := by kernel_rfl
theorem tc263 : gz.P.cellsOf 263 = 1 := by kernel_rfl
theorem ta263 : aggT gz.P 263 = some false := by kernel_rfl
theorem te263 : elemT gz.P 263 = none := by kernel_rfl
theorem tz263 : zeroOf gz.P 263 = some (.lit .nilFunc) := by kernel_rfl
theorem tc264 : gz.P.cellsOf 264 = 1 := by kernel_rfl
theorem ta264 : aggT gz.P 264 = some false := by kernel_rfl
theorem te264 : elemT gz.P 264 = none := by kernel_rfl
theorem tz264 : zeroOf gz.P 264 = some (.lit .nilFunc) := by kernel_rfl
theorem tc265 : gz.P.cellsOf 265 = 1 := by kernel_rfl
theorem ta265 : aggT gz.P 265 = some false := by kernel_rfl
theorem te265 : elemT gz.P 265 = none := by kernel_rfl
theorem tz265 : zeroOf gz.P 265 = some (.lit .nilFunc) := by kernel_rfl
theorem tc266 : gz.P.cellsOf 266 = 1 := by kernel_rfl
theorem ta266 : aggT gz.P 266 = some false := by kernel_rfl
theorem te266 : elemT gz.P 266 = none := by kernel_rfl
theorem tz266 : zeroOf gz.P 266 = some (.lit .nilFunc) := by kernel_rfl
theorem tc267 : gz.P.cellsOf 267 = 1 := by kernel_rfl
theorem ta267 : aggT gz.P 267 = some false := by kernel_rfl
theorem te267 : elemT gz.P 267 = none := by kernel_rfl
theorem tz267 : zeroOf gz.P 267 = some (.lit .nilFunc) := by kernel_rfl
theorem tc268 : gz.P.cellsOf 268 = 1 := by kernel_rfl
theorem ta268 : aggT gz.P 268 = some false := by kernel_rfl
theorem te268 : elemT gz.P 268 = none := by kernel_rfl
theorem tz268 : zeroOf gz.P 268 = some (.lit .nilFunc) := by kernel_rfl
theorem tc269 : gz.P.cellsOf 269 = 1 := by kernel_rfl
theorem ta269 : aggT gz.P 269 = some false := by kernel_rfl
theorem te269 : elemT gz.P 269 = none := by kernel_rfl
theorem tz269 : zeroOf gz.P 269 = some (.lit .nilFunc) := by kernel_rfl
theorem tc270 : gz.P.cellsOf 270 = 1 := by kernel_rfl
theorem ta270 : aggT gz.P 270 = some false := by kernel_rfl
theorem te270 : elemT gz.P 270 = none := by kernel_rfl
theorem tz270 : zeroOf gz.P 270 = some (.lit .nilFunc) := by kernel_rfl
theorem tc271 : gz.P.cellsOf 271 = 1 := by kernel_rfl
theorem ta271 : aggT gz.P 271 = some false := by kernel_rfl
theorem te271 : elemT gz.P 271 = none := by kernel_rfl
theorem tz271 : zeroOf gz.P 271 = some (.lit .nilFunc) := by kernel_rfl
theorem tc272 : gz.P.cellsOf 272 = 1 := by kernel_rfl
theorem ta272 : aggT gz.P 272 = some false := by kernel_rfl
theorem te272 : elemT gz.P 272 = none := by kernel_rfl
theorem tz272 : zeroOf gz.P 272 = some (.lit .nilFunc) := by kernel_rfl
theorem tc273 : gz.P.cellsOf 273 = 1 := by kernel_rfl
theorem ta273 : aggT gz.P 273 = some false := by kernel_rfl
theorem te273 : elemT gz.P 273 = none := by kernel_rfl
theorem tz273 : zeroOf gz.P 273 = some (.lit .nilFunc) := by kernel_rfl
theorem tc274 : gz.P.cellsOf 274 = 1 := by kernel_rfl
theorem ta274 : aggT gz.P 274 = some false := by kernel_rfl
theorem te274 : elemT gz.P 274 = none := by kernel_rfl
theorem tz274 : zeroOf gz.P 274 = some (.lit .nilFunc) := by kernel_rfl
theorem tc275 : gz.P.cellsOf 275 = 1 := by kernel_rfl
theorem ta275 : aggT gz.P 275 = some false := by kernel_rfl
theorem te275 : elemT gz.P 275 = none := by kernel_rfl
theorem tz275 : zeroOf gz.P 275 = some (.lit .nilFunc) := by kernel_rfl
theorem tc276 : gz.P.cellsOf 276 = 1 := by kernel_rfl
theorem ta276 : aggT gz.P 276 = some false := by kernel_rfl
theorem te276 : elemT gz.P 276 = none := by kernel_rfl
theorem tz276 : zeroOf gz.P 276 = some (.lit .nilFunc) := by kernel_rfl
theorem tc277 : gz.P.cellsOf 277 = 1 := by kernel_rfl
theorem ta277 : aggT gz.P 277 = some false := by kernel_rfl
theorem te277 : elemT gz.P 277 = none := by kernel_rfl
theorem tz277 : zeroOf gz.P 277 = some (.lit .nilFunc) := by kernel_rfl
theorem tc278 : gz.P.cellsOf 278 = 1 := by kernel_rfl
theorem ta278 : aggT gz.P 278 = some false := by kernel_rfl
theorem te278 : elemT gz.P 278 = none := by kernel_rfl
theorem tz278 : zeroOf gz.P 278 = some (.lit .nilFunc) := by kernel_rfl
theorem tc279 : gz.P.cellsOf 279 = 1 := by kernel_rfl
theorem ta279 : aggT gz.P 279 = some false := by kernel_rfl
theorem te279 : elemT gz.P 279 = none := by kernel_rfl
theorem tz279 : zeroOf gz.P 279 = some (.lit .nilFunc) := by kernel_rfl
theorem tc280 : gz.P.cellsOf 280 = 1 := by kernel_rfl
theorem ta280 : aggT gz.P 280 = some false := by kernel_rfl
theorem te280 : elemT gz.P 280 = none := by kernel_rfl
theorem tz280 : zeroOf gz.P 280 = some (.lit .nilFunc) := by kernel_rfl
theorem tc281 : gz.P.cellsOf 281 = 1 := by kernel_rfl
theorem ta281 : aggT gz.P 281 = some false := by kernel_rfl
theorem te281 : elemT gz.P 281 = none := by kernel_rfl
theorem tz281 : zeroOf gz.P 281 = some (.lit .nilFunc) := by kernel_rfl
theorem tc282 : gz.P.cellsOf 282 = 1 := by kernel_rfl
theorem ta282 : aggT gz.P 282 = some false := by kernel_rfl
theorem tu282 : gz.P.underlying 282 = some (.int .u32) := by kernel_rfl
theorem te282 : elemT gz.P 282 = none := by kernel_rfl
theorem tz282 : zeroOf gz.P 282 = some (.lit (.int .u32 0)) := by kernel_rfl
theorem tc284 : gz.P.cellsOf 284 = 1 := by kernel_rfl
theorem ta284 : aggT gz.P 284 = some false := by kernel_rfl
theorem te284 : elemT gz.P 284 = none := by kernel_rfl
theorem tz284 : zeroOf gz.P 284 = some (.lit .nilFunc) := by kernel_rfl
theorem tc285 : gz.P.cellsOf 285 = 1 := by kernel_rfl
theorem ta285 : aggT gz.P 285 = some false := by kernel_rfl
theorem tu285 : gz.P.underlying 285 = some (.int .u64) := by kernel_rfl
theorem te285 : elemT gz.P 285 = none := by kernel_rfl
theorem tz285 : zeroOf gz.P 285 = some (.lit (.int .u64 0)) := by kernel_rfl
theorem tc287 : gz.P.cellsOf 287 = 1 := by kernel_rfl
theorem ta287 : aggT gz.P 287 = some false := by kernel_rfl
theorem te287 : elemT gz.P 287 = none := by kernel_rfl
theorem tz287 : zeroOf gz.P 287 = some (.lit .nilFunc) := by kernel_rfl
theorem tc288 : gz.P.cellsOf 288 = 1 := by kernel_rfl
theorem ta288 : aggT gz.P 288 = some false := by kernel_rfl
theorem te288 : elemT gz.P 288 = none := by kernel_rfl
theorem tz288 : zeroOf gz.P 288 = some (.lit .nilFunc) := by kernel_rfl
theorem tc289 : gz.P.cellsOf 289 = 1 := by kernel_rfl
theorem ta289 : aggT gz.P 289 = some false := by kernel_rfl
theorem te289 : elemT gz.P 289 = none := by kernel_rfl
theorem tz289 : zeroOf gz.P 289 = some (.lit .nilFunc) := by kernel_rfl
theorem tc290 : gz.P.cellsOf 290 = 1 := by kernel_rfl
theorem ta290 : aggT gz.P 290 = some false := by kernel_rfl
theorem te290 : elemT gz.P 290 = none := by kernel_rfl
theorem tz290 : zeroOf gz.P 290 = some (.lit .nilFunc) := by kernel_rfl
theorem tc292 : gz.P.cellsOf 292 = 1 := by kernel_rfl
theorem ta292 : aggT gz.P 292 = some false := by kernel_rfl
theorem te292 : elemT gz.P 292 = none := by kernel_rfl
theorem tz292 : zeroOf gz.P 292 = some (.lit .nilFunc) := by kernel_rfl
theorem tc293 : gz.P.cellsOf 293 = 1 := by kernel_rfl
theorem ta293 : aggT gz.P 293 = some false := by kernel_rfl
theorem te293 : elemT gz.P 293 = none := by kernel_rfl
theorem tz293 : zeroOf gz.P 293 = some (.lit .nilFunc) := by kernel_rfl
theorem tc295 : gz.P.cellsOf 295 = 1 := by kernel_rfl
theorem ta295 : aggT gz.P 295 = some false := by kernel_rfl
theorem te295 : elemT gz.P 295 = none := by kernel_rfl
theorem tz295 : zeroOf gz.P 295 = some (.lit .nilFunc) := by kernel_rfl
theorem tc296 : gz.P.cellsOf 296 = 1 := by kernel_rfl
theorem ta296 : aggT gz.P 296 = some false := by kernel_rfl
theorem te296 : elemT gz.P 296 = none := by kernel_rfl
theorem tz296 : zeroOf gz.P 296 = some (.lit .nilFunc) := by kernel_rfl
theorem tc297 : gz.P.cellsOf 297 = 1 := by kernel_rfl
theorem ta297 : aggT gz.P 297 = some false := by kernel_rfl
theorem te297 : elemT gz.P 297 = none := by kernel_rfl
theorem tz297 : zeroOf gz.P 297 = some (.lit .nilFunc) := by kernel_rfl
theorem tc298 : gz.P.cellsOf 298 = 1 := by kernel_rfl
theorem ta298 : aggT gz.P 298 = some false := by kernel_rfl
theorem te298 : elemT gz.P 298 = none := by kernel_rfl
theorem tz298 : zeroOf gz.P 298 = some (.lit .nilFunc) := by kernel_rfl
theorem tc299 : gz.P.cellsOf 299 = 1 := by kernel_rfl
theorem ta299 : aggT gz.P 299 = some false := by kernel_rfl
theorem tu299 : gz.P.underlying 299 = some (.int .i64) := by kernel_rfl
theorem te299 : elemT gz.P 299 = none := by kernel_rfl
theorem tz299 : zeroOf gz.P 299 = some (.lit (.int .i64 0)) := by kernel_rfl
theorem tc301 : gz.P.cellsOf 301 = 1 := by kernel_rfl
theorem ta301 : aggT gz.P 301 = some false := by kernel_rfl
theorem te301 : elemT gz.P 301 = none := by kernel_rfl
theorem tz301 : zeroOf gz.P 301 = some (.lit .nilFunc) := by kernel_rfl
theorem tc302 : gz.P.cellsOf 302 = 1 := by kernel_rfl
theorem ta302 : aggT gz.P 302 = some false := by kernel_rfl
theorem te302 : elemT gz.P 302 = none := by kernel_rfl
theorem tz302 : zeroOf gz.P 302 = some (.lit (.pointer none)) := by kernel_rfl
theorem tc303 : gz.P.cellsOf 303 = 1 := by kernel_rfl
theorem ta303 : aggT gz.P 303 = some false := by kernel_rfl
theorem te303 : elemT gz.P 303 = none := by kernel_rfl
theorem tz303 : zeroOf gz.P 303 = some (.lit .nilFunc) := by kernel_rfl
theorem tc304 : gz.P.cellsOf 304 = 1 := by kernel_rfl
theorem ta304 : aggT gz.P 304 = some false := by kernel_rfl
theorem te304 : elemT gz.P 304 = none := by kernel_rfl
theorem tz304 : zeroOf gz.P 304 = some (.lit .nilFunc) := by kernel_rfl
theorem tc305 : gz.P.cellsOf 305 = 1 := by kernel_rfl
theorem ta305 : aggT gz.P 305 = some false := by kernel_rfl
theorem te305 : elemT gz.P 305 = none := by kernel_rfl
theorem tz305 : zeroOf gz.P 305 = some (.lit .nilFunc) := by kernel_rfl
theorem tc306 : gz.P.cellsOf 306 = 1 := by kernel_rfl
theorem ta306 : aggT gz.P 306 = some false := by kernel_rfl
theorem te306 : elemT gz.P 306 = none := by kernel_rfl
theorem tz306 : zeroOf gz.P 306 = some (.lit .nilFunc) := by kernel_rfl
theorem tc309 : gz.P.cellsOf 309 = 1 := by kernel_rfl
theorem ta309 : aggT gz.P 309 = some false := by kernel_rfl
theorem te309 : elemT gz.P 309 = none := by kernel_rfl
theorem tz309 : zeroOf gz.P 309 = some (.lit .nilFunc) := by kernel_rfl
theorem tc310 : gz.P.cellsOf 310 = 1 := by kernel_rfl
theorem ta310 : aggT gz.P 310 = some false := by kernel_rfl
theorem te310 : elemT gz.P 310 = none := by kernel_rfl
theorem tz310 : zeroOf gz.P 310 = some (.lit .nilFunc) := by kernel_rfl
theorem tc311 : gz.P.cellsOf 311 = 1 := by kernel_rfl
theorem ta311 : aggT gz.P 311 = some false := by kernel_rfl
theorem te311 : elemT gz.P 311 = none := by kernel_rfl
theorem tz311 : zeroOf gz.P 311 = some (.lit .nilFunc) := by kernel_rfl
theorem tc312 : gz.P.cellsOf 312 = 1 := by kernel_rfl
theorem ta312 : aggT gz.P 312 = some false := by kernel_rfl
theorem te312 : elemT gz.P 312 = none := by kernel_rfl
theorem tz312 : zeroOf gz.P 312 = some (.lit .nilFunc) := by kernel_rfl
theorem tc313 : gz.P.cellsOf 313 = 3 := by kernel_rfl
theorem ta313 : aggT gz.P 313 = some true := by kernel_rfl
theorem te313 : elemT gz.P 313 = none := by kernel_rfl
theorem tz313 : zeroOf gz.P 313 = some (.agg [.lit (.string ByteArray.empty), .lit (.string ByteArray.empty), .lit .nilIface]) := by kernel_rfl
theorem tf313_0 : fieldT gz.P 313 0 = some (0, 9) := by kernel_rfl
theorem tf313_1 : fieldT gz.P 313 1 = some (1, 9) := by kernel_rfl
theorem tf313_2 : fieldT gz.P 313 2 = some (2, 246) := by kernel_rfl
theorem ts313 : structOf gz.P 313 = some [.lit (.string ByteArray.empty), .lit (.string ByteArray.empty), .lit .nilIface] := by kernel_rfl
theorem tc314 : gz.P.cellsOf 314 = 3 := by kernel_rfl
theorem ta314 : aggT gz.P 314 = some true := by kernel_rfl
theorem te314 : elemT gz.P 314 = none := by kernel_rfl
theorem tz314 : zeroOf gz.P 314 = some (.agg [.lit (.string ByteArray.empty), .lit (.string ByteArray.empty), .lit .nilIface]) := by kernel_rfl
theorem tf314_0 : fieldT gz.P 314 0 = some (0, 9) := by kernel_rfl
theorem tf314_1 : fieldT gz.P 314 1 = some (1, 9) := by kernel_rfl
theorem tf314_2 : fieldT gz.P 314 2 = some (2, 246) := by kernel_rfl
theorem ts314 : structOf gz.P 314 = some [.lit (.string ByteArray.empty), .lit (.string ByteArray.empty), .lit .nilIface] := by kernel_rfl
theorem tc315 : gz.P.cellsOf 315 = 1 := by kernel_rfl
theorem ta315 : aggT gz.P 315 = some false := by kernel_rfl
theorem te315 : elemT gz.P 315 = none := by kernel_rfl
theorem tz315 : zeroOf gz.P 315 = some (.lit .nilFunc) := by kernel_rfl
theorem tc316 : gz.P.cellsOf 316 = 1 := by kernel_rfl
theorem ta316 : aggT gz.P 316 = some false := by kernel_rfl
theorem te316 : elemT gz.P 316 = none := by kernel_rfl
theorem tz316 : zeroOf gz.P 316 = some (.lit .nilFunc) := by kernel_rfl
theorem tc318 : gz.P.cellsOf 318 = 1 := by kernel_rfl
theorem ta318 : aggT gz.P 318 = some false := by kernel_rfl
theorem te318 : elemT gz.P 318 = none := by kernel_rfl
theorem tz318 : zeroOf gz.P 318 = some (.lit .nilFunc) := by kernel_rfl
theorem tc319 : gz.P.cellsOf 319 = 1 := by kernel_rfl
theorem ta319 : aggT gz.P 319 = some false := by kernel_rfl
theorem te319 : elemT gz.P 319 = none := by kernel_rfl
theorem tz319 : zeroOf gz.P 319 = some (.lit .nilFunc) := by kernel_rfl
theorem tc320 : gz.P.cellsOf 320 = 1 := by kernel_rfl
theorem ta320 : aggT gz.P 320 = some false := by kernel_rfl
theorem te320 : elemT gz.P 320 = none := by kernel_rfl
theorem tz320 : zeroOf gz.P 320 = some (.lit (.pointer none)) := by kernel_rfl
theorem tc321 : gz.P.cellsOf 321 = 1 := by kernel_rfl
theorem ta321 : aggT gz.P 321 = some false := by kernel_rfl
theorem te321 : elemT gz.P 321 = none := by kernel_rfl
theorem tz321 : zeroOf gz.P 321 = some (.lit (.pointer none)) := by kernel_rfl
theorem tc322 : gz.P.cellsOf 322 = 1 := by kernel_rfl
theorem ta322 : aggT gz.P 322 = some true := by kernel_rfl
theorem te322 : elemT gz.P 322 = none := by kernel_rfl
theorem tz322 : zeroOf gz.P 322 = some (.agg [.lit (.string ByteArray.empty)]) := by kernel_rfl
theorem tf322_0 : fieldT gz.P 322 0 = some (0, 9) := by kernel_rfl
theorem ts322 : structOf gz.P 322 = some [.lit (.string ByteArray.empty)] := by kernel_rfl
theorem tp322 : plainStruct gz.P 322 = some [2] := by kernel_rfl
theorem tc323 : gz.P.cellsOf 323 = 1 := by kernel_rfl
theorem ta323 : aggT gz.P 323 = some true := by kernel_rfl
theorem te323 : elemT gz.P 323 = none := by kernel_rfl
theorem tz323 : zeroOf gz.P 323 = some (.agg [.lit (.string ByteArray.empty)]) := by kernel_rfl
theorem tf323_0 : fieldT gz.P 323 0 = some (0, 9) := by kernel_rfl
theorem ts323 : structOf gz.P 323 = some [.lit (.string ByteArray.empty)] := by kernel_rfl
theorem tp323 : plainStruct gz.P 323 = some [2] := by kernel_rfl
theorem tc327 : gz.P.cellsOf 327 = 2 := by kernel_rfl
theorem ta327 : aggT gz.P 327 = some true := by kernel_rfl
theorem te327 : elemT gz.P 327 = none := by kernel_rfl
theorem tz327 : zeroOf gz.P 327 = some (.agg [.lit (.int .u8 0), .lit (.int .u8 0)]) := by kernel_rfl
theorem tf327_0 : fieldT gz.P 327 0 = some (0, 5) := by kernel_rfl
theorem tf327_1 : fieldT gz.P 327 1 = some (1, 5) := by kernel_rfl
theorem ts327 : structOf gz.P 327 = some [.lit (.int .u8 0), .lit (.int .u8 0)] := by kernel_rfl
theorem tp327 : plainStruct gz.P 327 = some [0, 0] := by kernel_rfl
theorem tc328 : gz.P.cellsOf 328 = 2 := by kernel_rfl
theorem ta328 : aggT gz.P 328 = some true := by kernel_rfl
theorem te328 : elemT gz.P 328 = none := by kernel_rfl
theorem tz328 : zeroOf gz.P 328 = some (.agg [.lit (.int .u8 0), .lit (.int .u8 0)]) := by kernel_rfl
theorem tf328_0 : fieldT gz.P 328 0 = some (0, 5) := by kernel_rfl
theorem tf328_1 : fieldT gz.P 328 1 = some (1, 5) := by kernel_rfl
theorem ts328 : structOf gz.P 328 = some [.lit (.int .u8 0), .lit (.int .u8 0)] := by kernel_rfl
theorem tp328 : plainStruct gz.P 328 = some [0, 0] := by kernel_rfl
theorem tc330 : gz.P.cellsOf 330 = 1 := by kernel_rfl
theorem ta330 : aggT gz.P 330 = some false := by kernel_rfl
theorem te330 : elemT gz.P 330 = none := by kernel_rfl
theorem tz330 : zeroOf gz.P 330 = some (.lit .nilFunc) := by kernel_rfl
theorem tc336 : gz.P.cellsOf 336 = 1 := by kernel_rfl
theorem ta336 : aggT gz.P 336 = some false := by kernel_rfl
theorem te336 : elemT gz.P 336 = none := by kernel_rfl
theorem tz336 : zeroOf gz.P 336 = some (.lit .nilFunc) := by kernel_rfl
theorem tc337 : gz.P.cellsOf 337 = 1 := by kernel_rfl
theorem ta337 : aggT gz.P 337 = some false := by kernel_rfl
theorem tu337 : gz.P.underlying 337 = some (.int .u8) := by kernel_rfl
theorem te337 : elemT gz.P 337 = none := by kernel_rfl
theorem tz337 : zeroOf gz.P 337 = some (.lit (.int .u8 0)) := by kernel_rfl
theorem tc338 : gz.P.cellsOf 338 = 1 := by kernel_rfl
theorem ta338 : aggT gz.P 338 = some false := by kernel_rfl
theorem tu338 : gz.P.underlying 338 = some (.int .u8) := by kernel_rfl
theorem te338 : elemT gz.P 338 = none := by kernel_rfl
theorem tz338 : zeroOf gz.P 338 = some (.lit (.int .u8 0)) := by kernel_rfl
theorem tc339 : gz.P.cellsOf 339 = 1 := by kernel_rfl
theorem ta339 : aggT gz.P 339 = some false := by kernel_rfl
theorem te339 : elemT gz.P 339 = none := by kernel_rfl
theorem tz339 : zeroOf gz.P 339 = some (.lit .nilFunc) := by kernel_rfl
theorem tc340 : gz.P.cellsOf 340 = 1 := by kernel_rfl
theorem ta340 : aggT gz.P 340 = some false := by kernel_rfl
theorem tu340 : gz.P.underlying 340 = some (.int .i32) := by kernel_rfl
theorem te340 : elemT gz.P 340 = none := by kernel_rfl
theorem tz340 : zeroOf gz.P 340 = some (.lit (.int .i32 0)) := by kernel_rfl
theorem tc341 : gz.P.cellsOf 341 = 1 := by kernel_rfl
theorem ta341 : aggT gz.P 341 = some false := by kernel_rfl
theorem tu341 : gz.P.underlying 341 = some (.int .i32) := by kernel_rfl
theorem te341 : elemT gz.P 341 = none := by kernel_rfl
theorem tz341 : zeroOf gz.P 341 = some (.lit (.int .i32 0)) := by kernel_rfl
theorem tc342 : gz.P.cellsOf 342 = 11 := by kernel_rfl
theorem ta342 : aggT gz.P 342 = some true := by kernel_rfl
theorem te342 : elemT gz.P 342 = none := by kernel_rfl
theorem tz342 : zeroOf gz.P 342 = some (.agg [.lit (.int .u64 0), .lit (.int .u64 0), .lit (.int .u32 0), .lit (.int .u8 0), .lit (.int .u8 0), .lit (.int .u8 0), .lit (.int .u8 0), .lit .nilFunc, .lit (.pointer none), .lit (.int .i32 0), .lit (.int .i32 0)]) := by kernel_rfl
theorem tf342_0 : fieldT gz.P 342 0 = some (0, 12) := by kernel_rfl
theorem tf342_1 : fieldT gz.P 342 1 = some (1, 12) := by kernel_rfl
theorem tf342_2 : fieldT gz.P 342 2 = some (2, 282) := by kernel_rfl
theorem tf342_3 : fieldT gz.P 342 3 = some (3, 337) := by kernel_rfl
theorem tf342_4 : fieldT gz.P 342 4 = some (4, 5) := by kernel_rfl
theorem tf342_5 : fieldT gz.P 342 5 = some (5, 5) := by kernel_rfl
theorem tf342_6 : fieldT gz.P 342 6 = some (6, 338) := by kernel_rfl
theorem tf342_7 : fieldT gz.P 342 7 = some (7, 339) := by kernel_rfl
theorem tf342_8 : fieldT gz.P 342 8 = some (8, 320) := by kernel_rfl
theorem tf342_9 : fieldT gz.P 342 9 = some (9, 340) := by kernel_rfl
theorem tf342_10 : fieldT gz.P 342 10 = some (10, 341) := by kernel_rfl
theorem ts342 : structOf gz.P 342 = some [.lit (.int .u64 0), .lit (.int .u64 0), .lit (.int .u32 0), .lit (.int .u8 0), .lit (.int .u8 0), .lit (.int .u8 0), .lit (.int .u8 0), .lit .nilFunc, .lit (.pointer none), .lit (.int .i32 0), .lit (.int .i32 0)] := by kernel_rfl
theorem tc344 : gz.P.cellsOf 344 = 1 := by kernel_rfl
theorem ta344 : aggT gz.P 344 = some false := by kernel_rfl
theorem te344 : elemT gz.P 344 = none := by kernel_rfl
theorem tz344 : zeroOf gz.P 344 = some (.lit .nilFunc) := by kernel_rfl
theorem tc345 : gz.P.cellsOf 345 = 1 := by kernel_rfl
theorem ta345 : aggT gz.P 345 = some false := by kernel_rfl
theorem te345 : elemT gz.P 345 = none := by kernel_rfl
theorem tz345 : zeroOf gz.P 345 = some (.lit .nilFunc) := by kernel_rfl
theorem tc347 : gz.P.cellsOf 347 = 1 := by kernel_rfl
theorem ta347 : aggT gz.P 347 = some false := by kernel_rfl
theorem tu347 : gz.P.underlying 347 = some (.slice 349) := by kernel_rfl
theorem te347 : elemT gz.P 347 = some 349 := by kernel_rfl
theorem tz347 : zeroOf gz.P 347 = some (.lst true 2 []) := by kernel_rfl
theorem tc348 : gz.P.cellsOf 348 = 2 := by kernel_rfl
theorem ta348 : aggT gz.P 348 = some true := by kernel_rfl
theorem te348 : elemT gz.P 348 = none := by kernel_rfl
theorem tz348 : zeroOf gz.P 348 = some (.agg [.lit (.int .i64 0), .lit (.int .i64 0)]) := by kernel_rfl
theorem tf348_0 : fieldT gz.P 348 0 = some (0, 2) := by kernel_rfl
theorem tf348_1 : fieldT gz.P 348 1 = some (1, 2) := by kernel_rfl
theorem ts348 : structOf gz.P 348 = some [.lit (.int .i64 0), .lit (.int .i64 0)] := by kernel_rfl
theorem tp348 : plainStruct gz.P 348 = some [0, 0] := by kernel_rfl
theorem tc349 : gz.P.cellsOf 349 = 2 := by kernel_rfl
theorem ta349 : aggT gz.P 349 = some true := by kernel_rfl
theorem te349 : elemT gz.P 349 = none := by kernel_rfl
theorem tz349 : zeroOf gz.P 349 = some (.agg [.lit (.int .i64 0), .lit (.int .i64 0)]) := by kernel_rfl
theorem tf349_0 : fieldT gz.P 349 0 = some (0, 2) := by kernel_rfl
theorem tf349_1 : fieldT gz.P 349 1 = some (1, 2) := by kernel_rfl
theorem ts349 : structOf gz.P 349 = some [.lit (.int .i64 0), .lit (.int .i64 0)] := by kernel_rfl
theorem tp349 : plainStruct gz.P 349 = some [0, 0] := by kernel_rfl
theorem tn2 {n : Nat} : fits gz.P 2 n = (n * 8 ≤ 140737488355328 ∧ n ≤ maxLen) := by
  have h : gz.P.bytesOf 2 = 8 := by kernel_rfl
  simp only [fits, h]
theorem tn4 {n : Nat} : fits gz.P 4 n = (n * 1 ≤ 140737488355328 ∧ n ≤ maxLen) := by
  have h : gz.P.bytesOf 4 = 1 := by kernel_rfl
  simp only [fits, h]
theorem tn5 {n : Nat} : fits gz.P 5 n = (n * 1 ≤ 140737488355328 ∧ n ≤ maxLen) := by
  have h : gz.P.bytesOf 5 = 1 := by kernel_rfl
  simp only [fits, h]
theorem tn9 {n : Nat} : fits gz.P 9 n = (n * 16 ≤ 140737488355328 ∧ n ≤ maxLen) := by
  have h : gz.P.bytesOf 9 = 16 := by kernel_rfl
  simp only [fits, h]
theorem tn29 {n : Nat} : fits gz.P 29 n = (n * 208 ≤ 140737488355328 ∧ n ≤ maxLen) := by
  have h : gz.P.bytesOf 29 = 208 := by kernel_rfl
  simp only [fits, h]
theorem tn37 {n : Nat} : fits gz.P 37 n = (n * 208 ≤ 140737488355328 ∧ n ≤ maxLen) := by
  have h : gz.P.bytesOf 37 = 208 := by kernel_rfl
  simp only [fits, h]
theorem tn115 {n : Nat} : fits gz.P 115 n = (n * 112 ≤ 140737488355328 ∧ n ≤ maxLen) := by
  have h : gz.P.bytesOf 115 = 112 := by kernel_rfl
  simp only [fits, h]
theorem tn121 {n : Nat} : fits gz.P 121 n = (n * 32 ≤ 140737488355328 ∧ n ≤ maxLen) := by
  have h : gz.P.bytesOf 121 = 32 := by kernel_rfl
  simp only [fits, h]
theorem tn123 {n : Nat} : fits gz.P 123 n = (n * 16 ≤ 140737488355328 ∧ n ≤ maxLen) := by
  have h : gz.P.bytesOf 123 = 16 := by kernel_rfl
  simp only [fits, h]
theorem tn170 {n : Nat} : fits gz.P 170 n = (n * 24 ≤ 140737488355328 ∧ n ≤ maxLen) := by
  have h : gz.P.bytesOf 170 = 24 := by kernel_rfl
  simp only [fits, h]
theorem tn183 {n : Nat} : fits gz.P 183 n = (n * 240 ≤ 140737488355328 ∧ n ≤ maxLen) := by
  have h : gz.P.bytesOf 183 = 240 := by kernel_rfl
  simp only [fits, h]
theorem tn211 {n : Nat} : fits gz.P 211 n = (n * 112 ≤ 140737488355328 ∧ n ≤ maxLen) := by
  have h : gz.P.bytesOf 211 = 112 := by kernel_rfl
  simp only [fits, h]
theorem tn219 {n : Nat} : fits gz.P 219 n = (n * 32 ≤ 140737488355328 ∧ n ≤ maxLen) := by
  have h : gz.P.bytesOf 219 = 32 := by kernel_rfl
  simp only [fits, h]
theorem tn221 {n : Nat} : fits gz.P 221 n = (n * 16 ≤ 140737488355328 ∧ n ≤ maxLen) := by
  have h : gz.P.bytesOf 221 = 16 := by kernel_rfl
  simp only [fits, h]
theorem tn234 {n : Nat} : fits gz.P 234 n = (n * 24 ≤ 140737488355328 ∧ n ≤ maxLen) := by
  have h : gz.P.bytesOf 234 = 24 := by kernel_rfl
  simp only [fits, h]
theorem tn254 {n : Nat} : fits gz.P 254 n = (n * 240 ≤ 140737488355328 ∧ n ≤ maxLen) := by
  have h : gz.P.bytesOf 254 = 240 := by kernel_rfl
  simp only [fits, h]
theorem tn349 {n : Nat} : fits gz.P 349 n = (n * 16 ≤ 140737488355328 ∧ n ≤ maxLen) := by
  have h : gz.P.bytesOf 349 = 16 := by kernel_rfl
  simp only [fits, h]
attribute [go_sem] tc1 ta1 te1 tz1 tc2 ta2 tu2 te2 tz2 tc3 ta3 tu3 te3 tz3 tc4 ta4 tu4 te4 tz4 tc5 ta5 tu5 te5 tz5 tc6 ta6 tu6 te6 tz6 tc9 ta9 tu9 te9 tz9 tc10 ta10 tu10 te10 tz10 tc11 ta11 tu11 te11 tz11 tc12 ta12 tu12 te12 tz12 tc15 ta15 te15 tz15 tc16 ta16 te16 tz16 tc17 ta17 te17 tz17 tc20 ta20 tu20 te20 tc21 ta21 tu21 te21 tz21 tc22 ta22 tu22 te22 tz22 tc23 ta23 te23 tz23 tf23_0 tf23_1 tf23_2 tf23_3 ts23 tc24 ta24 te24 tz24 tf24_0 tf24_1 tf24_2 tf24_3 ts24 tc25 ta25 tu25 te25 tz25 tc26 ta26 tu26 te26 tz26 tc27 ta27 tu27 te27 tz27 tc28 ta28 te28 tz28 tf28_0 tf28_1 tf28_2 tf28_3 tf28_4 tf28_5 tf28_6 tf28_7 tf28_8 tf28_9 tf28_10 ts28 tc29 ta29 te29 tz29 tf29_0 tf29_1 tf29_2 tf29_3 tf29_4 tf29_5 tf29_6 tf29_7 tf29_8 tf29_9 tf29_10 ts29 tc30 ta30 te30 tz30 tc31 ta31 te31 tz31 tc32 ta32 te32 tz32 tf32_0 tf32_1 tf32_2 tf32_3 ts32 tc33 ta33 tu33 te33 tz33 tc34 ta34 tu34 te34 tz34 tc35 ta35 tu35 te35 tz35 tc36 ta36 te36 tz36 tf36_0 tf36_1 tf36_2 tf36_3 tf36_4 tf36_5 tf36_6 tf36_7 tf36_8 tf36_9 tf36_10 ts36 tc37 ta37 te37 tz37 tf37_0 tf37_1 tf37_2 tf37_3 tf37_4 tf37_5 tf37_6 tf37_7 tf37_8 tf37_9 tf37_10 ts37 tc38 ta38 te38 tz38 tc39 ta39 te39 tz39 tc40 ta40 te40 tz40 tc41 ta41 tu41 te41 tz41 tc42 ta42 tu42 te42 tz42 tc43 ta43 te43 tz43 tf43_0 tf43_1 ts43 tc44 ta44 te44 tz44 tf44_0 tf44_1 ts44 tc45 ta45 te45 tz45 tc46 ta46 tu46 te46 tz46 tc47 ta47 te47 tz47 tf47_0 tf47_1 ts47 tc48 ta48 te48 tz48 tf48_0 tf48_1 ts48 tc50 ta50 te50 tz50 tc51 ta51 te51 tz51 tc52 ta52 te52 tz52 tc53 ta53 te53 tz53 tc54 ta54 te54 tz54 tc55 ta55 tu55 te55 tz55 tc56 ta56 te56 tz56 tc58 ta58 te58 tz58 tc60 ta60 te60 tz60 tc61 ta61 te61 tz61 tc62 ta62 te62 tz62 tc64 ta64 te64 tz64 tc65 ta65 te65 tz65 tc66 ta66 te66 tz66 tc67 ta67 te67 tz67 tc69 ta69 te69 tz69 tc70 ta70 te70 tz70 tc71 ta71 tu71 te71 tz71 tc72 ta72 tu72 te72 tz72 tc73 ta73 te73 tz73 tf73_0 tf73_1 ts73 tc74 ta74 te74 tz74 tf74_0 tf74_1 ts74 tc75 ta75 te75 tz75 tc76 ta76 te76 tz76 tc77 ta77 tu77 te77 tz77 tc78 ta78 tu78 te78 tz78 tc79 ta79 te79 tz79 tf79_0 tf79_1 ts79 tc80 ta80 te80 tz80 tf80_0 tf80_1 ts80 tc81 ta81 te81 tz81 tc82 ta82 te82 tz82 tc83 ta83 te83 tz83 tc84 ta84 te84 tz84 tf84_0 tf84_1 ts84 tc85 ta85 te85 tz85 tf85_0 tf85_1 ts85 tc86 ta86 te86 tz86 tf86_0 tf86_1 tf86_2 tf86_3 ts86 tp86 tc87 ta87 te87 tz87 tf87_0 tf87_1 tf87_2 tf87_3 ts87 tp87 tc89 ta89 te89 tz89 tc91 ta91 te91 tz91 tc93 ta93 te93 tz93 tc95 ta95 te95 tz95 tc96 ta96 te96 tz96 tc97 ta97 te97 tz97 tc98 ta98 te98 tz98 tc99 ta99 te99 tz99 tc100 ta100 te100 tz100 tc101 ta101 te101 tz101 tc102 ta102 te102 tz102 tc103 ta103 te103 tz103 tc104 ta104 te104 tz104 tc105 ta105 te105 tz105 tc106 ta106 te106 tz106 tc107 ta107 te107 tz107 tc108 ta108 te108 tz108 tc109 ta109 te109 tz109 tc110 ta110 te110 tz110 tc111 ta111 te111 tz111 tc112 ta112 te112 tz112 tc113 ta113 te113 tz113 tc114 ta114 te114 tz114 tf114_0 tf114_1 tf114_2 tf114_3 tf114_4 ts114 tc115 ta115 te115 tz115 tf115_0 tf115_1 tf115_2 tf115_3 tf115_4 ts115 tc116 ta116 te116 tz116 tc117 ta117 te117 tz117 tc118 ta118 te118 tz118 tc119 ta119 te119 tz119 tc120 ta120 te120 tz120 tf120_0 tf120_1 tf120_2 tf120_3 ts120 tp120 tc121 ta121 te121 tz121 tf121_0 tf121_1 tf121_2 tf121_3 ts121 tp121 tc122 ta122 te122 tz122 tf122_0 tf122_1 ts122 tp122 tc123 ta123 te123 tz123 tf123_0 tf123_1 ts123 tp123 tc124 ta124 te124 tz124 tc125 ta125 te125 tz125 tc126 ta126 te126 tz126 tc127 ta127 te127 tz127 tc128 ta128 te128 tz128 tc129 ta129 te129 tz129 tc130 ta130 te130 tz130 tc131 ta131 te131 tz131 tc132 ta132 te132 tz132 tc133 ta133 te133 tz133 tc134 ta134 te134 tz134 tc135 ta135 te135 tz135 tc136 ta136 te136 tz136 tc137 ta137 te137 tz137 tc138 ta138 te138 tz138 tc139 ta139 te139 tz139 tc140 ta140 te140 tz140 tc141 ta141 te141 tz141 tc142 ta142 te142 tz142 tc143 ta143 te143 tz143 tc144 ta144 te144 tz144 tc145 ta145 te145 tz145 tc146 ta146 te146 tz146 tc147 ta147 te147 tz147 tc148 ta148 te148 tz148 tc149 ta149 te149 tz149 tc150 ta150 te150 tz150 tc151 ta151 te151 tz151 tc152 ta152 te152 tz152 tc153 ta153 te153 tz153 tc154 ta154 te154 tz154 tc155 ta155 te155 tz155 tc156 ta156 te156 tz156 tc157 ta157 te157 tz157 tc158 ta158 te158 tz158 tc159 ta159 te159 tz159 tc161 ta161 te161 tz161 tc162 ta162 te162 tz162 tc163 ta163 te163 tz163 tc164 ta164 te164 tz164 tc166 ta166 te166 tz166 tc168 ta168 te168 tz168 tc169 ta169 te169 tz169 tf169_0 tf169_1 ts169 tp169 tc170 ta170 te170 tz170 tf170_0 tf170_1 ts170 tp170 tc171 ta171 te171 tz171 tc172 ta172 tu172 te172 tz172 tc173 ta173 te173 tz173 tc174 ta174 te174 tz174 tc175 ta175 te175 tz175 tc176 ta176 te176 tz176 tc177 ta177 te177 tz177 tc178 ta178 te178 tz178 tc179 ta179 te179 tz179 tc180 ta180 te180 tz180 tc181 ta181 te181 tz181 tc182 ta182 te182 tz182 tf182_0 tf182_1 tf182_2 tf182_3 tf182_4 tf182_5 tf182_6 ts182 tc183 ta183 te183 tz183 tf183_0 tf183_1 tf183_2 tf183_3 tf183_4 tf183_5 tf183_6 ts183 tc184 ta184 te184 tz184 tc185 ta185 te185 tz185 tc186 ta186 te186 tz186 tc187 ta187 te187 tz187 tc188 ta188 te188 tz188 tc189 ta189 te189 tz189 tc190 ta190 te190 tz190 tc191 ta191 te191 tz191 tc192 ta192 te192 tz192 tc193 ta193 te193 tz193 tc194 ta194 te194 tz194 tc196 ta196 te196 tz196 tc197 ta197 te197 tz197 tc198 ta198 te198 tz198 tc199 ta199 te199 tz199 tc200 ta200 te200 tz200 tc201 ta201 te201 tz201 tc202 ta202 te202 tz202 tc203 ta203 te203 tz203 tc204 ta204 te204 tz204 tc205 ta205 te205 tz205 tc206 ta206 te206 tz206 tc207 ta207 te207 tz207 tc209 ta209 te209 tz209 tc210 ta210 te210 tz210 tf210_0 tf210_1 tf210_2 tf210_3 tf210_4 ts210 tc211 ta211 te211 tz211 tf211_0 tf211_1 tf211_2 tf211_3 tf211_4 ts211 tc212 ta212 te212 tz212 tc213 ta213 te213 tz213 tc214 ta214 te214 tz214 tc215 ta215 te215 tz215 tc216 ta216 te216 tz216 tc217 ta217 te217 tz217 tc218 ta218 te218 tz218 tc219 ta219 te219 tz219 tf219_0 tf219_1 tf219_2 tf219_3 ts219 tp219 tc220 ta220 te220 tz220 tc221 ta221 te221 tz221 tf221_0 tf221_1 ts221 tp221 tc222 ta222 te222 tz222 tc223 ta223 te223 tz223 tf223_0 tf223_1 tf223_2 ts223 tc224 ta224 te224 tz224 tf224_0 tf224_1 tf224_2 ts224 tc225 ta225 te225 tz225 tc226 ta226 te226 tz226 tc227 ta227 te227 tz227 tc228 ta228 te228 tz228 tc229 ta229 te229 tz229 tc230 ta230 te230 tz230 tc231 ta231 te231 tz231 tc232 ta232 te232 tz232 tc233 ta233 te233 tz233 tc234 ta234 te234 tz234 tf234_0 tf234_1 ts234 tp234 tc235 ta235 te235 tz235 tc236 ta236 te236 tz236 tc237 ta237 te237 tz237 tc238 ta238 te238 tz238 tc239 ta239 te239 tz239 tc240 ta240 te240 tz240 tf240_0 tf240_1 tf240_2 ts240 tc241 ta241 te241 tz241 tf241_0 tf241_1 tf241_2 ts241 tc242 ta242 te242 tz242 tc243 ta243 te243 tz243 tc244 ta244 te244 tz244 tc245 ta245 te245 tc246 ta246 te246 tc248 ta248 te248 tz248 tc249 ta249 te249 tz249 tc250 ta250 te250 tz250 tc251 ta251 te251 tz251 tc252 ta252 te252 tz252 tc253 ta253 te253 tz253 tf253_0 tf253_1 tf253_2 tf253_3 tf253_4 tf253_5 tf253_6 ts253 tc254 ta254 te254 tz254 tf254_0 tf254_1 tf254_2 tf254_3 tf254_4 tf254_5 tf254_6 ts254 tc255 ta255 te255 tz255 tc256 ta256 te256 tz256 tc257 ta257 te257 tz257 tc258 ta258 te258 tz258 tc259 ta259 te259 tz259 tc260 ta260 tu260 te260 tz260 tc262 ta262 te262 tz262 tc263 ta263 te263 tz263 tc264 ta264 te264 tz264 tc265 ta265 te265 tz265 tc266 ta266 te266 tz266 tc267 ta267 te267 tz267 tc268 ta268 te268 tz268 tc269 ta269 te269 tz269 tc270 ta270 te270 tz270 tc271 ta271 te271 tz271 tc272 ta272 te272 tz272 tc273 ta273 te273 tz273 tc274 ta274 te274 tz274 tc275 ta275 te275 tz275 tc276 ta276 te276 tz276 tc277 ta277 te277 tz277 tc278 ta278 te278 tz278 tc279 ta279 te279 tz279 tc280 ta280 te280 tz280 tc281 ta281 te281 tz281 tc282 ta282 tu282 te282 tz282 tc284 ta284 te284 tz284 tc285 ta285 tu285 te285 tz285 tc287 ta287 te287 tz287 tc288 ta288 te288 tz288 tc289 ta289 te289 tz289 tc290 ta290 te290 tz290 tc292 ta292 te292 tz292 tc293 ta293 te293 tz293 tc295 ta295 te295 tz295 tc296 ta296 te296 tz296 tc297 ta297 te297 tz297 tc298 ta298 te298 tz298 tc299 ta299 tu299 te299 tz299 tc301 ta301 te301 tz301 tc302 ta302 te302 tz302 tc303 ta303 te303 tz303 tc304 ta304 te304 tz304 tc305 ta305 te305 tz305 tc306 ta306 te306 tz306 tc309 ta309 te309 tz309 tc310 ta310 te310 tz310 tc311 ta311 te311 tz311 tc312 ta312 te312 tz312 tc313 ta313 te313 tz313 tf313_0 tf313_1 tf313_2 ts313 tc314 ta314 te314 tz314 tf314_0 tf314_1 tf314_2 ts314 tc315 ta315 te315 tz315 tc316 ta316 te316 tz316 tc318 ta318 te318 tz318 tc319 ta319 te319 tz319 tc320 ta320 te320 tz320 tc321 ta321 te321 tz321 tc322 ta322 te322 tz322 tf322_0 ts322 tp322 tc323 ta323 te323 tz323 tf323_0 ts323 tp323 tc327 ta327 te327 tz327 tf327_0 tf327_1 ts327 tp327 tc328 ta328 te328 tz328 tf328_0 tf328_1 ts328 tp328 tc330 ta330 te330 tz330 tc336 ta336 te336 tz336 tc337 ta337 tu337 te337 tz337 tc338 ta338 tu338 te338 tz338 tc339 ta339 te339 tz339 tc340 ta340 tu340 te340 tz340 tc341 ta341 tu341 te341 tz341 tc342 ta342 te342 tz342 tf342_0 tf342_1 tf342_2 tf342_3 tf342_4 tf342_5 tf342_6 tf342_7 tf342_8 tf342_9 tf342_10 ts342 tc344 ta344 te344 tz344 tc345 ta345 te345 tz345 tc347 ta347 tu347 te347 tz347 tc348 ta348 te348 tz348 tf348_0 tf348_1 ts348 tp348 tc349 ta349 te349 tz349 tf349_0 tf349_1 ts349 tp349 tn2 tn4 tn5 tn9 tn29 tn37 tn115 tn121 tn123 tn170 tn183 tn211 tn219 tn221 tn234 tn254 tn349
theorem ti20 : isIfc (gz.P.underlying 20) = true := by kernel_rfl
theorem ti245 : isIfc (gz.P.underlying 245) = true := by kernel_rfl
theorem ti246 : isIfc (gz.P.underlying 246) = true := by kernel_rfl
attribute [go_sem] ti20 ti245 ti246
end Go.VS
