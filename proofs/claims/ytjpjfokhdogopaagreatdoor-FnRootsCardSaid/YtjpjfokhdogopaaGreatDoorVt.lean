/- The types of the program, as rules. -/
import Derived.Test.YtjpjfokhdogopaaGreatDoorProg
import Derived.KernelRfl
import Derived.Lib.LaidTab
import Derived.Lib.ItoaNum
import Derived.Test.YtjpjfokhdogopaaGreatDoorVn
set_option linter.unusedSimpArgs false
open Go.Proofs
set_option maxRecDepth 20000
namespace Go.VS
theorem mixedP : Tryz.prog.follows .mixedOrders = true := by kernel_rfl
/-- what is known of the variables of the library -/
def GlZ (w : World) : Prop := Lib.TabIs Tryz.prog w "internal/strconv.uint64pow10" .u64 Lib.pow10Tab ∧ (∃ m, w.cell? ⟨0, 0, none⟩ = some (.int .i64 m)) ∧
  (∃ ev, w.cell? ⟨2, 0, none⟩ = some ev ∧ (ev = .nilIface ∨ ∃ te pe, ev = .iface te pe)) ∧ (∃ ev, w.cell? ⟨3, 0, none⟩ = some ev ∧ (ev = .nilIface ∨ ∃ te pe, ev = .iface te pe))
theorem GlZ_stay (w w' : World) (h : ∀ b, b < 8 → w'.heap[b]? = w.heap[b]?) (hg : GlZ w) : GlZ w' := by
  obtain ⟨h1, h2, h3, h4⟩ := hg
  have hn : Tryz.prog.globalNamed "internal/strconv.uint64pow10" = some 1 := by kernel_rfl
  refine ⟨?_, ?_, ?_, ?_⟩
  · unfold Lib.TabIs World.var? at h1 ⊢
    rw [hn] at h1 ⊢
    simp only [Option.bind_some] at h1 ⊢
    rw [h 1 (by decide)]
    exact h1
  · simpa only [World.cell?, h 0 (by decide)] using h2
  · simpa only [World.cell?, h 2 (by decide)] using h3
  · simpa only [World.cell?, h 3 (by decide)] using h4
/-- the program at work -/
noncomputable def gz : Sys := { P := Tryz.prog, mixed := mixedP, ng := 8, Gl := GlZ, stay := GlZ_stay }
theorem t1 : gz.P.cellsOf 1 = 1 ∧ aggT gz.P 1 = some false ∧ elemT gz.P 1 = none ∧ zeroOf gz.P 1 = some (.lit .nilFunc) := by and_intros <;> kernel_rfl
theorem t2 : gz.P.cellsOf 2 = 1 ∧ aggT gz.P 2 = some false ∧ gz.P.underlying 2 = some (.int .i64) ∧ elemT gz.P 2 = none ∧ zeroOf gz.P 2 = some (.lit (.int .i64 0)) := by and_intros <;> kernel_rfl
theorem t3 : gz.P.cellsOf 3 = 1 ∧ aggT gz.P 3 = some false ∧ gz.P.underlying 3 = some (.int .i64) ∧ elemT gz.P 3 = none ∧ zeroOf gz.P 3 = some (.lit (.int .i64 0)) := by and_intros <;> kernel_rfl
theorem t4 : gz.P.cellsOf 4 = 1 ∧ aggT gz.P 4 = some false ∧ gz.P.underlying 4 = some (.bool) ∧ elemT gz.P 4 = none ∧ zeroOf gz.P 4 = some (.lit (.bool false)) := by and_intros <;> kernel_rfl
theorem t5 : gz.P.cellsOf 5 = 1 ∧ aggT gz.P 5 = some false ∧ gz.P.underlying 5 = some (.int .u8) ∧ elemT gz.P 5 = none ∧ zeroOf gz.P 5 = some (.lit (.int .u8 0)) := by and_intros <;> kernel_rfl
theorem t6 : gz.P.cellsOf 6 = 1 ∧ aggT gz.P 6 = some false ∧ gz.P.underlying 6 = some (.int .u8) ∧ elemT gz.P 6 = none ∧ zeroOf gz.P 6 = some (.lit (.int .u8 0)) := by and_intros <;> kernel_rfl
theorem t9 : gz.P.cellsOf 9 = 1 ∧ aggT gz.P 9 = some false ∧ gz.P.underlying 9 = some (.string) ∧ elemT gz.P 9 = none ∧ zeroOf gz.P 9 = some (.lit (.string ByteArray.empty)) := by and_intros <;> kernel_rfl
theorem t10 : gz.P.cellsOf 10 = 1 ∧ aggT gz.P 10 = some false ∧ gz.P.underlying 10 = some (.string) ∧ elemT gz.P 10 = none ∧ zeroOf gz.P 10 = some (.lit (.string ByteArray.empty)) := by and_intros <;> kernel_rfl
theorem t11 : gz.P.cellsOf 11 = 1 ∧ aggT gz.P 11 = some false ∧ gz.P.underlying 11 = some (.string) ∧ elemT gz.P 11 = none ∧ zeroOf gz.P 11 = some (.lit (.string ByteArray.empty)) := by and_intros <;> kernel_rfl
theorem t12 : gz.P.cellsOf 12 = 1 ∧ aggT gz.P 12 = some false ∧ gz.P.underlying 12 = some (.int .u64) ∧ elemT gz.P 12 = none ∧ zeroOf gz.P 12 = some (.lit (.int .u64 0)) := by and_intros <;> kernel_rfl
theorem t15 : gz.P.cellsOf 15 = 1 ∧ aggT gz.P 15 = some false ∧ elemT gz.P 15 = none ∧ zeroOf gz.P 15 = some (.lit (.pointer none)) := by and_intros <;> kernel_rfl
theorem t16 : gz.P.cellsOf 16 = 1 ∧ aggT gz.P 16 = some false ∧ elemT gz.P 16 = none ∧ zeroOf gz.P 16 = some (.lit (.pointer none)) := by and_intros <;> kernel_rfl
theorem t17 : gz.P.cellsOf 17 = 1 ∧ aggT gz.P 17 = some false ∧ elemT gz.P 17 = none ∧ zeroOf gz.P 17 = some (.lit (.pointer none)) := by and_intros <;> kernel_rfl
theorem t20 : gz.P.cellsOf 20 = 1 ∧ aggT gz.P 20 = some false ∧ gz.P.underlying 20 = some (.interface #[]) ∧ elemT gz.P 20 = none := by and_intros <;> kernel_rfl
theorem t21 : gz.P.cellsOf 21 = 1 ∧ aggT gz.P 21 = some false ∧ gz.P.underlying 21 = some (.int .i32) ∧ elemT gz.P 21 = none ∧ zeroOf gz.P 21 = some (.lit (.int .i32 0)) := by and_intros <;> kernel_rfl
theorem t22 : gz.P.cellsOf 22 = 1 ∧ aggT gz.P 22 = some false ∧ gz.P.underlying 22 = some (.slice 2) ∧ elemT gz.P 22 = some 2 ∧ zeroOf gz.P 22 = some (.lst true 1 []) := by and_intros <;> kernel_rfl
theorem t23 : gz.P.cellsOf 23 = 4 ∧ aggT gz.P 23 = some true ∧ elemT gz.P 23 = none ∧ zeroOf gz.P 23 = some (.agg [.lit (.int .i64 0), .lit (.int .i64 0), .lst true 1 [], .lst true 1 []]) ∧ fieldT gz.P 23 0 = some (0, 2) ∧ fieldT gz.P 23 1 = some (1, 2) ∧ fieldT gz.P 23 2 = some (2, 22) ∧ fieldT gz.P 23 3 = some (3, 22) ∧ structOf gz.P 23 = some [.lit (.int .i64 0), .lit (.int .i64 0), .lst true 1 [], .lst true 1 []] := by and_intros <;> kernel_rfl
theorem t24 : gz.P.cellsOf 24 = 4 ∧ aggT gz.P 24 = some true ∧ elemT gz.P 24 = none ∧ zeroOf gz.P 24 = some (.agg [.lit (.int .i64 0), .lit (.int .i64 0), .lst true 1 [], .lst true 1 []]) ∧ fieldT gz.P 24 0 = some (0, 2) ∧ fieldT gz.P 24 1 = some (1, 2) ∧ fieldT gz.P 24 2 = some (2, 22) ∧ fieldT gz.P 24 3 = some (3, 22) ∧ structOf gz.P 24 = some [.lit (.int .i64 0), .lit (.int .i64 0), .lst true 1 [], .lst true 1 []] := by and_intros <;> kernel_rfl
theorem t25 : gz.P.cellsOf 25 = 1 ∧ aggT gz.P 25 = some false ∧ gz.P.underlying 25 = some (.slice 211) ∧ elemT gz.P 25 = some 211 ∧ zeroOf gz.P 25 = some (.lst true 8 []) := by and_intros <;> kernel_rfl
theorem t26 : gz.P.cellsOf 26 = 1 ∧ aggT gz.P 26 = some false ∧ gz.P.underlying 26 = some (.slice 219) ∧ elemT gz.P 26 = some 219 ∧ zeroOf gz.P 26 = some (.lst true 4 []) := by and_intros <;> kernel_rfl
theorem t27 : gz.P.cellsOf 27 = 1 ∧ aggT gz.P 27 = some false ∧ gz.P.underlying 27 = some (.slice 221) ∧ elemT gz.P 27 = some 221 ∧ zeroOf gz.P 27 = some (.lst true 2 []) := by and_intros <;> kernel_rfl
theorem t28 : gz.P.cellsOf 28 = 14 ∧ aggT gz.P 28 = some true ∧ elemT gz.P 28 = none ∧ zeroOf gz.P 28 = some (.agg [.lit (.int .i64 0), .lit (.int .i64 0), .lit (.int .i64 0), .lit (.int .i64 0), .lit (.int .i64 0), .lit (.int .i64 0), .agg [.lit (.int .i64 0), .lit (.int .i64 0), .lst true 1 [], .lst true 1 []], .lst true 8 [], .lst true 4 [], .lst true 2 [], .lst true 1 []]) ∧ fieldT gz.P 28 0 = some (0, 2) ∧ fieldT gz.P 28 1 = some (1, 2) ∧ fieldT gz.P 28 2 = some (2, 2) ∧ fieldT gz.P 28 3 = some (3, 2) ∧ fieldT gz.P 28 4 = some (4, 2) ∧ fieldT gz.P 28 5 = some (5, 2) ∧ fieldT gz.P 28 6 = some (6, 24) ∧ fieldT gz.P 28 7 = some (10, 25) ∧ fieldT gz.P 28 8 = some (11, 26) ∧ fieldT gz.P 28 9 = some (12, 27) ∧ fieldT gz.P 28 10 = some (13, 22) ∧ structOf gz.P 28 = some [.lit (.int .i64 0), .lit (.int .i64 0), .lit (.int .i64 0), .lit (.int .i64 0), .lit (.int .i64 0), .lit (.int .i64 0), .agg [.lit (.int .i64 0), .lit (.int .i64 0), .lst true 1 [], .lst true 1 []], .lst true 8 [], .lst true 4 [], .lst true 2 [], .lst true 1 []] := by and_intros <;> kernel_rfl
theorem t29 : gz.P.cellsOf 29 = 14 ∧ aggT gz.P 29 = some true ∧ elemT gz.P 29 = none ∧ zeroOf gz.P 29 = some (.agg [.lit (.int .i64 0), .lit (.int .i64 0), .lit (.int .i64 0), .lit (.int .i64 0), .lit (.int .i64 0), .lit (.int .i64 0), .agg [.lit (.int .i64 0), .lit (.int .i64 0), .lst true 1 [], .lst true 1 []], .lst true 8 [], .lst true 4 [], .lst true 2 [], .lst true 1 []]) ∧ fieldT gz.P 29 0 = some (0, 2) ∧ fieldT gz.P 29 1 = some (1, 2) ∧ fieldT gz.P 29 2 = some (2, 2) ∧ fieldT gz.P 29 3 = some (3, 2) ∧ fieldT gz.P 29 4 = some (4, 2) ∧ fieldT gz.P 29 5 = some (5, 2) ∧ fieldT gz.P 29 6 = some (6, 24) ∧ fieldT gz.P 29 7 = some (10, 25) ∧ fieldT gz.P 29 8 = some (11, 26) ∧ fieldT gz.P 29 9 = some (12, 27) ∧ fieldT gz.P 29 10 = some (13, 22) ∧ structOf gz.P 29 = some [.lit (.int .i64 0), .lit (.int .i64 0), .lit (.int .i64 0), .lit (.int .i64 0), .lit (.int .i64 0), .lit (.int .i64 0), .agg [.lit (.int .i64 0), .lit (.int .i64 0), .lst true 1 [], .lst true 1 []], .lst true 8 [], .lst true 4 [], .lst true 2 [], .lst true 1 []] := by and_intros <;> kernel_rfl
theorem t30 : gz.P.cellsOf 30 = 1 ∧ aggT gz.P 30 = some false ∧ elemT gz.P 30 = none ∧ zeroOf gz.P 30 = some (.lit .nilFunc) := by and_intros <;> kernel_rfl
theorem t31 : gz.P.cellsOf 31 = 1 ∧ aggT gz.P 31 = some false ∧ elemT gz.P 31 = none ∧ zeroOf gz.P 31 = some (.lit .nilFunc) := by and_intros <;> kernel_rfl
theorem t32 : gz.P.cellsOf 32 = 4 ∧ aggT gz.P 32 = some true ∧ elemT gz.P 32 = none ∧ zeroOf gz.P 32 = some (.agg [.lit (.int .i64 0), .lit (.int .i64 0), .lst true 1 [], .lst true 1 []]) ∧ fieldT gz.P 32 0 = some (0, 2) ∧ fieldT gz.P 32 1 = some (1, 2) ∧ fieldT gz.P 32 2 = some (2, 22) ∧ fieldT gz.P 32 3 = some (3, 22) ∧ structOf gz.P 32 = some [.lit (.int .i64 0), .lit (.int .i64 0), .lst true 1 [], .lst true 1 []] := by and_intros <;> kernel_rfl
theorem t33 : gz.P.cellsOf 33 = 1 ∧ aggT gz.P 33 = some false ∧ gz.P.underlying 33 = some (.slice 115) ∧ elemT gz.P 33 = some 115 ∧ zeroOf gz.P 33 = some (.lst true 8 []) := by and_intros <;> kernel_rfl
theorem t34 : gz.P.cellsOf 34 = 1 ∧ aggT gz.P 34 = some false ∧ gz.P.underlying 34 = some (.slice 121) ∧ elemT gz.P 34 = some 121 ∧ zeroOf gz.P 34 = some (.lst true 4 []) := by and_intros <;> kernel_rfl
theorem t35 : gz.P.cellsOf 35 = 1 ∧ aggT gz.P 35 = some false ∧ gz.P.underlying 35 = some (.slice 123) ∧ elemT gz.P 35 = some 123 ∧ zeroOf gz.P 35 = some (.lst true 2 []) := by and_intros <;> kernel_rfl
theorem t36 : gz.P.cellsOf 36 = 14 ∧ aggT gz.P 36 = some true ∧ elemT gz.P 36 = none ∧ zeroOf gz.P 36 = some (.agg [.lit (.int .i64 0), .lit (.int .i64 0), .lit (.int .i64 0), .lit (.int .i64 0), .lit (.int .i64 0), .lit (.int .i64 0), .agg [.lit (.int .i64 0), .lit (.int .i64 0), .lst true 1 [], .lst true 1 []], .lst true 8 [], .lst true 4 [], .lst true 2 [], .lst true 1 []]) ∧ fieldT gz.P 36 0 = some (0, 2) ∧ fieldT gz.P 36 1 = some (1, 2) ∧ fieldT gz.P 36 2 = some (2, 2) ∧ fieldT gz.P 36 3 = some (3, 2) ∧ fieldT gz.P 36 4 = some (4, 2) ∧ fieldT gz.P 36 5 = some (5, 2) ∧ fieldT gz.P 36 6 = some (6, 32) ∧ fieldT gz.P 36 7 = some (10, 33) ∧ fieldT gz.P 36 8 = some (11, 34) ∧ fieldT gz.P 36 9 = some (12, 35) ∧ fieldT gz.P 36 10 = some (13, 22) ∧ structOf gz.P 36 = some [.lit (.int .i64 0), .lit (.int .i64 0), .lit (.int .i64 0), .lit (.int .i64 0), .lit (.int .i64 0), .lit (.int .i64 0), .agg [.lit (.int .i64 0), .lit (.int .i64 0), .lst true 1 [], .lst true 1 []], .lst true 8 [], .lst true 4 [], .lst true 2 [], .lst true 1 []] := by and_intros <;> kernel_rfl
theorem t37 : gz.P.cellsOf 37 = 14 ∧ aggT gz.P 37 = some true ∧ elemT gz.P 37 = none ∧ zeroOf gz.P 37 = some (.agg [.lit (.int .i64 0), .lit (.int .i64 0), .lit (.int .i64 0), .lit (.int .i64 0), .lit (.int .i64 0), .lit (.int .i64 0), .agg [.lit (.int .i64 0), .lit (.int .i64 0), .lst true 1 [], .lst true 1 []], .lst true 8 [], .lst true 4 [], .lst true 2 [], .lst true 1 []]) ∧ fieldT gz.P 37 0 = some (0, 2) ∧ fieldT gz.P 37 1 = some (1, 2) ∧ fieldT gz.P 37 2 = some (2, 2) ∧ fieldT gz.P 37 3 = some (3, 2) ∧ fieldT gz.P 37 4 = some (4, 2) ∧ fieldT gz.P 37 5 = some (5, 2) ∧ fieldT gz.P 37 6 = some (6, 32) ∧ fieldT gz.P 37 7 = some (10, 33) ∧ fieldT gz.P 37 8 = some (11, 34) ∧ fieldT gz.P 37 9 = some (12, 35) ∧ fieldT gz.P 37 10 = some (13, 22) ∧ structOf gz.P 37 = some [.lit (.int .i64 0), .lit (.int .i64 0), .lit (.int .i64 0), .lit (.int .i64 0), .lit (.int .i64 0), .lit (.int .i64 0), .agg [.lit (.int .i64 0), .lit (.int .i64 0), .lst true 1 [], .lst true 1 []], .lst true 8 [], .lst true 4 [], .lst true 2 [], .lst true 1 []] := by and_intros <;> kernel_rfl
theorem t38 : gz.P.cellsOf 38 = 1 ∧ aggT gz.P 38 = some false ∧ elemT gz.P 38 = none ∧ zeroOf gz.P 38 = some (.lit .nilFunc) := by and_intros <;> kernel_rfl
theorem t39 : gz.P.cellsOf 39 = 1 ∧ aggT gz.P 39 = some false ∧ elemT gz.P 39 = none ∧ zeroOf gz.P 39 = some (.lit .nilFunc) := by and_intros <;> kernel_rfl
theorem t40 : gz.P.cellsOf 40 = 1 ∧ aggT gz.P 40 = some false ∧ elemT gz.P 40 = none ∧ zeroOf gz.P 40 = some (.lit .nilFunc) := by and_intros <;> kernel_rfl
theorem t41 : gz.P.cellsOf 41 = 1 ∧ aggT gz.P 41 = some false ∧ gz.P.underlying 41 = some (.slice 9) ∧ elemT gz.P 41 = some 9 ∧ zeroOf gz.P 41 = some (.lst true 1 []) := by and_intros <;> kernel_rfl
theorem t42 : gz.P.cellsOf 42 = 1 ∧ aggT gz.P 42 = some false ∧ gz.P.underlying 42 = some (.slice 234) ∧ elemT gz.P 42 = some 234 ∧ zeroOf gz.P 42 = some (.lst true 2 []) := by and_intros <;> kernel_rfl
theorem t43 : gz.P.cellsOf 43 = 2 ∧ aggT gz.P 43 = some true ∧ elemT gz.P 43 = none ∧ zeroOf gz.P 43 = some (.agg [.lst true 1 [], .lst true 2 []]) ∧ fieldT gz.P 43 0 = some (0, 41) ∧ fieldT gz.P 43 1 = some (1, 42) ∧ structOf gz.P 43 = some [.lst true 1 [], .lst true 2 []] := by and_intros <;> kernel_rfl
theorem t44 : gz.P.cellsOf 44 = 2 ∧ aggT gz.P 44 = some true ∧ elemT gz.P 44 = none ∧ zeroOf gz.P 44 = some (.agg [.lst true 1 [], .lst true 2 []]) ∧ fieldT gz.P 44 0 = some (0, 41) ∧ fieldT gz.P 44 1 = some (1, 42) ∧ structOf gz.P 44 = some [.lst true 1 [], .lst true 2 []] := by and_intros <;> kernel_rfl
theorem t45 : gz.P.cellsOf 45 = 1 ∧ aggT gz.P 45 = some false ∧ elemT gz.P 45 = none ∧ zeroOf gz.P 45 = some (.lit .nilFunc) := by and_intros <;> kernel_rfl
theorem t46 : gz.P.cellsOf 46 = 1 ∧ aggT gz.P 46 = some false ∧ gz.P.underlying 46 = some (.slice 170) ∧ elemT gz.P 46 = some 170 ∧ zeroOf gz.P 46 = some (.lst true 2 []) := by and_intros <;> kernel_rfl
theorem t47 : gz.P.cellsOf 47 = 2 ∧ aggT gz.P 47 = some true ∧ elemT gz.P 47 = none ∧ zeroOf gz.P 47 = some (.agg [.lst true 1 [], .lst true 2 []]) ∧ fieldT gz.P 47 0 = some (0, 41) ∧ fieldT gz.P 47 1 = some (1, 46) ∧ structOf gz.P 47 = some [.lst true 1 [], .lst true 2 []] := by and_intros <;> kernel_rfl
theorem t48 : gz.P.cellsOf 48 = 2 ∧ aggT gz.P 48 = some true ∧ elemT gz.P 48 = none ∧ zeroOf gz.P 48 = some (.agg [.lst true 1 [], .lst true 2 []]) ∧ fieldT gz.P 48 0 = some (0, 41) ∧ fieldT gz.P 48 1 = some (1, 46) ∧ structOf gz.P 48 = some [.lst true 1 [], .lst true 2 []] := by and_intros <;> kernel_rfl
theorem t50 : gz.P.cellsOf 50 = 1 ∧ aggT gz.P 50 = some false ∧ elemT gz.P 50 = none ∧ zeroOf gz.P 50 = some (.lit .nilFunc) := by and_intros <;> kernel_rfl
theorem t51 : gz.P.cellsOf 51 = 1 ∧ aggT gz.P 51 = some false ∧ elemT gz.P 51 = none ∧ zeroOf gz.P 51 = some (.lit .nilFunc) := by and_intros <;> kernel_rfl
theorem t52 : gz.P.cellsOf 52 = 1 ∧ aggT gz.P 52 = some false ∧ elemT gz.P 52 = none ∧ zeroOf gz.P 52 = some (.lit .nilFunc) := by and_intros <;> kernel_rfl
theorem t53 : gz.P.cellsOf 53 = 1 ∧ aggT gz.P 53 = some false ∧ elemT gz.P 53 = none ∧ zeroOf gz.P 53 = some (.lit .nilFunc) := by and_intros <;> kernel_rfl
theorem t54 : gz.P.cellsOf 54 = 1 ∧ aggT gz.P 54 = some false ∧ elemT gz.P 54 = none ∧ zeroOf gz.P 54 = some (.lit .nilFunc) := by and_intros <;> kernel_rfl
theorem t55 : gz.P.cellsOf 55 = 1 ∧ aggT gz.P 55 = some false ∧ gz.P.underlying 55 = some (.slice 5) ∧ elemT gz.P 55 = some 5 ∧ zeroOf gz.P 55 = some (.lst true 1 []) := by and_intros <;> kernel_rfl
theorem t56 : gz.P.cellsOf 56 = 1 ∧ aggT gz.P 56 = some false ∧ elemT gz.P 56 = none ∧ zeroOf gz.P 56 = some (.lit .nilFunc) := by and_intros <;> kernel_rfl
theorem t58 : gz.P.cellsOf 58 = 1 ∧ aggT gz.P 58 = some false ∧ elemT gz.P 58 = none ∧ zeroOf gz.P 58 = some (.lit .nilFunc) := by and_intros <;> kernel_rfl
theorem t60 : gz.P.cellsOf 60 = 1 ∧ aggT gz.P 60 = some false ∧ elemT gz.P 60 = none ∧ zeroOf gz.P 60 = some (.lit .nilFunc) := by and_intros <;> kernel_rfl
theorem t61 : gz.P.cellsOf 61 = 1 ∧ aggT gz.P 61 = some false ∧ elemT gz.P 61 = none ∧ zeroOf gz.P 61 = some (.lit .nilFunc) := by and_intros <;> kernel_rfl
theorem t62 : gz.P.cellsOf 62 = 1 ∧ aggT gz.P 62 = some false ∧ elemT gz.P 62 = none ∧ zeroOf gz.P 62 = some (.lit .nilFunc) := by and_intros <;> kernel_rfl
theorem t64 : gz.P.cellsOf 64 = 1 ∧ aggT gz.P 64 = some false ∧ elemT gz.P 64 = none ∧ zeroOf gz.P 64 = some (.lit .nilFunc) := by and_intros <;> kernel_rfl
theorem t65 : gz.P.cellsOf 65 = 1 ∧ aggT gz.P 65 = some false ∧ elemT gz.P 65 = none ∧ zeroOf gz.P 65 = some (.lit .nilFunc) := by and_intros <;> kernel_rfl
theorem t66 : gz.P.cellsOf 66 = 1 ∧ aggT gz.P 66 = some false ∧ elemT gz.P 66 = none ∧ zeroOf gz.P 66 = some (.lit .nilFunc) := by and_intros <;> kernel_rfl
theorem t67 : gz.P.cellsOf 67 = 1 ∧ aggT gz.P 67 = some false ∧ elemT gz.P 67 = none ∧ zeroOf gz.P 67 = some (.lit .nilFunc) := by and_intros <;> kernel_rfl
theorem t69 : gz.P.cellsOf 69 = 1 ∧ aggT gz.P 69 = some false ∧ elemT gz.P 69 = none ∧ zeroOf gz.P 69 = some (.lit .nilFunc) := by and_intros <;> kernel_rfl
theorem t70 : gz.P.cellsOf 70 = 1 ∧ aggT gz.P 70 = some false ∧ elemT gz.P 70 = none ∧ zeroOf gz.P 70 = some (.lit .nilFunc) := by and_intros <;> kernel_rfl
theorem t71 : gz.P.cellsOf 71 = 1 ∧ aggT gz.P 71 = some false ∧ gz.P.underlying 71 = some (.slice 29) ∧ elemT gz.P 71 = some 29 ∧ zeroOf gz.P 71 = some (.lst true 14 []) := by and_intros <;> kernel_rfl
theorem t72 : gz.P.cellsOf 72 = 1 ∧ aggT gz.P 72 = some false ∧ gz.P.underlying 72 = some (.slice 254) ∧ elemT gz.P 72 = some 254 ∧ zeroOf gz.P 72 = some (.lst true 20 []) := by and_intros <;> kernel_rfl
theorem t73 : gz.P.cellsOf 73 = 2 ∧ aggT gz.P 73 = some true ∧ elemT gz.P 73 = none ∧ zeroOf gz.P 73 = some (.agg [.lst true 14 [], .lst true 20 []]) ∧ fieldT gz.P 73 0 = some (0, 71) ∧ fieldT gz.P 73 1 = some (1, 72) ∧ structOf gz.P 73 = some [.lst true 14 [], .lst true 20 []] := by and_intros <;> kernel_rfl
theorem t74 : gz.P.cellsOf 74 = 2 ∧ aggT gz.P 74 = some true ∧ elemT gz.P 74 = none ∧ zeroOf gz.P 74 = some (.agg [.lst true 14 [], .lst true 20 []]) ∧ fieldT gz.P 74 0 = some (0, 71) ∧ fieldT gz.P 74 1 = some (1, 72) ∧ structOf gz.P 74 = some [.lst true 14 [], .lst true 20 []] := by and_intros <;> kernel_rfl
theorem t75 : gz.P.cellsOf 75 = 1 ∧ aggT gz.P 75 = some false ∧ elemT gz.P 75 = none ∧ zeroOf gz.P 75 = some (.lit .nilFunc) := by and_intros <;> kernel_rfl
theorem t76 : gz.P.cellsOf 76 = 1 ∧ aggT gz.P 76 = some false ∧ elemT gz.P 76 = none ∧ zeroOf gz.P 76 = some (.lit .nilFunc) := by and_intros <;> kernel_rfl
theorem t77 : gz.P.cellsOf 77 = 1 ∧ aggT gz.P 77 = some false ∧ gz.P.underlying 77 = some (.slice 37) ∧ elemT gz.P 77 = some 37 ∧ zeroOf gz.P 77 = some (.lst true 14 []) := by and_intros <;> kernel_rfl
theorem t78 : gz.P.cellsOf 78 = 1 ∧ aggT gz.P 78 = some false ∧ gz.P.underlying 78 = some (.slice 183) ∧ elemT gz.P 78 = some 183 ∧ zeroOf gz.P 78 = some (.lst true 20 []) := by and_intros <;> kernel_rfl
theorem t79 : gz.P.cellsOf 79 = 2 ∧ aggT gz.P 79 = some true ∧ elemT gz.P 79 = none ∧ zeroOf gz.P 79 = some (.agg [.lst true 14 [], .lst true 20 []]) ∧ fieldT gz.P 79 0 = some (0, 77) ∧ fieldT gz.P 79 1 = some (1, 78) ∧ structOf gz.P 79 = some [.lst true 14 [], .lst true 20 []] := by and_intros <;> kernel_rfl
theorem t80 : gz.P.cellsOf 80 = 2 ∧ aggT gz.P 80 = some true ∧ elemT gz.P 80 = none ∧ zeroOf gz.P 80 = some (.agg [.lst true 14 [], .lst true 20 []]) ∧ fieldT gz.P 80 0 = some (0, 77) ∧ fieldT gz.P 80 1 = some (1, 78) ∧ structOf gz.P 80 = some [.lst true 14 [], .lst true 20 []] := by and_intros <;> kernel_rfl
theorem t81 : gz.P.cellsOf 81 = 1 ∧ aggT gz.P 81 = some false ∧ elemT gz.P 81 = none ∧ zeroOf gz.P 81 = some (.lit .nilFunc) := by and_intros <;> kernel_rfl
theorem t82 : gz.P.cellsOf 82 = 1 ∧ aggT gz.P 82 = some false ∧ elemT gz.P 82 = none ∧ zeroOf gz.P 82 = some (.lit .nilFunc) := by and_intros <;> kernel_rfl
theorem t83 : gz.P.cellsOf 83 = 1 ∧ aggT gz.P 83 = some false ∧ elemT gz.P 83 = none ∧ zeroOf gz.P 83 = some (.lit .nilFunc) := by and_intros <;> kernel_rfl
theorem t84 : gz.P.cellsOf 84 = 2 ∧ aggT gz.P 84 = some true ∧ elemT gz.P 84 = none ∧ zeroOf gz.P 84 = some (.agg [.lst true 1 [], .lst true 1 []]) ∧ fieldT gz.P 84 0 = some (0, 22) ∧ fieldT gz.P 84 1 = some (1, 22) ∧ structOf gz.P 84 = some [.lst true 1 [], .lst true 1 []] := by and_intros <;> kernel_rfl
theorem t85 : gz.P.cellsOf 85 = 2 ∧ aggT gz.P 85 = some true ∧ elemT gz.P 85 = none ∧ zeroOf gz.P 85 = some (.agg [.lst true 1 [], .lst true 1 []]) ∧ fieldT gz.P 85 0 = some (0, 22) ∧ fieldT gz.P 85 1 = some (1, 22) ∧ structOf gz.P 85 = some [.lst true 1 [], .lst true 1 []] := by and_intros <;> kernel_rfl
theorem t86 : gz.P.cellsOf 86 = 4 ∧ aggT gz.P 86 = some true ∧ elemT gz.P 86 = none ∧ zeroOf gz.P 86 = some (.agg [.lit (.int .i64 0), .lit (.int .i64 0), .lit (.int .i64 0), .lit (.int .i64 0)]) ∧ fieldT gz.P 86 0 = some (0, 2) ∧ fieldT gz.P 86 1 = some (1, 2) ∧ fieldT gz.P 86 2 = some (2, 2) ∧ fieldT gz.P 86 3 = some (3, 2) ∧ structOf gz.P 86 = some [.lit (.int .i64 0), .lit (.int .i64 0), .lit (.int .i64 0), .lit (.int .i64 0)] ∧ plainStruct gz.P 86 = some [0, 0, 0, 0] := by and_intros <;> kernel_rfl
theorem t87 : gz.P.cellsOf 87 = 4 ∧ aggT gz.P 87 = some true ∧ elemT gz.P 87 = none ∧ zeroOf gz.P 87 = some (.agg [.lit (.int .i64 0), .lit (.int .i64 0), .lit (.int .i64 0), .lit (.int .i64 0)]) ∧ fieldT gz.P 87 0 = some (0, 2) ∧ fieldT gz.P 87 1 = some (1, 2) ∧ fieldT gz.P 87 2 = some (2, 2) ∧ fieldT gz.P 87 3 = some (3, 2) ∧ structOf gz.P 87 = some [.lit (.int .i64 0), .lit (.int .i64 0), .lit (.int .i64 0), .lit (.int .i64 0)] ∧ plainStruct gz.P 87 = some [0, 0, 0, 0] := by and_intros <;> kernel_rfl
theorem t89 : gz.P.cellsOf 89 = 1 ∧ aggT gz.P 89 = some false ∧ elemT gz.P 89 = none ∧ zeroOf gz.P 89 = some (.lit .nilFunc) := by and_intros <;> kernel_rfl
theorem t91 : gz.P.cellsOf 91 = 1 ∧ aggT gz.P 91 = some false ∧ elemT gz.P 91 = none ∧ zeroOf gz.P 91 = some (.lit .nilFunc) := by and_intros <;> kernel_rfl
theorem t93 : gz.P.cellsOf 93 = 1 ∧ aggT gz.P 93 = some false ∧ elemT gz.P 93 = none ∧ zeroOf gz.P 93 = some (.lit .nilFunc) := by and_intros <;> kernel_rfl
theorem t95 : gz.P.cellsOf 95 = 1 ∧ aggT gz.P 95 = some false ∧ elemT gz.P 95 = none ∧ zeroOf gz.P 95 = some (.lit .nilFunc) := by and_intros <;> kernel_rfl
theorem t96 : gz.P.cellsOf 96 = 1 ∧ aggT gz.P 96 = some false ∧ elemT gz.P 96 = none ∧ zeroOf gz.P 96 = some (.lit .nilFunc) := by and_intros <;> kernel_rfl
theorem t97 : gz.P.cellsOf 97 = 1 ∧ aggT gz.P 97 = some false ∧ elemT gz.P 97 = none ∧ zeroOf gz.P 97 = some (.lit .nilFunc) := by and_intros <;> kernel_rfl
theorem t98 : gz.P.cellsOf 98 = 1 ∧ aggT gz.P 98 = some false ∧ elemT gz.P 98 = none ∧ zeroOf gz.P 98 = some (.lit .nilFunc) := by and_intros <;> kernel_rfl
theorem t99 : gz.P.cellsOf 99 = 1 ∧ aggT gz.P 99 = some false ∧ elemT gz.P 99 = none ∧ zeroOf gz.P 99 = some (.lit .nilFunc) := by and_intros <;> kernel_rfl
theorem t100 : gz.P.cellsOf 100 = 1 ∧ aggT gz.P 100 = some false ∧ elemT gz.P 100 = none ∧ zeroOf gz.P 100 = some (.lit .nilFunc) := by and_intros <;> kernel_rfl
theorem t101 : gz.P.cellsOf 101 = 1 ∧ aggT gz.P 101 = some false ∧ elemT gz.P 101 = none ∧ zeroOf gz.P 101 = some (.lit .nilFunc) := by and_intros <;> kernel_rfl
theorem t102 : gz.P.cellsOf 102 = 1 ∧ aggT gz.P 102 = some false ∧ elemT gz.P 102 = none ∧ zeroOf gz.P 102 = some (.lit .nilFunc) := by and_intros <;> kernel_rfl
theorem t103 : gz.P.cellsOf 103 = 1 ∧ aggT gz.P 103 = some false ∧ elemT gz.P 103 = none ∧ zeroOf gz.P 103 = some (.lit .nilFunc) := by and_intros <;> kernel_rfl
theorem t104 : gz.P.cellsOf 104 = 1 ∧ aggT gz.P 104 = some false ∧ elemT gz.P 104 = none ∧ zeroOf gz.P 104 = some (.lit .nilFunc) := by and_intros <;> kernel_rfl
theorem t105 : gz.P.cellsOf 105 = 1 ∧ aggT gz.P 105 = some false ∧ elemT gz.P 105 = none ∧ zeroOf gz.P 105 = some (.lit .nilFunc) := by and_intros <;> kernel_rfl
theorem t106 : gz.P.cellsOf 106 = 1 ∧ aggT gz.P 106 = some false ∧ elemT gz.P 106 = none ∧ zeroOf gz.P 106 = some (.lit .nilFunc) := by and_intros <;> kernel_rfl
theorem t107 : gz.P.cellsOf 107 = 1 ∧ aggT gz.P 107 = some false ∧ elemT gz.P 107 = none ∧ zeroOf gz.P 107 = some (.lit .nilFunc) := by and_intros <;> kernel_rfl
theorem t108 : gz.P.cellsOf 108 = 1 ∧ aggT gz.P 108 = some false ∧ elemT gz.P 108 = none ∧ zeroOf gz.P 108 = some (.lit .nilFunc) := by and_intros <;> kernel_rfl
theorem t109 : gz.P.cellsOf 109 = 1 ∧ aggT gz.P 109 = some false ∧ elemT gz.P 109 = none ∧ zeroOf gz.P 109 = some (.lit .nilFunc) := by and_intros <;> kernel_rfl
theorem t110 : gz.P.cellsOf 110 = 1 ∧ aggT gz.P 110 = some false ∧ elemT gz.P 110 = none ∧ zeroOf gz.P 110 = some (.lit .nilFunc) := by and_intros <;> kernel_rfl
theorem t111 : gz.P.cellsOf 111 = 1 ∧ aggT gz.P 111 = some false ∧ elemT gz.P 111 = none ∧ zeroOf gz.P 111 = some (.lit .nilFunc) := by and_intros <;> kernel_rfl
theorem t112 : gz.P.cellsOf 112 = 1 ∧ aggT gz.P 112 = some false ∧ elemT gz.P 112 = none ∧ zeroOf gz.P 112 = some (.lit .nilFunc) := by and_intros <;> kernel_rfl
theorem t113 : gz.P.cellsOf 113 = 1 ∧ aggT gz.P 113 = some false ∧ elemT gz.P 113 = none ∧ zeroOf gz.P 113 = some (.lit .nilFunc) := by and_intros <;> kernel_rfl
theorem t114 : gz.P.cellsOf 114 = 8 ∧ aggT gz.P 114 = some true ∧ elemT gz.P 114 = none ∧ zeroOf gz.P 114 = some (.agg [.lit (.int .i64 0), .lit (.int .i64 0), .agg [.lit (.int .i64 0), .lit (.int .i64 0), .lst true 1 [], .lst true 1 []], .lst true 1 [], .lit (.int .i64 0)]) ∧ fieldT gz.P 114 0 = some (0, 2) ∧ fieldT gz.P 114 1 = some (1, 2) ∧ fieldT gz.P 114 2 = some (2, 32) ∧ fieldT gz.P 114 3 = some (6, 41) ∧ fieldT gz.P 114 4 = some (7, 2) ∧ structOf gz.P 114 = some [.lit (.int .i64 0), .lit (.int .i64 0), .agg [.lit (.int .i64 0), .lit (.int .i64 0), .lst true 1 [], .lst true 1 []], .lst true 1 [], .lit (.int .i64 0)] := by and_intros <;> kernel_rfl
theorem t115 : gz.P.cellsOf 115 = 8 ∧ aggT gz.P 115 = some true ∧ elemT gz.P 115 = none ∧ zeroOf gz.P 115 = some (.agg [.lit (.int .i64 0), .lit (.int .i64 0), .agg [.lit (.int .i64 0), .lit (.int .i64 0), .lst true 1 [], .lst true 1 []], .lst true 1 [], .lit (.int .i64 0)]) ∧ fieldT gz.P 115 0 = some (0, 2) ∧ fieldT gz.P 115 1 = some (1, 2) ∧ fieldT gz.P 115 2 = some (2, 32) ∧ fieldT gz.P 115 3 = some (6, 41) ∧ fieldT gz.P 115 4 = some (7, 2) ∧ structOf gz.P 115 = some [.lit (.int .i64 0), .lit (.int .i64 0), .agg [.lit (.int .i64 0), .lit (.int .i64 0), .lst true 1 [], .lst true 1 []], .lst true 1 [], .lit (.int .i64 0)] := by and_intros <;> kernel_rfl
theorem t116 : gz.P.cellsOf 116 = 1 ∧ aggT gz.P 116 = some false ∧ elemT gz.P 116 = none ∧ zeroOf gz.P 116 = some (.lit .nilFunc) := by and_intros <;> kernel_rfl
theorem t117 : gz.P.cellsOf 117 = 1 ∧ aggT gz.P 117 = some false ∧ elemT gz.P 117 = none ∧ zeroOf gz.P 117 = some (.lit .nilFunc) := by and_intros <;> kernel_rfl
theorem t118 : gz.P.cellsOf 118 = 1 ∧ aggT gz.P 118 = some false ∧ elemT gz.P 118 = none ∧ zeroOf gz.P 118 = some (.lit .nilFunc) := by and_intros <;> kernel_rfl
theorem t119 : gz.P.cellsOf 119 = 1 ∧ aggT gz.P 119 = some false ∧ elemT gz.P 119 = none ∧ zeroOf gz.P 119 = some (.lit .nilFunc) := by and_intros <;> kernel_rfl
theorem t120 : gz.P.cellsOf 120 = 4 ∧ aggT gz.P 120 = some true ∧ elemT gz.P 120 = none ∧ zeroOf gz.P 120 = some (.agg [.lit (.int .i64 0), .lit (.int .i64 0), .lit (.int .i64 0), .lit (.int .i64 0)]) ∧ fieldT gz.P 120 0 = some (0, 2) ∧ fieldT gz.P 120 1 = some (1, 2) ∧ fieldT gz.P 120 2 = some (2, 2) ∧ fieldT gz.P 120 3 = some (3, 2) ∧ structOf gz.P 120 = some [.lit (.int .i64 0), .lit (.int .i64 0), .lit (.int .i64 0), .lit (.int .i64 0)] ∧ plainStruct gz.P 120 = some [0, 0, 0, 0] := by and_intros <;> kernel_rfl
theorem t121 : gz.P.cellsOf 121 = 4 ∧ aggT gz.P 121 = some true ∧ elemT gz.P 121 = none ∧ zeroOf gz.P 121 = some (.agg [.lit (.int .i64 0), .lit (.int .i64 0), .lit (.int .i64 0), .lit (.int .i64 0)]) ∧ fieldT gz.P 121 0 = some (0, 2) ∧ fieldT gz.P 121 1 = some (1, 2) ∧ fieldT gz.P 121 2 = some (2, 2) ∧ fieldT gz.P 121 3 = some (3, 2) ∧ structOf gz.P 121 = some [.lit (.int .i64 0), .lit (.int .i64 0), .lit (.int .i64 0), .lit (.int .i64 0)] ∧ plainStruct gz.P 121 = some [0, 0, 0, 0] := by and_intros <;> kernel_rfl
theorem t122 : gz.P.cellsOf 122 = 2 ∧ aggT gz.P 122 = some true ∧ elemT gz.P 122 = none ∧ zeroOf gz.P 122 = some (.agg [.lit (.int .i64 0), .lit (.int .i64 0)]) ∧ fieldT gz.P 122 0 = some (0, 2) ∧ fieldT gz.P 122 1 = some (1, 2) ∧ structOf gz.P 122 = some [.lit (.int .i64 0), .lit (.int .i64 0)] ∧ plainStruct gz.P 122 = some [0, 0] := by and_intros <;> kernel_rfl
theorem t123 : gz.P.cellsOf 123 = 2 ∧ aggT gz.P 123 = some true ∧ elemT gz.P 123 = none ∧ zeroOf gz.P 123 = some (.agg [.lit (.int .i64 0), .lit (.int .i64 0)]) ∧ fieldT gz.P 123 0 = some (0, 2) ∧ fieldT gz.P 123 1 = some (1, 2) ∧ structOf gz.P 123 = some [.lit (.int .i64 0), .lit (.int .i64 0)] ∧ plainStruct gz.P 123 = some [0, 0] := by and_intros <;> kernel_rfl
theorem t124 : gz.P.cellsOf 124 = 1 ∧ aggT gz.P 124 = some false ∧ elemT gz.P 124 = none ∧ zeroOf gz.P 124 = some (.lit .nilFunc) := by and_intros <;> kernel_rfl
theorem t125 : gz.P.cellsOf 125 = 1 ∧ aggT gz.P 125 = some false ∧ elemT gz.P 125 = none ∧ zeroOf gz.P 125 = some (.lit .nilFunc) := by and_intros <;> kernel_rfl
theorem t126 : gz.P.cellsOf 126 = 1 ∧ aggT gz.P 126 = some false ∧ elemT gz.P 126 = none ∧ zeroOf gz.P 126 = some (.lit .nilFunc) := by and_intros <;> kernel_rfl
theorem t127 : gz.P.cellsOf 127 = 1 ∧ aggT gz.P 127 = some false ∧ elemT gz.P 127 = none ∧ zeroOf gz.P 127 = some (.lit .nilFunc) := by and_intros <;> kernel_rfl
theorem t128 : gz.P.cellsOf 128 = 1 ∧ aggT gz.P 128 = some false ∧ elemT gz.P 128 = none ∧ zeroOf gz.P 128 = some (.lit .nilFunc) := by and_intros <;> kernel_rfl
theorem t129 : gz.P.cellsOf 129 = 1 ∧ aggT gz.P 129 = some false ∧ elemT gz.P 129 = none ∧ zeroOf gz.P 129 = some (.lit .nilFunc) := by and_intros <;> kernel_rfl
theorem t130 : gz.P.cellsOf 130 = 1 ∧ aggT gz.P 130 = some false ∧ elemT gz.P 130 = none ∧ zeroOf gz.P 130 = some (.lit .nilFunc) := by and_intros <;> kernel_rfl
theorem t131 : gz.P.cellsOf 131 = 1 ∧ aggT gz.P 131 = some false ∧ elemT gz.P 131 = none ∧ zeroOf gz.P 131 = some (.lit (.pointer none)) := by and_intros <;> kernel_rfl
theorem t132 : gz.P.cellsOf 132 = 1 ∧ aggT gz.P 132 = some false ∧ elemT gz.P 132 = none ∧ zeroOf gz.P 132 = some (.lit .nilFunc) := by and_intros <;> kernel_rfl
theorem t133 : gz.P.cellsOf 133 = 1 ∧ aggT gz.P 133 = some false ∧ elemT gz.P 133 = none ∧ zeroOf gz.P 133 = some (.lit .nilFunc) := by and_intros <;> kernel_rfl
theorem t134 : gz.P.cellsOf 134 = 1 ∧ aggT gz.P 134 = some false ∧ elemT gz.P 134 = none ∧ zeroOf gz.P 134 = some (.lit .nilFunc) := by and_intros <;> kernel_rfl
theorem t135 : gz.P.cellsOf 135 = 1 ∧ aggT gz.P 135 = some false ∧ elemT gz.P 135 = none ∧ zeroOf gz.P 135 = some (.lit .nilFunc) := by and_intros <;> kernel_rfl
theorem t136 : gz.P.cellsOf 136 = 1 ∧ aggT gz.P 136 = some false ∧ elemT gz.P 136 = none ∧ zeroOf gz.P 136 = some (.lit .nilFunc) := by and_intros <;> kernel_rfl
theorem t137 : gz.P.cellsOf 137 = 1 ∧ aggT gz.P 137 = some false ∧ elemT gz.P 137 = none ∧ zeroOf gz.P 137 = some (.lit .nilFunc) := by and_intros <;> kernel_rfl
theorem t138 : gz.P.cellsOf 138 = 1 ∧ aggT gz.P 138 = some false ∧ elemT gz.P 138 = none ∧ zeroOf gz.P 138 = some (.lit .nilFunc) := by and_intros <;> kernel_rfl
theorem t139 : gz.P.cellsOf 139 = 1 ∧ aggT gz.P 139 = some false ∧ elemT gz.P 139 = none ∧ zeroOf gz.P 139 = some (.lit .nilFunc) := by and_intros <;> kernel_rfl
theorem t140 : gz.P.cellsOf 140 = 1 ∧ aggT gz.P 140 = some false ∧ elemT gz.P 140 = none ∧ zeroOf gz.P 140 = some (.lit .nilFunc) := by and_intros <;> kernel_rfl
theorem t141 : gz.P.cellsOf 141 = 1 ∧ aggT gz.P 141 = some false ∧ elemT gz.P 141 = none ∧ zeroOf gz.P 141 = some (.lit .nilFunc) := by and_intros <;> kernel_rfl
theorem t142 : gz.P.cellsOf 142 = 1 ∧ aggT gz.P 142 = some false ∧ elemT gz.P 142 = none ∧ zeroOf gz.P 142 = some (.lit .nilFunc) := by and_intros <;> kernel_rfl
theorem t143 : gz.P.cellsOf 143 = 1 ∧ aggT gz.P 143 = some false ∧ elemT gz.P 143 = none ∧ zeroOf gz.P 143 = some (.lit .nilFunc) := by and_intros <;> kernel_rfl
theorem t144 : gz.P.cellsOf 144 = 1 ∧ aggT gz.P 144 = some false ∧ elemT gz.P 144 = none ∧ zeroOf gz.P 144 = some (.lit .nilFunc) := by and_intros <;> kernel_rfl
theorem t145 : gz.P.cellsOf 145 = 1 ∧ aggT gz.P 145 = some false ∧ elemT gz.P 145 = none ∧ zeroOf gz.P 145 = some (.lit .nilFunc) := by and_intros <;> kernel_rfl
theorem t146 : gz.P.cellsOf 146 = 1 ∧ aggT gz.P 146 = some false ∧ elemT gz.P 146 = none ∧ zeroOf gz.P 146 = some (.lit .nilFunc) := by and_intros <;> kernel_rfl
theorem t147 : gz.P.cellsOf 147 = 1 ∧ aggT gz.P 147 = some false ∧ elemT gz.P 147 = none ∧ zeroOf gz.P 147 = some (.lit .nilFunc) := by and_intros <;> kernel_rfl
theorem t148 : gz.P.cellsOf 148 = 1 ∧ aggT gz.P 148 = some false ∧ elemT gz.P 148 = none ∧ zeroOf gz.P 148 = some (.lit .nilFunc) := by and_intros <;> kernel_rfl
theorem t149 : gz.P.cellsOf 149 = 1 ∧ aggT gz.P 149 = some false ∧ elemT gz.P 149 = none ∧ zeroOf gz.P 149 = some (.lit .nilFunc) := by and_intros <;> kernel_rfl
theorem t150 : gz.P.cellsOf 150 = 1 ∧ aggT gz.P 150 = some false ∧ elemT gz.P 150 = none ∧ zeroOf gz.P 150 = some (.lit .nilFunc) := by and_intros <;> kernel_rfl
theorem t151 : gz.P.cellsOf 151 = 1 ∧ aggT gz.P 151 = some false ∧ elemT gz.P 151 = none ∧ zeroOf gz.P 151 = some (.lit .nilFunc) := by and_intros <;> kernel_rfl
theorem t152 : gz.P.cellsOf 152 = 1 ∧ aggT gz.P 152 = some false ∧ elemT gz.P 152 = none ∧ zeroOf gz.P 152 = some (.lit (.pointer none)) := by and_intros <;> kernel_rfl
theorem t153 : gz.P.cellsOf 153 = 1 ∧ aggT gz.P 153 = some false ∧ elemT gz.P 153 = none ∧ zeroOf gz.P 153 = some (.lit .nilFunc) := by and_intros <;> kernel_rfl
theorem t154 : gz.P.cellsOf 154 = 1 ∧ aggT gz.P 154 = some false ∧ elemT gz.P 154 = none ∧ zeroOf gz.P 154 = some (.lit .nilFunc) := by and_intros <;> kernel_rfl
theorem t155 : gz.P.cellsOf 155 = 1 ∧ aggT gz.P 155 = some false ∧ elemT gz.P 155 = none ∧ zeroOf gz.P 155 = some (.lit .nilFunc) := by and_intros <;> kernel_rfl
theorem t156 : gz.P.cellsOf 156 = 1 ∧ aggT gz.P 156 = some false ∧ elemT gz.P 156 = none ∧ zeroOf gz.P 156 = some (.lit .nilFunc) := by and_intros <;> kernel_rfl
theorem t157 : gz.P.cellsOf 157 = 1 ∧ aggT gz.P 157 = some false ∧ elemT gz.P 157 = none ∧ zeroOf gz.P 157 = some (.lit .nilFunc) := by and_intros <;> kernel_rfl
theorem t158 : gz.P.cellsOf 158 = 1 ∧ aggT gz.P 158 = some false ∧ elemT gz.P 158 = none ∧ zeroOf gz.P 158 = some (.lit .nilFunc) := by and_intros <;> kernel_rfl
theorem t159 : gz.P.cellsOf 159 = 1 ∧ aggT gz.P 159 = some false ∧ elemT gz.P 159 = none ∧ zeroOf gz.P 159 = some (.lit .nilFunc) := by and_intros <;> kernel_rfl
theorem t161 : gz.P.cellsOf 161 = 1 ∧ aggT gz.P 161 = some false ∧ elemT gz.P 161 = none ∧ zeroOf gz.P 161 = some (.lit .nilFunc) := by and_intros <;> kernel_rfl
theorem t162 : gz.P.cellsOf 162 = 1 ∧ aggT gz.P 162 = some false ∧ elemT gz.P 162 = none ∧ zeroOf gz.P 162 = some (.lit .nilFunc) := by and_intros <;> kernel_rfl
theorem t163 : gz.P.cellsOf 163 = 1 ∧ aggT gz.P 163 = some false ∧ elemT gz.P 163 = none ∧ zeroOf gz.P 163 = some (.lit .nilFunc) := by and_intros <;> kernel_rfl
theorem t164 : gz.P.cellsOf 164 = 1 ∧ aggT gz.P 164 = some false ∧ elemT gz.P 164 = none ∧ zeroOf gz.P 164 = some (.lit .nilFunc) := by and_intros <;> kernel_rfl
theorem t166 : gz.P.cellsOf 166 = 1 ∧ aggT gz.P 166 = some false ∧ elemT gz.P 166 = none ∧ zeroOf gz.P 166 = some (.lit .nilFunc) := by and_intros <;> kernel_rfl
theorem t168 : gz.P.cellsOf 168 = 1 ∧ aggT gz.P 168 = some false ∧ elemT gz.P 168 = none ∧ zeroOf gz.P 168 = some (.lit .nilFunc) := by and_intros <;> kernel_rfl
theorem t169 : gz.P.cellsOf 169 = 2 ∧ aggT gz.P 169 = some true ∧ elemT gz.P 169 = none ∧ zeroOf gz.P 169 = some (.agg [.lit (.int .i64 0), .lit (.string ByteArray.empty)]) ∧ fieldT gz.P 169 0 = some (0, 2) ∧ fieldT gz.P 169 1 = some (1, 9) ∧ structOf gz.P 169 = some [.lit (.int .i64 0), .lit (.string ByteArray.empty)] ∧ plainStruct gz.P 169 = some [0, 2] := by and_intros <;> kernel_rfl
theorem t170 : gz.P.cellsOf 170 = 2 ∧ aggT gz.P 170 = some true ∧ elemT gz.P 170 = none ∧ zeroOf gz.P 170 = some (.agg [.lit (.int .i64 0), .lit (.string ByteArray.empty)]) ∧ fieldT gz.P 170 0 = some (0, 2) ∧ fieldT gz.P 170 1 = some (1, 9) ∧ structOf gz.P 170 = some [.lit (.int .i64 0), .lit (.string ByteArray.empty)] ∧ plainStruct gz.P 170 = some [0, 2] := by and_intros <;> kernel_rfl
theorem t171 : gz.P.cellsOf 171 = 1 ∧ aggT gz.P 171 = some false ∧ elemT gz.P 171 = none ∧ zeroOf gz.P 171 = some (.lit .nilFunc) := by and_intros <;> kernel_rfl
theorem t172 : gz.P.cellsOf 172 = 1 ∧ aggT gz.P 172 = some false ∧ gz.P.underlying 172 = some (.slice 4) ∧ elemT gz.P 172 = some 4 ∧ zeroOf gz.P 172 = some (.lst true 1 []) := by and_intros <;> kernel_rfl
theorem t173 : gz.P.cellsOf 173 = 1 ∧ aggT gz.P 173 = some false ∧ elemT gz.P 173 = none ∧ zeroOf gz.P 173 = some (.lit .nilFunc) := by and_intros <;> kernel_rfl
theorem t174 : gz.P.cellsOf 174 = 1 ∧ aggT gz.P 174 = some false ∧ elemT gz.P 174 = none ∧ zeroOf gz.P 174 = some (.lit .nilFunc) := by and_intros <;> kernel_rfl
theorem t175 : gz.P.cellsOf 175 = 1 ∧ aggT gz.P 175 = some false ∧ elemT gz.P 175 = none ∧ zeroOf gz.P 175 = some (.lit .nilFunc) := by and_intros <;> kernel_rfl
theorem t176 : gz.P.cellsOf 176 = 1 ∧ aggT gz.P 176 = some false ∧ elemT gz.P 176 = none ∧ zeroOf gz.P 176 = some (.lit .nilFunc) := by and_intros <;> kernel_rfl
theorem t177 : gz.P.cellsOf 177 = 1 ∧ aggT gz.P 177 = some false ∧ elemT gz.P 177 = none ∧ zeroOf gz.P 177 = some (.lit .nilFunc) := by and_intros <;> kernel_rfl
theorem t178 : gz.P.cellsOf 178 = 1 ∧ aggT gz.P 178 = some false ∧ elemT gz.P 178 = none ∧ zeroOf gz.P 178 = some (.lit .nilFunc) := by and_intros <;> kernel_rfl
theorem t179 : gz.P.cellsOf 179 = 1 ∧ aggT gz.P 179 = some false ∧ elemT gz.P 179 = none ∧ zeroOf gz.P 179 = some (.lit .nilFunc) := by and_intros <;> kernel_rfl
theorem t180 : gz.P.cellsOf 180 = 1 ∧ aggT gz.P 180 = some false ∧ elemT gz.P 180 = none ∧ zeroOf gz.P 180 = some (.lit .nilFunc) := by and_intros <;> kernel_rfl
theorem t181 : gz.P.cellsOf 181 = 1 ∧ aggT gz.P 181 = some false ∧ elemT gz.P 181 = none ∧ zeroOf gz.P 181 = some (.lit .nilFunc) := by and_intros <;> kernel_rfl
theorem t182 : gz.P.cellsOf 182 = 20 ∧ aggT gz.P 182 = some true ∧ elemT gz.P 182 = none ∧ zeroOf gz.P 182 = some (.agg [.lit (.int .i64 0), .lit (.int .i64 0), .lit (.int .i64 0), .lit (.int .i64 0), .agg [.lit (.int .i64 0), .lit (.int .i64 0), .agg [.lit (.int .i64 0), .lit (.int .i64 0), .lst true 1 [], .lst true 1 []], .lst true 1 [], .lit (.int .i64 0)], .agg [.lit (.int .i64 0), .lit (.int .i64 0), .lit (.int .i64 0), .lit (.int .i64 0)], .agg [.lit (.int .i64 0), .lit (.int .i64 0), .lst true 1 [], .lst true 1 []]]) ∧ fieldT gz.P 182 0 = some (0, 2) ∧ fieldT gz.P 182 1 = some (1, 2) ∧ fieldT gz.P 182 2 = some (2, 2) ∧ fieldT gz.P 182 3 = some (3, 2) ∧ fieldT gz.P 182 4 = some (4, 115) ∧ fieldT gz.P 182 5 = some (12, 121) ∧ fieldT gz.P 182 6 = some (16, 32) ∧ structOf gz.P 182 = some [.lit (.int .i64 0), .lit (.int .i64 0), .lit (.int .i64 0), .lit (.int .i64 0), .agg [.lit (.int .i64 0), .lit (.int .i64 0), .agg [.lit (.int .i64 0), .lit (.int .i64 0), .lst true 1 [], .lst true 1 []], .lst true 1 [], .lit (.int .i64 0)], .agg [.lit (.int .i64 0), .lit (.int .i64 0), .lit (.int .i64 0), .lit (.int .i64 0)], .agg [.lit (.int .i64 0), .lit (.int .i64 0), .lst true 1 [], .lst true 1 []]] := by and_intros <;> kernel_rfl
theorem t183 : gz.P.cellsOf 183 = 20 ∧ aggT gz.P 183 = some true ∧ elemT gz.P 183 = none ∧ zeroOf gz.P 183 = some (.agg [.lit (.int .i64 0), .lit (.int .i64 0), .lit (.int .i64 0), .lit (.int .i64 0), .agg [.lit (.int .i64 0), .lit (.int .i64 0), .agg [.lit (.int .i64 0), .lit (.int .i64 0), .lst true 1 [], .lst true 1 []], .lst true 1 [], .lit (.int .i64 0)], .agg [.lit (.int .i64 0), .lit (.int .i64 0), .lit (.int .i64 0), .lit (.int .i64 0)], .agg [.lit (.int .i64 0), .lit (.int .i64 0), .lst true 1 [], .lst true 1 []]]) ∧ fieldT gz.P 183 0 = some (0, 2) ∧ fieldT gz.P 183 1 = some (1, 2) ∧ fieldT gz.P 183 2 = some (2, 2) ∧ fieldT gz.P 183 3 = some (3, 2) ∧ fieldT gz.P 183 4 = some (4, 115) ∧ fieldT gz.P 183 5 = some (12, 121) ∧ fieldT gz.P 183 6 = some (16, 32) ∧ structOf gz.P 183 = some [.lit (.int .i64 0), .lit (.int .i64 0), .lit (.int .i64 0), .lit (.int .i64 0), .agg [.lit (.int .i64 0), .lit (.int .i64 0), .agg [.lit (.int .i64 0), .lit (.int .i64 0), .lst true 1 [], .lst true 1 []], .lst true 1 [], .lit (.int .i64 0)], .agg [.lit (.int .i64 0), .lit (.int .i64 0), .lit (.int .i64 0), .lit (.int .i64 0)], .agg [.lit (.int .i64 0), .lit (.int .i64 0), .lst true 1 [], .lst true 1 []]] := by and_intros <;> kernel_rfl
theorem t184 : gz.P.cellsOf 184 = 1 ∧ aggT gz.P 184 = some false ∧ elemT gz.P 184 = none ∧ zeroOf gz.P 184 = some (.lit .nilFunc) := by and_intros <;> kernel_rfl
theorem t185 : gz.P.cellsOf 185 = 1 ∧ aggT gz.P 185 = some false ∧ elemT gz.P 185 = none ∧ zeroOf gz.P 185 = some (.lit .nilFunc) := by and_intros <;> kernel_rfl
theorem t186 : gz.P.cellsOf 186 = 1 ∧ aggT gz.P 186 = some false ∧ elemT gz.P 186 = none ∧ zeroOf gz.P 186 = some (.lit .nilFunc) := by and_intros <;> kernel_rfl
theorem t187 : gz.P.cellsOf 187 = 1 ∧ aggT gz.P 187 = some false ∧ elemT gz.P 187 = none ∧ zeroOf gz.P 187 = some (.lit .nilFunc) := by and_intros <;> kernel_rfl
theorem t188 : gz.P.cellsOf 188 = 1 ∧ aggT gz.P 188 = some false ∧ elemT gz.P 188 = none ∧ zeroOf gz.P 188 = some (.lit .nilFunc) := by and_intros <;> kernel_rfl
theorem t189 : gz.P.cellsOf 189 = 1 ∧ aggT gz.P 189 = some false ∧ elemT gz.P 189 = none ∧ zeroOf gz.P 189 = some (.lit .nilFunc) := by and_intros <;> kernel_rfl
theorem t190 : gz.P.cellsOf 190 = 1 ∧ aggT gz.P 190 = some false ∧ elemT gz.P 190 = none ∧ zeroOf gz.P 190 = some (.lit .nilFunc) := by and_intros <;> kernel_rfl
theorem t191 : gz.P.cellsOf 191 = 1 ∧ aggT gz.P 191 = some false ∧ elemT gz.P 191 = none ∧ zeroOf gz.P 191 = some (.lit .nilFunc) := by and_intros <;> kernel_rfl
theorem t192 : gz.P.cellsOf 192 = 1 ∧ aggT gz.P 192 = some false ∧ elemT gz.P 192 = none ∧ zeroOf gz.P 192 = some (.lit .nilFunc) := by and_intros <;> kernel_rfl
theorem t193 : gz.P.cellsOf 193 = 1 ∧ aggT gz.P 193 = some false ∧ elemT gz.P 193 = none ∧ zeroOf gz.P 193 = some (.lit .nilFunc) := by and_intros <;> kernel_rfl
theorem t194 : gz.P.cellsOf 194 = 1 ∧ aggT gz.P 194 = some false ∧ elemT gz.P 194 = none ∧ zeroOf gz.P 194 = some (.lit .nilFunc) := by and_intros <;> kernel_rfl
theorem t196 : gz.P.cellsOf 196 = 1 ∧ aggT gz.P 196 = some false ∧ elemT gz.P 196 = none ∧ zeroOf gz.P 196 = some (.lit .nilFunc) := by and_intros <;> kernel_rfl
theorem t197 : gz.P.cellsOf 197 = 1 ∧ aggT gz.P 197 = some false ∧ elemT gz.P 197 = none ∧ zeroOf gz.P 197 = some (.lit .nilFunc) := by and_intros <;> kernel_rfl
theorem t198 : gz.P.cellsOf 198 = 1 ∧ aggT gz.P 198 = some false ∧ elemT gz.P 198 = none ∧ zeroOf gz.P 198 = some (.lit .nilFunc) := by and_intros <;> kernel_rfl
theorem t199 : gz.P.cellsOf 199 = 1 ∧ aggT gz.P 199 = some false ∧ elemT gz.P 199 = none ∧ zeroOf gz.P 199 = some (.lit .nilFunc) := by and_intros <;> kernel_rfl
theorem t200 : gz.P.cellsOf 200 = 1 ∧ aggT gz.P 200 = some false ∧ elemT gz.P 200 = none ∧ zeroOf gz.P 200 = some (.lit .nilFunc) := by and_intros <;> kernel_rfl
theorem t201 : gz.P.cellsOf 201 = 1 ∧ aggT gz.P 201 = some false ∧ elemT gz.P 201 = none ∧ zeroOf gz.P 201 = some (.lit .nilFunc) := by and_intros <;> kernel_rfl
theorem t202 : gz.P.cellsOf 202 = 1 ∧ aggT gz.P 202 = some false ∧ elemT gz.P 202 = none ∧ zeroOf gz.P 202 = some (.lit .nilFunc) := by and_intros <;> kernel_rfl
theorem t203 : gz.P.cellsOf 203 = 1 ∧ aggT gz.P 203 = some false ∧ elemT gz.P 203 = none ∧ zeroOf gz.P 203 = some (.lit .nilFunc) := by and_intros <;> kernel_rfl
theorem t204 : gz.P.cellsOf 204 = 1 ∧ aggT gz.P 204 = some false ∧ elemT gz.P 204 = none ∧ zeroOf gz.P 204 = some (.lit .nilFunc) := by and_intros <;> kernel_rfl
theorem t205 : gz.P.cellsOf 205 = 1 ∧ aggT gz.P 205 = some false ∧ elemT gz.P 205 = none ∧ zeroOf gz.P 205 = some (.lit .nilFunc) := by and_intros <;> kernel_rfl
theorem t206 : gz.P.cellsOf 206 = 1 ∧ aggT gz.P 206 = some false ∧ elemT gz.P 206 = none ∧ zeroOf gz.P 206 = some (.lit .nilFunc) := by and_intros <;> kernel_rfl
theorem t207 : gz.P.cellsOf 207 = 1 ∧ aggT gz.P 207 = some false ∧ elemT gz.P 207 = none ∧ zeroOf gz.P 207 = some (.lit (.map none)) := by and_intros <;> kernel_rfl
theorem t209 : gz.P.cellsOf 209 = 1 ∧ aggT gz.P 209 = some false ∧ elemT gz.P 209 = none ∧ zeroOf gz.P 209 = some (.lit .nilFunc) := by and_intros <;> kernel_rfl
theorem t210 : gz.P.cellsOf 210 = 8 ∧ aggT gz.P 210 = some true ∧ elemT gz.P 210 = none ∧ zeroOf gz.P 210 = some (.agg [.lit (.int .i64 0), .lit (.int .i64 0), .agg [.lit (.int .i64 0), .lit (.int .i64 0), .lst true 1 [], .lst true 1 []], .lst true 1 [], .lit (.int .i64 0)]) ∧ fieldT gz.P 210 0 = some (0, 2) ∧ fieldT gz.P 210 1 = some (1, 2) ∧ fieldT gz.P 210 2 = some (2, 24) ∧ fieldT gz.P 210 3 = some (6, 41) ∧ fieldT gz.P 210 4 = some (7, 2) ∧ structOf gz.P 210 = some [.lit (.int .i64 0), .lit (.int .i64 0), .agg [.lit (.int .i64 0), .lit (.int .i64 0), .lst true 1 [], .lst true 1 []], .lst true 1 [], .lit (.int .i64 0)] := by and_intros <;> kernel_rfl
theorem t211 : gz.P.cellsOf 211 = 8 ∧ aggT gz.P 211 = some true ∧ elemT gz.P 211 = none ∧ zeroOf gz.P 211 = some (.agg [.lit (.int .i64 0), .lit (.int .i64 0), .agg [.lit (.int .i64 0), .lit (.int .i64 0), .lst true 1 [], .lst true 1 []], .lst true 1 [], .lit (.int .i64 0)]) ∧ fieldT gz.P 211 0 = some (0, 2) ∧ fieldT gz.P 211 1 = some (1, 2) ∧ fieldT gz.P 211 2 = some (2, 24) ∧ fieldT gz.P 211 3 = some (6, 41) ∧ fieldT gz.P 211 4 = some (7, 2) ∧ structOf gz.P 211 = some [.lit (.int .i64 0), .lit (.int .i64 0), .agg [.lit (.int .i64 0), .lit (.int .i64 0), .lst true 1 [], .lst true 1 []], .lst true 1 [], .lit (.int .i64 0)] := by and_intros <;> kernel_rfl
theorem t212 : gz.P.cellsOf 212 = 1 ∧ aggT gz.P 212 = some false ∧ elemT gz.P 212 = none ∧ zeroOf gz.P 212 = some (.lit .nilFunc) := by and_intros <;> kernel_rfl
theorem t213 : gz.P.cellsOf 213 = 1 ∧ aggT gz.P 213 = some false ∧ elemT gz.P 213 = none ∧ zeroOf gz.P 213 = some (.lit .nilFunc) := by and_intros <;> kernel_rfl
theorem t214 : gz.P.cellsOf 214 = 1 ∧ aggT gz.P 214 = some false ∧ elemT gz.P 214 = none ∧ zeroOf gz.P 214 = some (.lit .nilFunc) := by and_intros <;> kernel_rfl
theorem t215 : gz.P.cellsOf 215 = 1 ∧ aggT gz.P 215 = some false ∧ elemT gz.P 215 = none ∧ zeroOf gz.P 215 = some (.lit .nilFunc) := by and_intros <;> kernel_rfl
theorem t216 : gz.P.cellsOf 216 = 1 ∧ aggT gz.P 216 = some false ∧ elemT gz.P 216 = none ∧ zeroOf gz.P 216 = some (.lit .nilFunc) := by and_intros <;> kernel_rfl
theorem t217 : gz.P.cellsOf 217 = 1 ∧ aggT gz.P 217 = some false ∧ elemT gz.P 217 = none ∧ zeroOf gz.P 217 = some (.lit .nilFunc) := by and_intros <;> kernel_rfl
theorem t218 : gz.P.cellsOf 218 = 1 ∧ aggT gz.P 218 = some false ∧ elemT gz.P 218 = none ∧ zeroOf gz.P 218 = some (.lit .nilFunc) := by and_intros <;> kernel_rfl
theorem t219 : gz.P.cellsOf 219 = 4 ∧ aggT gz.P 219 = some true ∧ elemT gz.P 219 = none ∧ zeroOf gz.P 219 = some (.agg [.lit (.int .i64 0), .lit (.int .i64 0), .lit (.int .i64 0), .lit (.int .i64 0)]) ∧ fieldT gz.P 219 0 = some (0, 2) ∧ fieldT gz.P 219 1 = some (1, 2) ∧ fieldT gz.P 219 2 = some (2, 2) ∧ fieldT gz.P 219 3 = some (3, 2) ∧ structOf gz.P 219 = some [.lit (.int .i64 0), .lit (.int .i64 0), .lit (.int .i64 0), .lit (.int .i64 0)] ∧ plainStruct gz.P 219 = some [0, 0, 0, 0] := by and_intros <;> kernel_rfl
theorem t220 : gz.P.cellsOf 220 = 1 ∧ aggT gz.P 220 = some false ∧ elemT gz.P 220 = none ∧ zeroOf gz.P 220 = some (.lit .nilFunc) := by and_intros <;> kernel_rfl
theorem t221 : gz.P.cellsOf 221 = 2 ∧ aggT gz.P 221 = some true ∧ elemT gz.P 221 = none ∧ zeroOf gz.P 221 = some (.agg [.lit (.int .i64 0), .lit (.int .i64 0)]) ∧ fieldT gz.P 221 0 = some (0, 2) ∧ fieldT gz.P 221 1 = some (1, 2) ∧ structOf gz.P 221 = some [.lit (.int .i64 0), .lit (.int .i64 0)] ∧ plainStruct gz.P 221 = some [0, 0] := by and_intros <;> kernel_rfl
theorem t222 : gz.P.cellsOf 222 = 1 ∧ aggT gz.P 222 = some false ∧ elemT gz.P 222 = none ∧ zeroOf gz.P 222 = some (.lit .nilFunc) := by and_intros <;> kernel_rfl
theorem t223 : gz.P.cellsOf 223 = 16 ∧ aggT gz.P 223 = some true ∧ elemT gz.P 223 = none ∧ zeroOf gz.P 223 = some (.agg [.agg [.lit (.int .i64 0), .lit (.int .i64 0), .lit (.int .i64 0), .lit (.int .i64 0), .lit (.int .i64 0), .lit (.int .i64 0), .agg [.lit (.int .i64 0), .lit (.int .i64 0), .lst true 1 [], .lst true 1 []], .lst true 8 [], .lst true 4 [], .lst true 2 [], .lst true 1 []], .lst true 1 [], .lst true 20 []]) ∧ fieldT gz.P 223 0 = some (0, 37) ∧ fieldT gz.P 223 1 = some (14, 22) ∧ fieldT gz.P 223 2 = some (15, 78) ∧ structOf gz.P 223 = some [.agg [.lit (.int .i64 0), .lit (.int .i64 0), .lit (.int .i64 0), .lit (.int .i64 0), .lit (.int .i64 0), .lit (.int .i64 0), .agg [.lit (.int .i64 0), .lit (.int .i64 0), .lst true 1 [], .lst true 1 []], .lst true 8 [], .lst true 4 [], .lst true 2 [], .lst true 1 []], .lst true 1 [], .lst true 20 []] := by and_intros <;> kernel_rfl
theorem t224 : gz.P.cellsOf 224 = 16 ∧ aggT gz.P 224 = some true ∧ elemT gz.P 224 = none ∧ zeroOf gz.P 224 = some (.agg [.agg [.lit (.int .i64 0), .lit (.int .i64 0), .lit (.int .i64 0), .lit (.int .i64 0), .lit (.int .i64 0), .lit (.int .i64 0), .agg [.lit (.int .i64 0), .lit (.int .i64 0), .lst true 1 [], .lst true 1 []], .lst true 8 [], .lst true 4 [], .lst true 2 [], .lst true 1 []], .lst true 1 [], .lst true 20 []]) ∧ fieldT gz.P 224 0 = some (0, 37) ∧ fieldT gz.P 224 1 = some (14, 22) ∧ fieldT gz.P 224 2 = some (15, 78) ∧ structOf gz.P 224 = some [.agg [.lit (.int .i64 0), .lit (.int .i64 0), .lit (.int .i64 0), .lit (.int .i64 0), .lit (.int .i64 0), .lit (.int .i64 0), .agg [.lit (.int .i64 0), .lit (.int .i64 0), .lst true 1 [], .lst true 1 []], .lst true 8 [], .lst true 4 [], .lst true 2 [], .lst true 1 []], .lst true 1 [], .lst true 20 []] := by and_intros <;> kernel_rfl
theorem t225 : gz.P.cellsOf 225 = 1 ∧ aggT gz.P 225 = some false ∧ elemT gz.P 225 = none ∧ zeroOf gz.P 225 = some (.lit .nilFunc) := by and_intros <;> kernel_rfl
theorem t226 : gz.P.cellsOf 226 = 1 ∧ aggT gz.P 226 = some false ∧ elemT gz.P 226 = none ∧ zeroOf gz.P 226 = some (.lit .nilFunc) := by and_intros <;> kernel_rfl
theorem t227 : gz.P.cellsOf 227 = 1 ∧ aggT gz.P 227 = some false ∧ elemT gz.P 227 = none ∧ zeroOf gz.P 227 = some (.lit .nilFunc) := by and_intros <;> kernel_rfl
theorem t228 : gz.P.cellsOf 228 = 1 ∧ aggT gz.P 228 = some false ∧ elemT gz.P 228 = none ∧ zeroOf gz.P 228 = some (.lit .nilFunc) := by and_intros <;> kernel_rfl
theorem t229 : gz.P.cellsOf 229 = 1 ∧ aggT gz.P 229 = some false ∧ elemT gz.P 229 = none ∧ zeroOf gz.P 229 = some (.lit .nilFunc) := by and_intros <;> kernel_rfl
theorem t230 : gz.P.cellsOf 230 = 1 ∧ aggT gz.P 230 = some false ∧ elemT gz.P 230 = none ∧ zeroOf gz.P 230 = some (.lit .nilFunc) := by and_intros <;> kernel_rfl
theorem t231 : gz.P.cellsOf 231 = 1 ∧ aggT gz.P 231 = some false ∧ elemT gz.P 231 = none ∧ zeroOf gz.P 231 = some (.lit .nilFunc) := by and_intros <;> kernel_rfl
theorem t232 : gz.P.cellsOf 232 = 1 ∧ aggT gz.P 232 = some false ∧ elemT gz.P 232 = none ∧ zeroOf gz.P 232 = some (.lit .nilFunc) := by and_intros <;> kernel_rfl
theorem t233 : gz.P.cellsOf 233 = 1 ∧ aggT gz.P 233 = some false ∧ elemT gz.P 233 = none ∧ zeroOf gz.P 233 = some (.lit .nilFunc) := by and_intros <;> kernel_rfl
theorem t234 : gz.P.cellsOf 234 = 2 ∧ aggT gz.P 234 = some true ∧ elemT gz.P 234 = none ∧ zeroOf gz.P 234 = some (.agg [.lit (.int .i64 0), .lit (.string ByteArray.empty)]) ∧ fieldT gz.P 234 0 = some (0, 2) ∧ fieldT gz.P 234 1 = some (1, 9) ∧ structOf gz.P 234 = some [.lit (.int .i64 0), .lit (.string ByteArray.empty)] ∧ plainStruct gz.P 234 = some [0, 2] := by and_intros <;> kernel_rfl
theorem t235 : gz.P.cellsOf 235 = 1 ∧ aggT gz.P 235 = some false ∧ elemT gz.P 235 = none ∧ zeroOf gz.P 235 = some (.lit .nilFunc) := by and_intros <;> kernel_rfl
theorem t236 : gz.P.cellsOf 236 = 1 ∧ aggT gz.P 236 = some false ∧ elemT gz.P 236 = none ∧ zeroOf gz.P 236 = some (.lit .nilFunc) := by and_intros <;> kernel_rfl
theorem t237 : gz.P.cellsOf 237 = 1 ∧ aggT gz.P 237 = some false ∧ elemT gz.P 237 = none ∧ zeroOf gz.P 237 = some (.lit .nilFunc) := by and_intros <;> kernel_rfl
theorem t238 : gz.P.cellsOf 238 = 1 ∧ aggT gz.P 238 = some false ∧ elemT gz.P 238 = none ∧ zeroOf gz.P 238 = some (.lit .nilFunc) := by and_intros <;> kernel_rfl
theorem t239 : gz.P.cellsOf 239 = 1 ∧ aggT gz.P 239 = some false ∧ elemT gz.P 239 = none ∧ zeroOf gz.P 239 = some (.lit .nilFunc) := by and_intros <;> kernel_rfl
theorem t240 : gz.P.cellsOf 240 = 3 ∧ aggT gz.P 240 = some true ∧ elemT gz.P 240 = none ∧ zeroOf gz.P 240 = some (.agg [.lst true 1 [], .lit (.int .i64 0), .lit (.int .i64 0)]) ∧ fieldT gz.P 240 0 = some (0, 55) ∧ fieldT gz.P 240 1 = some (1, 3) ∧ fieldT gz.P 240 2 = some (2, 2) ∧ structOf gz.P 240 = some [.lst true 1 [], .lit (.int .i64 0), .lit (.int .i64 0)] := by and_intros <;> kernel_rfl
theorem t241 : gz.P.cellsOf 241 = 3 ∧ aggT gz.P 241 = some true ∧ elemT gz.P 241 = none ∧ zeroOf gz.P 241 = some (.agg [.lst true 1 [], .lit (.int .i64 0), .lit (.int .i64 0)]) ∧ fieldT gz.P 241 0 = some (0, 55) ∧ fieldT gz.P 241 1 = some (1, 3) ∧ fieldT gz.P 241 2 = some (2, 2) ∧ structOf gz.P 241 = some [.lst true 1 [], .lit (.int .i64 0), .lit (.int .i64 0)] := by and_intros <;> kernel_rfl
theorem t242 : gz.P.cellsOf 242 = 1 ∧ aggT gz.P 242 = some false ∧ elemT gz.P 242 = none ∧ zeroOf gz.P 242 = some (.lit .nilFunc) := by and_intros <;> kernel_rfl
theorem t243 : gz.P.cellsOf 243 = 1 ∧ aggT gz.P 243 = some false ∧ elemT gz.P 243 = none ∧ zeroOf gz.P 243 = some (.lit .nilFunc) := by and_intros <;> kernel_rfl
theorem t244 : gz.P.cellsOf 244 = 1 ∧ aggT gz.P 244 = some false ∧ elemT gz.P 244 = none ∧ zeroOf gz.P 244 = some (.lit .nilFunc) := by and_intros <;> kernel_rfl
theorem t245 : gz.P.cellsOf 245 = 1 ∧ aggT gz.P 245 = some false ∧ elemT gz.P 245 = none := by and_intros <;> kernel_rfl
theorem t246 : gz.P.cellsOf 246 = 1 ∧ aggT gz.P 246 = some false ∧ elemT gz.P 246 = none := by and_intros <;> kernel_rfl
theorem t248 : gz.P.cellsOf 248 = 1 ∧ aggT gz.P 248 = some false ∧ elemT gz.P 248 = none ∧ zeroOf gz.P 248 = some (.lit .nilFunc) := by and_intros <;> kernel_rfl
theorem t249 : gz.P.cellsOf 249 = 1 ∧ aggT gz.P 249 = some false ∧ elemT gz.P 249 = none ∧ zeroOf gz.P 249 = some (.lit .nilFunc) := by and_intros <;> kernel_rfl
theorem t250 : gz.P.cellsOf 250 = 1 ∧ aggT gz.P 250 = some false ∧ elemT gz.P 250 = none ∧ zeroOf gz.P 250 = some (.lit .nilFunc) := by and_intros <;> kernel_rfl
theorem t251 : gz.P.cellsOf 251 = 1 ∧ aggT gz.P 251 = some false ∧ elemT gz.P 251 = none ∧ zeroOf gz.P 251 = some (.lit .nilFunc) := by and_intros <;> kernel_rfl
theorem t252 : gz.P.cellsOf 252 = 1 ∧ aggT gz.P 252 = some false ∧ elemT gz.P 252 = none ∧ zeroOf gz.P 252 = some (.lit .nilFunc) := by and_intros <;> kernel_rfl
theorem t253 : gz.P.cellsOf 253 = 20 ∧ aggT gz.P 253 = some true ∧ elemT gz.P 253 = none ∧ zeroOf gz.P 253 = some (.agg [.lit (.int .i64 0), .lit (.int .i64 0), .lit (.int .i64 0), .lit (.int .i64 0), .agg [.lit (.int .i64 0), .lit (.int .i64 0), .agg [.lit (.int .i64 0), .lit (.int .i64 0), .lst true 1 [], .lst true 1 []], .lst true 1 [], .lit (.int .i64 0)], .agg [.lit (.int .i64 0), .lit (.int .i64 0), .lit (.int .i64 0), .lit (.int .i64 0)], .agg [.lit (.int .i64 0), .lit (.int .i64 0), .lst true 1 [], .lst true 1 []]]) ∧ fieldT gz.P 253 0 = some (0, 2) ∧ fieldT gz.P 253 1 = some (1, 2) ∧ fieldT gz.P 253 2 = some (2, 2) ∧ fieldT gz.P 253 3 = some (3, 2) ∧ fieldT gz.P 253 4 = some (4, 211) ∧ fieldT gz.P 253 5 = some (12, 219) ∧ fieldT gz.P 253 6 = some (16, 24) ∧ structOf gz.P 253 = some [.lit (.int .i64 0), .lit (.int .i64 0), .lit (.int .i64 0), .lit (.int .i64 0), .agg [.lit (.int .i64 0), .lit (.int .i64 0), .agg [.lit (.int .i64 0), .lit (.int .i64 0), .lst true 1 [], .lst true 1 []], .lst true 1 [], .lit (.int .i64 0)], .agg [.lit (.int .i64 0), .lit (.int .i64 0), .lit (.int .i64 0), .lit (.int .i64 0)], .agg [.lit (.int .i64 0), .lit (.int .i64 0), .lst true 1 [], .lst true 1 []]] := by and_intros <;> kernel_rfl
theorem t254 : gz.P.cellsOf 254 = 20 ∧ aggT gz.P 254 = some true ∧ elemT gz.P 254 = none ∧ zeroOf gz.P 254 = some (.agg [.lit (.int .i64 0), .lit (.int .i64 0), .lit (.int .i64 0), .lit (.int .i64 0), .agg [.lit (.int .i64 0), .lit (.int .i64 0), .agg [.lit (.int .i64 0), .lit (.int .i64 0), .lst true 1 [], .lst true 1 []], .lst true 1 [], .lit (.int .i64 0)], .agg [.lit (.int .i64 0), .lit (.int .i64 0), .lit (.int .i64 0), .lit (.int .i64 0)], .agg [.lit (.int .i64 0), .lit (.int .i64 0), .lst true 1 [], .lst true 1 []]]) ∧ fieldT gz.P 254 0 = some (0, 2) ∧ fieldT gz.P 254 1 = some (1, 2) ∧ fieldT gz.P 254 2 = some (2, 2) ∧ fieldT gz.P 254 3 = some (3, 2) ∧ fieldT gz.P 254 4 = some (4, 211) ∧ fieldT gz.P 254 5 = some (12, 219) ∧ fieldT gz.P 254 6 = some (16, 24) ∧ structOf gz.P 254 = some [.lit (.int .i64 0), .lit (.int .i64 0), .lit (.int .i64 0), .lit (.int .i64 0), .agg [.lit (.int .i64 0), .lit (.int .i64 0), .agg [.lit (.int .i64 0), .lit (.int .i64 0), .lst true 1 [], .lst true 1 []], .lst true 1 [], .lit (.int .i64 0)], .agg [.lit (.int .i64 0), .lit (.int .i64 0), .lit (.int .i64 0), .lit (.int .i64 0)], .agg [.lit (.int .i64 0), .lit (.int .i64 0), .lst true 1 [], .lst true 1 []]] := by and_intros <;> kernel_rfl
theorem t255 : gz.P.cellsOf 255 = 1 ∧ aggT gz.P 255 = some false ∧ elemT gz.P 255 = none ∧ zeroOf gz.P 255 = some (.lit .nilFunc) := by and_intros <;> kernel_rfl
theorem t256 : gz.P.cellsOf 256 = 1 ∧ aggT gz.P 256 = some false ∧ elemT gz.P 256 = none ∧ zeroOf gz.P 256 = some (.lit .nilFunc) := by and_intros <;> kernel_rfl
theorem t257 : gz.P.cellsOf 257 = 1 ∧ aggT gz.P 257 = some false ∧ elemT gz.P 257 = none ∧ zeroOf gz.P 257 = some (.lit .nilFunc) := by and_intros <;> kernel_rfl
theorem t258 : gz.P.cellsOf 258 = 1 ∧ aggT gz.P 258 = some false ∧ elemT gz.P 258 = none ∧ zeroOf gz.P 258 = some (.lit .nilFunc) := by and_intros <;> kernel_rfl
theorem t259 : gz.P.cellsOf 259 = 1 ∧ aggT gz.P 259 = some false ∧ elemT gz.P 259 = none ∧ zeroOf gz.P 259 = some (.lit .nilFunc) := by and_intros <;> kernel_rfl
theorem t260 : gz.P.cellsOf 260 = 1 ∧ aggT gz.P 260 = some false ∧ gz.P.underlying 260 = some (.int .u64) ∧ elemT gz.P 260 = none ∧ zeroOf gz.P 260 = some (.lit (.int .u64 0)) := by and_intros <;> kernel_rfl
theorem t262 : gz.P.cellsOf 262 = 1 ∧ aggT gz.P 262 = some false ∧ elemT gz.P 262 = none ∧ zeroOf gz.P 262 = some (.lit .nilFunc) := by and_intros <;> kernel_rfl
theorem t263 : gz.P.cellsOf 263 = 1 ∧ aggT gz.P 263 = some false ∧ elemT gz.P 263 = none ∧ zeroOf gz.P 263 = some (.lit .nilFunc) := by and_intros <;> kernel_rfl
theorem t264 : gz.P.cellsOf 264 = 1 ∧ aggT gz.P 264 = some false ∧ elemT gz.P 264 = none ∧ zeroOf gz.P 264 = some (.lit .nilFunc) := by and_intros <;> kernel_rfl
theorem t265 : gz.P.cellsOf 265 = 1 ∧ aggT gz.P 265 = some false ∧ elemT gz.P 265 = none ∧ zeroOf gz.P 265 = some (.lit .nilFunc) := by and_intros <;> kernel_rfl
theorem t266 : gz.P.cellsOf 266 = 1 ∧ aggT gz.P 266 = some false ∧ elemT gz.P 266 = none ∧ zeroOf gz.P 266 = some (.lit .nilFunc) := by and_intros <;> kernel_rfl
theorem t267 : gz.P.cellsOf 267 = 1 ∧ aggT gz.P 267 = some false ∧ elemT gz.P 267 = none ∧ zeroOf gz.P 267 = some (.lit .nilFunc) := by and_intros <;> kernel_rfl
theorem t268 : gz.P.cellsOf 268 = 1 ∧ aggT gz.P 268 = some false ∧ elemT gz.P 268 = none ∧ zeroOf gz.P 268 = some (.lit .nilFunc) := by and_intros <;> kernel_rfl
theorem t269 : gz.P.cellsOf 269 = 1 ∧ aggT gz.P 269 = some false ∧ elemT gz.P 269 = none ∧ zeroOf gz.P 269 = some (.lit .nilFunc) := by and_intros <;> kernel_rfl
theorem t270 : gz.P.cellsOf 270 = 1 ∧ aggT gz.P 270 = some false ∧ elemT gz.P 270 = none ∧ zeroOf gz.P 270 = some (.lit .nilFunc) := by and_intros <;> kernel_rfl
theorem t271 : gz.P.cellsOf 271 = 1 ∧ aggT gz.P 271 = some false ∧ elemT gz.P 271 = none ∧ zeroOf gz.P 271 = some (.lit .nilFunc) := by and_intros <;> kernel_rfl
theorem t272 : gz.P.cellsOf 272 = 1 ∧ aggT gz.P 272 = some false ∧ elemT gz.P 272 = none ∧ zeroOf gz.P 272 = some (.lit .nilFunc) := by and_intros <;> kernel_rfl
theorem t273 : gz.P.cellsOf 273 = 1 ∧ aggT gz.P 273 = some false ∧ elemT gz.P 273 = none ∧ zeroOf gz.P 273 = some (.lit .nilFunc) := by and_intros <;> kernel_rfl
theorem t274 : gz.P.cellsOf 274 = 1 ∧ aggT gz.P 274 = some false ∧ elemT gz.P 274 = none ∧ zeroOf gz.P 274 = some (.lit .nilFunc) := by and_intros <;> kernel_rfl
theorem t275 : gz.P.cellsOf 275 = 1 ∧ aggT gz.P 275 = some false ∧ elemT gz.P 275 = none ∧ zeroOf gz.P 275 = some (.lit .nilFunc) := by and_intros <;> kernel_rfl
theorem t276 : gz.P.cellsOf 276 = 1 ∧ aggT gz.P 276 = some false ∧ elemT gz.P 276 = none ∧ zeroOf gz.P 276 = some (.lit .nilFunc) := by and_intros <;> kernel_rfl
theorem t277 : gz.P.cellsOf 277 = 1 ∧ aggT gz.P 277 = some false ∧ elemT gz.P 277 = none ∧ zeroOf gz.P 277 = some (.lit .nilFunc) := by and_intros <;> kernel_rfl
theorem t278 : gz.P.cellsOf 278 = 1 ∧ aggT gz.P 278 = some false ∧ elemT gz.P 278 = none ∧ zeroOf gz.P 278 = some (.lit .nilFunc) := by and_intros <;> kernel_rfl
theorem t279 : gz.P.cellsOf 279 = 1 ∧ aggT gz.P 279 = some false ∧ elemT gz.P 279 = none ∧ zeroOf gz.P 279 = some (.lit .nilFunc) := by and_intros <;> kernel_rfl
theorem t280 : gz.P.cellsOf 280 = 1 ∧ aggT gz.P 280 = some false ∧ elemT gz.P 280 = none ∧ zeroOf gz.P 280 = some (.lit .nilFunc) := by and_intros <;> kernel_rfl
theorem t281 : gz.P.cellsOf 281 = 1 ∧ aggT gz.P 281 = some false ∧ elemT gz.P 281 = none ∧ zeroOf gz.P 281 = some (.lit .nilFunc) := by and_intros <;> kernel_rfl
theorem t282 : gz.P.cellsOf 282 = 1 ∧ aggT gz.P 282 = some false ∧ gz.P.underlying 282 = some (.int .u32) ∧ elemT gz.P 282 = none ∧ zeroOf gz.P 282 = some (.lit (.int .u32 0)) := by and_intros <;> kernel_rfl
theorem t284 : gz.P.cellsOf 284 = 1 ∧ aggT gz.P 284 = some false ∧ elemT gz.P 284 = none ∧ zeroOf gz.P 284 = some (.lit .nilFunc) := by and_intros <;> kernel_rfl
theorem t285 : gz.P.cellsOf 285 = 1 ∧ aggT gz.P 285 = some false ∧ gz.P.underlying 285 = some (.int .u64) ∧ elemT gz.P 285 = none ∧ zeroOf gz.P 285 = some (.lit (.int .u64 0)) := by and_intros <;> kernel_rfl
theorem t287 : gz.P.cellsOf 287 = 1 ∧ aggT gz.P 287 = some false ∧ elemT gz.P 287 = none ∧ zeroOf gz.P 287 = some (.lit .nilFunc) := by and_intros <;> kernel_rfl
theorem t288 : gz.P.cellsOf 288 = 1 ∧ aggT gz.P 288 = some false ∧ elemT gz.P 288 = none ∧ zeroOf gz.P 288 = some (.lit .nilFunc) := by and_intros <;> kernel_rfl
theorem t289 : gz.P.cellsOf 289 = 1 ∧ aggT gz.P 289 = some false ∧ elemT gz.P 289 = none ∧ zeroOf gz.P 289 = some (.lit .nilFunc) := by and_intros <;> kernel_rfl
theorem t290 : gz.P.cellsOf 290 = 1 ∧ aggT gz.P 290 = some false ∧ elemT gz.P 290 = none ∧ zeroOf gz.P 290 = some (.lit .nilFunc) := by and_intros <;> kernel_rfl
theorem t292 : gz.P.cellsOf 292 = 1 ∧ aggT gz.P 292 = some false ∧ elemT gz.P 292 = none ∧ zeroOf gz.P 292 = some (.lit .nilFunc) := by and_intros <;> kernel_rfl
theorem t293 : gz.P.cellsOf 293 = 1 ∧ aggT gz.P 293 = some false ∧ elemT gz.P 293 = none ∧ zeroOf gz.P 293 = some (.lit .nilFunc) := by and_intros <;> kernel_rfl
theorem t295 : gz.P.cellsOf 295 = 1 ∧ aggT gz.P 295 = some false ∧ elemT gz.P 295 = none ∧ zeroOf gz.P 295 = some (.lit .nilFunc) := by and_intros <;> kernel_rfl
theorem t296 : gz.P.cellsOf 296 = 1 ∧ aggT gz.P 296 = some false ∧ elemT gz.P 296 = none ∧ zeroOf gz.P 296 = some (.lit .nilFunc) := by and_intros <;> kernel_rfl
theorem t297 : gz.P.cellsOf 297 = 1 ∧ aggT gz.P 297 = some false ∧ elemT gz.P 297 = none ∧ zeroOf gz.P 297 = some (.lit .nilFunc) := by and_intros <;> kernel_rfl
theorem t298 : gz.P.cellsOf 298 = 1 ∧ aggT gz.P 298 = some false ∧ elemT gz.P 298 = none ∧ zeroOf gz.P 298 = some (.lit .nilFunc) := by and_intros <;> kernel_rfl
theorem t299 : gz.P.cellsOf 299 = 1 ∧ aggT gz.P 299 = some false ∧ gz.P.underlying 299 = some (.int .i64) ∧ elemT gz.P 299 = none ∧ zeroOf gz.P 299 = some (.lit (.int .i64 0)) := by and_intros <;> kernel_rfl
theorem t301 : gz.P.cellsOf 301 = 1 ∧ aggT gz.P 301 = some false ∧ elemT gz.P 301 = none ∧ zeroOf gz.P 301 = some (.lit .nilFunc) := by and_intros <;> kernel_rfl
theorem t302 : gz.P.cellsOf 302 = 1 ∧ aggT gz.P 302 = some false ∧ elemT gz.P 302 = none ∧ zeroOf gz.P 302 = some (.lit (.pointer none)) := by and_intros <;> kernel_rfl
theorem t303 : gz.P.cellsOf 303 = 1 ∧ aggT gz.P 303 = some false ∧ elemT gz.P 303 = none ∧ zeroOf gz.P 303 = some (.lit .nilFunc) := by and_intros <;> kernel_rfl
theorem t304 : gz.P.cellsOf 304 = 1 ∧ aggT gz.P 304 = some false ∧ elemT gz.P 304 = none ∧ zeroOf gz.P 304 = some (.lit .nilFunc) := by and_intros <;> kernel_rfl
theorem t305 : gz.P.cellsOf 305 = 1 ∧ aggT gz.P 305 = some false ∧ elemT gz.P 305 = none ∧ zeroOf gz.P 305 = some (.lit .nilFunc) := by and_intros <;> kernel_rfl
theorem t306 : gz.P.cellsOf 306 = 1 ∧ aggT gz.P 306 = some false ∧ elemT gz.P 306 = none ∧ zeroOf gz.P 306 = some (.lit .nilFunc) := by and_intros <;> kernel_rfl
theorem t309 : gz.P.cellsOf 309 = 1 ∧ aggT gz.P 309 = some false ∧ elemT gz.P 309 = none ∧ zeroOf gz.P 309 = some (.lit .nilFunc) := by and_intros <;> kernel_rfl
theorem t310 : gz.P.cellsOf 310 = 1 ∧ aggT gz.P 310 = some false ∧ elemT gz.P 310 = none ∧ zeroOf gz.P 310 = some (.lit .nilFunc) := by and_intros <;> kernel_rfl
theorem t311 : gz.P.cellsOf 311 = 1 ∧ aggT gz.P 311 = some false ∧ elemT gz.P 311 = none ∧ zeroOf gz.P 311 = some (.lit .nilFunc) := by and_intros <;> kernel_rfl
theorem t312 : gz.P.cellsOf 312 = 1 ∧ aggT gz.P 312 = some false ∧ elemT gz.P 312 = none ∧ zeroOf gz.P 312 = some (.lit .nilFunc) := by and_intros <;> kernel_rfl
theorem t313 : gz.P.cellsOf 313 = 3 ∧ aggT gz.P 313 = some true ∧ elemT gz.P 313 = none ∧ zeroOf gz.P 313 = some (.agg [.lit (.string ByteArray.empty), .lit (.string ByteArray.empty), .lit .nilIface]) ∧ fieldT gz.P 313 0 = some (0, 9) ∧ fieldT gz.P 313 1 = some (1, 9) ∧ fieldT gz.P 313 2 = some (2, 246) ∧ structOf gz.P 313 = some [.lit (.string ByteArray.empty), .lit (.string ByteArray.empty), .lit .nilIface] := by and_intros <;> kernel_rfl
theorem t314 : gz.P.cellsOf 314 = 3 ∧ aggT gz.P 314 = some true ∧ elemT gz.P 314 = none ∧ zeroOf gz.P 314 = some (.agg [.lit (.string ByteArray.empty), .lit (.string ByteArray.empty), .lit .nilIface]) ∧ fieldT gz.P 314 0 = some (0, 9) ∧ fieldT gz.P 314 1 = some (1, 9) ∧ fieldT gz.P 314 2 = some (2, 246) ∧ structOf gz.P 314 = some [.lit (.string ByteArray.empty), .lit (.string ByteArray.empty), .lit .nilIface] := by and_intros <;> kernel_rfl
theorem t315 : gz.P.cellsOf 315 = 1 ∧ aggT gz.P 315 = some false ∧ elemT gz.P 315 = none ∧ zeroOf gz.P 315 = some (.lit .nilFunc) := by and_intros <;> kernel_rfl
theorem t316 : gz.P.cellsOf 316 = 1 ∧ aggT gz.P 316 = some false ∧ elemT gz.P 316 = none ∧ zeroOf gz.P 316 = some (.lit .nilFunc) := by and_intros <;> kernel_rfl
theorem t318 : gz.P.cellsOf 318 = 1 ∧ aggT gz.P 318 = some false ∧ elemT gz.P 318 = none ∧ zeroOf gz.P 318 = some (.lit .nilFunc) := by and_intros <;> kernel_rfl
theorem t319 : gz.P.cellsOf 319 = 1 ∧ aggT gz.P 319 = some false ∧ elemT gz.P 319 = none ∧ zeroOf gz.P 319 = some (.lit .nilFunc) := by and_intros <;> kernel_rfl
theorem t320 : gz.P.cellsOf 320 = 1 ∧ aggT gz.P 320 = some false ∧ elemT gz.P 320 = none ∧ zeroOf gz.P 320 = some (.lit (.pointer none)) := by and_intros <;> kernel_rfl
theorem t321 : gz.P.cellsOf 321 = 1 ∧ aggT gz.P 321 = some false ∧ elemT gz.P 321 = none ∧ zeroOf gz.P 321 = some (.lit (.pointer none)) := by and_intros <;> kernel_rfl
theorem t322 : gz.P.cellsOf 322 = 1 ∧ aggT gz.P 322 = some true ∧ elemT gz.P 322 = none ∧ zeroOf gz.P 322 = some (.agg [.lit (.string ByteArray.empty)]) ∧ fieldT gz.P 322 0 = some (0, 9) ∧ structOf gz.P 322 = some [.lit (.string ByteArray.empty)] ∧ plainStruct gz.P 322 = some [2] := by and_intros <;> kernel_rfl
theorem t323 : gz.P.cellsOf 323 = 1 ∧ aggT gz.P 323 = some true ∧ elemT gz.P 323 = none ∧ zeroOf gz.P 323 = some (.agg [.lit (.string ByteArray.empty)]) ∧ fieldT gz.P 323 0 = some (0, 9) ∧ structOf gz.P 323 = some [.lit (.string ByteArray.empty)] ∧ plainStruct gz.P 323 = some [2] := by and_intros <;> kernel_rfl
theorem t327 : gz.P.cellsOf 327 = 2 ∧ aggT gz.P 327 = some true ∧ elemT gz.P 327 = none ∧ zeroOf gz.P 327 = some (.agg [.lit (.int .u8 0), .lit (.int .u8 0)]) ∧ fieldT gz.P 327 0 = some (0, 5) ∧ fieldT gz.P 327 1 = some (1, 5) ∧ structOf gz.P 327 = some [.lit (.int .u8 0), .lit (.int .u8 0)] ∧ plainStruct gz.P 327 = some [0, 0] := by and_intros <;> kernel_rfl
theorem t328 : gz.P.cellsOf 328 = 2 ∧ aggT gz.P 328 = some true ∧ elemT gz.P 328 = none ∧ zeroOf gz.P 328 = some (.agg [.lit (.int .u8 0), .lit (.int .u8 0)]) ∧ fieldT gz.P 328 0 = some (0, 5) ∧ fieldT gz.P 328 1 = some (1, 5) ∧ structOf gz.P 328 = some [.lit (.int .u8 0), .lit (.int .u8 0)] ∧ plainStruct gz.P 328 = some [0, 0] := by and_intros <;> kernel_rfl
theorem t330 : gz.P.cellsOf 330 = 1 ∧ aggT gz.P 330 = some false ∧ elemT gz.P 330 = none ∧ zeroOf gz.P 330 = some (.lit .nilFunc) := by and_intros <;> kernel_rfl
theorem t336 : gz.P.cellsOf 336 = 1 ∧ aggT gz.P 336 = some false ∧ elemT gz.P 336 = none ∧ zeroOf gz.P 336 = some (.lit .nilFunc) := by and_intros <;> kernel_rfl
theorem t337 : gz.P.cellsOf 337 = 1 ∧ aggT gz.P 337 = some false ∧ gz.P.underlying 337 = some (.int .u8) ∧ elemT gz.P 337 = none ∧ zeroOf gz.P 337 = some (.lit (.int .u8 0)) := by and_intros <;> kernel_rfl
theorem t338 : gz.P.cellsOf 338 = 1 ∧ aggT gz.P 338 = some false ∧ gz.P.underlying 338 = some (.int .u8) ∧ elemT gz.P 338 = none ∧ zeroOf gz.P 338 = some (.lit (.int .u8 0)) := by and_intros <;> kernel_rfl
theorem t339 : gz.P.cellsOf 339 = 1 ∧ aggT gz.P 339 = some false ∧ elemT gz.P 339 = none ∧ zeroOf gz.P 339 = some (.lit .nilFunc) := by and_intros <;> kernel_rfl
theorem t340 : gz.P.cellsOf 340 = 1 ∧ aggT gz.P 340 = some false ∧ gz.P.underlying 340 = some (.int .i32) ∧ elemT gz.P 340 = none ∧ zeroOf gz.P 340 = some (.lit (.int .i32 0)) := by and_intros <;> kernel_rfl
theorem t341 : gz.P.cellsOf 341 = 1 ∧ aggT gz.P 341 = some false ∧ gz.P.underlying 341 = some (.int .i32) ∧ elemT gz.P 341 = none ∧ zeroOf gz.P 341 = some (.lit (.int .i32 0)) := by and_intros <;> kernel_rfl
theorem t342 : gz.P.cellsOf 342 = 11 ∧ aggT gz.P 342 = some true ∧ elemT gz.P 342 = none ∧ zeroOf gz.P 342 = some (.agg [.lit (.int .u64 0), .lit (.int .u64 0), .lit (.int .u32 0), .lit (.int .u8 0), .lit (.int .u8 0), .lit (.int .u8 0), .lit (.int .u8 0), .lit .nilFunc, .lit (.pointer none), .lit (.int .i32 0), .lit (.int .i32 0)]) ∧ fieldT gz.P 342 0 = some (0, 12) ∧ fieldT gz.P 342 1 = some (1, 12) ∧ fieldT gz.P 342 2 = some (2, 282) ∧ fieldT gz.P 342 3 = some (3, 337) ∧ fieldT gz.P 342 4 = some (4, 5) ∧ fieldT gz.P 342 5 = some (5, 5) ∧ fieldT gz.P 342 6 = some (6, 338) ∧ fieldT gz.P 342 7 = some (7, 339) ∧ fieldT gz.P 342 8 = some (8, 320) ∧ fieldT gz.P 342 9 = some (9, 340) ∧ fieldT gz.P 342 10 = some (10, 341) ∧ structOf gz.P 342 = some [.lit (.int .u64 0), .lit (.int .u64 0), .lit (.int .u32 0), .lit (.int .u8 0), .lit (.int .u8 0), .lit (.int .u8 0), .lit (.int .u8 0), .lit .nilFunc, .lit (.pointer none), .lit (.int .i32 0), .lit (.int .i32 0)] := by and_intros <;> kernel_rfl
theorem t344 : gz.P.cellsOf 344 = 1 ∧ aggT gz.P 344 = some false ∧ elemT gz.P 344 = none ∧ zeroOf gz.P 344 = some (.lit .nilFunc) := by and_intros <;> kernel_rfl
theorem t345 : gz.P.cellsOf 345 = 1 ∧ aggT gz.P 345 = some false ∧ elemT gz.P 345 = none ∧ zeroOf gz.P 345 = some (.lit .nilFunc) := by and_intros <;> kernel_rfl
theorem t347 : gz.P.cellsOf 347 = 1 ∧ aggT gz.P 347 = some false ∧ gz.P.underlying 347 = some (.slice 349) ∧ elemT gz.P 347 = some 349 ∧ zeroOf gz.P 347 = some (.lst true 2 []) := by and_intros <;> kernel_rfl
theorem t348 : gz.P.cellsOf 348 = 2 ∧ aggT gz.P 348 = some true ∧ elemT gz.P 348 = none ∧ zeroOf gz.P 348 = some (.agg [.lit (.int .i64 0), .lit (.int .i64 0)]) ∧ fieldT gz.P 348 0 = some (0, 2) ∧ fieldT gz.P 348 1 = some (1, 2) ∧ structOf gz.P 348 = some [.lit (.int .i64 0), .lit (.int .i64 0)] ∧ plainStruct gz.P 348 = some [0, 0] := by and_intros <;> kernel_rfl
theorem t349 : gz.P.cellsOf 349 = 2 ∧ aggT gz.P 349 = some true ∧ elemT gz.P 349 = none ∧ zeroOf gz.P 349 = some (.agg [.lit (.int .i64 0), .lit (.int .i64 0)]) ∧ fieldT gz.P 349 0 = some (0, 2) ∧ fieldT gz.P 349 1 = some (1, 2) ∧ structOf gz.P 349 = some [.lit (.int .i64 0), .lit (.int .i64 0)] ∧ plainStruct gz.P 349 = some [0, 0] := by and_intros <;> kernel_rfl
theorem tn2 {n : Nat} : fits gz.P 2 n = (n * 8 ≤ 140737488355328 ∧ n ≤ maxLen) := by
  have h : gz.P.bytesOf 2 = 8 := by kernel_rfl
  simp only [fits, h]
theorem tn4 {n : Nat} : fits gz.P 4 n = (n * 1 ≤ 140737488355328 ∧ n ≤ maxLen) := by
  have h : gz.P.bytesOf 4 = 1 := by kernel_rfl
  simp only [fits, h]
theorem tn5 {n : Nat} : fits gz.P 5 n = (n * 1 ≤ 140737488355328 ∧ n ≤ maxLen) := by
  have h : gz.P.bytesOf 5 = 1 := by kernel_rfl
  simp only [fits, h]
theorem tn9 {n : Nat} : fits gz.P 9 n = (n * 16 ≤ 140737488355328 ∧ n ≤ maxLen) := by
  have h : gz.P.bytesOf 9 = 16 := by kernel_rfl
  simp only [fits, h]
theorem tn29 {n : Nat} : fits gz.P 29 n = (n * 208 ≤ 140737488355328 ∧ n ≤ maxLen) := by
  have h : gz.P.bytesOf 29 = 208 := by kernel_rfl
  simp only [fits, h]
theorem tn37 {n : Nat} : fits gz.P 37 n = (n * 208 ≤ 140737488355328 ∧ n ≤ maxLen) := by
  have h : gz.P.bytesOf 37 = 208 := by kernel_rfl
  simp only [fits, h]
theorem tn115 {n : Nat} : fits gz.P 115 n = (n * 112 ≤ 140737488355328 ∧ n ≤ maxLen) := by
  have h : gz.P.bytesOf 115 = 112 := by kernel_rfl
  simp only [fits, h]
theorem tn121 {n : Nat} : fits gz.P 121 n = (n * 32 ≤ 140737488355328 ∧ n ≤ maxLen) := by
  have h : gz.P.bytesOf 121 = 32 := by kernel_rfl
  simp only [fits, h]
theorem tn123 {n : Nat} : fits gz.P 123 n = (n * 16 ≤ 140737488355328 ∧ n ≤ maxLen) := by
  have h : gz.P.bytesOf 123 = 16 := by kernel_rfl
  simp only [fits, h]
theorem tn170 {n : Nat} : fits gz.P 170 n = (n * 24 ≤ 140737488355328 ∧ n ≤ maxLen) := by
  have h : gz.P.bytesOf 170 = 24 := by kernel_rfl
  simp only [fits, h]
theorem tn183 {n : Nat} : fits gz.P 183 n = (n * 240 ≤ 140737488355328 ∧ n ≤ maxLen) := by
  have h : gz.P.bytesOf 183 = 240 := by kernel_rfl
  simp only [fits, h]
theorem tn211 {n : Nat} : fits gz.P 211 n = (n * 112 ≤ 140737488355328 ∧ n ≤ maxLen) := by
  have h : gz.P.bytesOf 211 = 112 := by kernel_rfl
  simp only [fits, h]
theorem tn219 {n : Nat} : fits gz.P 219 n = (n * 32 ≤ 140737488355328 ∧ n ≤ maxLen) := by
  have h : gz.P.bytesOf 219 = 32 := by kernel_rfl
  simp only [fits, h]
theorem tn221 {n : Nat} : fits gz.P 221 n = (n * 16 ≤ 140737488355328 ∧ n ≤ maxLen) := by
  have h : gz.P.bytesOf 221 = 16 := by kernel_rfl
  simp only [fits, h]
theorem tn234 {n : Nat} : fits gz.P 234 n = (n * 24 ≤ 140737488355328 ∧ n ≤ maxLen) := by
  have h : gz.P.bytesOf 234 = 24 := by kernel_rfl
  simp only [fits, h]
theorem tn254 {n : Nat} : fits gz.P 254 n = (n * 240 ≤ 140737488355328 ∧ n ≤ maxLen) := by
  have h : gz.P.bytesOf 254 = 240 := by kernel_rfl
  simp only [fits, h]
theorem tn349 {n : Nat} : fits gz.P 349 n = (n * 16 ≤ 140737488355328 ∧ n ≤ maxLen) := by
  have h : gz.P.bytesOf 349 = 16 := by kernel_rfl
  simp only [fits, h]
attribute [go_sem] t1 t2 t3 t4 t5 t6 t9 t10 t11 t12 t15 t16 t17 t20 t21 t22 t23 t24 t25 t26 t27 t28 t29 t30 t31 t32 t33 t34 t35 t36 t37 t38 t39 t40 t41 t42 t43 t44 t45 t46 t47 t48 t50 t51 t52 t53 t54 t55 t56 t58 t60 t61 t62 t64 t65 t66 t67 t69 t70 t71 t72 t73 t74 t75 t76 t77 t78 t79 t80 t81 t82 t83 t84 t85 t86 t87 t89 t91 t93 t95 t96 t97 t98 t99 t100 t101 t102 t103 t104 t105 t106 t107 t108 t109 t110 t111 t112 t113 t114 t115 t116 t117 t118 t119 t120 t121 t122 t123 t124 t125 t126 t127 t128 t129 t130 t131 t132 t133 t134 t135 t136 t137 t138 t139 t140 t141 t142 t143 t144 t145 t146 t147 t148 t149 t150 t151 t152 t153 t154 t155 t156 t157 t158 t159 t161 t162 t163 t164 t166 t168 t169 t170 t171 t172 t173 t174 t175 t176 t177 t178 t179 t180 t181 t182 t183 t184 t185 t186 t187 t188 t189 t190 t191 t192 t193 t194 t196 t197 t198 t199 t200 t201 t202 t203 t204 t205 t206 t207 t209 t210 t211 t212 t213 t214 t215 t216 t217 t218 t219 t220 t221 t222 t223 t224 t225 t226 t227 t228 t229 t230 t231 t232 t233 t234 t235 t236 t237 t238 t239 t240 t241 t242 t243 t244 t245 t246 t248 t249 t250 t251 t252 t253 t254 t255 t256 t257 t258 t259 t260 t262 t263 t264 t265 t266 t267 t268 t269 t270 t271 t272 t273 t274 t275 t276 t277 t278 t279 t280 t281 t282 t284 t285 t287 t288 t289 t290 t292 t293 t295 t296 t297 t298 t299 t301 t302 t303 t304 t305 t306 t309 t310 t311 t312 t313 t314 t315 t316 t318 t319 t320 t321 t322 t323 t327 t328 t330 t336 t337 t338 t339 t340 t341 t342 t344 t345 t347 t348 t349 tn2 tn4 tn5 tn9 tn29 tn37 tn115 tn121 tn123 tn170 tn183 tn211 tn219 tn221 tn234 tn254 tn349
theorem ti20 : isIfc (gz.P.underlying 20) = true := by kernel_rfl
theorem ti245 : isIfc (gz.P.underlying 245) = true := by kernel_rfl
theorem ti246 : isIfc (gz.P.underlying 246) = true := by kernel_rfl
attribute [go_sem] ti20 ti245 ti246
end Go.VS
