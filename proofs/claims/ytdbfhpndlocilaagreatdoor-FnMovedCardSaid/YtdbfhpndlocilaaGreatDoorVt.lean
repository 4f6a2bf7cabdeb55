/- The types of the program, as rules. -/
import Derived.Test.YtdbfhpndlocilaaGreatDoorProg
import Derived.KernelRfl
import Derived.Lib.LaidTab
import Derived.Lib.ItoaNum
import Derived.Test.YtdbfhpndlocilaaGreatDoorVn
set_option linter.unusedSimpArgs false
open Go.Proofs
set_option maxRecDepth 20000
namespace Go.VS
theorem mixedP : Tryz.prog.follows .mixedOrders = true := by kernel_rfl
def GlZ (w : World) : Prop := Lib.TabIs Tryz.prog w "internal/strconv.uint64pow10" .u64 Lib.pow10Tab ∧ (∃ m, w.cell? ⟨0, 0, none⟩ = some (.int .i64 m)) ∧
  (∃ ev, w.cell? ⟨1, 0, none⟩ = some ev ∧ (ev = .nilIface ∨ ∃ te pe, ev = .iface te pe)) ∧ (∃ ev, w.cell? ⟨2, 0, none⟩ = some ev ∧ (ev = .nilIface ∨ ∃ te pe, ev = .iface te pe))
theorem GlZ_stay (w w' : World) (h : ∀ b, b < 8 → w'.heap[b]? = w.heap[b]?) (hg : GlZ w) : GlZ w' := by
  obtain ⟨h1, h2, h3, h4⟩ := hg
  have hn : Tryz.prog.globalNamed "internal/strconv.uint64pow10" = some 5 := by kernel_rfl
  refine ⟨?_, ?_, ?_, ?_⟩
  · unfold Lib.TabIs World.var? at h1 ⊢
    rw [hn] at h1 ⊢
    simp only [Option.bind_some] at h1 ⊢
    rw [h 5 (by decide)]
    exact h1
  · simpa only [World.cell?, h 0 (by decide)] using h2
  · simpa only [World.cell?, h 1 (by decide)] using h3
  · simpa only [World.cell?, h 2 (by decide)] using h4
noncomputable def gz : Sys := { P := Tryz.prog, mixed := mixedP, ng := 8, Gl := GlZ, stay := GlZ_stay }
theorem GlTab {w : World} (h : gz.Gl w) : Lib.TabIs Tryz.prog w "internal/strconv.uint64pow10" .u64 Lib.pow10Tab := h.1
theorem t1 : gz.P.cellsOf 1 = 1 ∧ aggT gz.P 1 = some false ∧ elemT gz.P 1 = none ∧ zeroOf gz.P 1 = some (.lit .nilFunc) := by and_intros <;> kernel_rfl
theorem t2 : gz.P.cellsOf 2 = 1 ∧ aggT gz.P 2 = some false ∧ gz.P.underlying 2 = some (.int .i64) ∧ elemT gz.P 2 = none ∧ zeroOf gz.P 2 = some (.lit (.int .i64 0)) := by and_intros <;> kernel_rfl
theorem t3 : gz.P.cellsOf 3 = 1 ∧ aggT gz.P 3 = some false ∧ gz.P.underlying 3 = some (.int .i64) ∧ elemT gz.P 3 = none ∧ zeroOf gz.P 3 = some (.lit (.int .i64 0)) := by and_intros <;> kernel_rfl
theorem t4 : gz.P.cellsOf 4 = 1 ∧ aggT gz.P 4 = some false ∧ gz.P.underlying 4 = some (.bool) ∧ elemT gz.P 4 = none ∧ zeroOf gz.P 4 = some (.lit (.bool false)) := by and_intros <;> kernel_rfl
theorem t5 : gz.P.cellsOf 5 = 1 ∧ aggT gz.P 5 = some false ∧ gz.P.underlying 5 = some (.int .u8) ∧ elemT gz.P 5 = none ∧ zeroOf gz.P 5 = some (.lit (.int .u8 0)) := by and_intros <;> kernel_rfl
theorem t6 : gz.P.cellsOf 6 = 1 ∧ aggT gz.P 6 = some false ∧ gz.P.underlying 6 = some (.int .u8) ∧ elemT gz.P 6 = none ∧ zeroOf gz.P 6 = some (.lit (.int .u8 0)) := by and_intros <;> kernel_rfl
theorem t9 : gz.P.cellsOf 9 = 1 ∧ aggT gz.P 9 = some false ∧ gz.P.underlying 9 = some (.string) ∧ elemT gz.P 9 = none ∧ zeroOf gz.P 9 = some (.lit (.string ByteArray.empty)) := by and_intros <;> kernel_rfl
theorem t10 : gz.P.cellsOf 10 = 1 ∧ aggT gz.P 10 = some false ∧ gz.P.underlying 10 = some (.string) ∧ elemT gz.P 10 = none ∧ zeroOf gz.P 10 = some (.lit (.string ByteArray.empty)) := by and_intros <;> kernel_rfl
theorem t11 : gz.P.cellsOf 11 = 1 ∧ aggT gz.P 11 = some false ∧ gz.P.underlying 11 = some (.string) ∧ elemT gz.P 11 = none ∧ zeroOf gz.P 11 = some (.lit (.string ByteArray.empty)) := by and_intros <;> kernel_rfl
theorem t12 : gz.P.cellsOf 12 = 1 ∧ aggT gz.P 12 = some false ∧ gz.P.underlying 12 = some (.int .u64) ∧ elemT gz.P 12 = none ∧ zeroOf gz.P 12 = some (.lit (.int .u64 0)) := by and_intros <;> kernel_rfl
theorem t15 : gz.P.cellsOf 15 = 1 ∧ aggT gz.P 15 = some false ∧ elemT gz.P 15 = none ∧ zeroOf gz.P 15 = some (.lit (.pointer none)) := by and_intros <;> kernel_rfl
theorem t16 : gz.P.cellsOf 16 = 1 ∧ aggT gz.P 16 = some false ∧ elemT gz.P 16 = none ∧ zeroOf gz.P 16 = some (.lit (.pointer none)) := by and_intros <;> kernel_rfl
theorem t17 : gz.P.cellsOf 17 = 1 ∧ aggT gz.P 17 = some false ∧ elemT gz.P 17 = none ∧ zeroOf gz.P 17 = some (.lit (.pointer none)) := by and_intros <;> kernel_rfl
theorem t20 : gz.P.cellsOf 20 = 1 ∧ aggT gz.P 20 = some false ∧ gz.P.underlying 20 = some (.interface #[]) ∧ elemT gz.P 20 = none := by and_intros <;> kernel_rfl
theorem t21 : gz.P.cellsOf 21 = 1 ∧ aggT gz.P 21 = some false ∧ gz.P.underlying 21 = some (.int .i32) ∧ elemT gz.P 21 = none ∧ zeroOf gz.P 21 = some (.lit (.int .i32 0)) := by and_intros <;> kernel_rfl
theorem t22 : gz.P.cellsOf 22 = 1 ∧ aggT gz.P 22 = some false ∧ gz.P.underlying 22 = some (.slice 5) ∧ elemT gz.P 22 = some 5 ∧ zeroOf gz.P 22 = some (.lst true 1 []) := by and_intros <;> kernel_rfl
theorem t23 : gz.P.cellsOf 23 = 1 ∧ aggT gz.P 23 = some false ∧ elemT gz.P 23 = none ∧ zeroOf gz.P 23 = some (.lit .nilFunc) := by and_intros <;> kernel_rfl
theorem t24 : gz.P.cellsOf 24 = 1 ∧ aggT gz.P 24 = some false ∧ gz.P.underlying 24 = some (.slice 2) ∧ elemT gz.P 24 = some 2 ∧ zeroOf gz.P 24 = some (.lst true 1 []) := by and_intros <;> kernel_rfl
theorem t25 : gz.P.cellsOf 25 = 2 ∧ aggT gz.P 25 = some true ∧ elemT gz.P 25 = none ∧ zeroOf gz.P 25 = some (.agg [.lst true 1 [], .lst true 1 []]) ∧ fieldT gz.P 25 0 = some (0, 24) ∧ fieldT gz.P 25 1 = some (1, 24) ∧ structOf gz.P 25 = some [.lst true 1 [], .lst true 1 []] := by and_intros <;> kernel_rfl
theorem t26 : gz.P.cellsOf 26 = 2 ∧ aggT gz.P 26 = some true ∧ elemT gz.P 26 = none ∧ zeroOf gz.P 26 = some (.agg [.lst true 1 [], .lst true 1 []]) ∧ fieldT gz.P 26 0 = some (0, 24) ∧ fieldT gz.P 26 1 = some (1, 24) ∧ structOf gz.P 26 = some [.lst true 1 [], .lst true 1 []] := by and_intros <;> kernel_rfl
theorem t27 : gz.P.cellsOf 27 = 4 ∧ aggT gz.P 27 = some true ∧ elemT gz.P 27 = none ∧ zeroOf gz.P 27 = some (.agg [.lit (.int .i64 0), .lit (.int .i64 0), .lit (.int .i64 0), .lit (.int .i64 0)]) ∧ fieldT gz.P 27 0 = some (0, 2) ∧ fieldT gz.P 27 1 = some (1, 2) ∧ fieldT gz.P 27 2 = some (2, 2) ∧ fieldT gz.P 27 3 = some (3, 2) ∧ structOf gz.P 27 = some [.lit (.int .i64 0), .lit (.int .i64 0), .lit (.int .i64 0), .lit (.int .i64 0)] ∧ plainStruct gz.P 27 = some [0, 0, 0, 0] := by and_intros <;> kernel_rfl
theorem t28 : gz.P.cellsOf 28 = 4 ∧ aggT gz.P 28 = some true ∧ elemT gz.P 28 = none ∧ zeroOf gz.P 28 = some (.agg [.lit (.int .i64 0), .lit (.int .i64 0), .lit (.int .i64 0), .lit (.int .i64 0)]) ∧ fieldT gz.P 28 0 = some (0, 2) ∧ fieldT gz.P 28 1 = some (1, 2) ∧ fieldT gz.P 28 2 = some (2, 2) ∧ fieldT gz.P 28 3 = some (3, 2) ∧ structOf gz.P 28 = some [.lit (.int .i64 0), .lit (.int .i64 0), .lit (.int .i64 0), .lit (.int .i64 0)] ∧ plainStruct gz.P 28 = some [0, 0, 0, 0] := by and_intros <;> kernel_rfl
theorem t30 : gz.P.cellsOf 30 = 1 ∧ aggT gz.P 30 = some false ∧ elemT gz.P 30 = none ∧ zeroOf gz.P 30 = some (.lit .nilFunc) := by and_intros <;> kernel_rfl
theorem t32 : gz.P.cellsOf 32 = 1 ∧ aggT gz.P 32 = some false ∧ elemT gz.P 32 = none ∧ zeroOf gz.P 32 = some (.lit .nilFunc) := by and_intros <;> kernel_rfl
theorem t33 : gz.P.cellsOf 33 = 1 ∧ aggT gz.P 33 = some false ∧ gz.P.underlying 33 = some (.slice 9) ∧ elemT gz.P 33 = some 9 ∧ zeroOf gz.P 33 = some (.lst true 1 []) := by and_intros <;> kernel_rfl
theorem t35 : gz.P.cellsOf 35 = 1 ∧ aggT gz.P 35 = some false ∧ elemT gz.P 35 = none ∧ zeroOf gz.P 35 = some (.lit .nilFunc) := by and_intros <;> kernel_rfl
theorem t37 : gz.P.cellsOf 37 = 1 ∧ aggT gz.P 37 = some false ∧ elemT gz.P 37 = none ∧ zeroOf gz.P 37 = some (.lit .nilFunc) := by and_intros <;> kernel_rfl
theorem t38 : gz.P.cellsOf 38 = 1 ∧ aggT gz.P 38 = some false ∧ elemT gz.P 38 = none ∧ zeroOf gz.P 38 = some (.lit .nilFunc) := by and_intros <;> kernel_rfl
theorem t39 : gz.P.cellsOf 39 = 1 ∧ aggT gz.P 39 = some false ∧ elemT gz.P 39 = none ∧ zeroOf gz.P 39 = some (.lit .nilFunc) := by and_intros <;> kernel_rfl
theorem t40 : gz.P.cellsOf 40 = 1 ∧ aggT gz.P 40 = some false ∧ elemT gz.P 40 = none ∧ zeroOf gz.P 40 = some (.lit .nilFunc) := by and_intros <;> kernel_rfl
theorem t41 : gz.P.cellsOf 41 = 1 ∧ aggT gz.P 41 = some false ∧ elemT gz.P 41 = none ∧ zeroOf gz.P 41 = some (.lit .nilFunc) := by and_intros <;> kernel_rfl
theorem t42 : gz.P.cellsOf 42 = 1 ∧ aggT gz.P 42 = some false ∧ elemT gz.P 42 = none ∧ zeroOf gz.P 42 = some (.lit .nilFunc) := by and_intros <;> kernel_rfl
theorem t43 : gz.P.cellsOf 43 = 1 ∧ aggT gz.P 43 = some false ∧ elemT gz.P 43 = none ∧ zeroOf gz.P 43 = some (.lit .nilFunc) := by and_intros <;> kernel_rfl
theorem t44 : gz.P.cellsOf 44 = 4 ∧ aggT gz.P 44 = some true ∧ elemT gz.P 44 = none ∧ zeroOf gz.P 44 = some (.agg [.lit (.int .i64 0), .lit (.int .i64 0), .lst true 1 [], .lst true 1 []]) ∧ fieldT gz.P 44 0 = some (0, 2) ∧ fieldT gz.P 44 1 = some (1, 2) ∧ fieldT gz.P 44 2 = some (2, 24) ∧ fieldT gz.P 44 3 = some (3, 24) ∧ structOf gz.P 44 = some [.lit (.int .i64 0), .lit (.int .i64 0), .lst true 1 [], .lst true 1 []] := by and_intros <;> kernel_rfl
theorem t45 : gz.P.cellsOf 45 = 4 ∧ aggT gz.P 45 = some true ∧ elemT gz.P 45 = none ∧ zeroOf gz.P 45 = some (.agg [.lit (.int .i64 0), .lit (.int .i64 0), .lst true 1 [], .lst true 1 []]) ∧ fieldT gz.P 45 0 = some (0, 2) ∧ fieldT gz.P 45 1 = some (1, 2) ∧ fieldT gz.P 45 2 = some (2, 24) ∧ fieldT gz.P 45 3 = some (3, 24) ∧ structOf gz.P 45 = some [.lit (.int .i64 0), .lit (.int .i64 0), .lst true 1 [], .lst true 1 []] := by and_intros <;> kernel_rfl
theorem t46 : gz.P.cellsOf 46 = 1 ∧ aggT gz.P 46 = some false ∧ gz.P.underlying 46 = some (.slice 120) ∧ elemT gz.P 46 = some 120 ∧ zeroOf gz.P 46 = some (.lst true 8 []) := by and_intros <;> kernel_rfl
theorem t47 : gz.P.cellsOf 47 = 1 ∧ aggT gz.P 47 = some false ∧ gz.P.underlying 47 = some (.slice 134) ∧ elemT gz.P 47 = some 134 ∧ zeroOf gz.P 47 = some (.lst true 4 []) := by and_intros <;> kernel_rfl
theorem t48 : gz.P.cellsOf 48 = 1 ∧ aggT gz.P 48 = some false ∧ gz.P.underlying 48 = some (.slice 136) ∧ elemT gz.P 48 = some 136 ∧ zeroOf gz.P 48 = some (.lst true 2 []) := by and_intros <;> kernel_rfl
theorem t49 : gz.P.cellsOf 49 = 14 ∧ aggT gz.P 49 = some true ∧ elemT gz.P 49 = none ∧ zeroOf gz.P 49 = some (.agg [.lit (.int .i64 0), .lit (.int .i64 0), .lit (.int .i64 0), .lit (.int .i64 0), .lit (.int .i64 0), .lit (.int .i64 0), .agg [.lit (.int .i64 0), .lit (.int .i64 0), .lst true 1 [], .lst true 1 []], .lst true 8 [], .lst true 4 [], .lst true 2 [], .lst true 1 []]) ∧ fieldT gz.P 49 0 = some (0, 2) ∧ fieldT gz.P 49 1 = some (1, 2) ∧ fieldT gz.P 49 2 = some (2, 2) ∧ fieldT gz.P 49 3 = some (3, 2) ∧ fieldT gz.P 49 4 = some (4, 2) ∧ fieldT gz.P 49 5 = some (5, 2) ∧ fieldT gz.P 49 6 = some (6, 45) ∧ fieldT gz.P 49 7 = some (10, 46) ∧ fieldT gz.P 49 8 = some (11, 47) ∧ fieldT gz.P 49 9 = some (12, 48) ∧ fieldT gz.P 49 10 = some (13, 24) ∧ structOf gz.P 49 = some [.lit (.int .i64 0), .lit (.int .i64 0), .lit (.int .i64 0), .lit (.int .i64 0), .lit (.int .i64 0), .lit (.int .i64 0), .agg [.lit (.int .i64 0), .lit (.int .i64 0), .lst true 1 [], .lst true 1 []], .lst true 8 [], .lst true 4 [], .lst true 2 [], .lst true 1 []] := by and_intros <;> kernel_rfl
theorem t50 : gz.P.cellsOf 50 = 14 ∧ aggT gz.P 50 = some true ∧ elemT gz.P 50 = none ∧ zeroOf gz.P 50 = some (.agg [.lit (.int .i64 0), .lit (.int .i64 0), .lit (.int .i64 0), .lit (.int .i64 0), .lit (.int .i64 0), .lit (.int .i64 0), .agg [.lit (.int .i64 0), .lit (.int .i64 0), .lst true 1 [], .lst true 1 []], .lst true 8 [], .lst true 4 [], .lst true 2 [], .lst true 1 []]) ∧ fieldT gz.P 50 0 = some (0, 2) ∧ fieldT gz.P 50 1 = some (1, 2) ∧ fieldT gz.P 50 2 = some (2, 2) ∧ fieldT gz.P 50 3 = some (3, 2) ∧ fieldT gz.P 50 4 = some (4, 2) ∧ fieldT gz.P 50 5 = some (5, 2) ∧ fieldT gz.P 50 6 = some (6, 45) ∧ fieldT gz.P 50 7 = some (10, 46) ∧ fieldT gz.P 50 8 = some (11, 47) ∧ fieldT gz.P 50 9 = some (12, 48) ∧ fieldT gz.P 50 10 = some (13, 24) ∧ structOf gz.P 50 = some [.lit (.int .i64 0), .lit (.int .i64 0), .lit (.int .i64 0), .lit (.int .i64 0), .lit (.int .i64 0), .lit (.int .i64 0), .agg [.lit (.int .i64 0), .lit (.int .i64 0), .lst true 1 [], .lst true 1 []], .lst true 8 [], .lst true 4 [], .lst true 2 [], .lst true 1 []] := by and_intros <;> kernel_rfl
theorem t51 : gz.P.cellsOf 51 = 1 ∧ aggT gz.P 51 = some false ∧ elemT gz.P 51 = none ∧ zeroOf gz.P 51 = some (.lit .nilFunc) := by and_intros <;> kernel_rfl
theorem t52 : gz.P.cellsOf 52 = 1 ∧ aggT gz.P 52 = some false ∧ elemT gz.P 52 = none ∧ zeroOf gz.P 52 = some (.lit .nilFunc) := by and_intros <;> kernel_rfl
theorem t53 : gz.P.cellsOf 53 = 4 ∧ aggT gz.P 53 = some true ∧ elemT gz.P 53 = none ∧ zeroOf gz.P 53 = some (.agg [.lit (.int .i64 0), .lit (.int .i64 0), .lst true 1 [], .lst true 1 []]) ∧ fieldT gz.P 53 0 = some (0, 2) ∧ fieldT gz.P 53 1 = some (1, 2) ∧ fieldT gz.P 53 2 = some (2, 24) ∧ fieldT gz.P 53 3 = some (3, 24) ∧ structOf gz.P 53 = some [.lit (.int .i64 0), .lit (.int .i64 0), .lst true 1 [], .lst true 1 []] := by and_intros <;> kernel_rfl
theorem t54 : gz.P.cellsOf 54 = 1 ∧ aggT gz.P 54 = some false ∧ gz.P.underlying 54 = some (.slice 89) ∧ elemT gz.P 54 = some 89 ∧ zeroOf gz.P 54 = some (.lst true 8 []) := by and_intros <;> kernel_rfl
theorem t55 : gz.P.cellsOf 55 = 1 ∧ aggT gz.P 55 = some false ∧ gz.P.underlying 55 = some (.slice 127) ∧ elemT gz.P 55 = some 127 ∧ zeroOf gz.P 55 = some (.lst true 4 []) := by and_intros <;> kernel_rfl
theorem t56 : gz.P.cellsOf 56 = 1 ∧ aggT gz.P 56 = some false ∧ gz.P.underlying 56 = some (.slice 129) ∧ elemT gz.P 56 = some 129 ∧ zeroOf gz.P 56 = some (.lst true 2 []) := by and_intros <;> kernel_rfl
theorem t57 : gz.P.cellsOf 57 = 14 ∧ aggT gz.P 57 = some true ∧ elemT gz.P 57 = none ∧ zeroOf gz.P 57 = some (.agg [.lit (.int .i64 0), .lit (.int .i64 0), .lit (.int .i64 0), .lit (.int .i64 0), .lit (.int .i64 0), .lit (.int .i64 0), .agg [.lit (.int .i64 0), .lit (.int .i64 0), .lst true 1 [], .lst true 1 []], .lst true 8 [], .lst true 4 [], .lst true 2 [], .lst true 1 []]) ∧ fieldT gz.P 57 0 = some (0, 2) ∧ fieldT gz.P 57 1 = some (1, 2) ∧ fieldT gz.P 57 2 = some (2, 2) ∧ fieldT gz.P 57 3 = some (3, 2) ∧ fieldT gz.P 57 4 = some (4, 2) ∧ fieldT gz.P 57 5 = some (5, 2) ∧ fieldT gz.P 57 6 = some (6, 53) ∧ fieldT gz.P 57 7 = some (10, 54) ∧ fieldT gz.P 57 8 = some (11, 55) ∧ fieldT gz.P 57 9 = some (12, 56) ∧ fieldT gz.P 57 10 = some (13, 24) ∧ structOf gz.P 57 = some [.lit (.int .i64 0), .lit (.int .i64 0), .lit (.int .i64 0), .lit (.int .i64 0), .lit (.int .i64 0), .lit (.int .i64 0), .agg [.lit (.int .i64 0), .lit (.int .i64 0), .lst true 1 [], .lst true 1 []], .lst true 8 [], .lst true 4 [], .lst true 2 [], .lst true 1 []] := by and_intros <;> kernel_rfl
theorem t58 : gz.P.cellsOf 58 = 14 ∧ aggT gz.P 58 = some true ∧ elemT gz.P 58 = none ∧ zeroOf gz.P 58 = some (.agg [.lit (.int .i64 0), .lit (.int .i64 0), .lit (.int .i64 0), .lit (.int .i64 0), .lit (.int .i64 0), .lit (.int .i64 0), .agg [.lit (.int .i64 0), .lit (.int .i64 0), .lst true 1 [], .lst true 1 []], .lst true 8 [], .lst true 4 [], .lst true 2 [], .lst true 1 []]) ∧ fieldT gz.P 58 0 = some (0, 2) ∧ fieldT gz.P 58 1 = some (1, 2) ∧ fieldT gz.P 58 2 = some (2, 2) ∧ fieldT gz.P 58 3 = some (3, 2) ∧ fieldT gz.P 58 4 = some (4, 2) ∧ fieldT gz.P 58 5 = some (5, 2) ∧ fieldT gz.P 58 6 = some (6, 53) ∧ fieldT gz.P 58 7 = some (10, 54) ∧ fieldT gz.P 58 8 = some (11, 55) ∧ fieldT gz.P 58 9 = some (12, 56) ∧ fieldT gz.P 58 10 = some (13, 24) ∧ structOf gz.P 58 = some [.lit (.int .i64 0), .lit (.int .i64 0), .lit (.int .i64 0), .lit (.int .i64 0), .lit (.int .i64 0), .lit (.int .i64 0), .agg [.lit (.int .i64 0), .lit (.int .i64 0), .lst true 1 [], .lst true 1 []], .lst true 8 [], .lst true 4 [], .lst true 2 [], .lst true 1 []] := by and_intros <;> kernel_rfl
theorem t59 : gz.P.cellsOf 59 = 1 ∧ aggT gz.P 59 = some false ∧ elemT gz.P 59 = none ∧ zeroOf gz.P 59 = some (.lit .nilFunc) := by and_intros <;> kernel_rfl
theorem t60 : gz.P.cellsOf 60 = 1 ∧ aggT gz.P 60 = some false ∧ elemT gz.P 60 = none ∧ zeroOf gz.P 60 = some (.lit .nilFunc) := by and_intros <;> kernel_rfl
theorem t61 : gz.P.cellsOf 61 = 1 ∧ aggT gz.P 61 = some false ∧ elemT gz.P 61 = none ∧ zeroOf gz.P 61 = some (.lit .nilFunc) := by and_intros <;> kernel_rfl
theorem t62 : gz.P.cellsOf 62 = 1 ∧ aggT gz.P 62 = some false ∧ elemT gz.P 62 = none ∧ zeroOf gz.P 62 = some (.lit .nilFunc) := by and_intros <;> kernel_rfl
theorem t63 : gz.P.cellsOf 63 = 1 ∧ aggT gz.P 63 = some false ∧ elemT gz.P 63 = none ∧ zeroOf gz.P 63 = some (.lit .nilFunc) := by and_intros <;> kernel_rfl
theorem t64 : gz.P.cellsOf 64 = 1 ∧ aggT gz.P 64 = some false ∧ elemT gz.P 64 = none ∧ zeroOf gz.P 64 = some (.lit .nilFunc) := by and_intros <;> kernel_rfl
theorem t65 : gz.P.cellsOf 65 = 1 ∧ aggT gz.P 65 = some false ∧ elemT gz.P 65 = none ∧ zeroOf gz.P 65 = some (.lit (.pointer none)) := by and_intros <;> kernel_rfl
theorem t66 : gz.P.cellsOf 66 = 1 ∧ aggT gz.P 66 = some false ∧ elemT gz.P 66 = none ∧ zeroOf gz.P 66 = some (.lit .nilFunc) := by and_intros <;> kernel_rfl
theorem t67 : gz.P.cellsOf 67 = 1 ∧ aggT gz.P 67 = some false ∧ elemT gz.P 67 = none ∧ zeroOf gz.P 67 = some (.lit .nilFunc) := by and_intros <;> kernel_rfl
theorem t68 : gz.P.cellsOf 68 = 1 ∧ aggT gz.P 68 = some false ∧ elemT gz.P 68 = none ∧ zeroOf gz.P 68 = some (.lit .nilFunc) := by and_intros <;> kernel_rfl
theorem t69 : gz.P.cellsOf 69 = 1 ∧ aggT gz.P 69 = some false ∧ elemT gz.P 69 = none ∧ zeroOf gz.P 69 = some (.lit .nilFunc) := by and_intros <;> kernel_rfl
theorem t70 : gz.P.cellsOf 70 = 1 ∧ aggT gz.P 70 = some false ∧ elemT gz.P 70 = none ∧ zeroOf gz.P 70 = some (.lit .nilFunc) := by and_intros <;> kernel_rfl
theorem t71 : gz.P.cellsOf 71 = 1 ∧ aggT gz.P 71 = some false ∧ elemT gz.P 71 = none ∧ zeroOf gz.P 71 = some (.lit .nilFunc) := by and_intros <;> kernel_rfl
theorem t72 : gz.P.cellsOf 72 = 1 ∧ aggT gz.P 72 = some false ∧ elemT gz.P 72 = none ∧ zeroOf gz.P 72 = some (.lit .nilFunc) := by and_intros <;> kernel_rfl
theorem t73 : gz.P.cellsOf 73 = 1 ∧ aggT gz.P 73 = some false ∧ elemT gz.P 73 = none ∧ zeroOf gz.P 73 = some (.lit .nilFunc) := by and_intros <;> kernel_rfl
theorem t74 : gz.P.cellsOf 74 = 1 ∧ aggT gz.P 74 = some false ∧ elemT gz.P 74 = none ∧ zeroOf gz.P 74 = some (.lit .nilFunc) := by and_intros <;> kernel_rfl
theorem t76 : gz.P.cellsOf 76 = 1 ∧ aggT gz.P 76 = some false ∧ elemT gz.P 76 = none ∧ zeroOf gz.P 76 = some (.lit .nilFunc) := by and_intros <;> kernel_rfl
theorem t77 : gz.P.cellsOf 77 = 1 ∧ aggT gz.P 77 = some false ∧ elemT gz.P 77 = none ∧ zeroOf gz.P 77 = some (.lit .nilFunc) := by and_intros <;> kernel_rfl
theorem t78 : gz.P.cellsOf 78 = 1 ∧ aggT gz.P 78 = some false ∧ elemT gz.P 78 = none ∧ zeroOf gz.P 78 = some (.lit .nilFunc) := by and_intros <;> kernel_rfl
theorem t79 : gz.P.cellsOf 79 = 1 ∧ aggT gz.P 79 = some false ∧ elemT gz.P 79 = none ∧ zeroOf gz.P 79 = some (.lit .nilFunc) := by and_intros <;> kernel_rfl
theorem t80 : gz.P.cellsOf 80 = 1 ∧ aggT gz.P 80 = some false ∧ elemT gz.P 80 = none ∧ zeroOf gz.P 80 = some (.lit .nilFunc) := by and_intros <;> kernel_rfl
theorem t81 : gz.P.cellsOf 81 = 1 ∧ aggT gz.P 81 = some false ∧ elemT gz.P 81 = none ∧ zeroOf gz.P 81 = some (.lit .nilFunc) := by and_intros <;> kernel_rfl
theorem t82 : gz.P.cellsOf 82 = 1 ∧ aggT gz.P 82 = some false ∧ elemT gz.P 82 = none ∧ zeroOf gz.P 82 = some (.lit .nilFunc) := by and_intros <;> kernel_rfl
theorem t83 : gz.P.cellsOf 83 = 1 ∧ aggT gz.P 83 = some false ∧ elemT gz.P 83 = none ∧ zeroOf gz.P 83 = some (.lit .nilFunc) := by and_intros <;> kernel_rfl
theorem t84 : gz.P.cellsOf 84 = 1 ∧ aggT gz.P 84 = some false ∧ elemT gz.P 84 = none ∧ zeroOf gz.P 84 = some (.lit .nilFunc) := by and_intros <;> kernel_rfl
theorem t85 : gz.P.cellsOf 85 = 1 ∧ aggT gz.P 85 = some false ∧ elemT gz.P 85 = none ∧ zeroOf gz.P 85 = some (.lit .nilFunc) := by and_intros <;> kernel_rfl
theorem t86 : gz.P.cellsOf 86 = 1 ∧ aggT gz.P 86 = some false ∧ elemT gz.P 86 = none ∧ zeroOf gz.P 86 = some (.lit .nilFunc) := by and_intros <;> kernel_rfl
theorem t87 : gz.P.cellsOf 87 = 1 ∧ aggT gz.P 87 = some false ∧ elemT gz.P 87 = none ∧ zeroOf gz.P 87 = some (.lit .nilFunc) := by and_intros <;> kernel_rfl
theorem t88 : gz.P.cellsOf 88 = 8 ∧ aggT gz.P 88 = some true ∧ elemT gz.P 88 = none ∧ zeroOf gz.P 88 = some (.agg [.lit (.int .i64 0), .lit (.int .i64 0), .agg [.lit (.int .i64 0), .lit (.int .i64 0), .lst true 1 [], .lst true 1 []], .lst true 1 [], .lit (.int .i64 0)]) ∧ fieldT gz.P 88 0 = some (0, 2) ∧ fieldT gz.P 88 1 = some (1, 2) ∧ fieldT gz.P 88 2 = some (2, 53) ∧ fieldT gz.P 88 3 = some (6, 33) ∧ fieldT gz.P 88 4 = some (7, 2) ∧ structOf gz.P 88 = some [.lit (.int .i64 0), .lit (.int .i64 0), .agg [.lit (.int .i64 0), .lit (.int .i64 0), .lst true 1 [], .lst true 1 []], .lst true 1 [], .lit (.int .i64 0)] := by and_intros <;> kernel_rfl
theorem t89 : gz.P.cellsOf 89 = 8 ∧ aggT gz.P 89 = some true ∧ elemT gz.P 89 = none ∧ zeroOf gz.P 89 = some (.agg [.lit (.int .i64 0), .lit (.int .i64 0), .agg [.lit (.int .i64 0), .lit (.int .i64 0), .lst true 1 [], .lst true 1 []], .lst true 1 [], .lit (.int .i64 0)]) ∧ fieldT gz.P 89 0 = some (0, 2) ∧ fieldT gz.P 89 1 = some (1, 2) ∧ fieldT gz.P 89 2 = some (2, 53) ∧ fieldT gz.P 89 3 = some (6, 33) ∧ fieldT gz.P 89 4 = some (7, 2) ∧ structOf gz.P 89 = some [.lit (.int .i64 0), .lit (.int .i64 0), .agg [.lit (.int .i64 0), .lit (.int .i64 0), .lst true 1 [], .lst true 1 []], .lst true 1 [], .lit (.int .i64 0)] := by and_intros <;> kernel_rfl
theorem t90 : gz.P.cellsOf 90 = 1 ∧ aggT gz.P 90 = some false ∧ elemT gz.P 90 = none ∧ zeroOf gz.P 90 = some (.lit .nilFunc) := by and_intros <;> kernel_rfl
theorem t91 : gz.P.cellsOf 91 = 1 ∧ aggT gz.P 91 = some false ∧ elemT gz.P 91 = none ∧ zeroOf gz.P 91 = some (.lit .nilFunc) := by and_intros <;> kernel_rfl
theorem t92 : gz.P.cellsOf 92 = 1 ∧ aggT gz.P 92 = some false ∧ elemT gz.P 92 = none ∧ zeroOf gz.P 92 = some (.lit .nilFunc) := by and_intros <;> kernel_rfl
theorem t93 : gz.P.cellsOf 93 = 1 ∧ aggT gz.P 93 = some false ∧ elemT gz.P 93 = none ∧ zeroOf gz.P 93 = some (.lit .nilFunc) := by and_intros <;> kernel_rfl
theorem t94 : gz.P.cellsOf 94 = 1 ∧ aggT gz.P 94 = some false ∧ elemT gz.P 94 = none ∧ zeroOf gz.P 94 = some (.lit .nilFunc) := by and_intros <;> kernel_rfl
theorem t95 : gz.P.cellsOf 95 = 1 ∧ aggT gz.P 95 = some false ∧ elemT gz.P 95 = none ∧ zeroOf gz.P 95 = some (.lit (.pointer none)) := by and_intros <;> kernel_rfl
theorem t96 : gz.P.cellsOf 96 = 1 ∧ aggT gz.P 96 = some false ∧ elemT gz.P 96 = none ∧ zeroOf gz.P 96 = some (.lit .nilFunc) := by and_intros <;> kernel_rfl
theorem t97 : gz.P.cellsOf 97 = 1 ∧ aggT gz.P 97 = some false ∧ elemT gz.P 97 = none ∧ zeroOf gz.P 97 = some (.lit .nilFunc) := by and_intros <;> kernel_rfl
theorem t98 : gz.P.cellsOf 98 = 1 ∧ aggT gz.P 98 = some false ∧ elemT gz.P 98 = none ∧ zeroOf gz.P 98 = some (.lit .nilFunc) := by and_intros <;> kernel_rfl
theorem t99 : gz.P.cellsOf 99 = 1 ∧ aggT gz.P 99 = some false ∧ elemT gz.P 99 = none ∧ zeroOf gz.P 99 = some (.lit .nilFunc) := by and_intros <;> kernel_rfl
theorem t100 : gz.P.cellsOf 100 = 1 ∧ aggT gz.P 100 = some false ∧ elemT gz.P 100 = none ∧ zeroOf gz.P 100 = some (.lit .nilFunc) := by and_intros <;> kernel_rfl
theorem t101 : gz.P.cellsOf 101 = 1 ∧ aggT gz.P 101 = some false ∧ elemT gz.P 101 = none ∧ zeroOf gz.P 101 = some (.lit .nilFunc) := by and_intros <;> kernel_rfl
theorem t102 : gz.P.cellsOf 102 = 1 ∧ aggT gz.P 102 = some false ∧ elemT gz.P 102 = none ∧ zeroOf gz.P 102 = some (.lit .nilFunc) := by and_intros <;> kernel_rfl
theorem t103 : gz.P.cellsOf 103 = 1 ∧ aggT gz.P 103 = some false ∧ elemT gz.P 103 = none ∧ zeroOf gz.P 103 = some (.lit .nilFunc) := by and_intros <;> kernel_rfl
theorem t104 : gz.P.cellsOf 104 = 1 ∧ aggT gz.P 104 = some false ∧ elemT gz.P 104 = none ∧ zeroOf gz.P 104 = some (.lit .nilFunc) := by and_intros <;> kernel_rfl
theorem t105 : gz.P.cellsOf 105 = 1 ∧ aggT gz.P 105 = some false ∧ elemT gz.P 105 = none ∧ zeroOf gz.P 105 = some (.lit .nilFunc) := by and_intros <;> kernel_rfl
theorem t106 : gz.P.cellsOf 106 = 3 ∧ aggT gz.P 106 = some true ∧ elemT gz.P 106 = none ∧ zeroOf gz.P 106 = some (.agg [.lst true 1 [], .lit (.int .i64 0), .lit (.int .i64 0)]) ∧ fieldT gz.P 106 0 = some (0, 22) ∧ fieldT gz.P 106 1 = some (1, 3) ∧ fieldT gz.P 106 2 = some (2, 2) ∧ structOf gz.P 106 = some [.lst true 1 [], .lit (.int .i64 0), .lit (.int .i64 0)] := by and_intros <;> kernel_rfl
theorem t107 : gz.P.cellsOf 107 = 3 ∧ aggT gz.P 107 = some true ∧ elemT gz.P 107 = none ∧ zeroOf gz.P 107 = some (.agg [.lst true 1 [], .lit (.int .i64 0), .lit (.int .i64 0)]) ∧ fieldT gz.P 107 0 = some (0, 22) ∧ fieldT gz.P 107 1 = some (1, 3) ∧ fieldT gz.P 107 2 = some (2, 2) ∧ structOf gz.P 107 = some [.lst true 1 [], .lit (.int .i64 0), .lit (.int .i64 0)] := by and_intros <;> kernel_rfl
theorem t108 : gz.P.cellsOf 108 = 1 ∧ aggT gz.P 108 = some false ∧ elemT gz.P 108 = none ∧ zeroOf gz.P 108 = some (.lit .nilFunc) := by and_intros <;> kernel_rfl
theorem t109 : gz.P.cellsOf 109 = 1 ∧ aggT gz.P 109 = some false ∧ elemT gz.P 109 = none ∧ zeroOf gz.P 109 = some (.lit .nilFunc) := by and_intros <;> kernel_rfl
theorem t110 : gz.P.cellsOf 110 = 1 ∧ aggT gz.P 110 = some false ∧ elemT gz.P 110 = none ∧ zeroOf gz.P 110 = some (.lit .nilFunc) := by and_intros <;> kernel_rfl
theorem t112 : gz.P.cellsOf 112 = 1 ∧ aggT gz.P 112 = some false ∧ elemT gz.P 112 = none ∧ zeroOf gz.P 112 = some (.lit .nilFunc) := by and_intros <;> kernel_rfl
theorem t113 : gz.P.cellsOf 113 = 1 ∧ aggT gz.P 113 = some false ∧ elemT gz.P 113 = none ∧ zeroOf gz.P 113 = some (.lit .nilFunc) := by and_intros <;> kernel_rfl
theorem t114 : gz.P.cellsOf 114 = 1 ∧ aggT gz.P 114 = some false ∧ elemT gz.P 114 = none ∧ zeroOf gz.P 114 = some (.lit .nilFunc) := by and_intros <;> kernel_rfl
theorem t115 : gz.P.cellsOf 115 = 1 ∧ aggT gz.P 115 = some false ∧ gz.P.underlying 115 = some (.int .u64) ∧ elemT gz.P 115 = none ∧ zeroOf gz.P 115 = some (.lit (.int .u64 0)) := by and_intros <;> kernel_rfl
theorem t117 : gz.P.cellsOf 117 = 1 ∧ aggT gz.P 117 = some false ∧ elemT gz.P 117 = none ∧ zeroOf gz.P 117 = some (.lit .nilFunc) := by and_intros <;> kernel_rfl
theorem t118 : gz.P.cellsOf 118 = 1 ∧ aggT gz.P 118 = some false ∧ elemT gz.P 118 = none ∧ zeroOf gz.P 118 = some (.lit .nilFunc) := by and_intros <;> kernel_rfl
theorem t119 : gz.P.cellsOf 119 = 8 ∧ aggT gz.P 119 = some true ∧ elemT gz.P 119 = none ∧ zeroOf gz.P 119 = some (.agg [.lit (.int .i64 0), .lit (.int .i64 0), .agg [.lit (.int .i64 0), .lit (.int .i64 0), .lst true 1 [], .lst true 1 []], .lst true 1 [], .lit (.int .i64 0)]) ∧ fieldT gz.P 119 0 = some (0, 2) ∧ fieldT gz.P 119 1 = some (1, 2) ∧ fieldT gz.P 119 2 = some (2, 45) ∧ fieldT gz.P 119 3 = some (6, 33) ∧ fieldT gz.P 119 4 = some (7, 2) ∧ structOf gz.P 119 = some [.lit (.int .i64 0), .lit (.int .i64 0), .agg [.lit (.int .i64 0), .lit (.int .i64 0), .lst true 1 [], .lst true 1 []], .lst true 1 [], .lit (.int .i64 0)] := by and_intros <;> kernel_rfl
theorem t120 : gz.P.cellsOf 120 = 8 ∧ aggT gz.P 120 = some true ∧ elemT gz.P 120 = none ∧ zeroOf gz.P 120 = some (.agg [.lit (.int .i64 0), .lit (.int .i64 0), .agg [.lit (.int .i64 0), .lit (.int .i64 0), .lst true 1 [], .lst true 1 []], .lst true 1 [], .lit (.int .i64 0)]) ∧ fieldT gz.P 120 0 = some (0, 2) ∧ fieldT gz.P 120 1 = some (1, 2) ∧ fieldT gz.P 120 2 = some (2, 45) ∧ fieldT gz.P 120 3 = some (6, 33) ∧ fieldT gz.P 120 4 = some (7, 2) ∧ structOf gz.P 120 = some [.lit (.int .i64 0), .lit (.int .i64 0), .agg [.lit (.int .i64 0), .lit (.int .i64 0), .lst true 1 [], .lst true 1 []], .lst true 1 [], .lit (.int .i64 0)] := by and_intros <;> kernel_rfl
theorem t121 : gz.P.cellsOf 121 = 1 ∧ aggT gz.P 121 = some false ∧ elemT gz.P 121 = none ∧ zeroOf gz.P 121 = some (.lit .nilFunc) := by and_intros <;> kernel_rfl
theorem t122 : gz.P.cellsOf 122 = 1 ∧ aggT gz.P 122 = some false ∧ elemT gz.P 122 = none ∧ zeroOf gz.P 122 = some (.lit .nilFunc) := by and_intros <;> kernel_rfl
theorem t123 : gz.P.cellsOf 123 = 1 ∧ aggT gz.P 123 = some false ∧ elemT gz.P 123 = none ∧ zeroOf gz.P 123 = some (.lit .nilFunc) := by and_intros <;> kernel_rfl
theorem t124 : gz.P.cellsOf 124 = 1 ∧ aggT gz.P 124 = some false ∧ elemT gz.P 124 = none ∧ zeroOf gz.P 124 = some (.lit .nilFunc) := by and_intros <;> kernel_rfl
theorem t125 : gz.P.cellsOf 125 = 1 ∧ aggT gz.P 125 = some false ∧ elemT gz.P 125 = none ∧ zeroOf gz.P 125 = some (.lit .nilFunc) := by and_intros <;> kernel_rfl
theorem t126 : gz.P.cellsOf 126 = 4 ∧ aggT gz.P 126 = some true ∧ elemT gz.P 126 = none ∧ zeroOf gz.P 126 = some (.agg [.lit (.int .i64 0), .lit (.int .i64 0), .lit (.int .i64 0), .lit (.int .i64 0)]) ∧ fieldT gz.P 126 0 = some (0, 2) ∧ fieldT gz.P 126 1 = some (1, 2) ∧ fieldT gz.P 126 2 = some (2, 2) ∧ fieldT gz.P 126 3 = some (3, 2) ∧ structOf gz.P 126 = some [.lit (.int .i64 0), .lit (.int .i64 0), .lit (.int .i64 0), .lit (.int .i64 0)] ∧ plainStruct gz.P 126 = some [0, 0, 0, 0] := by and_intros <;> kernel_rfl
theorem t127 : gz.P.cellsOf 127 = 4 ∧ aggT gz.P 127 = some true ∧ elemT gz.P 127 = none ∧ zeroOf gz.P 127 = some (.agg [.lit (.int .i64 0), .lit (.int .i64 0), .lit (.int .i64 0), .lit (.int .i64 0)]) ∧ fieldT gz.P 127 0 = some (0, 2) ∧ fieldT gz.P 127 1 = some (1, 2) ∧ fieldT gz.P 127 2 = some (2, 2) ∧ fieldT gz.P 127 3 = some (3, 2) ∧ structOf gz.P 127 = some [.lit (.int .i64 0), .lit (.int .i64 0), .lit (.int .i64 0), .lit (.int .i64 0)] ∧ plainStruct gz.P 127 = some [0, 0, 0, 0] := by and_intros <;> kernel_rfl
theorem t128 : gz.P.cellsOf 128 = 2 ∧ aggT gz.P 128 = some true ∧ elemT gz.P 128 = none ∧ zeroOf gz.P 128 = some (.agg [.lit (.int .i64 0), .lit (.int .i64 0)]) ∧ fieldT gz.P 128 0 = some (0, 2) ∧ fieldT gz.P 128 1 = some (1, 2) ∧ structOf gz.P 128 = some [.lit (.int .i64 0), .lit (.int .i64 0)] ∧ plainStruct gz.P 128 = some [0, 0] := by and_intros <;> kernel_rfl
theorem t129 : gz.P.cellsOf 129 = 2 ∧ aggT gz.P 129 = some true ∧ elemT gz.P 129 = none ∧ zeroOf gz.P 129 = some (.agg [.lit (.int .i64 0), .lit (.int .i64 0)]) ∧ fieldT gz.P 129 0 = some (0, 2) ∧ fieldT gz.P 129 1 = some (1, 2) ∧ structOf gz.P 129 = some [.lit (.int .i64 0), .lit (.int .i64 0)] ∧ plainStruct gz.P 129 = some [0, 0] := by and_intros <;> kernel_rfl
theorem t130 : gz.P.cellsOf 130 = 1 ∧ aggT gz.P 130 = some false ∧ elemT gz.P 130 = none ∧ zeroOf gz.P 130 = some (.lit .nilFunc) := by and_intros <;> kernel_rfl
theorem t131 : gz.P.cellsOf 131 = 1 ∧ aggT gz.P 131 = some false ∧ elemT gz.P 131 = none ∧ zeroOf gz.P 131 = some (.lit .nilFunc) := by and_intros <;> kernel_rfl
theorem t132 : gz.P.cellsOf 132 = 1 ∧ aggT gz.P 132 = some false ∧ elemT gz.P 132 = none ∧ zeroOf gz.P 132 = some (.lit .nilFunc) := by and_intros <;> kernel_rfl
theorem t133 : gz.P.cellsOf 133 = 1 ∧ aggT gz.P 133 = some false ∧ elemT gz.P 133 = none ∧ zeroOf gz.P 133 = some (.lit .nilFunc) := by and_intros <;> kernel_rfl
theorem t134 : gz.P.cellsOf 134 = 4 ∧ aggT gz.P 134 = some true ∧ elemT gz.P 134 = none ∧ zeroOf gz.P 134 = some (.agg [.lit (.int .i64 0), .lit (.int .i64 0), .lit (.int .i64 0), .lit (.int .i64 0)]) ∧ fieldT gz.P 134 0 = some (0, 2) ∧ fieldT gz.P 134 1 = some (1, 2) ∧ fieldT gz.P 134 2 = some (2, 2) ∧ fieldT gz.P 134 3 = some (3, 2) ∧ structOf gz.P 134 = some [.lit (.int .i64 0), .lit (.int .i64 0), .lit (.int .i64 0), .lit (.int .i64 0)] ∧ plainStruct gz.P 134 = some [0, 0, 0, 0] := by and_intros <;> kernel_rfl
theorem t135 : gz.P.cellsOf 135 = 1 ∧ aggT gz.P 135 = some false ∧ elemT gz.P 135 = none ∧ zeroOf gz.P 135 = some (.lit .nilFunc) := by and_intros <;> kernel_rfl
theorem t136 : gz.P.cellsOf 136 = 2 ∧ aggT gz.P 136 = some true ∧ elemT gz.P 136 = none ∧ zeroOf gz.P 136 = some (.agg [.lit (.int .i64 0), .lit (.int .i64 0)]) ∧ fieldT gz.P 136 0 = some (0, 2) ∧ fieldT gz.P 136 1 = some (1, 2) ∧ structOf gz.P 136 = some [.lit (.int .i64 0), .lit (.int .i64 0)] ∧ plainStruct gz.P 136 = some [0, 0] := by and_intros <;> kernel_rfl
theorem t137 : gz.P.cellsOf 137 = 1 ∧ aggT gz.P 137 = some false ∧ elemT gz.P 137 = none ∧ zeroOf gz.P 137 = some (.lit .nilFunc) := by and_intros <;> kernel_rfl
theorem t138 : gz.P.cellsOf 138 = 1 ∧ aggT gz.P 138 = some false ∧ elemT gz.P 138 = none ∧ zeroOf gz.P 138 = some (.lit .nilFunc) := by and_intros <;> kernel_rfl
theorem t139 : gz.P.cellsOf 139 = 1 ∧ aggT gz.P 139 = some false ∧ elemT gz.P 139 = none ∧ zeroOf gz.P 139 = some (.lit .nilFunc) := by and_intros <;> kernel_rfl
theorem t140 : gz.P.cellsOf 140 = 1 ∧ aggT gz.P 140 = some false ∧ elemT gz.P 140 = none ∧ zeroOf gz.P 140 = some (.lit .nilFunc) := by and_intros <;> kernel_rfl
theorem t141 : gz.P.cellsOf 141 = 1 ∧ aggT gz.P 141 = some false ∧ elemT gz.P 141 = none ∧ zeroOf gz.P 141 = some (.lit .nilFunc) := by and_intros <;> kernel_rfl
theorem t142 : gz.P.cellsOf 142 = 1 ∧ aggT gz.P 142 = some false ∧ elemT gz.P 142 = none ∧ zeroOf gz.P 142 = some (.lit .nilFunc) := by and_intros <;> kernel_rfl
theorem t143 : gz.P.cellsOf 143 = 1 ∧ aggT gz.P 143 = some false ∧ elemT gz.P 143 = none ∧ zeroOf gz.P 143 = some (.lit .nilFunc) := by and_intros <;> kernel_rfl
theorem t144 : gz.P.cellsOf 144 = 1 ∧ aggT gz.P 144 = some false ∧ elemT gz.P 144 = none ∧ zeroOf gz.P 144 = some (.lit .nilFunc) := by and_intros <;> kernel_rfl
theorem t145 : gz.P.cellsOf 145 = 1 ∧ aggT gz.P 145 = some false ∧ gz.P.underlying 145 = some (.slice 255) ∧ elemT gz.P 145 = some 255 ∧ zeroOf gz.P 145 = some (.lst true 20 []) := by and_intros <;> kernel_rfl
theorem t146 : gz.P.cellsOf 146 = 16 ∧ aggT gz.P 146 = some true ∧ elemT gz.P 146 = none ∧ zeroOf gz.P 146 = some (.agg [.agg [.lit (.int .i64 0), .lit (.int .i64 0), .lit (.int .i64 0), .lit (.int .i64 0), .lit (.int .i64 0), .lit (.int .i64 0), .agg [.lit (.int .i64 0), .lit (.int .i64 0), .lst true 1 [], .lst true 1 []], .lst true 8 [], .lst true 4 [], .lst true 2 [], .lst true 1 []], .lst true 1 [], .lst true 20 []]) ∧ fieldT gz.P 146 0 = some (0, 58) ∧ fieldT gz.P 146 1 = some (14, 24) ∧ fieldT gz.P 146 2 = some (15, 145) ∧ structOf gz.P 146 = some [.agg [.lit (.int .i64 0), .lit (.int .i64 0), .lit (.int .i64 0), .lit (.int .i64 0), .lit (.int .i64 0), .lit (.int .i64 0), .agg [.lit (.int .i64 0), .lit (.int .i64 0), .lst true 1 [], .lst true 1 []], .lst true 8 [], .lst true 4 [], .lst true 2 [], .lst true 1 []], .lst true 1 [], .lst true 20 []] := by and_intros <;> kernel_rfl
theorem t147 : gz.P.cellsOf 147 = 16 ∧ aggT gz.P 147 = some true ∧ elemT gz.P 147 = none ∧ zeroOf gz.P 147 = some (.agg [.agg [.lit (.int .i64 0), .lit (.int .i64 0), .lit (.int .i64 0), .lit (.int .i64 0), .lit (.int .i64 0), .lit (.int .i64 0), .agg [.lit (.int .i64 0), .lit (.int .i64 0), .lst true 1 [], .lst true 1 []], .lst true 8 [], .lst true 4 [], .lst true 2 [], .lst true 1 []], .lst true 1 [], .lst true 20 []]) ∧ fieldT gz.P 147 0 = some (0, 58) ∧ fieldT gz.P 147 1 = some (14, 24) ∧ fieldT gz.P 147 2 = some (15, 145) ∧ structOf gz.P 147 = some [.agg [.lit (.int .i64 0), .lit (.int .i64 0), .lit (.int .i64 0), .lit (.int .i64 0), .lit (.int .i64 0), .lit (.int .i64 0), .agg [.lit (.int .i64 0), .lit (.int .i64 0), .lst true 1 [], .lst true 1 []], .lst true 8 [], .lst true 4 [], .lst true 2 [], .lst true 1 []], .lst true 1 [], .lst true 20 []] := by and_intros <;> kernel_rfl
theorem t148 : gz.P.cellsOf 148 = 1 ∧ aggT gz.P 148 = some false ∧ elemT gz.P 148 = none ∧ zeroOf gz.P 148 = some (.lit .nilFunc) := by and_intros <;> kernel_rfl
theorem t149 : gz.P.cellsOf 149 = 1 ∧ aggT gz.P 149 = some false ∧ elemT gz.P 149 = none ∧ zeroOf gz.P 149 = some (.lit .nilFunc) := by and_intros <;> kernel_rfl
theorem t150 : gz.P.cellsOf 150 = 1 ∧ aggT gz.P 150 = some false ∧ elemT gz.P 150 = none ∧ zeroOf gz.P 150 = some (.lit .nilFunc) := by and_intros <;> kernel_rfl
theorem t151 : gz.P.cellsOf 151 = 1 ∧ aggT gz.P 151 = some false ∧ elemT gz.P 151 = none ∧ zeroOf gz.P 151 = some (.lit .nilFunc) := by and_intros <;> kernel_rfl
theorem t152 : gz.P.cellsOf 152 = 1 ∧ aggT gz.P 152 = some false ∧ elemT gz.P 152 = none ∧ zeroOf gz.P 152 = some (.lit .nilFunc) := by and_intros <;> kernel_rfl
theorem t153 : gz.P.cellsOf 153 = 1 ∧ aggT gz.P 153 = some false ∧ elemT gz.P 153 = none ∧ zeroOf gz.P 153 = some (.lit .nilFunc) := by and_intros <;> kernel_rfl
theorem t154 : gz.P.cellsOf 154 = 1 ∧ aggT gz.P 154 = some false ∧ elemT gz.P 154 = none ∧ zeroOf gz.P 154 = some (.lit .nilFunc) := by and_intros <;> kernel_rfl
theorem t155 : gz.P.cellsOf 155 = 1 ∧ aggT gz.P 155 = some false ∧ elemT gz.P 155 = none := by and_intros <;> kernel_rfl
theorem t156 : gz.P.cellsOf 156 = 1 ∧ aggT gz.P 156 = some false ∧ elemT gz.P 156 = none := by and_intros <;> kernel_rfl
theorem t158 : gz.P.cellsOf 158 = 1 ∧ aggT gz.P 158 = some false ∧ elemT gz.P 158 = none ∧ zeroOf gz.P 158 = some (.lit .nilFunc) := by and_intros <;> kernel_rfl
theorem t159 : gz.P.cellsOf 159 = 1 ∧ aggT gz.P 159 = some false ∧ elemT gz.P 159 = none ∧ zeroOf gz.P 159 = some (.lit .nilFunc) := by and_intros <;> kernel_rfl
theorem t160 : gz.P.cellsOf 160 = 1 ∧ aggT gz.P 160 = some false ∧ gz.P.underlying 160 = some (.int .u32) ∧ elemT gz.P 160 = none ∧ zeroOf gz.P 160 = some (.lit (.int .u32 0)) := by and_intros <;> kernel_rfl
theorem t162 : gz.P.cellsOf 162 = 1 ∧ aggT gz.P 162 = some false ∧ elemT gz.P 162 = none ∧ zeroOf gz.P 162 = some (.lit .nilFunc) := by and_intros <;> kernel_rfl
theorem t163 : gz.P.cellsOf 163 = 1 ∧ aggT gz.P 163 = some false ∧ gz.P.underlying 163 = some (.int .u64) ∧ elemT gz.P 163 = none ∧ zeroOf gz.P 163 = some (.lit (.int .u64 0)) := by and_intros <;> kernel_rfl
theorem t165 : gz.P.cellsOf 165 = 1 ∧ aggT gz.P 165 = some false ∧ elemT gz.P 165 = none ∧ zeroOf gz.P 165 = some (.lit .nilFunc) := by and_intros <;> kernel_rfl
theorem t166 : gz.P.cellsOf 166 = 1 ∧ aggT gz.P 166 = some false ∧ elemT gz.P 166 = none ∧ zeroOf gz.P 166 = some (.lit .nilFunc) := by and_intros <;> kernel_rfl
theorem t167 : gz.P.cellsOf 167 = 1 ∧ aggT gz.P 167 = some false ∧ elemT gz.P 167 = none ∧ zeroOf gz.P 167 = some (.lit .nilFunc) := by and_intros <;> kernel_rfl
theorem t168 : gz.P.cellsOf 168 = 1 ∧ aggT gz.P 168 = some false ∧ elemT gz.P 168 = none ∧ zeroOf gz.P 168 = some (.lit .nilFunc) := by and_intros <;> kernel_rfl
theorem t169 : gz.P.cellsOf 169 = 1 ∧ aggT gz.P 169 = some false ∧ elemT gz.P 169 = none ∧ zeroOf gz.P 169 = some (.lit .nilFunc) := by and_intros <;> kernel_rfl
theorem t170 : gz.P.cellsOf 170 = 1 ∧ aggT gz.P 170 = some false ∧ elemT gz.P 170 = none ∧ zeroOf gz.P 170 = some (.lit .nilFunc) := by and_intros <;> kernel_rfl
theorem t171 : gz.P.cellsOf 171 = 1 ∧ aggT gz.P 171 = some false ∧ elemT gz.P 171 = none ∧ zeroOf gz.P 171 = some (.lit .nilFunc) := by and_intros <;> kernel_rfl
theorem t172 : gz.P.cellsOf 172 = 1 ∧ aggT gz.P 172 = some false ∧ elemT gz.P 172 = none ∧ zeroOf gz.P 172 = some (.lit .nilFunc) := by and_intros <;> kernel_rfl
theorem t173 : gz.P.cellsOf 173 = 1 ∧ aggT gz.P 173 = some false ∧ elemT gz.P 173 = none ∧ zeroOf gz.P 173 = some (.lit .nilFunc) := by and_intros <;> kernel_rfl
theorem t174 : gz.P.cellsOf 174 = 1 ∧ aggT gz.P 174 = some false ∧ elemT gz.P 174 = none ∧ zeroOf gz.P 174 = some (.lit .nilFunc) := by and_intros <;> kernel_rfl
theorem t175 : gz.P.cellsOf 175 = 1 ∧ aggT gz.P 175 = some false ∧ elemT gz.P 175 = none ∧ zeroOf gz.P 175 = some (.lit .nilFunc) := by and_intros <;> kernel_rfl
theorem t176 : gz.P.cellsOf 176 = 1 ∧ aggT gz.P 176 = some false ∧ elemT gz.P 176 = none ∧ zeroOf gz.P 176 = some (.lit .nilFunc) := by and_intros <;> kernel_rfl
theorem t177 : gz.P.cellsOf 177 = 1 ∧ aggT gz.P 177 = some false ∧ elemT gz.P 177 = none ∧ zeroOf gz.P 177 = some (.lit .nilFunc) := by and_intros <;> kernel_rfl
theorem t178 : gz.P.cellsOf 178 = 1 ∧ aggT gz.P 178 = some false ∧ elemT gz.P 178 = none ∧ zeroOf gz.P 178 = some (.lit .nilFunc) := by and_intros <;> kernel_rfl
theorem t179 : gz.P.cellsOf 179 = 1 ∧ aggT gz.P 179 = some false ∧ elemT gz.P 179 = none ∧ zeroOf gz.P 179 = some (.lit .nilFunc) := by and_intros <;> kernel_rfl
theorem t180 : gz.P.cellsOf 180 = 1 ∧ aggT gz.P 180 = some false ∧ elemT gz.P 180 = none ∧ zeroOf gz.P 180 = some (.lit .nilFunc) := by and_intros <;> kernel_rfl
theorem t181 : gz.P.cellsOf 181 = 1 ∧ aggT gz.P 181 = some false ∧ elemT gz.P 181 = none ∧ zeroOf gz.P 181 = some (.lit .nilFunc) := by and_intros <;> kernel_rfl
theorem t182 : gz.P.cellsOf 182 = 1 ∧ aggT gz.P 182 = some false ∧ elemT gz.P 182 = none ∧ zeroOf gz.P 182 = some (.lit .nilFunc) := by and_intros <;> kernel_rfl
theorem t183 : gz.P.cellsOf 183 = 1 ∧ aggT gz.P 183 = some false ∧ elemT gz.P 183 = none ∧ zeroOf gz.P 183 = some (.lit .nilFunc) := by and_intros <;> kernel_rfl
theorem t184 : gz.P.cellsOf 184 = 1 ∧ aggT gz.P 184 = some false ∧ elemT gz.P 184 = none ∧ zeroOf gz.P 184 = some (.lit .nilFunc) := by and_intros <;> kernel_rfl
theorem t185 : gz.P.cellsOf 185 = 1 ∧ aggT gz.P 185 = some false ∧ elemT gz.P 185 = none ∧ zeroOf gz.P 185 = some (.lit .nilFunc) := by and_intros <;> kernel_rfl
theorem t186 : gz.P.cellsOf 186 = 1 ∧ aggT gz.P 186 = some false ∧ elemT gz.P 186 = none ∧ zeroOf gz.P 186 = some (.lit .nilFunc) := by and_intros <;> kernel_rfl
theorem t187 : gz.P.cellsOf 187 = 1 ∧ aggT gz.P 187 = some false ∧ elemT gz.P 187 = none ∧ zeroOf gz.P 187 = some (.lit .nilFunc) := by and_intros <;> kernel_rfl
theorem t188 : gz.P.cellsOf 188 = 1 ∧ aggT gz.P 188 = some false ∧ elemT gz.P 188 = none ∧ zeroOf gz.P 188 = some (.lit .nilFunc) := by and_intros <;> kernel_rfl
theorem t189 : gz.P.cellsOf 189 = 1 ∧ aggT gz.P 189 = some false ∧ elemT gz.P 189 = none ∧ zeroOf gz.P 189 = some (.lit .nilFunc) := by and_intros <;> kernel_rfl
theorem t190 : gz.P.cellsOf 190 = 1 ∧ aggT gz.P 190 = some false ∧ elemT gz.P 190 = none ∧ zeroOf gz.P 190 = some (.lit .nilFunc) := by and_intros <;> kernel_rfl
theorem t191 : gz.P.cellsOf 191 = 1 ∧ aggT gz.P 191 = some false ∧ elemT gz.P 191 = none ∧ zeroOf gz.P 191 = some (.lit .nilFunc) := by and_intros <;> kernel_rfl
theorem t192 : gz.P.cellsOf 192 = 1 ∧ aggT gz.P 192 = some false ∧ elemT gz.P 192 = none ∧ zeroOf gz.P 192 = some (.lit .nilFunc) := by and_intros <;> kernel_rfl
theorem t193 : gz.P.cellsOf 193 = 1 ∧ aggT gz.P 193 = some false ∧ elemT gz.P 193 = none ∧ zeroOf gz.P 193 = some (.lit .nilFunc) := by and_intros <;> kernel_rfl
theorem t194 : gz.P.cellsOf 194 = 1 ∧ aggT gz.P 194 = some false ∧ elemT gz.P 194 = none ∧ zeroOf gz.P 194 = some (.lit .nilFunc) := by and_intros <;> kernel_rfl
theorem t195 : gz.P.cellsOf 195 = 1 ∧ aggT gz.P 195 = some false ∧ elemT gz.P 195 = none ∧ zeroOf gz.P 195 = some (.lit .nilFunc) := by and_intros <;> kernel_rfl
theorem t196 : gz.P.cellsOf 196 = 1 ∧ aggT gz.P 196 = some false ∧ elemT gz.P 196 = none ∧ zeroOf gz.P 196 = some (.lit .nilFunc) := by and_intros <;> kernel_rfl
theorem t197 : gz.P.cellsOf 197 = 1 ∧ aggT gz.P 197 = some false ∧ elemT gz.P 197 = none ∧ zeroOf gz.P 197 = some (.lit .nilFunc) := by and_intros <;> kernel_rfl
theorem t198 : gz.P.cellsOf 198 = 1 ∧ aggT gz.P 198 = some false ∧ elemT gz.P 198 = none ∧ zeroOf gz.P 198 = some (.lit .nilFunc) := by and_intros <;> kernel_rfl
theorem t200 : gz.P.cellsOf 200 = 1 ∧ aggT gz.P 200 = some false ∧ elemT gz.P 200 = none ∧ zeroOf gz.P 200 = some (.lit .nilFunc) := by and_intros <;> kernel_rfl
theorem t201 : gz.P.cellsOf 201 = 1 ∧ aggT gz.P 201 = some false ∧ elemT gz.P 201 = none ∧ zeroOf gz.P 201 = some (.lit .nilFunc) := by and_intros <;> kernel_rfl
theorem t202 : gz.P.cellsOf 202 = 1 ∧ aggT gz.P 202 = some false ∧ elemT gz.P 202 = none ∧ zeroOf gz.P 202 = some (.lit .nilFunc) := by and_intros <;> kernel_rfl
theorem t203 : gz.P.cellsOf 203 = 1 ∧ aggT gz.P 203 = some false ∧ gz.P.underlying 203 = some (.int .i64) ∧ elemT gz.P 203 = none ∧ zeroOf gz.P 203 = some (.lit (.int .i64 0)) := by and_intros <;> kernel_rfl
theorem t205 : gz.P.cellsOf 205 = 1 ∧ aggT gz.P 205 = some false ∧ elemT gz.P 205 = none ∧ zeroOf gz.P 205 = some (.lit .nilFunc) := by and_intros <;> kernel_rfl
theorem t206 : gz.P.cellsOf 206 = 1 ∧ aggT gz.P 206 = some false ∧ elemT gz.P 206 = none ∧ zeroOf gz.P 206 = some (.lit (.pointer none)) := by and_intros <;> kernel_rfl
theorem t207 : gz.P.cellsOf 207 = 1 ∧ aggT gz.P 207 = some false ∧ elemT gz.P 207 = none ∧ zeroOf gz.P 207 = some (.lit .nilFunc) := by and_intros <;> kernel_rfl
theorem t208 : gz.P.cellsOf 208 = 1 ∧ aggT gz.P 208 = some false ∧ elemT gz.P 208 = none ∧ zeroOf gz.P 208 = some (.lit .nilFunc) := by and_intros <;> kernel_rfl
theorem t209 : gz.P.cellsOf 209 = 1 ∧ aggT gz.P 209 = some false ∧ elemT gz.P 209 = none ∧ zeroOf gz.P 209 = some (.lit .nilFunc) := by and_intros <;> kernel_rfl
theorem t210 : gz.P.cellsOf 210 = 1 ∧ aggT gz.P 210 = some false ∧ elemT gz.P 210 = none ∧ zeroOf gz.P 210 = some (.lit .nilFunc) := by and_intros <;> kernel_rfl
theorem t211 : gz.P.cellsOf 211 = 1 ∧ aggT gz.P 211 = some false ∧ elemT gz.P 211 = none ∧ zeroOf gz.P 211 = some (.lit .nilFunc) := by and_intros <;> kernel_rfl
theorem t212 : gz.P.cellsOf 212 = 1 ∧ aggT gz.P 212 = some false ∧ elemT gz.P 212 = none ∧ zeroOf gz.P 212 = some (.lit .nilFunc) := by and_intros <;> kernel_rfl
theorem t213 : gz.P.cellsOf 213 = 1 ∧ aggT gz.P 213 = some false ∧ elemT gz.P 213 = none ∧ zeroOf gz.P 213 = some (.lit .nilFunc) := by and_intros <;> kernel_rfl
theorem t214 : gz.P.cellsOf 214 = 3 ∧ aggT gz.P 214 = some true ∧ elemT gz.P 214 = none ∧ zeroOf gz.P 214 = some (.agg [.lit (.string ByteArray.empty), .lit (.string ByteArray.empty), .lit .nilIface]) ∧ fieldT gz.P 214 0 = some (0, 9) ∧ fieldT gz.P 214 1 = some (1, 9) ∧ fieldT gz.P 214 2 = some (2, 156) ∧ structOf gz.P 214 = some [.lit (.string ByteArray.empty), .lit (.string ByteArray.empty), .lit .nilIface] := by and_intros <;> kernel_rfl
theorem t215 : gz.P.cellsOf 215 = 3 ∧ aggT gz.P 215 = some true ∧ elemT gz.P 215 = none ∧ zeroOf gz.P 215 = some (.agg [.lit (.string ByteArray.empty), .lit (.string ByteArray.empty), .lit .nilIface]) ∧ fieldT gz.P 215 0 = some (0, 9) ∧ fieldT gz.P 215 1 = some (1, 9) ∧ fieldT gz.P 215 2 = some (2, 156) ∧ structOf gz.P 215 = some [.lit (.string ByteArray.empty), .lit (.string ByteArray.empty), .lit .nilIface] := by and_intros <;> kernel_rfl
theorem t216 : gz.P.cellsOf 216 = 1 ∧ aggT gz.P 216 = some false ∧ elemT gz.P 216 = none ∧ zeroOf gz.P 216 = some (.lit .nilFunc) := by and_intros <;> kernel_rfl
theorem t218 : gz.P.cellsOf 218 = 1 ∧ aggT gz.P 218 = some false ∧ elemT gz.P 218 = none ∧ zeroOf gz.P 218 = some (.lit .nilFunc) := by and_intros <;> kernel_rfl
theorem t219 : gz.P.cellsOf 219 = 1 ∧ aggT gz.P 219 = some false ∧ elemT gz.P 219 = none ∧ zeroOf gz.P 219 = some (.lit .nilFunc) := by and_intros <;> kernel_rfl
theorem t221 : gz.P.cellsOf 221 = 1 ∧ aggT gz.P 221 = some false ∧ elemT gz.P 221 = none ∧ zeroOf gz.P 221 = some (.lit .nilFunc) := by and_intros <;> kernel_rfl
theorem t223 : gz.P.cellsOf 223 = 2 ∧ aggT gz.P 223 = some true ∧ elemT gz.P 223 = none ∧ zeroOf gz.P 223 = some (.agg [.lit (.int .u8 0), .lit (.int .u8 0)]) ∧ fieldT gz.P 223 0 = some (0, 5) ∧ fieldT gz.P 223 1 = some (1, 5) ∧ structOf gz.P 223 = some [.lit (.int .u8 0), .lit (.int .u8 0)] ∧ plainStruct gz.P 223 = some [0, 0] := by and_intros <;> kernel_rfl
theorem t224 : gz.P.cellsOf 224 = 2 ∧ aggT gz.P 224 = some true ∧ elemT gz.P 224 = none ∧ zeroOf gz.P 224 = some (.agg [.lit (.int .u8 0), .lit (.int .u8 0)]) ∧ fieldT gz.P 224 0 = some (0, 5) ∧ fieldT gz.P 224 1 = some (1, 5) ∧ structOf gz.P 224 = some [.lit (.int .u8 0), .lit (.int .u8 0)] ∧ plainStruct gz.P 224 = some [0, 0] := by and_intros <;> kernel_rfl
theorem t226 : gz.P.cellsOf 226 = 1 ∧ aggT gz.P 226 = some false ∧ elemT gz.P 226 = none ∧ zeroOf gz.P 226 = some (.lit .nilFunc) := by and_intros <;> kernel_rfl
theorem t227 : gz.P.cellsOf 227 = 1 ∧ aggT gz.P 227 = some false ∧ elemT gz.P 227 = none ∧ zeroOf gz.P 227 = some (.lit (.pointer none)) := by and_intros <;> kernel_rfl
theorem t228 : gz.P.cellsOf 228 = 1 ∧ aggT gz.P 228 = some false ∧ elemT gz.P 228 = none ∧ zeroOf gz.P 228 = some (.lit (.pointer none)) := by and_intros <;> kernel_rfl
theorem t229 : gz.P.cellsOf 229 = 1 ∧ aggT gz.P 229 = some true ∧ elemT gz.P 229 = none ∧ zeroOf gz.P 229 = some (.agg [.lit (.string ByteArray.empty)]) ∧ fieldT gz.P 229 0 = some (0, 9) ∧ structOf gz.P 229 = some [.lit (.string ByteArray.empty)] ∧ plainStruct gz.P 229 = some [2] := by and_intros <;> kernel_rfl
theorem t230 : gz.P.cellsOf 230 = 1 ∧ aggT gz.P 230 = some true ∧ elemT gz.P 230 = none ∧ zeroOf gz.P 230 = some (.agg [.lit (.string ByteArray.empty)]) ∧ fieldT gz.P 230 0 = some (0, 9) ∧ structOf gz.P 230 = some [.lit (.string ByteArray.empty)] ∧ plainStruct gz.P 230 = some [2] := by and_intros <;> kernel_rfl
theorem t231 : gz.P.cellsOf 231 = 1 ∧ aggT gz.P 231 = some false ∧ elemT gz.P 231 = none ∧ zeroOf gz.P 231 = some (.lit .nilFunc) := by and_intros <;> kernel_rfl
theorem t234 : gz.P.cellsOf 234 = 1 ∧ aggT gz.P 234 = some false ∧ elemT gz.P 234 = none ∧ zeroOf gz.P 234 = some (.lit .nilFunc) := by and_intros <;> kernel_rfl
theorem t235 : gz.P.cellsOf 235 = 1 ∧ aggT gz.P 235 = some false ∧ elemT gz.P 235 = none ∧ zeroOf gz.P 235 = some (.lit .nilFunc) := by and_intros <;> kernel_rfl
theorem t236 : gz.P.cellsOf 236 = 1 ∧ aggT gz.P 236 = some false ∧ elemT gz.P 236 = none ∧ zeroOf gz.P 236 = some (.lit .nilFunc) := by and_intros <;> kernel_rfl
theorem t239 : gz.P.cellsOf 239 = 1 ∧ aggT gz.P 239 = some false ∧ elemT gz.P 239 = none ∧ zeroOf gz.P 239 = some (.lit .nilFunc) := by and_intros <;> kernel_rfl
theorem t245 : gz.P.cellsOf 245 = 1 ∧ aggT gz.P 245 = some false ∧ elemT gz.P 245 = none ∧ zeroOf gz.P 245 = some (.lit .nilFunc) := by and_intros <;> kernel_rfl
theorem t246 : gz.P.cellsOf 246 = 1 ∧ aggT gz.P 246 = some false ∧ gz.P.underlying 246 = some (.int .u8) ∧ elemT gz.P 246 = none ∧ zeroOf gz.P 246 = some (.lit (.int .u8 0)) := by and_intros <;> kernel_rfl
theorem t247 : gz.P.cellsOf 247 = 1 ∧ aggT gz.P 247 = some false ∧ gz.P.underlying 247 = some (.int .u8) ∧ elemT gz.P 247 = none ∧ zeroOf gz.P 247 = some (.lit (.int .u8 0)) := by and_intros <;> kernel_rfl
theorem t248 : gz.P.cellsOf 248 = 1 ∧ aggT gz.P 248 = some false ∧ elemT gz.P 248 = none ∧ zeroOf gz.P 248 = some (.lit .nilFunc) := by and_intros <;> kernel_rfl
theorem t249 : gz.P.cellsOf 249 = 1 ∧ aggT gz.P 249 = some false ∧ gz.P.underlying 249 = some (.int .i32) ∧ elemT gz.P 249 = none ∧ zeroOf gz.P 249 = some (.lit (.int .i32 0)) := by and_intros <;> kernel_rfl
theorem t250 : gz.P.cellsOf 250 = 1 ∧ aggT gz.P 250 = some false ∧ gz.P.underlying 250 = some (.int .i32) ∧ elemT gz.P 250 = none ∧ zeroOf gz.P 250 = some (.lit (.int .i32 0)) := by and_intros <;> kernel_rfl
theorem t251 : gz.P.cellsOf 251 = 11 ∧ aggT gz.P 251 = some true ∧ elemT gz.P 251 = none ∧ zeroOf gz.P 251 = some (.agg [.lit (.int .u64 0), .lit (.int .u64 0), .lit (.int .u32 0), .lit (.int .u8 0), .lit (.int .u8 0), .lit (.int .u8 0), .lit (.int .u8 0), .lit .nilFunc, .lit (.pointer none), .lit (.int .i32 0), .lit (.int .i32 0)]) ∧ fieldT gz.P 251 0 = some (0, 12) ∧ fieldT gz.P 251 1 = some (1, 12) ∧ fieldT gz.P 251 2 = some (2, 160) ∧ fieldT gz.P 251 3 = some (3, 246) ∧ fieldT gz.P 251 4 = some (4, 5) ∧ fieldT gz.P 251 5 = some (5, 5) ∧ fieldT gz.P 251 6 = some (6, 247) ∧ fieldT gz.P 251 7 = some (7, 248) ∧ fieldT gz.P 251 8 = some (8, 227) ∧ fieldT gz.P 251 9 = some (9, 249) ∧ fieldT gz.P 251 10 = some (10, 250) ∧ structOf gz.P 251 = some [.lit (.int .u64 0), .lit (.int .u64 0), .lit (.int .u32 0), .lit (.int .u8 0), .lit (.int .u8 0), .lit (.int .u8 0), .lit (.int .u8 0), .lit .nilFunc, .lit (.pointer none), .lit (.int .i32 0), .lit (.int .i32 0)] := by and_intros <;> kernel_rfl
theorem t253 : gz.P.cellsOf 253 = 1 ∧ aggT gz.P 253 = some false ∧ elemT gz.P 253 = none ∧ zeroOf gz.P 253 = some (.lit .nilFunc) := by and_intros <;> kernel_rfl
theorem t254 : gz.P.cellsOf 254 = 20 ∧ aggT gz.P 254 = some true ∧ elemT gz.P 254 = none ∧ zeroOf gz.P 254 = some (.agg [.lit (.int .i64 0), .lit (.int .i64 0), .lit (.int .i64 0), .lit (.int .i64 0), .agg [.lit (.int .i64 0), .lit (.int .i64 0), .agg [.lit (.int .i64 0), .lit (.int .i64 0), .lst true 1 [], .lst true 1 []], .lst true 1 [], .lit (.int .i64 0)], .agg [.lit (.int .i64 0), .lit (.int .i64 0), .lit (.int .i64 0), .lit (.int .i64 0)], .agg [.lit (.int .i64 0), .lit (.int .i64 0), .lst true 1 [], .lst true 1 []]]) ∧ fieldT gz.P 254 0 = some (0, 2) ∧ fieldT gz.P 254 1 = some (1, 2) ∧ fieldT gz.P 254 2 = some (2, 2) ∧ fieldT gz.P 254 3 = some (3, 2) ∧ fieldT gz.P 254 4 = some (4, 89) ∧ fieldT gz.P 254 5 = some (12, 127) ∧ fieldT gz.P 254 6 = some (16, 53) ∧ structOf gz.P 254 = some [.lit (.int .i64 0), .lit (.int .i64 0), .lit (.int .i64 0), .lit (.int .i64 0), .agg [.lit (.int .i64 0), .lit (.int .i64 0), .agg [.lit (.int .i64 0), .lit (.int .i64 0), .lst true 1 [], .lst true 1 []], .lst true 1 [], .lit (.int .i64 0)], .agg [.lit (.int .i64 0), .lit (.int .i64 0), .lit (.int .i64 0), .lit (.int .i64 0)], .agg [.lit (.int .i64 0), .lit (.int .i64 0), .lst true 1 [], .lst true 1 []]] := by and_intros <;> kernel_rfl
theorem t255 : gz.P.cellsOf 255 = 20 ∧ aggT gz.P 255 = some true ∧ elemT gz.P 255 = none ∧ zeroOf gz.P 255 = some (.agg [.lit (.int .i64 0), .lit (.int .i64 0), .lit (.int .i64 0), .lit (.int .i64 0), .agg [.lit (.int .i64 0), .lit (.int .i64 0), .agg [.lit (.int .i64 0), .lit (.int .i64 0), .lst true 1 [], .lst true 1 []], .lst true 1 [], .lit (.int .i64 0)], .agg [.lit (.int .i64 0), .lit (.int .i64 0), .lit (.int .i64 0), .lit (.int .i64 0)], .agg [.lit (.int .i64 0), .lit (.int .i64 0), .lst true 1 [], .lst true 1 []]]) ∧ fieldT gz.P 255 0 = some (0, 2) ∧ fieldT gz.P 255 1 = some (1, 2) ∧ fieldT gz.P 255 2 = some (2, 2) ∧ fieldT gz.P 255 3 = some (3, 2) ∧ fieldT gz.P 255 4 = some (4, 89) ∧ fieldT gz.P 255 5 = some (12, 127) ∧ fieldT gz.P 255 6 = some (16, 53) ∧ structOf gz.P 255 = some [.lit (.int .i64 0), .lit (.int .i64 0), .lit (.int .i64 0), .lit (.int .i64 0), .agg [.lit (.int .i64 0), .lit (.int .i64 0), .agg [.lit (.int .i64 0), .lit (.int .i64 0), .lst true 1 [], .lst true 1 []], .lst true 1 [], .lit (.int .i64 0)], .agg [.lit (.int .i64 0), .lit (.int .i64 0), .lit (.int .i64 0), .lit (.int .i64 0)], .agg [.lit (.int .i64 0), .lit (.int .i64 0), .lst true 1 [], .lst true 1 []]] := by and_intros <;> kernel_rfl
theorem t257 : gz.P.cellsOf 257 = 1 ∧ aggT gz.P 257 = some false ∧ gz.P.underlying 257 = some (.slice 260) ∧ elemT gz.P 257 = some 260 ∧ zeroOf gz.P 257 = some (.lst true 2 []) := by and_intros <;> kernel_rfl
theorem t258 : gz.P.cellsOf 258 = 1 ∧ aggT gz.P 258 = some false ∧ elemT gz.P 258 = none ∧ zeroOf gz.P 258 = some (.lit .nilFunc) := by and_intros <;> kernel_rfl
theorem t259 : gz.P.cellsOf 259 = 2 ∧ aggT gz.P 259 = some true ∧ elemT gz.P 259 = none ∧ zeroOf gz.P 259 = some (.agg [.lit (.int .i64 0), .lit (.int .i64 0)]) ∧ fieldT gz.P 259 0 = some (0, 2) ∧ fieldT gz.P 259 1 = some (1, 2) ∧ structOf gz.P 259 = some [.lit (.int .i64 0), .lit (.int .i64 0)] ∧ plainStruct gz.P 259 = some [0, 0] := by and_intros <;> kernel_rfl
theorem t260 : gz.P.cellsOf 260 = 2 ∧ aggT gz.P 260 = some true ∧ elemT gz.P 260 = none ∧ zeroOf gz.P 260 = some (.agg [.lit (.int .i64 0), .lit (.int .i64 0)]) ∧ fieldT gz.P 260 0 = some (0, 2) ∧ fieldT gz.P 260 1 = some (1, 2) ∧ structOf gz.P 260 = some [.lit (.int .i64 0), .lit (.int .i64 0)] ∧ plainStruct gz.P 260 = some [0, 0] := by and_intros <;> kernel_rfl
theorem tn2 {n : Nat} : fits gz.P 2 n = (n * 8 ≤ 140737488355328 ∧ n ≤ maxLen) := by
  have h : gz.P.bytesOf 2 = 8 := by kernel_rfl
  simp only [fits, h]
theorem tn5 {n : Nat} : fits gz.P 5 n = (n * 1 ≤ 140737488355328 ∧ n ≤ maxLen) := by
  have h : gz.P.bytesOf 5 = 1 := by kernel_rfl
  simp only [fits, h]
theorem tn9 {n : Nat} : fits gz.P 9 n = (n * 16 ≤ 140737488355328 ∧ n ≤ maxLen) := by
  have h : gz.P.bytesOf 9 = 16 := by kernel_rfl
  simp only [fits, h]
theorem tn89 {n : Nat} : fits gz.P 89 n = (n * 112 ≤ 140737488355328 ∧ n ≤ maxLen) := by
  have h : gz.P.bytesOf 89 = 112 := by kernel_rfl
  simp only [fits, h]
theorem tn120 {n : Nat} : fits gz.P 120 n = (n * 112 ≤ 140737488355328 ∧ n ≤ maxLen) := by
  have h : gz.P.bytesOf 120 = 112 := by kernel_rfl
  simp only [fits, h]
theorem tn127 {n : Nat} : fits gz.P 127 n = (n * 32 ≤ 140737488355328 ∧ n ≤ maxLen) := by
  have h : gz.P.bytesOf 127 = 32 := by kernel_rfl
  simp only [fits, h]
theorem tn129 {n : Nat} : fits gz.P 129 n = (n * 16 ≤ 140737488355328 ∧ n ≤ maxLen) := by
  have h : gz.P.bytesOf 129 = 16 := by kernel_rfl
  simp only [fits, h]
theorem tn134 {n : Nat} : fits gz.P 134 n = (n * 32 ≤ 140737488355328 ∧ n ≤ maxLen) := by
  have h : gz.P.bytesOf 134 = 32 := by kernel_rfl
  simp only [fits, h]
theorem tn136 {n : Nat} : fits gz.P 136 n = (n * 16 ≤ 140737488355328 ∧ n ≤ maxLen) := by
  have h : gz.P.bytesOf 136 = 16 := by kernel_rfl
  simp only [fits, h]
theorem tn255 {n : Nat} : fits gz.P 255 n = (n * 240 ≤ 140737488355328 ∧ n ≤ maxLen) := by
  have h : gz.P.bytesOf 255 = 240 := by kernel_rfl
  simp only [fits, h]
theorem tn260 {n : Nat} : fits gz.P 260 n = (n * 16 ≤ 140737488355328 ∧ n ≤ maxLen) := by
  have h : gz.P.bytesOf 260 = 16 := by kernel_rfl
  simp only [fits, h]
attribute [go_sem] t1 t2 t3 t4 t5 t6 t9 t10 t11 t12 t15 t16 t17 t20 t21 t22 t23 t24 t25 t26 t27 t28 t30 t32 t33 t35 t37 t38 t39 t40 t41 t42 t43 t44 t45 t46 t47 t48 t49 t50 t51 t52 t53 t54 t55 t56 t57 t58 t59 t60 t61 t62 t63 t64 t65 t66 t67 t68 t69 t70 t71 t72 t73 t74 t76 t77 t78 t79 t80 t81 t82 t83 t84 t85 t86 t87 t88 t89 t90 t91 t92 t93 t94 t95 t96 t97 t98 t99 t100 t101 t102 t103 t104 t105 t106 t107 t108 t109 t110 t112 t113 t114 t115 t117 t118 t119 t120 t121 t122 t123 t124 t125 t126 t127 t128 t129 t130 t131 t132 t133 t134 t135 t136 t137 t138 t139 t140 t141 t142 t143 t144 t145 t146 t147 t148 t149 t150 t151 t152 t153 t154 t155 t156 t158 t159 t160 t162 t163 t165 t166 t167 t168 t169 t170 t171 t172 t173 t174 t175 t176 t177 t178 t179 t180 t181 t182 t183 t184 t185 t186 t187 t188 t189 t190 t191 t192 t193 t194 t195 t196 t197 t198 t200 t201 t202 t203 t205 t206 t207 t208 t209 t210 t211 t212 t213 t214 t215 t216 t218 t219 t221 t223 t224 t226 t227 t228 t229 t230 t231 t234 t235 t236 t239 t245 t246 t247 t248 t249 t250 t251 t253 t254 t255 t257 t258 t259 t260 tn2 tn5 tn9 tn89 tn120 tn127 tn129 tn134 tn136 tn255 tn260
theorem ti20 : isIfc (gz.P.underlying 20) = true := by kernel_rfl
theorem ti155 : isIfc (gz.P.underlying 155) = true := by kernel_rfl
theorem ti156 : isIfc (gz.P.underlying 156) = true := by kernel_rfl
attribute [go_sem] ti20 ti155 ti156
end Go.VS
