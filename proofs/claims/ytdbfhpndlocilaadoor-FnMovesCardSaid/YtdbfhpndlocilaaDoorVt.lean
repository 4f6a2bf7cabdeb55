/- The types of the program, as rules. -/
import Derived.Test.YtdbfhpndlocilaaDoorProg
import Derived.KernelRfl
import Derived.Lib.LaidTab
import Derived.Lib.ItoaNum
import Derived.Test.YtdbfhpndlocilaaDoorVn
set_option linter.unusedSimpArgs false
open Go.Proofs
set_option maxRecDepth 20000
namespace Go.VS
theorem mixedP : Tryd.prog.follows .mixedOrders = true := by kernel_rfl
/-- what is known of the variables of the library -/
def GlZ (w : World) : Prop := Lib.TabIs Tryd.prog w "internal/strconv.uint64pow10" .u64 Lib.pow10Tab ∧ (∃ m, w.cell? ⟨1, 0, none⟩ = some (.int .i64 m)) ∧
  (∃ ev, w.cell? ⟨2, 0, none⟩ = some ev ∧ (ev = .nilIface ∨ ∃ te pe, ev = .iface te pe)) ∧ (∃ ev, w.cell? ⟨3, 0, none⟩ = some ev ∧ (ev = .nilIface ∨ ∃ te pe, ev = .iface te pe))
theorem GlZ_stay (w w' : World) (h : ∀ b, b < 8 → w'.heap[b]? = w.heap[b]?) (hg : GlZ w) : GlZ w' := by
  obtain ⟨h1, h2, h3, h4⟩ := hg
  have hn : Tryd.prog.globalNamed "internal/strconv.uint64pow10" = some 0 := by kernel_rfl
  refine ⟨?_, ?_, ?_, ?_⟩
  · unfold Lib.TabIs World.var? at h1 ⊢
    rw [hn] at h1 ⊢
    simp only [Option.bind_some] at h1 ⊢
    rw [h 0 (by decide)]
    exact h1
  · simpa only [World.cell?, h 1 (by decide)] using h2
  · simpa only [World.cell?, h 2 (by decide)] using h3
  · simpa only [World.cell?, h 3 (by decide)] using h4
/-- the program at work -/
noncomputable def gz : Sys := { P := Tryd.prog, mixed := mixedP, ng := 8, Gl := GlZ, stay := GlZ_stay }
theorem GlTab {w : World} (h : gz.Gl w) : Lib.TabIs Tryd.prog w "internal/strconv.uint64pow10" .u64 Lib.pow10Tab := h.1
theorem t1 : gz.P.cellsOf 1 = 1 ∧ aggT gz.P 1 = some false ∧ elemT gz.P 1 = none ∧ zeroOf gz.P 1 = some (.lit .nilFunc) := by and_intros <;> kernel_rfl
theorem t2 : gz.P.cellsOf 2 = 1 ∧ aggT gz.P 2 = some false ∧ gz.P.underlying 2 = some (.int .i64) ∧ elemT gz.P 2 = none ∧ zeroOf gz.P 2 = some (.lit (.int .i64 0)) := by and_intros <;> kernel_rfl
theorem t3 : gz.P.cellsOf 3 = 1 ∧ aggT gz.P 3 = some false ∧ gz.P.underlying 3 = some (.int .i64) ∧ elemT gz.P 3 = none ∧ zeroOf gz.P 3 = some (.lit (.int .i64 0)) := by and_intros <;> kernel_rfl
theorem t4 : gz.P.cellsOf 4 = 1 ∧ aggT gz.P 4 = some false ∧ gz.P.underlying 4 = some (.bool) ∧ elemT gz.P 4 = none ∧ zeroOf gz.P 4 = some (.lit (.bool false)) := by and_intros <;> kernel_rfl
theorem t5 : gz.P.cellsOf 5 = 1 ∧ aggT gz.P 5 = some false ∧ gz.P.underlying 5 = some (.int .u8) ∧ elemT gz.P 5 = none ∧ zeroOf gz.P 5 = some (.lit (.int .u8 0)) := by and_intros <;> kernel_rfl
theorem t6 : gz.P.cellsOf 6 = 1 ∧ aggT gz.P 6 = some false ∧ gz.P.underlying 6 = some (.int .u8) ∧ elemT gz.P 6 = none ∧ zeroOf gz.P 6 = some (.lit (.int .u8 0)) := by and_intros <;> kernel_rfl
theorem t9 : gz.P.cellsOf 9 = 1 ∧ aggT gz.P 9 = some false ∧ gz.P.underlying 9 = some (.string) ∧ elemT gz.P 9 = none ∧ zeroOf gz.P 9 = some (.lit (.string ByteArray.empty)) := by and_intros <;> kernel_rfl
theorem t10 : gz.P.cellsOf 10 = 1 ∧ aggT gz.P 10 = some false ∧ gz.P.underlying 10 = some (.string) ∧ elemT gz.P 10 = none ∧ zeroOf gz.P 10 = some (.lit (.string ByteArray.empty)) := by and_intros <;> kernel_rfl
theorem t11 : gz.P.cellsOf 11 = 1 ∧ aggT gz.P 11 = some false ∧ gz.P.underlying 11 = some (.string) ∧ elemT gz.P 11 = none ∧ zeroOf gz.P 11 = some (.lit (.string ByteArray.empty)) := by and_intros <;> kernel_rfl
theorem t12 : gz.P.cellsOf 12 = 1 ∧ aggT gz.P 12 = some false ∧ gz.P.underlying 12 = some (.int .u64) ∧ elemT gz.P 12 = none ∧ zeroOf gz.P 12 = some (.lit (.int .u64 0)) := by and_intros <;> kernel_rfl
theorem t15 : gz.P.cellsOf 15 = 1 ∧ aggT gz.P 15 = some false ∧ elemT gz.P 15 = none ∧ zeroOf gz.P 15 = some (.lit (.pointer none)) := by and_intros <;> kernel_rfl
theorem t16 : gz.P.cellsOf 16 = 1 ∧ aggT gz.P 16 = some false ∧ elemT gz.P 16 = none ∧ zeroOf gz.P 16 = some (.lit (.pointer none)) := by and_intros <;> kernel_rfl
theorem t17 : gz.P.cellsOf 17 = 1 ∧ aggT gz.P 17 = some false ∧ elemT gz.P 17 = none ∧ zeroOf gz.P 17 = some (.lit (.pointer none)) := by and_intros <;> kernel_rfl
theorem t20 : gz.P.cellsOf 20 = 1 ∧ aggT gz.P 20 = some false ∧ gz.P.underlying 20 = some (.interface #[]) ∧ elemT gz.P 20 = none := by and_intros <;> kernel_rfl
theorem t21 : gz.P.cellsOf 21 = 1 ∧ aggT gz.P 21 = some false ∧ gz.P.underlying 21 = some (.int .i32) ∧ elemT gz.P 21 = none ∧ zeroOf gz.P 21 = some (.lit (.int .i32 0)) := by and_intros <;> kernel_rfl
theorem t22 : gz.P.cellsOf 22 = 1 ∧ aggT gz.P 22 = some false ∧ gz.P.underlying 22 = some (.slice 5) ∧ elemT gz.P 22 = some 5 ∧ zeroOf gz.P 22 = some (.lst true 1 []) := by and_intros <;> kernel_rfl
theorem t23 : gz.P.cellsOf 23 = 1 ∧ aggT gz.P 23 = some false ∧ elemT gz.P 23 = none ∧ zeroOf gz.P 23 = some (.lit .nilFunc) := by and_intros <;> kernel_rfl
theorem t24 : gz.P.cellsOf 24 = 4 ∧ aggT gz.P 24 = some true ∧ elemT gz.P 24 = none ∧ zeroOf gz.P 24 = some (.agg [.lit (.int .i64 0), .lit (.int .i64 0), .lit (.int .i64 0), .lit (.int .i64 0)]) ∧ fieldT gz.P 24 0 = some (0, 2) ∧ fieldT gz.P 24 1 = some (1, 2) ∧ fieldT gz.P 24 2 = some (2, 2) ∧ fieldT gz.P 24 3 = some (3, 2) ∧ structOf gz.P 24 = some [.lit (.int .i64 0), .lit (.int .i64 0), .lit (.int .i64 0), .lit (.int .i64 0)] ∧ plainStruct gz.P 24 = some [0, 0, 0, 0] := by and_intros <;> kernel_rfl
theorem t25 : gz.P.cellsOf 25 = 4 ∧ aggT gz.P 25 = some true ∧ elemT gz.P 25 = none ∧ zeroOf gz.P 25 = some (.agg [.lit (.int .i64 0), .lit (.int .i64 0), .lit (.int .i64 0), .lit (.int .i64 0)]) ∧ fieldT gz.P 25 0 = some (0, 2) ∧ fieldT gz.P 25 1 = some (1, 2) ∧ fieldT gz.P 25 2 = some (2, 2) ∧ fieldT gz.P 25 3 = some (3, 2) ∧ structOf gz.P 25 = some [.lit (.int .i64 0), .lit (.int .i64 0), .lit (.int .i64 0), .lit (.int .i64 0)] ∧ plainStruct gz.P 25 = some [0, 0, 0, 0] := by and_intros <;> kernel_rfl
theorem t26 : gz.P.cellsOf 26 = 1 ∧ aggT gz.P 26 = some false ∧ elemT gz.P 26 = none ∧ zeroOf gz.P 26 = some (.lit .nilFunc) := by and_intros <;> kernel_rfl
theorem t27 : gz.P.cellsOf 27 = 1 ∧ aggT gz.P 27 = some false ∧ elemT gz.P 27 = none ∧ zeroOf gz.P 27 = some (.lit .nilFunc) := by and_intros <;> kernel_rfl
theorem t28 : gz.P.cellsOf 28 = 1 ∧ aggT gz.P 28 = some false ∧ elemT gz.P 28 = none ∧ zeroOf gz.P 28 = some (.lit .nilFunc) := by and_intros <;> kernel_rfl
theorem t30 : gz.P.cellsOf 30 = 1 ∧ aggT gz.P 30 = some false ∧ elemT gz.P 30 = none ∧ zeroOf gz.P 30 = some (.lit .nilFunc) := by and_intros <;> kernel_rfl
theorem t31 : gz.P.cellsOf 31 = 1 ∧ aggT gz.P 31 = some false ∧ gz.P.underlying 31 = some (.slice 2) ∧ elemT gz.P 31 = some 2 ∧ zeroOf gz.P 31 = some (.lst true 1 []) := by and_intros <;> kernel_rfl
theorem t32 : gz.P.cellsOf 32 = 2 ∧ aggT gz.P 32 = some true ∧ elemT gz.P 32 = none ∧ zeroOf gz.P 32 = some (.agg [.lst true 1 [], .lst true 1 []]) ∧ fieldT gz.P 32 0 = some (0, 31) ∧ fieldT gz.P 32 1 = some (1, 31) ∧ structOf gz.P 32 = some [.lst true 1 [], .lst true 1 []] := by and_intros <;> kernel_rfl
theorem t33 : gz.P.cellsOf 33 = 2 ∧ aggT gz.P 33 = some true ∧ elemT gz.P 33 = none ∧ zeroOf gz.P 33 = some (.agg [.lst true 1 [], .lst true 1 []]) ∧ fieldT gz.P 33 0 = some (0, 31) ∧ fieldT gz.P 33 1 = some (1, 31) ∧ structOf gz.P 33 = some [.lst true 1 [], .lst true 1 []] := by and_intros <;> kernel_rfl
theorem t34 : gz.P.cellsOf 34 = 1 ∧ aggT gz.P 34 = some false ∧ gz.P.underlying 34 = some (.slice 9) ∧ elemT gz.P 34 = some 9 ∧ zeroOf gz.P 34 = some (.lst true 1 []) := by and_intros <;> kernel_rfl
theorem t36 : gz.P.cellsOf 36 = 1 ∧ aggT gz.P 36 = some false ∧ elemT gz.P 36 = none ∧ zeroOf gz.P 36 = some (.lit .nilFunc) := by and_intros <;> kernel_rfl
theorem t37 : gz.P.cellsOf 37 = 1 ∧ aggT gz.P 37 = some false ∧ elemT gz.P 37 = none ∧ zeroOf gz.P 37 = some (.lit .nilFunc) := by and_intros <;> kernel_rfl
theorem t38 : gz.P.cellsOf 38 = 1 ∧ aggT gz.P 38 = some false ∧ elemT gz.P 38 = none ∧ zeroOf gz.P 38 = some (.lit .nilFunc) := by and_intros <;> kernel_rfl
theorem t39 : gz.P.cellsOf 39 = 1 ∧ aggT gz.P 39 = some false ∧ elemT gz.P 39 = none ∧ zeroOf gz.P 39 = some (.lit .nilFunc) := by and_intros <;> kernel_rfl
theorem t41 : gz.P.cellsOf 41 = 1 ∧ aggT gz.P 41 = some false ∧ elemT gz.P 41 = none ∧ zeroOf gz.P 41 = some (.lit .nilFunc) := by and_intros <;> kernel_rfl
theorem t42 : gz.P.cellsOf 42 = 1 ∧ aggT gz.P 42 = some false ∧ elemT gz.P 42 = none ∧ zeroOf gz.P 42 = some (.lit .nilFunc) := by and_intros <;> kernel_rfl
theorem t43 : gz.P.cellsOf 43 = 1 ∧ aggT gz.P 43 = some false ∧ elemT gz.P 43 = none ∧ zeroOf gz.P 43 = some (.lit .nilFunc) := by and_intros <;> kernel_rfl
theorem t44 : gz.P.cellsOf 44 = 1 ∧ aggT gz.P 44 = some false ∧ elemT gz.P 44 = none ∧ zeroOf gz.P 44 = some (.lit .nilFunc) := by and_intros <;> kernel_rfl
theorem t45 : gz.P.cellsOf 45 = 1 ∧ aggT gz.P 45 = some false ∧ elemT gz.P 45 = none ∧ zeroOf gz.P 45 = some (.lit (.pointer none)) := by and_intros <;> kernel_rfl
theorem t46 : gz.P.cellsOf 46 = 1 ∧ aggT gz.P 46 = some false ∧ elemT gz.P 46 = none ∧ zeroOf gz.P 46 = some (.lit .nilFunc) := by and_intros <;> kernel_rfl
theorem t47 : gz.P.cellsOf 47 = 1 ∧ aggT gz.P 47 = some false ∧ elemT gz.P 47 = none ∧ zeroOf gz.P 47 = some (.lit .nilFunc) := by and_intros <;> kernel_rfl
theorem t48 : gz.P.cellsOf 48 = 1 ∧ aggT gz.P 48 = some false ∧ elemT gz.P 48 = none ∧ zeroOf gz.P 48 = some (.lit .nilFunc) := by and_intros <;> kernel_rfl
theorem t49 : gz.P.cellsOf 49 = 1 ∧ aggT gz.P 49 = some false ∧ elemT gz.P 49 = none ∧ zeroOf gz.P 49 = some (.lit .nilFunc) := by and_intros <;> kernel_rfl
theorem t50 : gz.P.cellsOf 50 = 1 ∧ aggT gz.P 50 = some false ∧ elemT gz.P 50 = none ∧ zeroOf gz.P 50 = some (.lit .nilFunc) := by and_intros <;> kernel_rfl
theorem t52 : gz.P.cellsOf 52 = 1 ∧ aggT gz.P 52 = some false ∧ elemT gz.P 52 = none ∧ zeroOf gz.P 52 = some (.lit .nilFunc) := by and_intros <;> kernel_rfl
theorem t53 : gz.P.cellsOf 53 = 1 ∧ aggT gz.P 53 = some false ∧ elemT gz.P 53 = none ∧ zeroOf gz.P 53 = some (.lit .nilFunc) := by and_intros <;> kernel_rfl
theorem t54 : gz.P.cellsOf 54 = 1 ∧ aggT gz.P 54 = some false ∧ elemT gz.P 54 = none ∧ zeroOf gz.P 54 = some (.lit .nilFunc) := by and_intros <;> kernel_rfl
theorem t55 : gz.P.cellsOf 55 = 1 ∧ aggT gz.P 55 = some false ∧ elemT gz.P 55 = none ∧ zeroOf gz.P 55 = some (.lit .nilFunc) := by and_intros <;> kernel_rfl
theorem t56 : gz.P.cellsOf 56 = 1 ∧ aggT gz.P 56 = some false ∧ elemT gz.P 56 = none ∧ zeroOf gz.P 56 = some (.lit .nilFunc) := by and_intros <;> kernel_rfl
theorem t57 : gz.P.cellsOf 57 = 1 ∧ aggT gz.P 57 = some false ∧ elemT gz.P 57 = none ∧ zeroOf gz.P 57 = some (.lit .nilFunc) := by and_intros <;> kernel_rfl
theorem t58 : gz.P.cellsOf 58 = 1 ∧ aggT gz.P 58 = some false ∧ elemT gz.P 58 = none ∧ zeroOf gz.P 58 = some (.lit .nilFunc) := by and_intros <;> kernel_rfl
theorem t59 : gz.P.cellsOf 59 = 1 ∧ aggT gz.P 59 = some false ∧ elemT gz.P 59 = none ∧ zeroOf gz.P 59 = some (.lit .nilFunc) := by and_intros <;> kernel_rfl
theorem t60 : gz.P.cellsOf 60 = 1 ∧ aggT gz.P 60 = some false ∧ elemT gz.P 60 = none ∧ zeroOf gz.P 60 = some (.lit .nilFunc) := by and_intros <;> kernel_rfl
theorem t61 : gz.P.cellsOf 61 = 1 ∧ aggT gz.P 61 = some false ∧ elemT gz.P 61 = none ∧ zeroOf gz.P 61 = some (.lit .nilFunc) := by and_intros <;> kernel_rfl
theorem t62 : gz.P.cellsOf 62 = 3 ∧ aggT gz.P 62 = some true ∧ elemT gz.P 62 = none ∧ zeroOf gz.P 62 = some (.agg [.lst true 1 [], .lit (.int .i64 0), .lit (.int .i64 0)]) ∧ fieldT gz.P 62 0 = some (0, 22) ∧ fieldT gz.P 62 1 = some (1, 3) ∧ fieldT gz.P 62 2 = some (2, 2) ∧ structOf gz.P 62 = some [.lst true 1 [], .lit (.int .i64 0), .lit (.int .i64 0)] := by and_intros <;> kernel_rfl
theorem t63 : gz.P.cellsOf 63 = 3 ∧ aggT gz.P 63 = some true ∧ elemT gz.P 63 = none ∧ zeroOf gz.P 63 = some (.agg [.lst true 1 [], .lit (.int .i64 0), .lit (.int .i64 0)]) ∧ fieldT gz.P 63 0 = some (0, 22) ∧ fieldT gz.P 63 1 = some (1, 3) ∧ fieldT gz.P 63 2 = some (2, 2) ∧ structOf gz.P 63 = some [.lst true 1 [], .lit (.int .i64 0), .lit (.int .i64 0)] := by and_intros <;> kernel_rfl
theorem t64 : gz.P.cellsOf 64 = 1 ∧ aggT gz.P 64 = some false ∧ elemT gz.P 64 = none ∧ zeroOf gz.P 64 = some (.lit .nilFunc) := by and_intros <;> kernel_rfl
theorem t65 : gz.P.cellsOf 65 = 1 ∧ aggT gz.P 65 = some false ∧ elemT gz.P 65 = none ∧ zeroOf gz.P 65 = some (.lit .nilFunc) := by and_intros <;> kernel_rfl
theorem t66 : gz.P.cellsOf 66 = 1 ∧ aggT gz.P 66 = some false ∧ elemT gz.P 66 = none := by and_intros <;> kernel_rfl
theorem t67 : gz.P.cellsOf 67 = 1 ∧ aggT gz.P 67 = some false ∧ elemT gz.P 67 = none := by and_intros <;> kernel_rfl
theorem t69 : gz.P.cellsOf 69 = 1 ∧ aggT gz.P 69 = some false ∧ elemT gz.P 69 = none ∧ zeroOf gz.P 69 = some (.lit .nilFunc) := by and_intros <;> kernel_rfl
theorem t70 : gz.P.cellsOf 70 = 1 ∧ aggT gz.P 70 = some false ∧ elemT gz.P 70 = none ∧ zeroOf gz.P 70 = some (.lit .nilFunc) := by and_intros <;> kernel_rfl
theorem t71 : gz.P.cellsOf 71 = 1 ∧ aggT gz.P 71 = some false ∧ elemT gz.P 71 = none ∧ zeroOf gz.P 71 = some (.lit .nilFunc) := by and_intros <;> kernel_rfl
theorem t73 : gz.P.cellsOf 73 = 1 ∧ aggT gz.P 73 = some false ∧ elemT gz.P 73 = none ∧ zeroOf gz.P 73 = some (.lit .nilFunc) := by and_intros <;> kernel_rfl
theorem t74 : gz.P.cellsOf 74 = 1 ∧ aggT gz.P 74 = some false ∧ elemT gz.P 74 = none ∧ zeroOf gz.P 74 = some (.lit .nilFunc) := by and_intros <;> kernel_rfl
theorem t75 : gz.P.cellsOf 75 = 1 ∧ aggT gz.P 75 = some false ∧ elemT gz.P 75 = none ∧ zeroOf gz.P 75 = some (.lit .nilFunc) := by and_intros <;> kernel_rfl
theorem t76 : gz.P.cellsOf 76 = 1 ∧ aggT gz.P 76 = some false ∧ elemT gz.P 76 = none ∧ zeroOf gz.P 76 = some (.lit .nilFunc) := by and_intros <;> kernel_rfl
theorem t77 : gz.P.cellsOf 77 = 1 ∧ aggT gz.P 77 = some false ∧ elemT gz.P 77 = none ∧ zeroOf gz.P 77 = some (.lit .nilFunc) := by and_intros <;> kernel_rfl
theorem t78 : gz.P.cellsOf 78 = 1 ∧ aggT gz.P 78 = some false ∧ elemT gz.P 78 = none ∧ zeroOf gz.P 78 = some (.lit .nilFunc) := by and_intros <;> kernel_rfl
theorem t79 : gz.P.cellsOf 79 = 1 ∧ aggT gz.P 79 = some false ∧ elemT gz.P 79 = none ∧ zeroOf gz.P 79 = some (.lit .nilFunc) := by and_intros <;> kernel_rfl
theorem t80 : gz.P.cellsOf 80 = 1 ∧ aggT gz.P 80 = some false ∧ gz.P.underlying 80 = some (.int .u64) ∧ elemT gz.P 80 = none ∧ zeroOf gz.P 80 = some (.lit (.int .u64 0)) := by and_intros <;> kernel_rfl
theorem t81 : gz.P.cellsOf 81 = 1 ∧ aggT gz.P 81 = some false ∧ elemT gz.P 81 = none ∧ zeroOf gz.P 81 = some (.lit .nilFunc) := by and_intros <;> kernel_rfl
theorem t82 : gz.P.cellsOf 82 = 1 ∧ aggT gz.P 82 = some false ∧ elemT gz.P 82 = none ∧ zeroOf gz.P 82 = some (.lit .nilFunc) := by and_intros <;> kernel_rfl
theorem t84 : gz.P.cellsOf 84 = 1 ∧ aggT gz.P 84 = some false ∧ gz.P.underlying 84 = some (.int .u64) ∧ elemT gz.P 84 = none ∧ zeroOf gz.P 84 = some (.lit (.int .u64 0)) := by and_intros <;> kernel_rfl
theorem t85 : gz.P.cellsOf 85 = 1 ∧ aggT gz.P 85 = some false ∧ elemT gz.P 85 = none ∧ zeroOf gz.P 85 = some (.lit .nilFunc) := by and_intros <;> kernel_rfl
theorem t86 : gz.P.cellsOf 86 = 1 ∧ aggT gz.P 86 = some false ∧ elemT gz.P 86 = none ∧ zeroOf gz.P 86 = some (.lit .nilFunc) := by and_intros <;> kernel_rfl
theorem t88 : gz.P.cellsOf 88 = 1 ∧ aggT gz.P 88 = some false ∧ elemT gz.P 88 = none ∧ zeroOf gz.P 88 = some (.lit .nilFunc) := by and_intros <;> kernel_rfl
theorem t89 : gz.P.cellsOf 89 = 1 ∧ aggT gz.P 89 = some false ∧ elemT gz.P 89 = none ∧ zeroOf gz.P 89 = some (.lit .nilFunc) := by and_intros <;> kernel_rfl
theorem t91 : gz.P.cellsOf 91 = 1 ∧ aggT gz.P 91 = some false ∧ elemT gz.P 91 = none ∧ zeroOf gz.P 91 = some (.lit .nilFunc) := by and_intros <;> kernel_rfl
theorem t92 : gz.P.cellsOf 92 = 1 ∧ aggT gz.P 92 = some false ∧ elemT gz.P 92 = none ∧ zeroOf gz.P 92 = some (.lit .nilFunc) := by and_intros <;> kernel_rfl
theorem t93 : gz.P.cellsOf 93 = 1 ∧ aggT gz.P 93 = some false ∧ elemT gz.P 93 = none ∧ zeroOf gz.P 93 = some (.lit .nilFunc) := by and_intros <;> kernel_rfl
theorem t94 : gz.P.cellsOf 94 = 1 ∧ aggT gz.P 94 = some false ∧ gz.P.underlying 94 = some (.int .i64) ∧ elemT gz.P 94 = none ∧ zeroOf gz.P 94 = some (.lit (.int .i64 0)) := by and_intros <;> kernel_rfl
theorem t96 : gz.P.cellsOf 96 = 1 ∧ aggT gz.P 96 = some false ∧ elemT gz.P 96 = none ∧ zeroOf gz.P 96 = some (.lit .nilFunc) := by and_intros <;> kernel_rfl
theorem t97 : gz.P.cellsOf 97 = 1 ∧ aggT gz.P 97 = some false ∧ elemT gz.P 97 = none ∧ zeroOf gz.P 97 = some (.lit (.pointer none)) := by and_intros <;> kernel_rfl
theorem t98 : gz.P.cellsOf 98 = 1 ∧ aggT gz.P 98 = some false ∧ elemT gz.P 98 = none ∧ zeroOf gz.P 98 = some (.lit .nilFunc) := by and_intros <;> kernel_rfl
theorem t99 : gz.P.cellsOf 99 = 1 ∧ aggT gz.P 99 = some false ∧ elemT gz.P 99 = none ∧ zeroOf gz.P 99 = some (.lit .nilFunc) := by and_intros <;> kernel_rfl
theorem t100 : gz.P.cellsOf 100 = 1 ∧ aggT gz.P 100 = some false ∧ elemT gz.P 100 = none ∧ zeroOf gz.P 100 = some (.lit .nilFunc) := by and_intros <;> kernel_rfl
theorem t101 : gz.P.cellsOf 101 = 1 ∧ aggT gz.P 101 = some false ∧ elemT gz.P 101 = none ∧ zeroOf gz.P 101 = some (.lit .nilFunc) := by and_intros <;> kernel_rfl
theorem t102 : gz.P.cellsOf 102 = 1 ∧ aggT gz.P 102 = some false ∧ elemT gz.P 102 = none ∧ zeroOf gz.P 102 = some (.lit .nilFunc) := by and_intros <;> kernel_rfl
theorem t104 : gz.P.cellsOf 104 = 1 ∧ aggT gz.P 104 = some false ∧ gz.P.underlying 104 = some (.int .u32) ∧ elemT gz.P 104 = none ∧ zeroOf gz.P 104 = some (.lit (.int .u32 0)) := by and_intros <;> kernel_rfl
theorem t106 : gz.P.cellsOf 106 = 1 ∧ aggT gz.P 106 = some false ∧ elemT gz.P 106 = none ∧ zeroOf gz.P 106 = some (.lit .nilFunc) := by and_intros <;> kernel_rfl
theorem t107 : gz.P.cellsOf 107 = 1 ∧ aggT gz.P 107 = some false ∧ elemT gz.P 107 = none ∧ zeroOf gz.P 107 = some (.lit .nilFunc) := by and_intros <;> kernel_rfl
theorem t108 : gz.P.cellsOf 108 = 1 ∧ aggT gz.P 108 = some false ∧ elemT gz.P 108 = none ∧ zeroOf gz.P 108 = some (.lit .nilFunc) := by and_intros <;> kernel_rfl
theorem t109 : gz.P.cellsOf 109 = 1 ∧ aggT gz.P 109 = some false ∧ elemT gz.P 109 = none ∧ zeroOf gz.P 109 = some (.lit .nilFunc) := by and_intros <;> kernel_rfl
theorem t110 : gz.P.cellsOf 110 = 1 ∧ aggT gz.P 110 = some false ∧ elemT gz.P 110 = none ∧ zeroOf gz.P 110 = some (.lit .nilFunc) := by and_intros <;> kernel_rfl
theorem t111 : gz.P.cellsOf 111 = 3 ∧ aggT gz.P 111 = some true ∧ elemT gz.P 111 = none ∧ zeroOf gz.P 111 = some (.agg [.lit (.string ByteArray.empty), .lit (.string ByteArray.empty), .lit .nilIface]) ∧ fieldT gz.P 111 0 = some (0, 9) ∧ fieldT gz.P 111 1 = some (1, 9) ∧ fieldT gz.P 111 2 = some (2, 67) ∧ structOf gz.P 111 = some [.lit (.string ByteArray.empty), .lit (.string ByteArray.empty), .lit .nilIface] := by and_intros <;> kernel_rfl
theorem t112 : gz.P.cellsOf 112 = 3 ∧ aggT gz.P 112 = some true ∧ elemT gz.P 112 = none ∧ zeroOf gz.P 112 = some (.agg [.lit (.string ByteArray.empty), .lit (.string ByteArray.empty), .lit .nilIface]) ∧ fieldT gz.P 112 0 = some (0, 9) ∧ fieldT gz.P 112 1 = some (1, 9) ∧ fieldT gz.P 112 2 = some (2, 67) ∧ structOf gz.P 112 = some [.lit (.string ByteArray.empty), .lit (.string ByteArray.empty), .lit .nilIface] := by and_intros <;> kernel_rfl
theorem t113 : gz.P.cellsOf 113 = 1 ∧ aggT gz.P 113 = some false ∧ elemT gz.P 113 = none ∧ zeroOf gz.P 113 = some (.lit .nilFunc) := by and_intros <;> kernel_rfl
theorem t114 : gz.P.cellsOf 114 = 1 ∧ aggT gz.P 114 = some false ∧ elemT gz.P 114 = none ∧ zeroOf gz.P 114 = some (.lit .nilFunc) := by and_intros <;> kernel_rfl
theorem t116 : gz.P.cellsOf 116 = 2 ∧ aggT gz.P 116 = some true ∧ elemT gz.P 116 = none ∧ zeroOf gz.P 116 = some (.agg [.lit (.int .u8 0), .lit (.int .u8 0)]) ∧ fieldT gz.P 116 0 = some (0, 5) ∧ fieldT gz.P 116 1 = some (1, 5) ∧ structOf gz.P 116 = some [.lit (.int .u8 0), .lit (.int .u8 0)] ∧ plainStruct gz.P 116 = some [0, 0] := by and_intros <;> kernel_rfl
theorem t117 : gz.P.cellsOf 117 = 2 ∧ aggT gz.P 117 = some true ∧ elemT gz.P 117 = none ∧ zeroOf gz.P 117 = some (.agg [.lit (.int .u8 0), .lit (.int .u8 0)]) ∧ fieldT gz.P 117 0 = some (0, 5) ∧ fieldT gz.P 117 1 = some (1, 5) ∧ structOf gz.P 117 = some [.lit (.int .u8 0), .lit (.int .u8 0)] ∧ plainStruct gz.P 117 = some [0, 0] := by and_intros <;> kernel_rfl
theorem t120 : gz.P.cellsOf 120 = 1 ∧ aggT gz.P 120 = some false ∧ elemT gz.P 120 = none ∧ zeroOf gz.P 120 = some (.lit .nilFunc) := by and_intros <;> kernel_rfl
theorem t121 : gz.P.cellsOf 121 = 1 ∧ aggT gz.P 121 = some false ∧ elemT gz.P 121 = none ∧ zeroOf gz.P 121 = some (.lit (.pointer none)) := by and_intros <;> kernel_rfl
theorem t122 : gz.P.cellsOf 122 = 1 ∧ aggT gz.P 122 = some false ∧ elemT gz.P 122 = none ∧ zeroOf gz.P 122 = some (.lit (.pointer none)) := by and_intros <;> kernel_rfl
theorem t123 : gz.P.cellsOf 123 = 1 ∧ aggT gz.P 123 = some true ∧ elemT gz.P 123 = none ∧ zeroOf gz.P 123 = some (.agg [.lit (.string ByteArray.empty)]) ∧ fieldT gz.P 123 0 = some (0, 9) ∧ structOf gz.P 123 = some [.lit (.string ByteArray.empty)] ∧ plainStruct gz.P 123 = some [2] := by and_intros <;> kernel_rfl
theorem t124 : gz.P.cellsOf 124 = 1 ∧ aggT gz.P 124 = some true ∧ elemT gz.P 124 = none ∧ zeroOf gz.P 124 = some (.agg [.lit (.string ByteArray.empty)]) ∧ fieldT gz.P 124 0 = some (0, 9) ∧ structOf gz.P 124 = some [.lit (.string ByteArray.empty)] ∧ plainStruct gz.P 124 = some [2] := by and_intros <;> kernel_rfl
theorem t127 : gz.P.cellsOf 127 = 1 ∧ aggT gz.P 127 = some false ∧ elemT gz.P 127 = none ∧ zeroOf gz.P 127 = some (.lit .nilFunc) := by and_intros <;> kernel_rfl
theorem t133 : gz.P.cellsOf 133 = 1 ∧ aggT gz.P 133 = some false ∧ elemT gz.P 133 = none ∧ zeroOf gz.P 133 = some (.lit .nilFunc) := by and_intros <;> kernel_rfl
theorem t134 : gz.P.cellsOf 134 = 1 ∧ aggT gz.P 134 = some false ∧ gz.P.underlying 134 = some (.int .u8) ∧ elemT gz.P 134 = none ∧ zeroOf gz.P 134 = some (.lit (.int .u8 0)) := by and_intros <;> kernel_rfl
theorem t135 : gz.P.cellsOf 135 = 1 ∧ aggT gz.P 135 = some false ∧ gz.P.underlying 135 = some (.int .u8) ∧ elemT gz.P 135 = none ∧ zeroOf gz.P 135 = some (.lit (.int .u8 0)) := by and_intros <;> kernel_rfl
theorem t136 : gz.P.cellsOf 136 = 1 ∧ aggT gz.P 136 = some false ∧ elemT gz.P 136 = none ∧ zeroOf gz.P 136 = some (.lit .nilFunc) := by and_intros <;> kernel_rfl
theorem t137 : gz.P.cellsOf 137 = 1 ∧ aggT gz.P 137 = some false ∧ gz.P.underlying 137 = some (.int .i32) ∧ elemT gz.P 137 = none ∧ zeroOf gz.P 137 = some (.lit (.int .i32 0)) := by and_intros <;> kernel_rfl
theorem t138 : gz.P.cellsOf 138 = 1 ∧ aggT gz.P 138 = some false ∧ gz.P.underlying 138 = some (.int .i32) ∧ elemT gz.P 138 = none ∧ zeroOf gz.P 138 = some (.lit (.int .i32 0)) := by and_intros <;> kernel_rfl
theorem t139 : gz.P.cellsOf 139 = 11 ∧ aggT gz.P 139 = some true ∧ elemT gz.P 139 = none ∧ zeroOf gz.P 139 = some (.agg [.lit (.int .u64 0), .lit (.int .u64 0), .lit (.int .u32 0), .lit (.int .u8 0), .lit (.int .u8 0), .lit (.int .u8 0), .lit (.int .u8 0), .lit .nilFunc, .lit (.pointer none), .lit (.int .i32 0), .lit (.int .i32 0)]) ∧ fieldT gz.P 139 0 = some (0, 12) ∧ fieldT gz.P 139 1 = some (1, 12) ∧ fieldT gz.P 139 2 = some (2, 104) ∧ fieldT gz.P 139 3 = some (3, 134) ∧ fieldT gz.P 139 4 = some (4, 5) ∧ fieldT gz.P 139 5 = some (5, 5) ∧ fieldT gz.P 139 6 = some (6, 135) ∧ fieldT gz.P 139 7 = some (7, 136) ∧ fieldT gz.P 139 8 = some (8, 121) ∧ fieldT gz.P 139 9 = some (9, 137) ∧ fieldT gz.P 139 10 = some (10, 138) ∧ structOf gz.P 139 = some [.lit (.int .u64 0), .lit (.int .u64 0), .lit (.int .u32 0), .lit (.int .u8 0), .lit (.int .u8 0), .lit (.int .u8 0), .lit (.int .u8 0), .lit .nilFunc, .lit (.pointer none), .lit (.int .i32 0), .lit (.int .i32 0)] := by and_intros <;> kernel_rfl
theorem t141 : gz.P.cellsOf 141 = 1 ∧ aggT gz.P 141 = some false ∧ elemT gz.P 141 = none ∧ zeroOf gz.P 141 = some (.lit .nilFunc) := by and_intros <;> kernel_rfl
theorem t143 : gz.P.cellsOf 143 = 1 ∧ aggT gz.P 143 = some false ∧ gz.P.underlying 143 = some (.slice 145) ∧ elemT gz.P 143 = some 145 ∧ zeroOf gz.P 143 = some (.lst true 2 []) := by and_intros <;> kernel_rfl
theorem t144 : gz.P.cellsOf 144 = 2 ∧ aggT gz.P 144 = some true ∧ elemT gz.P 144 = none ∧ zeroOf gz.P 144 = some (.agg [.lit (.int .i64 0), .lit (.int .i64 0)]) ∧ fieldT gz.P 144 0 = some (0, 2) ∧ fieldT gz.P 144 1 = some (1, 2) ∧ structOf gz.P 144 = some [.lit (.int .i64 0), .lit (.int .i64 0)] ∧ plainStruct gz.P 144 = some [0, 0] := by and_intros <;> kernel_rfl
theorem t145 : gz.P.cellsOf 145 = 2 ∧ aggT gz.P 145 = some true ∧ elemT gz.P 145 = none ∧ zeroOf gz.P 145 = some (.agg [.lit (.int .i64 0), .lit (.int .i64 0)]) ∧ fieldT gz.P 145 0 = some (0, 2) ∧ fieldT gz.P 145 1 = some (1, 2) ∧ structOf gz.P 145 = some [.lit (.int .i64 0), .lit (.int .i64 0)] ∧ plainStruct gz.P 145 = some [0, 0] := by and_intros <;> kernel_rfl
theorem tn2 {n : Nat} : fits gz.P 2 n = (n * 8 ≤ 140737488355328 ∧ n ≤ maxLen) := by
  have h : gz.P.bytesOf 2 = 8 := by kernel_rfl
  simp only [fits, h]
theorem tn5 {n : Nat} : fits gz.P 5 n = (n * 1 ≤ 140737488355328 ∧ n ≤ maxLen) := by
  have h : gz.P.bytesOf 5 = 1 := by kernel_rfl
  simp only [fits, h]
theorem tn9 {n : Nat} : fits gz.P 9 n = (n * 16 ≤ 140737488355328 ∧ n ≤ maxLen) := by
  have h : gz.P.bytesOf 9 = 16 := by kernel_rfl
  simp only [fits, h]
theorem tn145 {n : Nat} : fits gz.P 145 n = (n * 16 ≤ 140737488355328 ∧ n ≤ maxLen) := by
  have h : gz.P.bytesOf 145 = 16 := by kernel_rfl
  simp only [fits, h]
attribute [go_sem] t1 t2 t3 t4 t5 t6 t9 t10 t11 t12 t15 t16 t17 t20 t21 t22 t23 t24 t25 t26 t27 t28 t30 t31 t32 t33 t34 t36 t37 t38 t39 t41 t42 t43 t44 t45 t46 t47 t48 t49 t50 t52 t53 t54 t55 t56 t57 t58 t59 t60 t61 t62 t63 t64 t65 t66 t67 t69 t70 t71 t73 t74 t75 t76 t77 t78 t79 t80 t81 t82 t84 t85 t86 t88 t89 t91 t92 t93 t94 t96 t97 t98 t99 t100 t101 t102 t104 t106 t107 t108 t109 t110 t111 t112 t113 t114 t116 t117 t120 t121 t122 t123 t124 t127 t133 t134 t135 t136 t137 t138 t139 t141 t143 t144 t145 tn2 tn5 tn9 tn145
theorem ti20 : isIfc (gz.P.underlying 20) = true := by kernel_rfl
theorem ti66 : isIfc (gz.P.underlying 66) = true := by kernel_rfl
theorem ti67 : isIfc (gz.P.underlying 67) = true := by kernel_rfl
attribute [go_sem] ti20 ti66 ti67
end Go.VS

