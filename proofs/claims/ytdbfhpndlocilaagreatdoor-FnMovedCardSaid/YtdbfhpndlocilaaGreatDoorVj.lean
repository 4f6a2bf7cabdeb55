/- VS: functions by the machine. -/
import Derived.Test.YtdbfhpndlocilaaGreatDoorVf
import Derived.Test.YtdbfhpndlocilaaGreatDoorVn
import Derived.Test.YtdbfhpndlocilaaGreatDoorVi
set_option linter.unusedSimpArgs false
set_option linter.unusedVariables false
open Go.Proofs
set_option maxRecDepth 20000
namespace Go.VS
def szL {α : Type} (f : α → Nat) (xs : List α) : Nat := xs.length + (xs.map f).sum
def room (left : Int) : Prop := 0 ≤ left ∧ left ≤ 1048576
def Prf.sz (p : Prf) : Nat := p.bys.length + p.tags.length
def Blk.sz (b : Blk) : Nat := b.proof.sz + szL ByteArray.size b.moves
def Rpl.sz (r : Rpl) : Nat := r.high.sz + szL Blk.sz r.blocks + r.votes.length + r.news.length + r.done.length
end Go.VS
set_option linter.unusedSimpArgs false
set_option linter.unusedVariables false
open Go.Proofs
set_option maxRecDepth 20000
namespace Go.VS
end Go.VS
set_option linter.unusedSimpArgs false
set_option linter.unusedVariables false
open Go.Proofs
set_option maxRecDepth 20000
namespace Go.VS
end Go.VS
set_option linter.unusedSimpArgs false
set_option linter.unusedVariables false
open Go.Proofs
set_option maxRecDepth 20000
namespace Go.VS
theorem modify_strB {i : Nat} {xs : List ByteArray} {v : ByteArray} : (xs.map strA).modify i (putF [] (.lit (.string v))) = (xs.set i v).map strA := modify_enc (f := strA) rfl
attribute [go_sem] modify_strB
def tot {α : Type} (w : α → Nat) (xs : List α) : Nat := (xs.map w).sum
theorem modify_flds {α : Type} {f : α → AVal} {xs : List α} {i : Nat} {g : AVal → AVal} (h : α → α) (e : ∀ x, g (f x) = f (h x)) : (xs.map f).modify i g = (xs.modify i h).map f := by
  apply List.ext_getElem?
  intro j
  simp only [List.getElem?_modify, List.getElem?_map]
  cases xs[j]? with
  | none => rfl
  | some x => by_cases hj : i = j <;> simp [hj, e]
theorem modify_two {α : Type} {xs : List α} {i : Nat} {g h : α → α} : (xs.modify i g).modify i h = xs.modify i (fun x => h (g x)) := by
  apply List.ext_getElem?
  intro j
  simp only [List.getElem?_modify]
  cases xs[j]? with
  | none => rfl
  | some x => by_cases hj : i = j <;> simp [hj]
attribute [go_sem] modify_two List.length_modify
end Go.VS
set_option linter.unusedSimpArgs false
set_option linter.unusedVariables false
open Go.Proofs
set_option maxRecDepth 20000
namespace Go.VS
theorem modify_intB {i : Nat} {xs : List Int} {v : Int} : (xs.map intA).modify i (putF [] (.lit (.int .i64 v))) = (xs.set i v).map intA := modify_enc (f := intA) rfl
attribute [go_sem] modify_intB
theorem Vot.put0 {xs : List Vot} {i : Nat} {a : Int} : (xs.map Vot.enc).modify i (putF [0] (.lit (.int .i64 a))) = (xs.modify i (fun p => { p with view := a })).map Vot.enc := modify_flds _ fun x => rfl
theorem Vot.put1 {xs : List Vot} {i : Nat} {a : Int} : (xs.map Vot.enc).modify i (putF [1] (.lit (.int .i64 a))) = (xs.modify i (fun p => { p with name := a })).map Vot.enc := modify_flds _ fun x => rfl
theorem Vot.put2 {xs : List Vot} {i : Nat} {a : Int} : (xs.map Vot.enc).modify i (putF [2] (.lit (.int .i64 a))) = (xs.modify i (fun p => { p with bY := a })).map Vot.enc := modify_flds _ fun x => rfl
theorem Vot.put3 {xs : List Vot} {i : Nat} {a : Int} : (xs.map Vot.enc).modify i (putF [3] (.lit (.int .i64 a))) = (xs.modify i (fun p => { p with tag := a })).map Vot.enc := modify_flds _ fun x => rfl
theorem Nws.put0 {xs : List Nws} {i : Nat} {a : Int} : (xs.map Nws.enc).modify i (putF [0] (.lit (.int .i64 a))) = (xs.modify i (fun p => { p with view := a })).map Nws.enc := modify_flds _ fun x => rfl
theorem Nws.put1 {xs : List Nws} {i : Nat} {a : Int} : (xs.map Nws.enc).modify i (putF [1] (.lit (.int .i64 a))) = (xs.modify i (fun p => { p with src := a })).map Nws.enc := modify_flds _ fun x => rfl
attribute [go_sem] Vot.put0 Vot.put1 Vot.put2 Vot.put3 Nws.put0 Nws.put1
end Go.VS
set_option linter.unusedSimpArgs false
set_option linter.unusedVariables false
open Go.Proofs
set_option maxRecDepth 20000
namespace Go.VS
theorem blkNoRefs {own : Bool} {xs : List Blk} : noRefs (xs.map (Blk.enc own)) = true := noRefs_map fun x => by simp only [go_sem]
theorem blkClosed {xs : List Blk} : closedAs (xs.map (Blk.enc true)) = true := closedAs_map fun x => by simp only [go_sem]
theorem blkFlat {xs : List Blk} : flatAs (xs.map (Blk.enc false)) = true := flatAs_map fun x => by simp only [go_sem]
theorem blkShds {own : Bool} {xs : List Blk} : toShds (xs.map (Blk.enc own)) = xs.map (Blk.enc false) := toShds_mapTo fun x => by cases own <;> simp only [go_sem]
attribute [go_sem] blkNoRefs blkClosed blkFlat blkShds
end Go.VS
set_option linter.unusedSimpArgs false
set_option linter.unusedVariables false
open Go.Proofs
set_option maxRecDepth 20000
namespace Go.VS
theorem Blk.put0 {xs : List Blk} {o : Bool} {i : Nat} {a : Int} : (xs.map (Blk.enc o)).modify i (putF [0] (.lit (.int .i64 a))) = (xs.modify i (fun p => { p with view := a })).map (Blk.enc o) := modify_flds _ fun x => rfl
theorem Blk.put1 {xs : List Blk} {o : Bool} {i : Nat} {a : Int} : (xs.map (Blk.enc o)).modify i (putF [1] (.lit (.int .i64 a))) = (xs.modify i (fun p => { p with parent := a })).map (Blk.enc o) := modify_flds _ fun x => rfl
theorem Blk.put20 {xs : List Blk} {o : Bool} {i : Nat} {a : Int} : (xs.map (Blk.enc o)).modify i (putF [2, 0] (.lit (.int .i64 a))) = (xs.modify i (fun p => { p with proof := { p.proof with view := a } })).map (Blk.enc o) := modify_flds _ fun x => rfl
theorem Blk.put21 {xs : List Blk} {o : Bool} {i : Nat} {a : Int} : (xs.map (Blk.enc o)).modify i (putF [2, 1] (.lit (.int .i64 a))) = (xs.modify i (fun p => { p with proof := { p.proof with name := a } })).map (Blk.enc o) := modify_flds _ fun x => rfl
theorem Blk.put4 {xs : List Blk} {o : Bool} {i : Nat} {a : Int} : (xs.map (Blk.enc o)).modify i (putF [4] (.lit (.int .i64 a))) = (xs.modify i (fun p => { p with bY := a })).map (Blk.enc o) := modify_flds _ fun x => rfl
theorem Blk.putL22 {xs : List Blk} {i : Nat} {ys : List Int} : (xs.map (Blk.enc true)).modify i (putP [.fld 2, .fld 2] (.lst true 1 (ys.map intA))) = (xs.modify i (fun p => { p with proof := { p.proof with bys := ys } })).map (Blk.enc true) := modify_flds _ fun x => rfl
theorem Blk.putL23 {xs : List Blk} {i : Nat} {ys : List Int} : (xs.map (Blk.enc true)).modify i (putP [.fld 2, .fld 3] (.lst true 1 (ys.map intA))) = (xs.modify i (fun p => { p with proof := { p.proof with tags := ys } })).map (Blk.enc true) := modify_flds _ fun x => rfl
theorem Blk.putL3 {xs : List Blk} {i : Nat} {ys : List ByteArray} : (xs.map (Blk.enc true)).modify i (putP [.fld 3] (.lst true 1 (ys.map strA))) = (xs.modify i (fun p => { p with moves := ys })).map (Blk.enc true) := modify_flds _ fun x => rfl
attribute [go_sem] putP_lst Blk.put0 Blk.put1 Blk.put20 Blk.put21 Blk.put4 Blk.putL22 Blk.putL23 Blk.putL3
end Go.VS
set_option linter.unusedSimpArgs false
set_option linter.unusedVariables false
open Go.Proofs Go.RowKit
set_option maxRecDepth 20000
namespace Go.VS
def Bnk.sz (b : Bnk) : Nat := b.money.length + b.counts.length
theorem Bnk.ans_len (b : Bnk) (l : List ByteArray) : (b.ans l).1.money.length ≤ 8 ∧ (b.ans l).1.counts.length ≤ 8 ∧ (b.ans l).2.length ≤ l.length := by
  unfold Bnk.ans
  split
  · rename_i h
    have h1 := Bnk.ok_len (Bnk.run_ok h l l.length).1
    have h2 := Bnk.run_len b l l.length
    omega
  · simp
end Go.VS
