/- VS: functions by the machine. -/
import Derived.Test.YtejhoajebbigbaaGreatDoorVx
import Derived.Test.YtejhoajebbigbaaGreatDoorVk
import Derived.Test.YtejhoajebbigbaaGreatDoorVg
import Derived.Test.YtejhoajebbigbaaGreatDoorVp
set_option linter.unusedSimpArgs false
set_option linter.unusedVariables false
open Go.Proofs
set_option maxRecDepth 20000
namespace Go.VS
theorem f13_at : gz.P.funcs[13]? = some Tryz.f13 := by
 have h : Tryz.prog.funcs[13]? = some Tryz.f13 := by kernel_rfl
 exact h
theorem f16_at : gz.P.funcs[16]? = some Tryz.f16 := by
 have h : Tryz.prog.funcs[16]? = some Tryz.f16 := by kernel_rfl
 exact h
def bM (xs : List Blk) (k : Int) : List Blk := (mkL Blk.mkB xs k).1
def vM (xs : List Vot) (k : Int) : List Vot := (mkL Vot.mk4 xs k).1
def nM (xs : List Nws) (k : Int) : List Nws := (mkL Nws.mk2 xs k).1
def bT (xs : List Blk) : Nat := tot Blk.mw xs
theorem bM_snd (xs : List Blk) (k : Int) : (mkL Blk.mkB xs k).2 = k + (bT xs : Int) := mkL_rng _ Blk.mkB_c xs k
theorem vM_snd (xs : List Vot) (k : Int) : (mkL Vot.mk4 xs k).2 = k + ((xs.length * 4 : Nat) : Int) := by rw [mkL_rng _ Vot.mk4_c, tot_const]
theorem nM_snd (xs : List Nws) (k : Int) : (mkL Nws.mk2 xs k).2 = k + ((xs.length * 2 : Nat) : Int) := by rw [mkL_rng _ Nws.mk2_c, tot_const]
theorem bM_len (xs : List Blk) (k : Int) : (bM xs k).length = xs.length := mkL_length _ _ _
theorem vM_len (xs : List Vot) (k : Int) : (vM xs k).length = xs.length := mkL_length _ _ _
theorem nM_len (xs : List Nws) (k : Int) : (nM xs k).length = xs.length := mkL_length _ _ _
theorem okI46 (xs : List Blk) (k : Int) (h1 : 0 <= k) (h2 : k + (bT xs : Int) <= 4611686018427387904) :
  VMut gz 46 [.lst true 8 (xs.map (Blk.enc true)), .lit (.int .i64 k)] 0 (fun y x' => y = .lit (.int .i64 (k + (bT xs : Int))) /\ x' = .lst true 8 ((bM xs k).map (Blk.enc true))) := by
 have := ok46 xs k h1 h2
 rwa [bM_snd] at this
theorem okI53 (xs : List Blk) (k : Int) (h1 : 0 <= k) (h2 : k + (bT xs : Int) <= 4611686018427387904) :
  VCalls gz 53 [.lst false 8 ((bM xs k).map (Blk.enc false)), .lit (.int .i64 k)] none (fun y _ => y = .lit (.int .i64 (k + (bT xs : Int)))) := by
 have := ok53 xs k h1 h2
 rwa [bM_snd] at this
theorem okI47 (xs : List Vot) (k : Int) (h1 : 0 <= k) (h2 : k + ((xs.length * 4 : Nat) : Int) <= 4611686018427387904) :
  VMut gz 47 [.lst true 4 (xs.map Vot.enc), .lit (.int .i64 k)] 0 (fun y x' => y = .lit (.int .i64 (k + ((xs.length * 4 : Nat) : Int))) /\ x' = .lst true 4 ((vM xs k).map Vot.enc)) := by
 have := ok47 xs k h1 (by rw [tot_const]; exact h2)
 rwa [vM_snd] at this
theorem okI54 (xs : List Vot) (k : Int) (h1 : 0 <= k) (h2 : k + ((xs.length * 4 : Nat) : Int) <= 4611686018427387904) :
  VCalls gz 54 [.lst false 4 ((vM xs k).map Vot.enc), .lit (.int .i64 k)] none (fun y _ => y = .lit (.int .i64 (k + ((xs.length * 4 : Nat) : Int)))) := by
 have := ok54 xs k h1 (by rw [tot_const]; exact h2)
 rwa [vM_snd] at this
theorem okI48 (xs : List Nws) (k : Int) (h1 : 0 <= k) (h2 : k + ((xs.length * 2 : Nat) : Int) <= 4611686018427387904) :
  VMut gz 48 [.lst true 2 (xs.map Nws.enc), .lit (.int .i64 k)] 0 (fun y x' => y = .lit (.int .i64 (k + ((xs.length * 2 : Nat) : Int))) /\ x' = .lst true 2 ((nM xs k).map Nws.enc)) := by
 have := ok48 xs k h1 (by rw [tot_const]; exact h2)
 rwa [nM_snd] at this
theorem okI55 (xs : List Nws) (k : Int) (h1 : 0 <= k) (h2 : k + ((xs.length * 2 : Nat) : Int) <= 4611686018427387904) :
  VCalls gz 55 [.lst false 2 ((nM xs k).map Nws.enc), .lit (.int .i64 k)] none (fun y _ => y = .lit (.int .i64 (k + ((xs.length * 2 : Nat) : Int)))) := by
 have := ok55 xs k h1 (by rw [tot_const]; exact h2)
 rwa [nM_snd] at this
def Rpl.k1 (r : Rpl) (k : Int) : Int := k + (r.high.mw : Int)
def Rpl.k2 (r : Rpl) (k : Int) : Int := r.k1 k + (bT r.blocks : Int)
def Rpl.k3 (r : Rpl) (k : Int) : Int := r.k2 k + ((r.votes.length * 4 : Nat) : Int)
def Rpl.k4 (r : Rpl) (k : Int) : Int := r.k3 k + ((r.news.length * 2 : Nat) : Int)
def Rpl.k5 (r : Rpl) (k : Int) : Int := r.k4 k + (r.done.length : Int)
def Rpl.mkR (r : Rpl) (k : Int) : Rpl := ⟨r.id, r.n, r.view, r.voted, r.locked, r.proposed, (r.high.mkP k).1, bM r.blocks (r.k1 k), vM r.votes (r.k2 k), nM r.news (r.k3 k), iM r.done (r.k4 k)⟩
theorem ok13 (r : Rpl) (k : Int) (h1 : 0 <= k) (h2 : r.k5 k <= 4611686018427387904) :
  VMut gz 13 [r.enc true, .lit (.int .i64 k)] 0 (fun y x' => y = .lit (.int .i64 (r.k5 k)) /\ x' = (r.mkR k).enc true) := by
 have e1 : r.k1 k = k + (r.high.mw : Int) := rfl
 have e2 : r.k2 k = r.k1 k + (bT r.blocks : Int) := rfl
 have e3 : r.k3 k = r.k2 k + ((r.votes.length * 4 : Nat) : Int) := rfl
 have e4 : r.k4 k = r.k3 k + ((r.news.length * 2 : Nat) : Int) := rfl
 have e5 : r.k5 k = r.k4 k + (r.done.length : Int) := rfl
 refine VMut.go (nt := 26) (keep := [0, 1, 2, 4]) (i := 0) (mvs := []) [] f13_at rfl (by kernel_rfl) rfl (by kernel_rfl) rfl rfl rfl ?_
 intro hok
 simp only [go_sem] at hok
 simp only [Tryz.f13, Func.code, Option.getD_some]
 simp only [go_sem]
 refine call_give 0 0 [.fld 6] rfl rfl rfl (by simp only [go_sem]; rfl) (by simp only [go_sem, List.getElem?_cons_zero, List.getElem?_cons_succ]) (by simp only [go_sem]) (by simp only [go_sem]) (by simp only [go_sem]) ?_
 simp only [go_sem, List.set]
 refine callW.eq (ok45 r.high k h1 (by omega)) ?_
 simp only [go_sem]
 have e0 : (r.high.mkP k).2 = r.k1 k := rfl
 rw [e0]
 refine ⟨⟨rfl, rfl, iM_len _ _, iM_len _ _⟩, ?_⟩
 refine call_give 0 0 [.fld 7] rfl rfl rfl (by simp only [go_sem]; rfl) (by simp only [go_sem, List.getElem?_cons_zero, List.getElem?_cons_succ]) (by simp only [go_sem]) (by simp only [go_sem]) (by simp only [go_sem]) ?_
 simp only [go_sem, List.set]
 refine callW.eq (okI46 r.blocks (r.k1 k) (by omega) (by omega)) ?_
 simp only [go_sem]
 rw [<- e2]
 refine ⟨bM_len _ _, ?_⟩
 refine call_give 0 0 [.fld 8] rfl rfl rfl (by simp only [go_sem]; rfl) (by simp only [go_sem, List.getElem?_cons_zero, List.getElem?_cons_succ]) (by simp only [go_sem]) (by simp only [go_sem]) (by simp only [go_sem]) ?_
 simp only [go_sem, List.set]
 refine callW.eq (okI47 r.votes (r.k2 k) (by omega) (by omega)) ?_
 simp only [go_sem]
 rw [<- e3]
 refine ⟨vM_len _ _, ?_⟩
 refine call_give 0 0 [.fld 9] rfl rfl rfl (by simp only [go_sem]; rfl) (by simp only [go_sem, List.getElem?_cons_zero, List.getElem?_cons_succ]) (by simp only [go_sem]) (by simp only [go_sem]) (by simp only [go_sem]) ?_
 simp only [go_sem, List.set]
 refine callW.eq (okI48 r.news (r.k3 k) (by omega) (by omega)) ?_
 simp only [go_sem]
 rw [<- e4]
 refine ⟨nM_len _ _, ?_⟩
 refine call_give 0 0 [.fld 10] rfl rfl rfl (by simp only [go_sem]; rfl) (by simp only [go_sem, List.getElem?_cons_zero, List.getElem?_cons_succ]) (by simp only [go_sem]) (by simp only [go_sem]) (by simp only [go_sem]) ?_
 simp only [go_sem, List.set]
 refine callW.eq (okI49 r.done (r.k4 k) (by omega) (by omega)) ?_
 simp only [go_sem]
 rw [<- e5]
 refine ⟨iM_len _ _, ?_⟩
 try trivial
theorem ok16 (r : Rpl) (k : Int) (h1 : 0 <= k) (h2 : r.k5 k <= 4611686018427387904) :
  VCalls gz 16 [(r.mkR k).enc false, .lit (.int .i64 k)] none (fun y _ => y = .lit (.int .i64 (r.k5 k))) := by
 have e1 : r.k1 k = k + (r.high.mw : Int) := rfl
 have e2 : r.k2 k = r.k1 k + (bT r.blocks : Int) := rfl
 have e3 : r.k3 k = r.k2 k + ((r.votes.length * 4 : Nat) : Int) := rfl
 have e4 : r.k4 k = r.k3 k + ((r.news.length * 2 : Nat) : Int) := rfl
 have e5 : r.k5 k = r.k4 k + (r.done.length : Int) := rfl
 have e0 : (r.high.mkP k).2 = r.k1 k := rfl
 have eR : r.mkR k = ⟨r.id, r.n, r.view, r.voted, r.locked, r.proposed, (r.high.mkP k).1, bM r.blocks (r.k1 k), vM r.votes (r.k2 k), nM r.news (r.k3 k), iM r.done (r.k4 k)⟩ := rfl
 have n1 : ¬ (r.k1 k < 0) := by omega
 have n2 : ¬ (r.k2 k < 0) := by omega
 have n3 : ¬ (r.k3 k < 0) := by omega
 have n4 : ¬ (r.k4 k < 0) := by omega
 have n5 : ¬ (r.k5 k < 0) := by omega
 rw [eR]
 refine VCalls.go (nt := 36) (keep := [0, 1, 2, 4, 10, 16, 22, 28, 34]) (muts := []) (mvs := []) [] f16_at rfl (by kernel_rfl) rfl (by kernel_rfl) rfl (fun i h => by cases h) rfl ?_
 intro hok
 simp only [go_sem] at hok
 simp only [Tryz.f16, Func.code, Option.getD_some]
 simp only [go_sem]
 refine call_lend ?_
 simp only [go_sem]
 refine callN.eq (ok52 r.high k h1 (by omega)) (by simp only [go_sem]) ?_
 simp only [go_sem]
 simp only [go_sem, e0, n1]
 refine call_lend ?_
 simp only [go_sem]
 refine callN.eq (okI53 r.blocks (r.k1 k) (by omega) (by omega)) (by simp only [go_sem]) ?_
 simp only [go_sem]
 simp only [go_sem, <- e2, n2]
 refine call_lend ?_
 simp only [go_sem]
 refine callN.eq (okI54 r.votes (r.k2 k) (by omega) (by omega)) (by simp only [go_sem]) ?_
 simp only [go_sem]
 simp only [go_sem, <- e3, n3]
 refine call_lend ?_
 simp only [go_sem]
 refine callN.eq (okI55 r.news (r.k3 k) (by omega) (by omega)) (by simp only [go_sem]) ?_
 simp only [go_sem]
 simp only [go_sem, <- e4, n4]
 refine call_lend ?_
 simp only [go_sem]
 refine callN.eq (okI56 r.done (r.k4 k) (by omega) (by omega)) (by simp only [go_sem]) ?_
 simp only [go_sem]
 simp only [go_sem, <- e5, n5]
end Go.VS
set_option linter.unusedSimpArgs false
set_option linter.unusedVariables false
open Go.Proofs
set_option maxRecDepth 20000
namespace Go.VS
theorem Rpl.mkR_like (r : Rpl) (k : Int) : (r.mkR k).id = r.id /\ (r.mkR k).n = r.n /\ (r.mkR k).view = r.view /\ (r.mkR k).voted = r.voted /\ (r.mkR k).locked = r.locked /\ (r.mkR k).proposed = r.proposed ∧
  ((r.mkR k).high.view = r.high.view /\ (r.mkR k).high.name = r.high.name /\ (r.mkR k).high.bys.length = r.high.bys.length /\ (r.mkR k).high.tags.length = r.high.tags.length) ∧
  (r.mkR k).blocks.length = r.blocks.length /\ (r.mkR k).votes.length = r.votes.length /\ (r.mkR k).news.length = r.news.length /\ (r.mkR k).done.length = r.done.length :=
 ⟨rfl, rfl, rfl, rfl, rfl, rfl, ⟨rfl, rfl, iM_len _ _, iM_len _ _⟩, bM_len _ _, vM_len _ _, nM_len _ _, iM_len _ _⟩
def Rpl.zero : Rpl := ⟨0, 0, 0, 0, 0, 0, ⟨0, 0, [], []⟩, [], [], [], []⟩
theorem bT_le : ∀ (xs : List Blk), bT xs <= 5 * xs.length + (xs.map Blk.sz).sum
 | [] => by simp [bT, tot]
 | x :: xs => by
  have h1 := bT_le xs
  have h2 : bT (x :: xs) = x.mw + bT xs := by simp [bT, tot]
  have h3 : x.mw <= 5 + x.sz := by
   have : x.sz = x.proof.bys.length + x.proof.tags.length + szL ByteArray.size x.moves := rfl
   simp only [szL] at this
   unfold Blk.mw
   omega
  simp only [List.map_cons, List.sum_cons, List.length_cons]
  omega
theorem Rpl.k5_le {r : Rpl} (h : r.sz <= 1048576) (k : Int) : k <= r.k5 k /\ r.k5 k <= k + 6291456 := by
 have h2 : r.high.sz + szL Blk.sz r.blocks + r.votes.length + r.news.length + r.done.length <= 1048576 := h
 have h3 := bT_le r.blocks
 have h4 : r.high.mw = r.high.sz := rfl
 unfold Rpl.k5 Rpl.k4 Rpl.k3 Rpl.k2 Rpl.k1
 simp only [szL] at h2
 omega
end Go.VS
set_option linter.unusedSimpArgs false
set_option linter.unusedVariables false
open Go.Proofs
set_option maxRecDepth 20000
namespace Go.VS
theorem f50_at : gz.P.funcs[50]? = some Tryz.f50 := by
 have h : Tryz.prog.funcs[50]? = some Tryz.f50 := by kernel_rfl
 exact h
theorem f14_at : gz.P.funcs[14]? = some Tryz.f14 := by
 have h : Tryz.prog.funcs[14]? = some Tryz.f14 := by kernel_rfl
 exact h
theorem f15_at : gz.P.funcs[15]? = some Tryz.f15 := by
 have h : Tryz.prog.funcs[15]? = some Tryz.f15 := by kernel_rfl
 exact h
theorem f17_at : gz.P.funcs[17]? = some Tryz.f17 := by
 have h : Tryz.prog.funcs[17]? = some Tryz.f17 := by kernel_rfl
 exact h
theorem Msg.put0 {xs : List Msg} {o : Bool} {i : Nat} {a : Int} : (xs.map (Msg.enc o)).modify i (putF [0] (.lit (.int .i64 a))) = (xs.modify i (fun p => { p with kind := a })).map (Msg.enc o) := modify_flds _ fun x => rfl
theorem Msg.put1 {xs : List Msg} {o : Bool} {i : Nat} {a : Int} : (xs.map (Msg.enc o)).modify i (putF [1] (.lit (.int .i64 a))) = (xs.modify i (fun p => { p with src := a })).map (Msg.enc o) := modify_flds _ fun x => rfl
theorem Msg.put2 {xs : List Msg} {o : Bool} {i : Nat} {a : Int} : (xs.map (Msg.enc o)).modify i (putF [2] (.lit (.int .i64 a))) = (xs.modify i (fun p => { p with dst := a })).map (Msg.enc o) := modify_flds _ fun x => rfl
theorem Msg.put3 {xs : List Msg} {o : Bool} {i : Nat} {a : Int} : (xs.map (Msg.enc o)).modify i (putF [3] (.lit (.int .i64 a))) = (xs.modify i (fun p => { p with view := a })).map (Msg.enc o) := modify_flds _ fun x => rfl
theorem Msg.put4_0 {xs : List Msg} {o : Bool} {i : Nat} {a : Int} : (xs.map (Msg.enc o)).modify i (putF [4, 0] (.lit (.int .i64 a))) = (xs.modify i (fun p => { p with block := { p.block with view := a } })).map (Msg.enc o) := modify_flds _ fun x => rfl
theorem Msg.put4_1 {xs : List Msg} {o : Bool} {i : Nat} {a : Int} : (xs.map (Msg.enc o)).modify i (putF [4, 1] (.lit (.int .i64 a))) = (xs.modify i (fun p => { p with block := { p.block with parent := a } })).map (Msg.enc o) := modify_flds _ fun x => rfl
theorem Msg.put4_2_0 {xs : List Msg} {o : Bool} {i : Nat} {a : Int} : (xs.map (Msg.enc o)).modify i (putF [4, 2, 0] (.lit (.int .i64 a))) = (xs.modify i (fun p => { p with block := { p.block with proof := { p.block.proof with view := a } } })).map (Msg.enc o) := modify_flds _ fun x => rfl
theorem Msg.put4_2_1 {xs : List Msg} {o : Bool} {i : Nat} {a : Int} : (xs.map (Msg.enc o)).modify i (putF [4, 2, 1] (.lit (.int .i64 a))) = (xs.modify i (fun p => { p with block := { p.block with proof := { p.block.proof with name := a } } })).map (Msg.enc o) := modify_flds _ fun x => rfl
theorem Msg.put4_4 {xs : List Msg} {o : Bool} {i : Nat} {a : Int} : (xs.map (Msg.enc o)).modify i (putF [4, 4] (.lit (.int .i64 a))) = (xs.modify i (fun p => { p with block := { p.block with bY := a } })).map (Msg.enc o) := modify_flds _ fun x => rfl
theorem Msg.put5_0 {xs : List Msg} {o : Bool} {i : Nat} {a : Int} : (xs.map (Msg.enc o)).modify i (putF [5, 0] (.lit (.int .i64 a))) = (xs.modify i (fun p => { p with vote := { p.vote with view := a } })).map (Msg.enc o) := modify_flds _ fun x => rfl
theorem Msg.put5_1 {xs : List Msg} {o : Bool} {i : Nat} {a : Int} : (xs.map (Msg.enc o)).modify i (putF [5, 1] (.lit (.int .i64 a))) = (xs.modify i (fun p => { p with vote := { p.vote with name := a } })).map (Msg.enc o) := modify_flds _ fun x => rfl
theorem Msg.put5_2 {xs : List Msg} {o : Bool} {i : Nat} {a : Int} : (xs.map (Msg.enc o)).modify i (putF [5, 2] (.lit (.int .i64 a))) = (xs.modify i (fun p => { p with vote := { p.vote with bY := a } })).map (Msg.enc o) := modify_flds _ fun x => rfl
theorem Msg.put5_3 {xs : List Msg} {o : Bool} {i : Nat} {a : Int} : (xs.map (Msg.enc o)).modify i (putF [5, 3] (.lit (.int .i64 a))) = (xs.modify i (fun p => { p with vote := { p.vote with tag := a } })).map (Msg.enc o) := modify_flds _ fun x => rfl
theorem Msg.put6_0 {xs : List Msg} {o : Bool} {i : Nat} {a : Int} : (xs.map (Msg.enc o)).modify i (putF [6, 0] (.lit (.int .i64 a))) = (xs.modify i (fun p => { p with proof := { p.proof with view := a } })).map (Msg.enc o) := modify_flds _ fun x => rfl
theorem Msg.put6_1 {xs : List Msg} {o : Bool} {i : Nat} {a : Int} : (xs.map (Msg.enc o)).modify i (putF [6, 1] (.lit (.int .i64 a))) = (xs.modify i (fun p => { p with proof := { p.proof with name := a } })).map (Msg.enc o) := modify_flds _ fun x => rfl
theorem Msg.putL4_2_2 {xs : List Msg} {i : Nat} {ys : List Int} : (xs.map (Msg.enc true)).modify i (putP [.fld 4, .fld 2, .fld 2] (.lst true 1 (ys.map intA))) = (xs.modify i (fun p => { p with block := { p.block with proof := { p.block.proof with bys := ys } } })).map (Msg.enc true) := modify_flds _ fun x => rfl
theorem Msg.putL4_2_3 {xs : List Msg} {i : Nat} {ys : List Int} : (xs.map (Msg.enc true)).modify i (putP [.fld 4, .fld 2, .fld 3] (.lst true 1 (ys.map intA))) = (xs.modify i (fun p => { p with block := { p.block with proof := { p.block.proof with tags := ys } } })).map (Msg.enc true) := modify_flds _ fun x => rfl
theorem Msg.putL4_3 {xs : List Msg} {i : Nat} {ys : List ByteArray} : (xs.map (Msg.enc true)).modify i (putP [.fld 4, .fld 3] (.lst true 1 (ys.map strA))) = (xs.modify i (fun p => { p with block := { p.block with moves := ys } })).map (Msg.enc true) := modify_flds _ fun x => rfl
theorem Msg.putL6_2 {xs : List Msg} {i : Nat} {ys : List Int} : (xs.map (Msg.enc true)).modify i (putP [.fld 6, .fld 2] (.lst true 1 (ys.map intA))) = (xs.modify i (fun p => { p with proof := { p.proof with bys := ys } })).map (Msg.enc true) := modify_flds _ fun x => rfl
theorem Msg.putL6_3 {xs : List Msg} {i : Nat} {ys : List Int} : (xs.map (Msg.enc true)).modify i (putP [.fld 6, .fld 3] (.lst true 1 (ys.map intA))) = (xs.modify i (fun p => { p with proof := { p.proof with tags := ys } })).map (Msg.enc true) := modify_flds _ fun x => rfl
attribute [go_sem] Msg.put0 Msg.put1 Msg.put2 Msg.put3 Msg.put4_0 Msg.put4_1 Msg.put4_2_0 Msg.put4_2_1 Msg.put4_4 Msg.put5_0 Msg.put5_1 Msg.put5_2 Msg.put5_3 Msg.put6_0 Msg.put6_1 Msg.putL4_2_2 Msg.putL4_2_3 Msg.putL4_3 Msg.putL6_2 Msg.putL6_3
theorem getD_modM {L : List Msg} {i : Nat} {B : Msg} (h : i < L.length) (hb : L.getD i default = B) (f : Msg -> Msg) : (L.modify i f).getD i default = f B := by
 simp [List.getD, List.getElem?_modify, h] at hb ⊢
 rw [hb]
def Msg.j (m : Msg) (k : Int) : Int := k + 8 + m.block.proof.bys.length + m.block.proof.tags.length + m.block.moves.length
def Msg.mw (m : Msg) : Nat := 15 + m.block.proof.bys.length + m.block.proof.tags.length + m.block.moves.length + m.proof.bys.length + m.proof.tags.length
def Msg.mkM (m : Msg) (k : Int) : Msg × Int := (⟨k, k + 1, k + 2, k + 3, ⟨k + 4, k + 5, ⟨k + 6, k + 7, iM m.block.proof.bys (k + 8), iM m.block.proof.tags (k + 8 + m.block.proof.bys.length)⟩, sM m.block.moves (k + 8 + m.block.proof.bys.length + m.block.proof.tags.length), m.j k⟩,
 ⟨m.j k + 1, m.j k + 2, m.j k + 3, m.j k + 4⟩, ⟨m.j k + 5, m.j k + 6, iM m.proof.bys (m.j k + 7), iM m.proof.tags (m.j k + 7 + m.proof.bys.length)⟩⟩, k + m.mw)
theorem Msg.mkM_c : mkC Msg.mkM Msg.mw := fun x k => rfl
set_option maxHeartbeats 8000000 in
theorem ok17 (xs : List Msg) (k : Int) (h1 : 0 <= k) (h2 : k + (tot Msg.mw xs : Nat) <= 4611686018427387904) :
  VCalls gz 17 [.lst false 20 ((mkL Msg.mkM xs k).1.map (Msg.enc false)), .lit (.int .i64 k)] none (fun y _ => y = .lit (.int .i64 (mkL Msg.mkM xs k).2)) := by
 refine VCalls.go (nt := 213) (keep := [0, 1, 4, 5, 9, 18, 27, 36, 45, 55, 65, 76, 87, 100, 111, 121, 129, 139, 149, 159, 169, 179, 189, 201, 211]) (muts := []) (mvs := []) [] f17_at rfl (by kernel_rfl) rfl (by kernel_rfl) rfl (fun i h => by cases h) rfl ?_
 intro hok
 simp only [go_sem] at hok
 simp only [Tryz.f17, Func.code, Option.getD_some]
 simp only [go_sem]
 have hM := mkL_length Msg.mkM xs k
 refine vm_loopK (α := Nat) (fun i => [(0, .lst false 20 ((mkL Msg.mkM xs k).1.map (Msg.enc false))), (1, .lit (.int .i64 (mkN Msg.mkM xs k i))), (4, .lit (.int .i64 0)), (5, .lit (.int .i64 i))]) (fun i => i <= xs.length) (fun i => xs.length - i) 0 ?_ (by omega) (by kernel_rfl) (fun _ => rfl) ?_
 ·simp only [go_sem, mkN_zero]
  try trivial
 ·intro i hi hk
  simp only [go_sem, hM]
  intro _
  first | refine branch_ndec (fun h3 => ?_) (fun h3 => ?_) | refine branch_dec (fun h3 => ?_) (fun h3 => ?_) | refine branch_nbool (fun h3 => ?_) (fun h3 => ?_) | refine branch_split (fun h3 => ?_) (fun h3 => ?_)
  ·have hlt : i < xs.length := by omega
   have h0 : (0 : Int) <= (i : Int) := by omega
   have hs := mkN_succ Msg.mkM xs k i hlt
   have hr := mkN_rng Msg.mkM Msg.mkM_c xs k i
   have hr2 := mkN_rng Msg.mkM Msg.mkM_c xs k (i + 1)
   have hw3 : IntKind.i64.wrap ((i : Int) + 1) = ((i + 1 : Nat) : Int) := by rw [wrap64 (by omega) (by omega)]; omega
   have hmi := tot_getD (w := Msg.mw) hlt k Msg.mkM_c
   have hmw : (xs.getD i default).mw = 15 + (xs.getD i default).block.proof.bys.length + (xs.getD i default).block.proof.tags.length + (xs.getD i default).block.moves.length + (xs.getD i default).proof.bys.length + (xs.getD i default).proof.tags.length := rfl
   obtain ⟨B, hB⟩ : ∃ B, B = xs.getD i default := ⟨_, rfl⟩
   obtain ⟨K, hK⟩ : ∃ K, K = mkN Msg.mkM xs k i := ⟨_, rfl⟩
   rw [<- hB] at hmw hmi hs
   rw [<- hK] at hs hr hmi ⊢
   have hs1 : mkN Msg.mkM xs k (i + 1) = K + B.mw := hs.1
   have w0 : IntKind.i64.wrap (K + 1) = K + 1 := wrap64 (by omega) (by omega)
   have w1 : IntKind.i64.wrap (K + 1 + 1) = K + 2 := by rw [wrap64 (by omega) (by omega)]; omega
   have w2 : IntKind.i64.wrap (K + 2 + 1) = K + 3 := by rw [wrap64 (by omega) (by omega)]; omega
   have w3 : IntKind.i64.wrap (K + 3 + 1) = K + 4 := by rw [wrap64 (by omega) (by omega)]; omega
   have w4 : IntKind.i64.wrap (K + 4 + 1) = K + 5 := by rw [wrap64 (by omega) (by omega)]; omega
   have w5 : IntKind.i64.wrap (K + 5 + 1) = K + 6 := by rw [wrap64 (by omega) (by omega)]; omega
   have w6 : IntKind.i64.wrap (K + 6 + 1) = K + 7 := by rw [wrap64 (by omega) (by omega)]; omega
   have w7 : IntKind.i64.wrap (K + 7 + 1) = K + 8 := by rw [wrap64 (by omega) (by omega)]; omega
   obtain ⟨J, hJ⟩ : ∃ J, J = K + 8 + (B.block.proof.bys.length : Int) + (B.block.proof.tags.length : Int) + (B.block.moves.length : Int) := ⟨_, rfl⟩
   have v0 : IntKind.i64.wrap (J + 1) = J + 1 := wrap64 (by omega) (by omega)
   have v1 : IntKind.i64.wrap (J + 1 + 1) = J + 2 := by rw [wrap64 (by omega) (by omega)]; omega
   have v2 : IntKind.i64.wrap (J + 2 + 1) = J + 3 := by rw [wrap64 (by omega) (by omega)]; omega
   have v3 : IntKind.i64.wrap (J + 3 + 1) = J + 4 := by rw [wrap64 (by omega) (by omega)]; omega
   have v4 : IntKind.i64.wrap (J + 4 + 1) = J + 5 := by rw [wrap64 (by omega) (by omega)]; omega
   have v5 : IntKind.i64.wrap (J + 5 + 1) = J + 6 := by rw [wrap64 (by omega) (by omega)]; omega
   have v6 : IntKind.i64.wrap (J + 6 + 1) = J + 7 := by rw [wrap64 (by omega) (by omega)]; omega
   have hjj : B.j K = J := hJ.symm
   have hend : J + 7 + (B.proof.bys.length : Int) + (B.proof.tags.length : Int) = K + B.mw := by omega
   have hv : (mkL Msg.mkM xs k).1.getD i default = ⟨K, K + 1, K + 2, K + 3, ⟨K + 4, K + 5, ⟨K + 6, K + 7, iM B.block.proof.bys (K + 8), iM B.block.proof.tags (K + 8 + B.block.proof.bys.length)⟩, sM B.block.moves (K + 8 + B.block.proof.bys.length + B.block.proof.tags.length), J⟩,
    ⟨J + 1, J + 2, J + 3, J + 4⟩, ⟨J + 5, J + 6, iM B.proof.bys (J + 7), iM B.proof.tags (J + 7 + B.proof.bys.length)⟩⟩ := by
    rw [<- hjj]
    exact hs.2
   have n1 : ¬ (K + 8 + (B.block.proof.bys.length : Int) < 0) := by omega
   have n2 : ¬ (K + 8 + (B.block.proof.bys.length : Int) + (B.block.proof.tags.length : Int) < 0) := by omega
   have n3 : ¬ (J < 0) := by omega
   have n4 : ¬ (J + 7 + (B.proof.bys.length : Int) < 0) := by omega
   have n5 : ¬ (J + 7 + (B.proof.bys.length : Int) + (B.proof.tags.length : Int) < 0) := by omega
   simp only [go_sem, h0, h3, hM, hlt, hv, hw3, w0, w1, w2, w3, w4, w5, w6, w7]
   repeat' refine And.intro ?_ ?_
   all_goals
    refine call_lend ?_
    simp only [go_sem]
    refine callN.eq (okI56 B.block.proof.bys (K + 8) (by omega) (by omega)) (by simp only [go_sem]) ?_
    simp only [go_sem]
    simp only [go_sem, h0, h3, hM, hlt, hv, hw3, n1, n2, n3, n4, n5, <- hJ, v0, v1, v2, v3, v4, v5, v6]
    refine call_lend ?_
    simp only [go_sem]
    refine callN.eq (okI56 B.block.proof.tags (K + 8 + B.block.proof.bys.length) (by omega) (by omega)) (by simp only [go_sem]) ?_
    simp only [go_sem]
    simp only [go_sem, h0, h3, hM, hlt, hv, hw3, n1, n2, n3, n4, n5, <- hJ, v0, v1, v2, v3, v4, v5, v6]
    refine call_lend ?_
    simp only [go_sem]
    refine callN.eq (okI57 B.block.moves (K + 8 + B.block.proof.bys.length + B.block.proof.tags.length) (by omega) (by omega)) (by simp only [go_sem]) ?_
    simp only [go_sem]
    simp only [go_sem, h0, h3, hM, hlt, hv, hw3, n1, n2, n3, n4, n5, <- hJ, v0, v1, v2, v3, v4, v5, v6]
    repeat' refine And.intro ?_ ?_
    all_goals
     refine call_lend ?_
     simp only [go_sem]
     refine callN.eq (okI56 B.proof.bys (J + 7) (by omega) (by omega)) (by simp only [go_sem]) ?_
     simp only [go_sem]
     simp only [go_sem, h0, h3, hM, hlt, hv, hw3, n1, n2, n3, n4, n5, <- hJ, v0, v1, v2, v3, v4, v5, v6]
     refine call_lend ?_
     simp only [go_sem]
     refine callN.eq (okI56 B.proof.tags (J + 7 + B.proof.bys.length) (by omega) (by omega)) (by simp only [go_sem]) ?_
     simp only [go_sem]
     simp only [go_sem, h0, h3, hM, hlt, hv, hw3, n1, n2, n3, n4, n5, <- hJ, v0, v1, v2, v3, v4, v5, v6]
     try simp only [go_sem, hw3, hend]
     refine again_intro (i + 1) (by omega) (by omega) ?_
     simp only [go_sem, hs1]
     try trivial
  ·simp only [go_sem]
   have : i = xs.length := by omega
   subst this
   rw [mkN_all]
set_option maxHeartbeats 8000000 in
theorem ok15 (xs : List Msg) (k : Int) (h1 : 0 <= k) (h2 : k + (tot Msg.mw xs : Nat) <= 4611686018427387904) :
  VMut gz 15 [.lst true 20 (xs.map (Msg.enc true)), .lit (.int .i64 k)] 0 (fun y x' => y = .lit (.int .i64 (mkL Msg.mkM xs k).2) /\ x' = .lst true 20 ((mkL Msg.mkM xs k).1.map (Msg.enc true))) := by
 refine VMut.go (nt := 173) (keep := [0, 1, 4, 5, 9]) (i := 0) (mvs := []) [] f15_at rfl (by kernel_rfl) rfl (by kernel_rfl) rfl rfl rfl ?_
 intro hok
 simp only [go_sem] at hok
 simp only [Tryz.f15, Func.code, Option.getD_some]
 simp only [go_sem]
 have hM := mkL_length Msg.mkM xs k
 refine vm_loopK (α := Nat) (fun i => [(0, .lst true 20 ((midL (mkL Msg.mkM xs k).1 xs i).map (Msg.enc true))), (1, .lit (.int .i64 (mkN Msg.mkM xs k i))), (4, .lit (.int .i64 0)), (5, .lit (.int .i64 i))]) (fun i => i <= xs.length) (fun i => xs.length - i) 0 ?_ (by omega) (by kernel_rfl) (fun _ => rfl) ?_
 ·simp only [go_sem, midL_zero, mkN_zero]
  try trivial
 ·intro i hi hk
  have hml : (midL (mkL Msg.mkM xs k).1 xs i).length = xs.length := (midL_length (by omega) hM.symm).trans hM
  simp only [go_sem, hml]
  intro _
  first | refine branch_ndec (fun h3 => ?_) (fun h3 => ?_) | refine branch_dec (fun h3 => ?_) (fun h3 => ?_) | refine branch_nbool (fun h3 => ?_) (fun h3 => ?_) | refine branch_split (fun h3 => ?_) (fun h3 => ?_)
  ·have hlt : i < xs.length := by omega
   have h0 : (0 : Int) <= (i : Int) := by omega
   have hs := mkN_succ Msg.mkM xs k i hlt
   have hr := mkN_rng Msg.mkM Msg.mkM_c xs k i
   have hr2 := mkN_rng Msg.mkM Msg.mkM_c xs k (i + 1)
   have hw3 : IntKind.i64.wrap ((i : Int) + 1) = ((i + 1 : Nat) : Int) := by rw [wrap64 (by omega) (by omega)]; omega
   have hb : (midL (mkL Msg.mkM xs k).1 xs i).getD i default = xs.getD i default := midL_get (by omega) hM.symm
   have hmi := tot_getD (w := Msg.mw) hlt k Msg.mkM_c
   have hmw : (xs.getD i default).mw = 15 + (xs.getD i default).block.proof.bys.length + (xs.getD i default).block.proof.tags.length + (xs.getD i default).block.moves.length + (xs.getD i default).proof.bys.length + (xs.getD i default).proof.tags.length := rfl
   obtain ⟨B, hB⟩ : ∃ B, B = xs.getD i default := ⟨_, rfl⟩
   obtain ⟨K, hK⟩ : ∃ K, K = mkN Msg.mkM xs k i := ⟨_, rfl⟩
   rw [<- hB] at hmw hmi hs
   rw [<- hK] at hs hr hmi ⊢
   have hs1 : mkN Msg.mkM xs k (i + 1) = K + B.mw := hs.1
   have w0 : IntKind.i64.wrap (K + 1) = K + 1 := wrap64 (by omega) (by omega)
   have w1 : IntKind.i64.wrap (K + 1 + 1) = K + 2 := by rw [wrap64 (by omega) (by omega)]; omega
   have w2 : IntKind.i64.wrap (K + 2 + 1) = K + 3 := by rw [wrap64 (by omega) (by omega)]; omega
   have w3 : IntKind.i64.wrap (K + 3 + 1) = K + 4 := by rw [wrap64 (by omega) (by omega)]; omega
   have w4 : IntKind.i64.wrap (K + 4 + 1) = K + 5 := by rw [wrap64 (by omega) (by omega)]; omega
   have w5 : IntKind.i64.wrap (K + 5 + 1) = K + 6 := by rw [wrap64 (by omega) (by omega)]; omega
   have w6 : IntKind.i64.wrap (K + 6 + 1) = K + 7 := by rw [wrap64 (by omega) (by omega)]; omega
   have w7 : IntKind.i64.wrap (K + 7 + 1) = K + 8 := by rw [wrap64 (by omega) (by omega)]; omega
   obtain ⟨J, hJ⟩ : ∃ J, J = K + 8 + (B.block.proof.bys.length : Int) + (B.block.proof.tags.length : Int) + (B.block.moves.length : Int) := ⟨_, rfl⟩
   have v0 : IntKind.i64.wrap (J + 1) = J + 1 := wrap64 (by omega) (by omega)
   have v1 : IntKind.i64.wrap (J + 1 + 1) = J + 2 := by rw [wrap64 (by omega) (by omega)]; omega
   have v2 : IntKind.i64.wrap (J + 2 + 1) = J + 3 := by rw [wrap64 (by omega) (by omega)]; omega
   have v3 : IntKind.i64.wrap (J + 3 + 1) = J + 4 := by rw [wrap64 (by omega) (by omega)]; omega
   have v4 : IntKind.i64.wrap (J + 4 + 1) = J + 5 := by rw [wrap64 (by omega) (by omega)]; omega
   have v5 : IntKind.i64.wrap (J + 5 + 1) = J + 6 := by rw [wrap64 (by omega) (by omega)]; omega
   have v6 : IntKind.i64.wrap (J + 6 + 1) = J + 7 := by rw [wrap64 (by omega) (by omega)]; omega
   have hjj : B.j K = J := hJ.symm
   have hend : J + 7 + (B.proof.bys.length : Int) + (B.proof.tags.length : Int) = K + B.mw := by omega
   rw [<- hB] at hb
   have hset : (midL (mkL Msg.mkM xs k).1 xs i).modify i (fun _ => (B.mkM K).1) = midL (mkL Msg.mkM xs k).1 xs (i + 1) := midL_mod (by omega) hM.symm hs.2.symm
   obtain ⟨L, hL⟩ : ∃ L, L = midL (mkL Msg.mkM xs k).1 xs i := ⟨_, rfl⟩
   rw [<- hL] at hml hb hset ⊢
   have hgd := getD_modM (by omega) hb
   have hge : ∀ f : Msg -> Msg, (List.map (Msg.enc true) (L.modify i f))[i]? = some (Msg.enc true (f B)) := fun f => by
    have hlm : i < (L.modify i f).length := by rw [List.length_modify]; omega
    have h9 := hgd f
    simp only [List.getD, List.getElem?_eq_getElem hlm, Option.getD_some] at h9
    simp only [List.getElem?_map, List.getElem?_eq_getElem hlm, Option.map_some, h9]
   simp only [go_sem, h0, h3, hml, hlt, hw3, w0, w1, w2, w3, w4, w5, w6, w7, hgd]
   refine call_give 0 0 [.idx i, .fld 4, .fld 2, .fld 2] (x := .lst true 1 (B.block.proof.bys.map intA)) rfl rfl rfl (by simp only [go_sem, hge]) (by simp only [go_sem, List.getElem?_cons_zero, List.getElem?_cons_succ]) (by simp only [go_sem]) (by simp only [go_sem]) (by simp only [go_sem]) ?_
   simp only [go_sem, List.set]
   refine callW.eq (okI49 B.block.proof.bys (K + 8) (by omega) (by omega)) ?_
   simp only [go_sem, hgd, h0, h3, hml, hlt, hw3, w0, w1, w2, w3, w4, w5, w6, w7, <- hJ, v0, v1, v2, v3, v4, v5, v6]
   refine ⟨iM_len _ _, ?_⟩
   refine call_give 0 0 [.idx i, .fld 4, .fld 2, .fld 3] (x := .lst true 1 (B.block.proof.tags.map intA)) rfl rfl rfl (by simp only [go_sem, hge]) (by simp only [go_sem, List.getElem?_cons_zero, List.getElem?_cons_succ]) (by simp only [go_sem]) (by simp only [go_sem]) (by simp only [go_sem]) ?_
   simp only [go_sem, List.set]
   refine callW.eq (okI49 B.block.proof.tags (K + 8 + B.block.proof.bys.length) (by omega) (by omega)) ?_
   simp only [go_sem, hgd, h0, h3, hml, hlt, hw3, w0, w1, w2, w3, w4, w5, w6, w7, <- hJ, v0, v1, v2, v3, v4, v5, v6]
   refine ⟨iM_len _ _, ?_⟩
   refine call_give 0 0 [.idx i, .fld 4, .fld 3] (x := .lst true 1 (B.block.moves.map strA)) rfl rfl rfl (by simp only [go_sem, hge]) (by simp only [go_sem, List.getElem?_cons_zero, List.getElem?_cons_succ]) (by simp only [go_sem]) (by simp only [go_sem]) (by simp only [go_sem]) ?_
   simp only [go_sem, List.set]
   refine callW.eq (okI51 B.block.moves (K + 8 + B.block.proof.bys.length + B.block.proof.tags.length) (by omega) (by omega)) ?_
   simp only [go_sem, hgd, h0, h3, hml, hlt, hw3, w0, w1, w2, w3, w4, w5, w6, w7, <- hJ, v0, v1, v2, v3, v4, v5, v6]
   refine ⟨sM_len _ _, ?_⟩
   refine call_give 0 0 [.idx i, .fld 6, .fld 2] (x := .lst true 1 (B.proof.bys.map intA)) rfl rfl rfl (by simp only [go_sem, hge]) (by simp only [go_sem, List.getElem?_cons_zero, List.getElem?_cons_succ]) (by simp only [go_sem]) (by simp only [go_sem]) (by simp only [go_sem]) ?_
   simp only [go_sem, List.set]
   refine callW.eq (okI49 B.proof.bys (J + 7) (by omega) (by omega)) ?_
   simp only [go_sem, hgd, h0, h3, hml, hlt, hw3, w0, w1, w2, w3, w4, w5, w6, w7, <- hJ, v0, v1, v2, v3, v4, v5, v6]
   refine ⟨iM_len _ _, ?_⟩
   refine call_give 0 0 [.idx i, .fld 6, .fld 3] (x := .lst true 1 (B.proof.tags.map intA)) rfl rfl rfl (by simp only [go_sem, hge]) (by simp only [go_sem, List.getElem?_cons_zero, List.getElem?_cons_succ]) (by simp only [go_sem]) (by simp only [go_sem]) (by simp only [go_sem]) ?_
   simp only [go_sem, List.set]
   refine callW.eq (okI49 B.proof.tags (J + 7 + B.proof.bys.length) (by omega) (by omega)) ?_
   simp only [go_sem, hgd, h0, h3, hml, hlt, hw3, w0, w1, w2, w3, w4, w5, w6, w7, <- hJ, v0, v1, v2, v3, v4, v5, v6]
   refine ⟨iM_len _ _, ?_⟩
   try simp only [go_sem, hend]
   refine again_intro (i + 1) (by omega) (by omega) ?_
   simp only [go_sem, hs1]
   try trivial
   subst hJ
   exact congrArg (List.map (Msg.enc true)) hset
  ·simp only [go_sem]
   have : i = xs.length := by omega
   subst this
   have e : midL (mkL Msg.mkM xs k).1 xs xs.length = (mkL Msg.mkM xs k).1 := by
    have := midL_all (mkL Msg.mkM xs k).1 hM.symm
    rwa [hM] at this
   rw [mkN_all, e]
   simp only [go_sem]
   try trivial
end Go.VS
set_option linter.unusedSimpArgs false
set_option linter.unusedVariables false
open Go.Proofs
set_option maxRecDepth 20000
namespace Go.VS
def Blk.mw0 (b : Blk) : Nat := b.proof.mw + b.moves.length
def Blk.mk0 (b : Blk) (k : Int) : Blk := ⟨b.view, b.parent, (b.proof.mkP k).1, sM b.moves (k + b.proof.mw), b.bY⟩
theorem ok50 (b : Blk) (k : Int) (h1 : 0 <= k) (h2 : k + (b.mw0 : Nat) <= 4611686018427387904) :
  VMut gz 50 [b.enc true, .lit (.int .i64 k)] 0 (fun y x' => y = .lit (.int .i64 (k + b.mw0)) /\ x' = (b.mk0 k).enc true) := by
 have hz : b.mw0 = b.proof.mw + b.moves.length := rfl
 refine VMut.go (nt := 14) (keep := [0, 1, 2, 4]) (i := 0) (mvs := []) [] f50_at rfl (by kernel_rfl) rfl (by kernel_rfl) rfl rfl rfl ?_
 intro hok
 simp only [go_sem] at hok
 simp only [Tryz.f50, Func.code, Option.getD_some]
 simp only [go_sem]
 refine call_give 0 0 [.fld 2] rfl rfl rfl (by simp only [go_sem]; rfl) (by simp only [go_sem, List.getElem?_cons_zero, List.getElem?_cons_succ]) (by simp only [go_sem]) (by simp only [go_sem]) (by simp only [go_sem]) ?_
 simp only [go_sem, List.set]
 refine callW.eq (ok45 b.proof k h1 (by omega)) ?_
 simp only [go_sem]
 refine ⟨⟨rfl, rfl, iM_len _ _, iM_len _ _⟩, ?_⟩
 have e0 : (b.proof.mkP k).2 = k + b.proof.mw := rfl
 rw [e0]
 refine call_give 0 0 [.fld 3] rfl rfl rfl (by simp only [go_sem]; rfl) (by simp only [go_sem, List.getElem?_cons_zero, List.getElem?_cons_succ]) (by simp only [go_sem]) (by simp only [go_sem]) (by simp only [go_sem]) ?_
 simp only [go_sem, List.set]
 refine callW.eq (okI51 b.moves (k + b.proof.mw) (by omega) (by omega)) ?_
 simp only [go_sem]
 refine ⟨sM_len _ _, ?_⟩
 have : k + (b.proof.mw : Int) + (b.moves.length : Int) = k + (b.mw0 : Int) := by omega
 simp only [this]
 try trivial
def Msg.mw0 (m : Msg) : Nat := m.block.mw0 + m.proof.mw
def Msg.mk0 (m : Msg) (k : Int) : Msg := ⟨m.kind, m.src, m.dst, m.view, m.block.mk0 k, m.vote, (m.proof.mkP (k + m.block.mw0)).1⟩
theorem ok14 (m : Msg) (k : Int) (h1 : 0 <= k) (h2 : k + (m.mw0 : Nat) <= 4611686018427387904) :
  VMut gz 14 [m.enc true, .lit (.int .i64 k)] 0 (fun y x' => y = .lit (.int .i64 (k + m.mw0)) /\ x' = (m.mk0 k).enc true) := by
 have hz : m.mw0 = m.block.mw0 + m.proof.mw := rfl
 refine VMut.go (nt := 14) (keep := [0, 1, 2, 4]) (i := 0) (mvs := []) [] f14_at rfl (by kernel_rfl) rfl (by kernel_rfl) rfl rfl rfl ?_
 intro hok
 simp only [go_sem] at hok
 simp only [Tryz.f14, Func.code, Option.getD_some]
 simp only [go_sem]
 refine call_give 0 0 [.fld 4] rfl rfl rfl (by simp only [go_sem]; rfl) (by simp only [go_sem, List.getElem?_cons_zero, List.getElem?_cons_succ]) (by simp only [go_sem]) (by simp only [go_sem]) (by simp only [go_sem]) ?_
 simp only [go_sem, List.set]
 refine callW.eq (ok50 m.block k h1 (by omega)) ?_
 simp only [go_sem]
 refine ⟨⟨rfl, rfl, ⟨rfl, rfl, iM_len _ _, iM_len _ _⟩, sM_len _ _, rfl⟩, ?_⟩
 refine call_give 0 0 [.fld 6] rfl rfl rfl (by simp only [go_sem]; rfl) (by simp only [go_sem, List.getElem?_cons_zero, List.getElem?_cons_succ]) (by simp only [go_sem]) (by simp only [go_sem]) (by simp only [go_sem]) ?_
 simp only [go_sem, List.set]
 refine callW.eq (ok45 m.proof (k + m.block.mw0) (by omega) (by omega)) ?_
 simp only [go_sem]
 refine ⟨⟨rfl, rfl, iM_len _ _, iM_len _ _⟩, ?_⟩
 have e0 : (m.proof.mkP (k + m.block.mw0)).2 = k + m.block.mw0 + m.proof.mw := rfl
 rw [e0]
 have : k + (m.block.mw0 : Int) + (m.proof.mw : Int) = k + (m.mw0 : Int) := by omega
 simp only [this]
 try trivial
def mM (xs : List Msg) (k : Int) : List Msg := (mkL Msg.mkM xs k).1
def mT (xs : List Msg) : Nat := tot Msg.mw xs
theorem mM_snd (xs : List Msg) (k : Int) : (mkL Msg.mkM xs k).2 = k + (mT xs : Int) := mkL_rng _ Msg.mkM_c xs k
theorem mM_len (xs : List Msg) (k : Int) : (mM xs k).length = xs.length := mkL_length _ _ _
theorem okI15 (xs : List Msg) (k : Int) (h1 : 0 <= k) (h2 : k + (mT xs : Int) <= 4611686018427387904) :
  VMut gz 15 [.lst true 20 (xs.map (Msg.enc true)), .lit (.int .i64 k)] 0 (fun y x' => y = .lit (.int .i64 (k + (mT xs : Int))) /\ x' = .lst true 20 ((mM xs k).map (Msg.enc true))) := by
 have := ok15 xs k h1 h2
 rwa [mM_snd] at this
theorem okI17 (xs : List Msg) (k : Int) (h1 : 0 <= k) (h2 : k + (mT xs : Int) <= 4611686018427387904) :
  VCalls gz 17 [.lst false 20 ((mM xs k).map (Msg.enc false)), .lit (.int .i64 k)] none (fun y _ => y = .lit (.int .i64 (k + (mT xs : Int)))) := by
 have := ok17 xs k h1 h2
 rwa [mM_snd] at this
end Go.VS
set_option linter.unusedSimpArgs false
set_option linter.unusedVariables false
open Go.Proofs
set_option maxRecDepth 20000
namespace Go.VS
theorem f8_at : gz.P.funcs[8]? = some Tryz.f8 := by
 have h : Tryz.prog.funcs[8]? = some Tryz.f8 := by kernel_rfl
 exact h
theorem ok8 (m : Msg) (hm : m.sz <= 1048576) : VCalls gz 8 [m.enc false] none (fun y _ => y = m.enc true) := by
 have hm2 : m.block.sz + m.proof.sz <= 1048576 := hm
 refine VCalls.go (nt := 29) (keep := [0, 1, 2, 3]) (muts := []) (mvs := [9]) [] f8_at rfl (by kernel_rfl) rfl (by kernel_rfl) rfl (fun i h => by cases h) rfl ?_
 intro hok
 simp only [go_sem] at hok
 simp only [Tryz.f8, Func.code, Option.getD_some]
 simp only [go_sem]
 refine call_lend ?_
 simp only [go_sem]
 refine callN.eq (ok32 m.block (by omega)) (by simp only [go_sem]) ?_
 simp only [go_sem]
 refine call_lend ?_
 simp only [go_sem]
 refine callN.eq (ok33 m.vote) (by simp only [go_sem]) ?_
 simp only [go_sem]
 refine call_lend ?_
 simp only [go_sem]
 refine callN.eq (ok27 m.proof (by omega)) (by simp only [go_sem]) ?_
 simp only [go_sem]
end Go.VS
