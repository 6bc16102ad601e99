/-
  TreeBytes: plain parts.
-/
import Derived.Test.YtbbmhppkhcodfaaTrK
import Derived.Test.YtbbmhppkhcodfaaBook
import Derived.Test.YtbbmhppkhcodfaaSxOpen
namespace Go.Proofs.Ytbbmhppkhcodfaa
open Go.Sx
set_option linter.unusedVariables false
set_option linter.unusedSimpArgs false
set_option maxRecDepth 100000
set_option maxHeartbeats 4000000

def Sq.cs (s : Slv UInt8) : List Value := [s.v]
theorem Sq.len (s : Slv UInt8) : (Sq.cs s).length = 1 := rfl
def In.cs (k : Int) : List Value := [.int .i64 k]
theorem In.len (k : Int) : (In.cs k).length = 1 := rfl
/-- the tree has a file of number 1, which holds w, and no other bytes -/
structure F1 (t : Tr) (r : Nd) (w : List UInt8) : Prop where
  wf : Wf t r
  fl : ∃ x, byId t.ns 1 = some x ∧ x.dir = false ∧ x.data = w
  by' : t.bytes = w.length
  le : w.length ≤ 700
theorem byId_turn {f : Nd → Nd} (h : Keeps f) (b : Nat) (ns : List Nd) (k : Int) : byId (turnB b f ns) k = (byId ns k).map (fun y => if y.blk = b then f y else y) := by
  unfold byId
  exact turn_find (fun x => decide ((x.id : Int) = k)) (fun y => by rw [h.id]) b ns
/-- what a file holds behind a write -/
def put2 (w : List UInt8) (k : Nat) (y : List UInt8) : List UInt8 := if y.length = 0 then w else wr2 (szd w (max (k + y.length) w.length)) k y
theorem put2_len {w y : List UInt8} {k : Nat} (hk : k ≤ 500) (hy : y.length ≤ 200) (hw : w.length ≤ 700) : (put2 w k y).length ≤ 700 := by
  unfold put2; split
  · exact hw
  · rw [wr2_len (by rw [szd_len]; omega), szd_len]; omega
theorem f1_write {t : Tr} {r : Nd} {w y : List UInt8} {k : Nat} {t' : Tr} {e : Int} (h : F1 t r w) (hk : k ≤ 500) (hy : y.length ≤ 200) (hR : WriteR t 1 k y t' e) : e = 0 ∧ F1 t' r (put2 w k y) ∧ t'.tb = t.tb := by
  obtain ⟨x, hx, hd, hw⟩ := h.fl
  have hf : fileO (byId t.ns 1) = (some x, 0) := by rw [hx]; simp [fileO, hd]
  have hb := h.by'
  have hl := h.le
  have hxm := (byId_some hx).1
  rcases hR with ⟨h1, _, _⟩ | ⟨x2, h1, h2⟩
  · rw [hf] at h1; simp at h1
  · rw [hf] at h1
    have e1 : x2 = x := by have := congrArg Prod.fst h1; simpa using this.symm
    subst e1
    have hs : szE t x2 (max (k + y.length) x2.data.length) = 0 := by unfold szE; rw [hw, if_neg (by omega), if_neg (by omega)]
    rcases h2 with ⟨h3, h4, h5⟩ | ⟨_, h3, _⟩ | ⟨h3, _, h4 | ⟨_, h5, b0, h6⟩⟩
    · rw [h5]; unfold put2; rw [if_pos h3]; exact ⟨h4, h, rfl⟩
    · omega
    · exact absurd hs (by rw [h4.1]; exact h4.2.1)
    · refine ⟨h5, ?_, by rw [h6]; rfl⟩
      have e2 : put2 w k y = wr2 (szd x2.data (max (k + y.length) x2.data.length)) k y := by unfold put2; rw [if_neg (by omega), hw]
      have e3 : (wr2 (szd x2.data (max (k + y.length) x2.data.length)) k y).length = max (k + y.length) x2.data.length := by rw [wr2_len (by rw [szd_len]; omega), szd_len]
      rw [e2]
      refine ⟨?_, ⟨datF (some ⟨b0, 0, none⟩) (max (k + y.length) x2.data.length) (wr2 (szd x2.data (max (k + y.length) x2.data.length)) k y) x2, ?_, hd, rfl⟩, ?_, ?_⟩
      · rw [h6]; exact wf_data h.wf hxm hd (by rw [e3, hw]; omega)
      · rw [h6]
        show byId (turnB x2.blk _ t.ns) 1 = _
        rw [byId_turn (datF_keeps _ _ _), hx]
        show some (if x2.blk = x2.blk then _ else _) = _
        rw [if_pos rfl]
      · rw [h6]; show t.bytes + _ - x2.data.length = _; rw [hw]; omega
      · rw [e3, hw]; omega
theorem f1_read {t : Tr} {r : Nd} {w : List UInt8} {k n : Nat} (h : F1 t r w) : readO (byId t.ns 1) k n = if w.length ≤ k then ([], 10) else ((w.drop k).take (min (w.drop k).length (min n 32768)), 0) := by
  obtain ⟨x, hx, hd, hw⟩ := h.fl
  unfold readO
  rw [hx, show fileO (some x) = (some x, 0) by simp [fileO, hd]]
  show readX x k n = _
  unfold readX; rw [hw]
theorem put2_read {w y : List UInt8} {k : Nat} (hy : 0 < y.length) (hy2 : y.length ≤ 200) (hk : k ≤ 500) : (if (put2 w k y).length ≤ k then ([], (10 : Int)) else (((put2 w k y).drop k).take (min ((put2 w k y).drop k).length (min y.length 32768)), 0)) = (y, 0) := by
  have e1 : put2 w k y = wr2 (szd w (max (k + y.length) w.length)) k y := by unfold put2; rw [if_neg (by omega)]
  have hl : (put2 w k y).length = max (k + y.length) w.length := by rw [e1, wr2_len (by rw [szd_len]; omega), szd_len]
  rw [if_neg (by omega)]
  have e2 : (put2 w k y).drop k = y ++ (szd w (max (k + y.length) w.length)).drop (k + y.length) := by
    rw [e1]; unfold wr2
    rw [List.append_assoc]
    have h1 : ((szd w (max (k + y.length) w.length)).take k).length = k := by rw [List.length_take, szd_len]; omega
    exact List.drop_left' h1
  have e3 : min ((put2 w k y).drop k).length (min y.length 32768) = y.length := by rw [e2, List.length_append]; omega
  rw [e3, e2, List.take_left]
theorem f1_all {w : List UInt8} (h : w.length ≤ 700) : (if w.length ≤ 0 then (([] : List UInt8), (10 : Int)) else ((w.drop 0).take (min (w.drop 0).length (min 65536 32768)), 0)) = (w, if w.length ≤ 0 then 10 else 0) := by
  by_cases h0 : w.length ≤ 0
  · have e : w = [] := List.eq_nil_of_length_eq_zero (by omega)
    rw [if_pos h0, if_pos h0, e]
  · rw [if_neg h0, if_neg h0, List.drop_zero, List.take_of_length_le (by omega)]
theorem f1_atts {t : Tr} {r : Nd} {w : List UInt8} (h : F1 t r w) : ∃ a : At, attO (byId t.ns 1) = (a, 0) ∧ a.s = w.length := by
  obtain ⟨x, hx, hd, hw⟩ := h.fl
  exact ⟨x.told, by rw [hx]; rfl, by rw [← hw]; rfl⟩
theorem f1_dl {t : Tr} {r : Nd} {w : List UInt8} (h : F1 t r w) : ∀ x ∈ t.ns, x.data.length ≤ 100000000 := fun x hx => by
  have h1 := sum_in hx
  rw [← h.wf.sum] at h1
  have := h.wf.max
  omega
theorem f1_new {t : Tr} {r : Nd} {b c : Nat} {nm : List UInt8} {t0n : Nat} (hW : Wf t r) (hr : r.id = 0) (hns : t.ns = [r, newNd b c 1 0 false nm]) (hb : t.bytes = 0) : F1 t r [] := by
  refine ⟨hW, ⟨newNd b c 1 0 false nm, ?_, rfl, rfl⟩, hb, by simp⟩
  rw [hns, byId_cons, if_neg (by omega), byId_cons, if_pos (show ((newNd b c 1 0 false nm).id : Int) = 1 from rfl)]
/-- noughts are laid behind -/
def pad (w : List UInt8) (n : Nat) : List UInt8 := w ++ List.replicate (n - w.length) 0
theorem pad_step {w v : List UInt8} {n j : Nat} (hv : v = w ++ List.replicate j 0) : v ++ [0] = w ++ List.replicate (j + 1) (0 : UInt8) := by rw [hv, List.replicate_succ', List.append_assoc]
theorem pad_szd {w v : List UInt8} {n j : Nat} (hv : v = w ++ List.replicate j 0) (hj : j = 0 ∨ w.length + j ≤ n) (hn : n ≤ v.length) : v = szd w (max n w.length) := by
  have hl : v.length = w.length + j := by rw [hv]; simp
  unfold szd
  rw [List.take_of_length_le (by omega), hv]
  congr 2
  rcases hj with hj | hj <;> omega

end Go.Proofs.Ytbbmhppkhcodfaa
