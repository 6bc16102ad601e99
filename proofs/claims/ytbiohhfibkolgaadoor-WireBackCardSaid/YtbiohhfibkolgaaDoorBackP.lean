/-
  What is written is read: the plain law.
-/
import Derived.Test.YtbiohhfibkolgaaDoorReads
import Derived.Test.YtbiohhfibkolgaaDoorRPure
namespace Go.Proofs.YtbiohhfibkolgaaDoor
open Go.Sx
set_option linter.unusedVariables false
set_option linter.unusedSimpArgs false
set_option maxRecDepth 100000
set_option maxHeartbeats 4000000

def nms (xs : List (List UInt8)) (i : Nat) : List (List UInt8) := (xs.take i).filter nmOk
theorem nms_yes {xs : List (List UInt8)} {i : Nat} (hi : i < xs.length) (h : nmOk xs[i] = true) : nms xs (i + 1) = nms xs i ++ [xs[i]] := by
  rw [nms, List.take_succ_eq_append_getElem hi, List.filter_append]; simp [nms, h]
theorem nms_no {xs : List (List UInt8)} {i : Nat} (hi : i < xs.length) (h : nmOk xs[i] = false) : nms xs (i + 1) = nms xs i := by
  rw [nms, List.take_succ_eq_append_getElem hi, List.filter_append]; simp [nms, h]
theorem nms_all (xs : List (List UInt8)) (i : Nat) : (nms xs i).all nmOk = true := by
  rw [List.all_eq_true]; intro x hx; exact (List.mem_filter.1 hx).2
theorem nms_le (xs : List (List UInt8)) (i : Nat) : (nms xs i).length ≤ xs.length := Nat.le_trans (List.length_filter_le _ _) (by rw [List.length_take]; omega)
theorem nms_66 {xs : List (List UInt8)} (h : ∀ x ∈ xs, x.length ≤ 66) (i : Nat) : ∀ x ∈ nms xs i, x.length ≤ 66 := fun x hx => h x (List.mem_of_mem_take (List.mem_filter.1 hx).1)
theorem nms_j {xs : List (List UInt8)} (h : ∀ x ∈ xs, x.length ≤ 66) (h8 : xs.length ≤ 8) (i : Nat) : (joinc 44 (nms xs i)).length ≤ 700 := by
  have h1 := joinc_le _ (nms_66 h i)
  have h2 := nms_le xs i
  omega
def enc2 (n : Nat) (s : List UInt8) (nm : List (List UInt8)) : List UInt8 :=
  [b8 ((n % 256 : Nat) : Int)] ++ (be (n % 4294967296) 4 ++ (be n 8 ++ (be s.length 4 ++ s ++ (mp s ++ (be (joinc 44 nm).length 4 ++ joinc 44 nm ++ ([b8 (if decide (((n % 2 : Nat) : Int) = 1) = true then 1 else 0)] ++ s))))))
def ps (x : Pt) : List UInt8 := x.s.take 200
def px (x : Pt) : List (List UInt8) := few2 (x.l.take 8) 66
def enc1 (x : Pt) : List UInt8 := enc2 x.n (ps x) (nms (px x) (px x).length)
def encs (l : List Pt) (i : Nat) : List UInt8 := (l.take i).flatMap enc1
theorem encs_zero (l : List Pt) : encs l 0 = [] := rfl
theorem encs_succ {l : List Pt} {i : Nat} (hi : i < l.length) : encs l (i + 1) = encs l i ++ enc1 l[i] := by
  rw [encs, List.take_succ_eq_append_getElem hi, List.flatMap_append]; simp [encs]
theorem bare_ne : ∀ {s : List UInt8} {d : UInt8} {r : List UInt8}, bare s = d :: r → d ≠ 0
  | [], d, r, h => by cases h
  | x :: t, d, r, h => by
    by_cases e : x = 0
    · subst e; rw [bare_zero] at h; exact bare_ne h
    · rw [bare_stop t e] at h; injection h with h1 _; rw [← h1]; exact e
theorem top_fine (s : List UInt8) : badN (top (bare s)) = false ∧ bare (top (bare s)) = bare s := by
  cases hb : bare s with
  | nil => exact ⟨rfl, rfl⟩
  | cons d r =>
    have hd := bare_ne hb
    have hd2 : ¬ d.toNat = 0 := fun e => hd (UInt8.toNat_inj.1 e)
    by_cases h : 128 ≤ d.toNat
    · rw [show top (d :: r) = 0 :: d :: r from if_pos h]
      refine ⟨?_, by rw [bare_zero, bare_stop r hd]⟩
      rw [badN_cons]; simp; omega
    · rw [show top (d :: r) = d :: r from if_neg h]
      refine ⟨?_, bare_stop r hd⟩
      rw [badN_cons]; simp; omega
theorem parts_names {l : List (List UInt8)} (h0 : l ≠ []) (h : l.all nmOk = true) : parts 44 (joinc 44 l) = l := parts_joinc h0 fun x hx b hb e => by
  have h1 := List.all_eq_true.1 h x hx
  unfold nmOk at h1
  simp only [Bool.and_eq_true] at h1
  have h2 := List.all_eq_true.1 h1.1.1 b hb
  rw [e] at h2; cases h2
theorem joinc_nil {l : List (List UInt8)} (h : l.all nmOk = true) (h0 : joinc 44 l = []) : l = [] := by
  cases l with
  | nil => rfl
  | cons x r =>
    have h1 := List.all_eq_true.1 h x (by simp)
    cases r with
    | nil => have : x = [] := h0; subst this; cases h1
    | cons y r => rw [joinc_cons 44 x (by simp)] at h0; simp at h0
theorem mp_here {q : R} {s l : List UInt8} (h : Here q (mp s ++ l)) (hs : s.length ≤ 200) : q.mp 201 = (q.adv (4 + (top (bare s)).length), bare s) := by
  have hl := top_le s
  have ht := text_here h 201 (by omega) (by omega)
  have hw : (q.adv (4 + (top (bare s)).length)).why = 0 := h.why
  obtain ⟨h1, h2⟩ := top_fine s
  by_cases e : top (bare s) = []
  · have hb : bare s = [] := by rw [← h2, e]; rfl
    rw [R.mp_no ht (.inr e), hb]
  · rw [R.mp_good ht hw e h1, h2]
theorem lst_here {q : R} {nm : List (List UInt8)} {l : List UInt8} (h : Here q (be (joinc 44 nm).length 4 ++ joinc 44 nm ++ l)) (hn : nm.all nmOk = true) (hj : (joinc 44 nm).length ≤ 700) : q.lst = (q.adv (4 + (joinc 44 nm).length), nm) := by
  have ht := text_here h 1000 (by omega) (by omega)
  have hw : (q.adv (4 + (joinc 44 nm).length)).why = 0 := h.why
  by_cases e : joinc 44 nm = []
  · rw [R.lst_no ht (.inr e), joinc_nil hn e]
  · have h0 : nm ≠ [] := fun hh => e (by rw [hh]; rfl)
    rw [R.lst_good ht hw e (by rw [parts_names h0 hn]; exact hn), parts_names h0 hn]
theorem be_b8 (n : Nat) : be n 1 = [b8 (n : Int)] := by
  simp only [be, b8]; congr 1; apply UInt8.toNat_inj.1; rw [UInt8.toNat_ofNat', UInt8.toNat_ofNat']; simp; omega
structure Bk (q : R) (n : Nat) (s : List UInt8) (nm : List (List UInt8)) (l : List UInt8) (q8 : R) : Prop where
  go : ∃ q1 q2 q3 q4 q5 q6 q7, q.get 1 = (q1, n % 256) ∧ q1.get 4 = (q2, n % 4294967296) ∧ q2.get 8 = (q3, n) ∧ q3.text (s.length : Nat) = (q4, s) ∧ q4.mp 201 = (q5, bare s) ∧ q5.lst = (q6, nm) ∧ (q6.get 1 = (q7, if decide (((n % 2 : Nat) : Int) = 1) = true then 1 else 0)) ∧ q7.take (s.length : Nat) = (q8, s)
  here : Here q8 l
theorem back_reads {q : R} {n : Nat} {s : List UInt8} {nm : List (List UInt8)} {l : List UInt8} (h : Here q (enc2 n s nm ++ l)) (hn : n < 18446744073709551616) (hs : s.length ≤ 200) (hm : nm.all nmOk = true) (hj : (joinc 44 nm).length ≤ 700) : ∃ q8, Bk q n s nm l q8 := by
  unfold enc2 at h
  simp only [List.append_assoc] at h
  rw [← be_b8] at h
  have h1 := h
  have g1 := get_here h1 (Nat.mod_lt _ (by decide))
  have h2 := h1.adv (n := 1) (be_length _ _).symm
  have g2 := get_here h2 (Nat.mod_lt _ (by decide))
  have h3 := h2.adv (n := 4) (be_length _ _).symm
  have g3 := get_here h3 hn
  have h4 := h3.adv (n := 8) (be_length _ _).symm
  rw [← List.append_assoc] at h4
  have g4 := text_here h4 (s.length : Nat) (Int.le_refl _) (by omega)
  have h5 := h4.adv (n := 4 + s.length) (by rw [List.length_append, be_length])
  have g5 := mp_here h5 hs
  have h6 := h5.adv (n := 4 + (top (bare s)).length) (by rw [mp, List.length_append, be_length])
  rw [← List.append_assoc] at h6
  have g6 := lst_here h6 hm hj
  have h7 := h6.adv (n := 4 + (joinc 44 nm).length) (by rw [List.length_append, be_length])
  have h7' : Here (((((q.adv 1).adv 4).adv 8).adv (4 + s.length)).adv (4 + (top (bare s)).length) |>.adv (4 + (joinc 44 nm).length)) (be (if decide (((n % 2 : Nat) : Int) = 1) = true then 1 else 0) 1 ++ (s ++ l)) := by
    rw [be_b8]
    have e : (((if decide (((n % 2 : Nat) : Int) = 1) = true then 1 else 0 : Nat)) : Int) = (if decide (((n % 2 : Nat) : Int) = 1) = true then 1 else 0 : Int) := by split <;> rfl
    rw [e]; exact h7
  have g7 := get_here h7' (by split <;> decide)
  have h8 := h7'.adv (n := 1) (be_length _ _).symm
  have g8 := take_here h8 (s.length : Nat) rfl
  exact ⟨_, ⟨⟨_, _, _, _, _, _, _, g1, g2, g3, g4, g5, g6, g7, g8⟩, h8.adv rfl⟩⟩
theorem enc1_len (x : Pt) : (enc1 x).length ≤ 2000 := by
  have h1 := top_le (ps x)
  have h2 : (ps x).length ≤ 200 := by rw [ps, List.length_take]; omega
  have h3 := nms_j (few2_66 _) (few2_n x.l) (px x).length
  unfold enc1 enc2 mp
  unfold px at h3 ⊢
  simp only [List.length_append, be_length, List.length_cons, List.length_nil]
  omega
theorem encs_len (l : List Pt) : ∀ i, (encs l i).length ≤ 2000 * i
  | 0 => by simp [encs]
  | i + 1 => by
    by_cases hi : i < l.length
    · rw [encs_succ hi, List.length_append]; have := encs_len l i; have := enc1_len l[i]; omega
    · have h := encs_len l i
      have e : encs l (i + 1) = encs l i := by rw [encs, encs, List.take_of_length_le (by omega), List.take_of_length_le (by omega)]
      rw [e]; omega
theorem decs_cons {l : List Pt} {i k : Nat} (hi : i < l.length) (hk : i < k) : ((l.take k).drop i).flatMap enc1 = enc1 l[i] ++ ((l.take k).drop (i + 1)).flatMap enc1 := by
  rw [List.drop_eq_getElem_cons (by rw [List.length_take]; omega), List.flatMap_cons, List.getElem_take]

end Go.Proofs.YtbiohhfibkolgaaDoor
