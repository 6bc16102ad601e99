/-
  Lists and lines as bytes: plain laws.
-/
import Derived.Test.YtigaolglnnjnmaaDoorNegoB
import Derived.Test.YtigaolglnnjnmaaDoorRn1
import Derived.Test.YtigaolglnnjnmaaDoorRPure
import Derived.Test.YtigaolglnnjnmaaDoorNgL
namespace Go.Proofs.YtigaolglnnjnmaaDoor
open Go.Sx
set_option linter.unusedVariables false
set_option linter.unusedSimpArgs false
set_option maxRecDepth 100000
set_option maxHeartbeats 4000000

theorem joinc_le : ∀ (l : List (List UInt8)), (∀ x ∈ l, x.length ≤ 66) → (joinc 44 l).length ≤ 67 * l.length
  | [], h => by simp [joinc]
  | [x], h => by have := h x (by simp); simp only [joinc, List.length_cons, List.length_nil]; omega
  | x :: y :: r, h => by
    have h1 := h x (by simp)
    have h2 := joinc_le (y :: r) (fun z hz => h z (by simp at hz ⊢; exact .inr hz))
    rw [joinc_cons 44 x (by simp)]
    simp only [List.length_append, List.length_cons] at h2 ⊢
    omega
def nms (xs : List (List UInt8)) (i : Nat) : List (List UInt8) := (xs.take i).filter nmOk
theorem nms_yes {xs : List (List UInt8)} {i : Nat} (hi : i < xs.length) (h : nmOk xs[i] = true) : nms xs (i + 1) = nms xs i ++ [xs[i]] := by
  rw [nms, List.take_succ_eq_append_getElem hi, List.filter_append]; simp [nms, h]
theorem nms_no {xs : List (List UInt8)} {i : Nat} (hi : i < xs.length) (h : nmOk xs[i] = false) : nms xs (i + 1) = nms xs i := by
  rw [nms, List.take_succ_eq_append_getElem hi, List.filter_append]; simp [nms, h]
theorem nms_all (xs : List (List UInt8)) (i : Nat) : (nms xs i).all nmOk = true := by
  rw [List.all_eq_true]; intro x hx; exact (List.mem_filter.1 hx).2
theorem nms_le (xs : List (List UInt8)) (i : Nat) : (nms xs i).length ≤ xs.length := Nat.le_trans (List.length_filter_le _ _) (by rw [List.length_take]; omega)
theorem nms_66 {xs : List (List UInt8)} (h : ∀ x ∈ xs, x.length ≤ 66) (i : Nat) : ∀ x ∈ nms xs i, x.length ≤ 66 := fun x hx => h x (List.mem_of_mem_take (List.mem_filter.1 hx).1)
theorem parts_names {l : List (List UInt8)} (h0 : l ≠ []) (h : l.all nmOk = true) : parts 44 (joinc 44 l) = l := parts_joinc h0 fun x hx b hb e => by
  have h1 := List.all_eq_true.1 h x hx
  unfold nmOk at h1
  simp only [Bool.and_eq_true] at h1
  have h2 := List.all_eq_true.1 h1.1.1 b hb
  rw [e] at h2; cases h2
theorem joinc_nil {l : List (List UInt8)} (h : l.all nmOk = true) (h0 : joinc 44 l = []) : l = [] := by
  cases l with
  | nil => rfl
  | cons x r =>
    have h1 := List.all_eq_true.1 h x (by simp)
    cases r with
    | nil => have : x = [] := h0; subst this; cases h1
    | cons y r => rw [joinc_cons 44 x (by simp)] at h0; simp at h0
theorem lst_here {q : R} {nm : List (List UInt8)} {l : List UInt8} (h : Here q (be (joinc 44 nm).length 4 ++ joinc 44 nm ++ l)) (hn : nm.all nmOk = true) (hj : (joinc 44 nm).length ≤ 1000) : q.lst = (q.adv (4 + (joinc 44 nm).length), nm) := by
  have ht := text_here h 1000 (by omega) (by omega)
  have hw : (q.adv (4 + (joinc 44 nm).length)).why = 0 := h.why
  by_cases e : joinc 44 nm = []
  · rw [R.lst_no ht (.inr e), joinc_nil hn e]
  · have h0 : nm ≠ [] := fun hh => e (by rw [hh]; rfl)
    rw [R.lst_good ht hw e (by rw [parts_names h0 hn]; exact hn), parts_names h0 hn]
theorem be_b8 (n : Nat) : be n 1 = [b8 (n : Int)] := by
  simp only [be, b8]; congr 1; apply UInt8.toNat_inj.1; rw [UInt8.toNat_ofNat', UInt8.toNat_ofNat']; simp; omega
/-- lists as bytes -/
def encLs (ls : List (List (List UInt8))) : List UInt8 := ls.flatMap fun nm => be (joinc 44 nm).length 4 ++ joinc 44 nm
def encAll (ck : List UInt8) (ls : List (List (List UInt8))) (f : Bool) : List UInt8 := b8 20 :: (ck ++ (encLs ls ++ (b8 (if f then 1 else 0) :: be 0 4)))
def lOk (l : List (List UInt8)) : Prop := l.all nmOk = true ∧ (joinc 44 l).length ≤ 1000
theorem encLs_succ {ls : List (List (List UInt8))} {i : Nat} (hi : i < ls.length) : encLs (ls.take (i + 1)) = encLs (ls.take i) ++ (be (joinc 44 ls[i]).length 4 ++ joinc 44 ls[i]) := by
  rw [encLs, List.take_succ_eq_append_getElem hi, List.flatMap_append]; simp [encLs]
theorem encLs_len : ∀ (ls : List (List (List UInt8))), (∀ l ∈ ls, (joinc 44 l).length ≤ 402) → (encLs ls).length ≤ 406 * ls.length
  | [], _ => by simp [encLs]
  | x :: r, h => by
    have h1 := h x (by simp)
    have h2 := encLs_len r (fun l hl => h l (by simp [hl]))
    rw [encLs, List.flatMap_cons, List.length_append, List.length_append, be_length, List.length_cons]
    unfold encLs at h2; omega
/-- n lists are read -/
def rds : Nat → R → R × List (List (List UInt8))
  | 0, r => (r, [])
  | n + 1, r => ((rds n r).1.lst.1, (rds n r).2 ++ [(rds n r).1.lst.2])
theorem rds_len (n : Nat) (r : R) : (rds n r).2.length = n := by
  induction n with
  | zero => rfl
  | succ n ih => rw [rds, List.length_append, ih]; rfl
theorem rds_good {n : Nat} {r : R} (h : r.Good) : (rds n r).1.Good := by
  induction n with
  | zero => exact h
  | succ n ih => exact R.good_lst ih
theorem rds_here {q : R} {ls : List (List (List UInt8))} {l : List UInt8} (h : Here q (encLs ls ++ l)) (hl : ∀ x ∈ ls, lOk x) : ∀ i, i ≤ ls.length → ∃ n, Here (q.adv n) (encLs (ls.drop i) ++ l) ∧ rds i q = (q.adv n, ls.take i)
  | 0, _ => ⟨0, by rw [List.drop_zero]; exact h, by rw [List.take_zero]; rfl⟩
  | i + 1, hi => by
    obtain ⟨n, h1, h2⟩ := rds_here h hl i (by omega)
    have e : encLs (ls.drop i) = (be (joinc 44 ls[i]).length 4 ++ joinc 44 ls[i]) ++ encLs (ls.drop (i + 1)) := by
      rw [List.drop_eq_getElem_cons (by omega), encLs, List.flatMap_cons]; rfl
    rw [e, List.append_assoc] at h1
    have ho := hl ls[i] (List.getElem_mem _)
    have h3 := lst_here h1 ho.1 ho.2
    refine ⟨n + (4 + (joinc 44 ls[i]).length), ?_, ?_⟩
    · rw [← adv_adv]; exact h1.adv (by rw [List.length_append, be_length])
    · rw [rds, h2]
      simp only
      rw [h3, adv_adv, List.take_succ_eq_append_getElem (by omega)]
/-- what is read as lists: the reader behind them -/
def decR (q : R) : R := (((rds 10 ((q.get 1).1.take 16).1).1.get 1).1.get 4).1
def decV (q : R) : List UInt8 × List (List (List UInt8)) × Bool := (((q.get 1).1.take 16).2, (rds 10 ((q.get 1).1.take 16).1).2, decide ((((rds 10 ((q.get 1).1.take 16).1).1.get 1).2 : Int) ≠ 0))
/-- what is read as lists -/
def decL (b : List UInt8) : Option (List UInt8 × List (List (List UInt8)) × Bool) :=
  if ((R.new b).get 1).2 = 20 ∧ (decR (R.new b)).fin.1 = 0 then some (decV (R.new b)) else none
theorem dec_enc {ck : List UInt8} {ls : List (List (List UInt8))} (f : Bool) (hc : ck.length = 16) (hn : ls.length = 10) (hl : ∀ x ∈ ls, lOk x) : decL (encAll ck ls f) = some (ck, ls, f) := by
  have h1 := Here.new (encAll ck ls f)
  have e0 : encAll ck ls f = be 20 1 ++ (ck ++ (encLs ls ++ (be (if f then 1 else 0) 1 ++ (be 0 4 ++ [])))) := by
    rw [be_b8, be_b8, List.append_nil]
    unfold encAll
    cases f <;> rfl
  have h1' : Here (R.new (encAll ck ls f)) (be 20 1 ++ (ck ++ (encLs ls ++ (be (if f then 1 else 0) 1 ++ (be 0 4 ++ []))))) := by rw [← e0]; exact h1
  unfold decL decR decV
  generalize R.new (encAll ck ls f) = q at *
  have g1 := get_here h1' (by decide)
  have h2 := h1'.adv (n := 1) (be_length _ _).symm
  have g2 := take_here h2 16 (by rw [hc]; rfl)
  have h3 := h2.adv rfl
  obtain ⟨n, h4, g3⟩ := rds_here h3 hl 10 (by omega)
  rw [List.drop_of_length_le (by omega)] at h4
  rw [List.take_of_length_le (by omega)] at g3
  have h4' : Here ((((q.adv 1).adv ck.length)).adv n) (be (if f then 1 else 0) 1 ++ (be 0 4 ++ [])) := h4
  have g4 := get_here h4' (by split <;> decide)
  have h5 := h4'.adv (n := 1) (be_length _ _).symm
  have g5 := get_here h5 (by decide)
  have h6 := h5.adv (n := 4) (be_length _ _).symm
  rw [g1]; simp only
  rw [g2]; simp only
  rw [g3]; simp only
  rw [g4]; simp only
  rw [g5]; simp only
  have hf : ((((q.adv 1).adv ck.length).adv n).adv 1 |>.adv 4).fin.1 = 0 := by
    have h7 := h6.len
    simp only [List.length_nil, Nat.add_zero] at h7
    unfold R.fin; rw [if_pos h6.why, if_neg (by omega)]
  rw [if_pos ⟨trivial, hf⟩]
  cases f <;> rfl
/-- more bytes stand behind -/
def R.app (r : R) (c : List UInt8) : R := { r with b := r.b ++ c }
theorem take_app {r : R} {n : Int} (c : List UInt8) (hp : r.pos ≤ r.b.length) (h : (r.take n).1.why = 0) : (r.app c).take n = ((r.take n).1.app c, (r.take n).2) ∧ r.why = 0 := by
  by_cases h1 : r.why = 0
  · have n1 : ¬ (r.why ≠ 0) := fun hh => hh h1
    have n1' : ¬ ((r.app c).why ≠ 0) := fun hh => hh h1
    by_cases h2 : (r.b.length : Int) - r.pos < n
    · exfalso
      have e : (r.take n).1 = r.refuse 10 r.b.length := by unfold R.take; rw [if_neg n1, if_pos h2]
      rw [e] at h; exact refuse_why (by decide) h
    · have h2' : ¬ (((r.app c).b.length : Int) - (r.app c).pos < n) := by
        show ¬ (((r.b ++ c).length : Nat) : Int) - (r.pos : Int) < n
        rw [List.length_append]; omega
      refine ⟨?_, h1⟩
      by_cases h3 : n ≤ 0
      · have e1 : r.take n = (r, []) := by unfold R.take; rw [if_neg n1, if_neg h2, if_pos h3]
        have e2 : (r.app c).take n = (r.app c, []) := by unfold R.take; rw [if_neg n1', if_neg h2', if_pos h3]
        rw [e1, e2]
      · have e1 : r.take n = ({ r with pos := r.pos + n.toNat }, (r.b.drop r.pos).take n.toNat) := by unfold R.take; rw [if_neg n1, if_neg h2, if_neg h3]
        have e2 : (r.app c).take n = ({ r.app c with pos := r.pos + n.toNat }, ((r.b ++ c).drop r.pos).take n.toNat) := by unfold R.take; rw [if_neg n1', if_neg h2', if_neg h3]; rfl
        have e : ((r.b ++ c).drop r.pos).take n.toNat = (r.b.drop r.pos).take n.toNat := by
          rw [List.drop_append_of_le_length hp, List.take_append_of_le_length (by rw [List.length_drop]; omega)]
        rw [e1, e2, e]; rfl
  · rw [take_why0 _ _ h1] at h; exact absurd h h1
theorem get_app {r : R} {k : Nat} (c : List UInt8) (hp : r.pos ≤ r.b.length) (h : (r.get k).1.why = 0) : (r.app c).get k = ((r.get k).1.app c, (r.get k).2) ∧ r.why = 0 := by
  obtain ⟨h1, h2⟩ := take_app (n := k) c hp h
  refine ⟨?_, h2⟩
  unfold R.get; rw [h1]
theorem text_app {r : R} {n : Int} (c : List UInt8) (hp : r.pos ≤ r.b.length) (h : (r.text n).1.why = 0) : (r.app c).text n = ((r.text n).1.app c, (r.text n).2) ∧ r.why = 0 := by
  unfold R.text at *
  by_cases hc : (if 0 > n then 0 else n) < ((r.get 4).2 : Int)
  · rw [if_pos hc] at h
    exfalso
    have h1 : ((r.get 4).1.refuse 3 r.pos).why = 0 := by
      refine Classical.byContradiction fun hn => ?_
      rw [take_why0 _ _ hn] at h; exact hn h
    exact refuse_why (by decide) h1
  · rw [if_neg hc] at *
    have hp1 : (r.get 4).1.pos ≤ (r.get 4).1.b.length := by rw [get_b]; exact get_pos r 4 hp
    obtain ⟨h1, h2⟩ := take_app c hp1 h
    obtain ⟨h3, h4⟩ := get_app c hp h2
    rw [h3]
    simp only
    rw [if_neg hc, h1]
    exact ⟨rfl, h4⟩
theorem refuse_pos {r : R} {w p : Int} (hp : r.pos ≤ r.b.length) : (r.refuse w p).pos ≤ (r.refuse w p).b.length := by unfold R.refuse; split <;> exact hp
theorem text_pos {r : R} (n : Int) (hp : r.pos ≤ r.b.length) : (r.text n).1.pos ≤ (r.text n).1.b.length := by
  have := R.good_text (r := r)
  unfold R.text
  have hp1 : (r.get 4).1.pos ≤ (r.get 4).1.b.length := by rw [get_b]; exact get_pos r 4 hp
  refine take_pos _ _ ?_
  by_cases hc : (if 0 > n then 0 else n) < ((r.get 4).2 : Int)
  · rw [if_pos hc]; exact refuse_pos hp1
  · rw [if_neg hc]; exact hp1
theorem lst_app {r : R} (c : List UInt8) (hp : r.pos ≤ r.b.length) (h : r.lst.1.why = 0) : (r.app c).lst = (r.lst.1.app c, r.lst.2) ∧ r.why = 0 := by
  unfold R.lst at *
  by_cases h1 : (r.text 1000).1.why = 0
  · obtain ⟨h2, h3⟩ := text_app c hp h1
    rw [h2]
    simp only
    have h1' : ((r.text 1000).1.app c).why = 0 := h1
    by_cases h4 : (r.text 1000).2 = []
    · rw [if_pos (.inr h4), if_pos (.inr h4)]; exact ⟨rfl, h3⟩
    · have hn : ¬ ((r.text 1000).1.why ≠ 0 ∨ (r.text 1000).2 = []) := by rintro (hh | hh); exact hh h1; exact h4 hh
      have hn' : ¬ (((r.text 1000).1.app c).why ≠ 0 ∨ (r.text 1000).2 = []) := hn
      rw [if_neg hn] at h
      rw [if_neg hn, if_neg hn']
      by_cases h5 : (parts 44 (r.text 1000).2).all nmOk = true
      · rw [if_pos h5, if_pos h5]; exact ⟨rfl, h3⟩
      · rw [if_neg h5] at h
        exact (refuse_why (by decide) h).elim
  · rw [if_pos (.inl h1)] at h; exact absurd h h1
theorem lst_pos {r : R} (hp : r.pos ≤ r.b.length) : r.lst.1.pos ≤ r.lst.1.b.length := by
  have h := text_pos (r := r) 1000 hp
  unfold R.lst
  split
  · exact h
  · split
    · exact h
    · unfold R.refuse; split <;> exact h
theorem rds_pos {r : R} (hp : r.pos ≤ r.b.length) : ∀ n, (rds n r).1.pos ≤ (rds n r).1.b.length
  | 0 => hp
  | n + 1 => lst_pos (rds_pos hp n)
theorem rds_app {r : R} (c : List UInt8) (hp : r.pos ≤ r.b.length) : ∀ n, (rds n r).1.why = 0 → rds n (r.app c) = ((rds n r).1.app c, (rds n r).2) ∧ r.why = 0
  | 0, h => ⟨rfl, h⟩
  | n + 1, h => by
    obtain ⟨h1, h2⟩ := lst_app c (rds_pos hp n) h
    obtain ⟨h3, h4⟩ := rds_app c hp n h2
    refine ⟨?_, h4⟩
    rw [rds, h3]
    simp only
    rw [h1]; rfl
theorem fin_ok {r : R} (h : r.fin.1 = 0) : r.why = 0 ∧ r.b.length ≤ r.pos := by
  unfold R.fin at h
  by_cases h1 : r.why = 0
  · rw [if_pos h1] at h
    by_cases h2 : r.pos < r.b.length
    · rw [if_pos h2] at h; cases h
    · exact ⟨h1, by omega⟩
  · rw [if_neg h1] at h; exact absurd h h1
theorem take_pos' {r : R} (n : Int) (hp : r.pos ≤ r.b.length) : (r.take n).1.pos ≤ (r.take n).1.b.length := take_pos r n hp
theorem get_pos' {r : R} (n : Nat) (hp : r.pos ≤ r.b.length) : (r.get n).1.pos ≤ (r.get n).1.b.length := by rw [get_b]; exact get_pos r n hp
theorem decR_app {q : R} (c : List UInt8) (hp : q.pos ≤ q.b.length) (h : (decR q).why = 0) : decR (q.app c) = (decR q).app c := by
  unfold decR at *
  have p1 := get_pos' (r := q) 1 hp
  have p2 := take_pos' (r := (q.get 1).1) 16 p1
  have p3 := rds_pos p2 10
  have p4 := get_pos' (r := (rds 10 ((q.get 1).1.take 16).1).1) 1 p3
  obtain ⟨a5, h5⟩ := get_app c p4 h
  obtain ⟨a4, h4⟩ := get_app c p3 h5
  obtain ⟨a3, h3⟩ := rds_app c p2 10 h4
  obtain ⟨a2, h2⟩ := take_app c p1 h3
  obtain ⟨a1, h1⟩ := get_app c hp h2
  rw [a1]; simp only
  rw [a2]; simp only
  rw [a3]; simp only
  rw [a4]; simp only
  rw [a5]
theorem decR_pos {q : R} (hp : q.pos ≤ q.b.length) : (decR q).pos ≤ (decR q).b.length := by
  unfold decR
  exact get_pos' _ (get_pos' _ (rds_pos (take_pos' _ (get_pos' _ hp)) 10))
/-- behind lists nothing may stand -/
theorem dec_more {b c : List UInt8} {z : List UInt8 × List (List (List UInt8)) × Bool} (h : decL b = some z) (hc : c ≠ []) : decL (b ++ c) = none := by
  unfold decL at *
  split at h
  · rename_i h1
    obtain ⟨h2, h3⟩ := fin_ok h1.2
    have e : R.new (b ++ c) = (R.new b).app c := rfl
    have h4 := decR_app (q := R.new b) c (Nat.zero_le _) h2
    rw [e, h4, if_neg]
    rintro ⟨_, h5⟩
    obtain ⟨_, h6⟩ := fin_ok h5
    have hb := decR_pos (q := R.new b) (Nat.zero_le _)
    generalize decR (R.new b) = t at *
    have h7 : (t.b ++ c).length ≤ t.pos := h6
    have h8 := List.length_pos_iff.2 hc
    rw [List.length_append] at h7
    omega
  · cases h
theorem dec_cut {b : List UInt8} {k : Nat} {z : List UInt8 × List (List (List UInt8)) × Bool} (h : decL b = some z) (hk : k < b.length) : decL (b.take k) = none := by
  cases h1 : decL (b.take k) with
  | none => rfl
  | some y =>
    have h2 := dec_more h1 (c := b.drop k) (fun e => by have := congrArg List.length e; rw [List.length_drop] at this; simp at this; omega)
    rw [List.take_append_drop, h] at h2; cases h2
theorem dec_all {b c : List UInt8} {z : List UInt8 × List (List (List UInt8)) × Bool} (h : decL b = some z) : (decL (b ++ c)).isSome = decide (c.length = 0) := by
  cases c with
  | nil => rw [List.append_nil, h]; rfl
  | cons x r => rw [dec_more h (by simp)]; rfl
-- lines
theorem idx_at : ∀ (s : List UInt8) (r : List UInt8), (∀ b ∈ s, b ≠ 13) → Lib.index (s ++ 13 :: 10 :: r) [13, 10] = (s.length : Nat)
  | [], r, _ => by unfold Lib.index; rfl
  | b :: s, r, h => by
    have hb := h b (by simp)
    have ih := idx_at s r (fun x hx => h x (by simp [hx]))
    rw [List.cons_append]
    unfold Lib.index
    rw [ih]
    have e : [13, 10].isPrefixOf (b :: (s ++ 13 :: 10 :: r)) = false := by
      rw [List.isPrefixOf]
      simp [Ne.symm hb]
    rw [e]
    simp only [Bool.false_eq_true, if_false]
    rw [if_neg (fun hh => by have := eq_of_beq hh; omega), List.length_cons]; omega
theorem idx_non : ∀ (s : List UInt8), (∀ b ∈ s, b ≠ 13) → Lib.index s [13, 10] = -1 ∧ Lib.index (s ++ [13]) [13, 10] = -1
  | [], _ => ⟨by unfold Lib.index; rfl, by decide⟩
  | b :: s, h => by
    have hb := h b (by simp)
    obtain ⟨i1, i2⟩ := idx_non s (fun x hx => h x (by simp [hx]))
    have e : ∀ r, [13, 10].isPrefixOf (b :: r) = false := fun r => by
      rw [List.isPrefixOf]
      simp [Ne.symm hb]
    constructor
    · unfold Lib.index
      rw [e, i1]; rfl
    · rw [List.cons_append]
      unfold Lib.index
      rw [e, i2]; rfl
theorem ve_13 {s : List UInt8} (h : veOk s = true) : (∀ b ∈ s, b ≠ 13) ∧ s.length ≤ 253 := by
  unfold veOk at h
  simp only [Bool.and_eq_true, decide_eq_true_eq] at h
  refine ⟨fun b hb e => ?_, h.2⟩
  have h1 := List.all_eq_true.1 h.1.1.1 b hb
  rw [e] at h1; cases h1
/-- a line comes back -/
theorem vers_line {s : List UInt8} (h : veOk s = true) (r : List UInt8) : vers (s ++ [13, 10] ++ r) = (s, ((s.length : Nat) : Int) + 2, 0) := by
  obtain ⟨h1, h2⟩ := ve_13 h
  have e : (s ++ [13, 10] ++ r).take 255 = s ++ 13 :: 10 :: r.take (255 - (s.length + 2)) := by
    rw [List.take_append, List.take_of_length_le (by simp; omega)]; simp
  unfold vers
  rw [e, idx_at _ _ h1]
  have e2 : (s ++ [13, 10] ++ r).take s.length = s := by simp
  have := versN_d (b := s ++ [13, 10] ++ r) (k := s.length) (by rw [e2]; exact h)
  rw [this, e2]
/-- a line that is cut is at its end -/
theorem vers_cut {s : List UInt8} (h : veOk s = true) {k : Nat} (hk : k < (s ++ [13, 10]).length) : vers ((s ++ [13, 10]).take k) = ([], 0, 10) := by
  obtain ⟨h1, h2⟩ := ve_13 h
  rw [List.length_append] at hk
  simp only [List.length_cons, List.length_nil] at hk
  have e : ((s ++ [13, 10]).take k).take 255 = (s ++ [13, 10]).take k := List.take_of_length_le (by simp; omega)
  have e2 : Lib.index ((s ++ [13, 10]).take k) [13, 10] = -1 := by
    by_cases h3 : k ≤ s.length
    · rw [List.take_append_of_le_length h3]
      exact (idx_non _ fun b hb => h1 b (List.mem_of_mem_take hb)).1
    · obtain rfl : k = s.length + 1 := by omega
      have : (s ++ [13, 10]).take (s.length + 1) = s ++ [13] := by rw [List.take_append, List.take_of_length_le (by omega)]; simp
      rw [this]; exact (idx_non _ h1).2
  unfold vers
  rw [e, e2]
  exact versN_b (by decide) (by rw [List.length_take]; simp; omega)
-- the first that both have
/-- k .. are looked at: what is the first of these? -/
def Fst (l o : List (List UInt8)) (k : Nat) (f : Int) : Prop := (f = -1 ∧ ∀ j x, k ≤ j → l[j]? = some x → x ∉ o) ∨ ∃ (i : Nat) (x : List UInt8), f = (i : Nat) ∧ k ≤ i ∧ l[i]? = some x ∧ x ∈ o ∧ ∀ j y, k ≤ j → j < i → l[j]? = some y → y ∉ o
theorem Fst.top (l o : List (List UInt8)) : Fst l o l.length (-1) := .inl ⟨rfl, fun j x hj h => by rw [List.getElem?_eq_none hj] at h; cases h⟩
theorem Fst.hit {l o : List (List UInt8)} {k : Nat} (hk : k < l.length) (h : l[k] ∈ o) : Fst l o k (k : Nat) := .inr ⟨k, l[k], rfl, Nat.le_refl _, List.getElem?_eq_getElem hk, h, fun j y h1 h2 _ => by omega⟩
theorem Fst.no {l o : List (List UInt8)} {k : Nat} {f : Int} (hk : k < l.length) (h : l[k] ∉ o) (hf : Fst l o (k + 1) f) : Fst l o k f := by
  have key : ∀ j y, k ≤ j → l[j]? = some y → (k + 1 ≤ j → y ∉ o) → y ∉ o := fun j y h1 h2 h3 => by
    by_cases e : k = j
    · subst e; rw [List.getElem?_eq_getElem hk] at h2; cases h2; exact h
    · exact h3 (by omega)
  rcases hf with ⟨h1, h2⟩ | ⟨i, x, h1, h2, h3, h4, h5⟩
  · exact .inl ⟨h1, fun j x hj hx => key j x hj hx fun h => h2 j x h hx⟩
  · exact .inr ⟨i, x, h1, by omega, h3, h4, fun j y hj hi hy => key j y hj hy fun h => h5 j y h hi hy⟩
theorem Fst.cho {l o : List (List UInt8)} {f : Int} (h : Fst l o 0 f) : (f = -1 ∧ chO l o = ([], 22)) ∨ ∃ (i : Nat) (hi : i < l.length), f = (i : Nat) ∧ chO l o = (l[i], 0) := by
  rcases h with ⟨h1, h2⟩ | ⟨i, x, h1, h2, h3, h4, h5⟩
  · refine .inl ⟨h1, chO_no fun y hy => ?_⟩
    obtain ⟨j, hj⟩ := List.mem_iff_getElem?.1 hy
    exact h2 j y (Nat.zero_le _) hj
  · obtain ⟨hi, hx⟩ := List.getElem?_eq_some_iff.1 h3
    refine .inr ⟨i, hi, h1, chO_hit hi (fun y hy => ?_) (by rw [hx]; exact h4)⟩
    obtain ⟨j, hj⟩ := List.mem_iff_getElem?.1 hy
    have hl := (List.getElem?_eq_some_iff.1 hj).1
    rw [List.length_take] at hl
    rw [List.getElem?_take_of_lt (by omega)] at hj
    exact h5 j y (Nat.zero_le _) (by omega) hj

end Go.Proofs.YtigaolglnnjnmaaDoor
