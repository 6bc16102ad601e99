/-
  A login whose payload is whole: what the gate does.
-/
import Derived.Test.YtigaolglnnjnmaaAuthI
import Derived.Test.YtigaolglnnjnmaaRPure
namespace Go.Proofs.Ytigaolglnnjnmaa
open Go.Sx
set_option linter.unusedVariables false
set_option linter.unusedSimpArgs false
set_option maxRecDepth 100000
set_option maxHeartbeats 4000000

theorem get_one {q : R} {n : Nat} {l : List UInt8} (h : Here q (b8 (n : Int) :: l)) (hn : n < 256) : q.get 1 = (q.adv 1, n) ∧ Here (q.adv 1) l := by
  have e : be n 1 = [b8 (n : Int)] := by
    simp only [be, b8]; congr 1; apply UInt8.toNat_inj.1; rw [UInt8.toNat_ofNat', UInt8.toNat_ofNat']; simp; omega
  have h' : Here q (be n 1 ++ l) := by rw [e]; exact h
  exact ⟨get_here h' (by simpa using hn), h'.adv (be_length _ _).symm⟩
theorem text_one {q : R} {s l : List UInt8} (h : Here q (be s.length 4 ++ s ++ l)) (hs : s.length ≤ 64) : ∃ q', q.text 64 = (q', s) ∧ Here q' l :=
  ⟨_, text_here h 64 (by omega) (by omega), h.adv (by rw [List.length_append, be_length])⟩
theorem fin_here {q : R} (h : Here q []) : q.fin.1 = 0 := by
  have h1 := h.len
  rw [List.length_nil] at h1
  unfold R.fin; rw [if_pos h.why, if_neg (by omega)]
/-- a whole login of a gate whose service was asked for -/
theorem login_whole {g : Gs} {us : List Us} {u p : List UInt8} (hu : u.length ≤ 64) (hp : p.length ≤ 64) (hs : g.sv = true) :
    gLogin g us (R.new (be u.length 4 ++ u ++ (be tConn.length 4 ++ tConn ++ (be tPass.length 4 ++ tPass ++ (b8 ((0 : Nat) : Int) :: (be p.length 4 ++ p ++ [])))))) = if g.inn = true then (g, none) else if (⟨u, p⟩ : Us) ∈ us then ({ g with user := u, inn := true }, some [52]) else gTry g := by
  have h0 := Here.new (be u.length 4 ++ u ++ (be tConn.length 4 ++ tConn ++ (be tPass.length 4 ++ tPass ++ (b8 ((0 : Nat) : Int) :: (be p.length 4 ++ p ++ [])))))
  obtain ⟨q1, e1, h1⟩ := text_one h0 hu
  obtain ⟨q2, e2, h2⟩ := text_one h1 (show tConn.length ≤ 64 by decide)
  obtain ⟨q3, e3, h3⟩ := text_one h2 (show tPass.length ≤ 64 by decide)
  obtain ⟨e4, h4⟩ := get_one h3 (by decide)
  obtain ⟨q5, e5, h5⟩ := text_one h4 hp
  unfold gLogin gLogE gLog2
  rw [e1]; simp only
  rw [e2]; simp only
  rw [e3]; simp only
  rw [e4]; simp only
  rw [e5]; simp only
  rw [if_neg (by rw [h3.why, hs]; simp)]
  by_cases hi : g.inn = true
  · rw [if_pos hi, if_pos hi]
  · rw [if_neg hi, if_neg hi, if_neg (by simp), if_neg (by simp), fin_here h5, if_neg (by simp)]
theorem pay_login {u p nm b : List UInt8} {pb : Option Addr} {cb : Nat} (hu : u.length ≤ 64) (hp : p.length ≤ 64) : payB ⟨2, 0, u, p, nm, b, pb, cb⟩ = 50 :: (be u.length 4 ++ u ++ (be tConn.length 4 ++ tConn ++ (be tPass.length 4 ++ tPass ++ (b8 ((0 : Nat) : Int) :: (be p.length 4 ++ p ++ []))))) := by
  have e1 : u.take 66 = u := List.take_of_length_le (by omega)
  have e2 : p.take 66 = p := List.take_of_length_le (by omega)
  have e3 : b8 (if decide ((0 : Int).tmod 7 = 1) = true then 1 else 0) = b8 ((0 : Nat) : Int) := rfl
  unfold payB
  simp only [e1, e2, e3]
  simp
/-- what a login's payload does at a gate whose service was asked for -/
theorem only_step {g : Gs} {us : List Us} {u p nm b : List UInt8} {pb : Option Addr} {cb : Nat} (hu : u.length ≤ 64) (hp : p.length ≤ 64) (hs : g.sv = true) :
    gDo g us (payB ⟨2, 0, u, p, nm, b, pb, cb⟩) = if g.dead = true then (g, none) else if g.inn = true then (g, none) else if (⟨u, p⟩ : Us) ∈ us then ({ g with user := u, inn := true }, some [52]) else gTry g := by
  rw [pay_login hu hp, gDo_cons]
  by_cases hd : g.dead = true
  · rw [if_pos hd, if_pos hd]
  · rw [if_neg hd, if_neg hd, if_neg (by decide), if_neg (by decide), if_neg (by decide), if_pos (by decide), login_whole hu hp hs]

end Go.Proofs.Ytigaolglnnjnmaa
