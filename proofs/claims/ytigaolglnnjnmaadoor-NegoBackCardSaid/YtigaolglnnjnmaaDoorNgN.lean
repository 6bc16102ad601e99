/-
  NegoBack: plain parts.
-/
import Derived.Test.YtigaolglnnjnmaaDoorNgK
namespace Go.Proofs.YtigaolglnnjnmaaDoor
open Go.Sx
set_option linter.unusedVariables false
set_option linter.unusedSimpArgs false
set_option maxRecDepth 100000
set_option maxHeartbeats 4000000

theorem lcs_at2 {c : Value} {ns : List Lt} {f : Bool} {i : Nat} {s : Lt} (h : ns[i]? = some s) : (lcs c ns f)[0 + 1 + i * 1]? = some s.v := by
  obtain ⟨hi, rfl⟩ := List.getElem?_eq_some_iff.1 h
  exact lcs_at hi
/-- so many lists hold right names alone by now -/
structure Fl (W U : HProp) (o ns : List Lt) (i : Nat) : Prop where
  len : ns.length = 10
  sub : SubH [U] [W]
  rest : ∀ j, i ≤ j → ns[j]? = o[j]?
  done : ∀ j s, j < i → ns[j]? = some s → Lv U s ∧ Lsm s ∧ s.l.all nmOk = true
theorem Fl.zero {W : HProp} {o : List Lt} (h : o.length = 10) : Fl W W o o 0 := ⟨h, SubH.refl _, fun _ _ => rfl, fun _ _ h => by omega⟩
theorem Fl.next {W U U' : HProp} {o ns : List Lt} {i : Nat} (h : Fl W U o ns i) (hi : i < 10) (hs : SubH [U'] [U]) (s : Lt) (hv : Lv U' s) (hm : Lsm s) (ha : s.l.all nmOk = true) : Fl W U' o (ns.set i s) (i + 1) := by
  refine ⟨by rw [List.length_set]; exact h.len, hs.trans h.sub, fun j hj => ?_, fun j t hj ht => ?_⟩
  · rw [List.getElem?_set_ne (by omega)]; exact h.rest j (by omega)
  · by_cases e : i = j
    · subst e
      rw [List.getElem?_set_self (by rw [h.len]; exact hi)] at ht; cases ht
      exact ⟨hv, hm, ha⟩
    · rw [List.getElem?_set_ne e] at ht
      have h1 := h.done j t (by omega) ht
      exact ⟨h1.1.sub hs, h1.2⟩
theorem x_new {W U : HProp} {z : Li} {ns : List Lt} (hz : z.Ok W) (hs : z.Sm) (hc : z.ck.length = 16) (h : Fl W U z.ns ns 10) : ∃ x : Li, lcs (.slice z.cp z.ck.length z.cc) ns z.f = x.cs ∧ x.Ok U ∧ x.Sm ∧ enOk x ∧ x.ns = ns := by
  have key : ∀ s ∈ ns, Lv U s ∧ Lsm s ∧ s.l.all nmOk = true := fun s hs => by
    obtain ⟨j, h1⟩ := List.mem_iff_getElem?.1 hs
    have h2 := (List.getElem?_eq_some_iff.1 h1).1
    exact h.done j s (by have := h.len; omega) h1
  refine ⟨⟨z.cp, z.cc, z.ck, ns, z.f⟩, rfl, ⟨h.len, vw_sub h.sub hz.ck, hz.cc, hz.cm, fun s h => (key s h).1⟩, ⟨hs.ck, fun s h => (key s h).2.1⟩, ⟨hc, fun l hl => ?_⟩, rfl⟩
  obtain ⟨s, h1, rfl⟩ := List.mem_map.1 hl
  have h2 := key s h1
  have h3 := joinc_le s.l h2.2.1.2
  have h4 := h2.2.1.1
  exact ⟨h2.2.2, by omega⟩
theorem enc_ok {z : Li} {e : Int} {bs : List UInt8} (ho : enOk z) (h : (e = 0 ∧ enOk z ∧ bs = encAll z.ck z.ls z.f) ∨ (e ≠ 0 ∧ ¬ enOk z ∧ bs = [])) : e = 0 := by
  rcases h with ⟨h0, _⟩ | ⟨_, h1, _⟩
  · exact h0
  · exact absurd ho h1
theorem decP_some {U : HProp} {b : List UInt8} {vs : List Value} {e : Int} {x : Li} (h : DecP U b vs e) (hd : decL b = some (x.ck, x.ls, x.f)) : e = 0 ∧ ∃ y : Li, vs = y.cs ∧ y.Ok U ∧ y.ls = x.ls ∧ y.ck = x.ck ∧ y.f = x.f := by
  rcases h.2.2 with ⟨h0, y, h1, h2, h3⟩ | ⟨_, h1⟩
  · rw [hd] at h3
    injection h3 with h3
    injection h3 with h3 h4
    injection h4 with h4 h5
    exact ⟨h0, y, h1, h2, h4.symm, h3.symm, h5.symm⟩
  · rw [hd] at h1; cases h1
theorem Li.Ok.pick {U : HProp} {H : List HProp} (i : Nat) (hi : H[i]? = some U) {x : Li} (h : x.Ok U) : x.Ok (St H) :=
  ⟨h.len, Vw.pick i hi h.ck, h.cc, h.cm, fun s hs => ⟨Vw.pick i hi (h.ns s hs).1, (h.ns s hs).2⟩⟩
theorem same9K (V : HProp) (a b : Li) (ha : a.Ok V) (hb : b.Ok V) (hsm : ∀ s ∈ a.ns, s.l.length ≤ 140737488355328) (he : a.ls = b.ls) (hc : a.ck = b.ck) (hf : a.f = b.f) : Tri Tryd.prog 29 [a.v, b.v] [V] (fun v H' => ∃ K, (v = .bool true ∧ K = []) ∧ H' = K ++ [V]) :=
  tri_post (same9_spec V a b ha hb hsm he hc hf) fun v H' ⟨h1, h2⟩ => ⟨[], ⟨h1, rfl⟩, h2⟩
theorem sm_ls {x y : Li} (h : y.ls = x.ls) (hx : x.Sm) : ∀ s ∈ y.ns, s.l.length ≤ 140737488355328 := fun s hs => by
  have h1 : s.l ∈ y.ls := List.mem_map.2 ⟨s, hs, rfl⟩
  rw [h] at h1
  obtain ⟨t, ht, he⟩ := List.mem_map.1 h1
  have := (hx.ns t ht).1
  rw [← he]; omega
theorem line_back {s ln : List UInt8} {e : Int} (h : (e = 0 ∧ veOk (s.take 260) = true ∧ ln = s.take 260 ++ [13, 10]) ∨ (e ≠ 0 ∧ veOk (s.take 260) = false ∧ ln = [])) (h0 : e = 0) : (∀ r, vers (ln ++ r) = (s, ((s.length : Nat) : Int) + 2, (0 : Int))) ∧ ln.length = s.length + 2 ∧ ln.length ≤ 262 := by
  rcases h with ⟨_, h1, rfl⟩ | ⟨h1, _⟩
  · have h2 := (ve_13 h1).2
    rw [List.length_take] at h2
    have e1 : s.take 260 = s := List.take_of_length_le (by omega)
    rw [e1] at h1 ⊢
    exact ⟨fun r => vers_line h1 r, by simp, by simp; omega⟩
  · exact absurd h0 h1
theorem fst_yes {l o : List (List UInt8)} {f : Int} (h : Fst l o 0 f) : decide ((chO l o).2 = 0) = decide (0 ≤ f) ∧ (0 ≤ f → ∃ (j : Nat) (hj : j < l.length), f = (j : Nat) ∧ (chO l o).1 = l[j]) := by
  rcases h.cho with ⟨h1, h2⟩ | ⟨i, hi, h1, h2⟩
  · rw [h2, h1]; exact ⟨by decide, fun h => absurd h (by decide)⟩
  · rw [h2, h1]
    refine ⟨?_, fun _ => ⟨i, hi, rfl, rfl⟩⟩
    rw [decide_eq_true rfl, decide_eq_true (Int.natCast_nonneg i)]

end Go.Proofs.YtigaolglnnjnmaaDoor
