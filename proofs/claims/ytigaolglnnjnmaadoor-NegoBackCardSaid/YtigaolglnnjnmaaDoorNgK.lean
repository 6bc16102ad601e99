/-
  Package nego: helpers of the last two laws.
-/
import Derived.Test.YtigaolglnnjnmaaDoorNgD
import Derived.Test.YtigaolglnnjnmaaDoorBook
namespace Go.Proofs.YtigaolglnnjnmaaDoor
open Go.Sx
set_option linter.unusedVariables false
set_option linter.unusedSimpArgs false
set_option maxRecDepth 100000
set_option maxHeartbeats 4000000

theorem sized16 {V : HProp} (p : Option Addr) (c : Nat) (l : List UInt8) (hV : Vw V (.slice p l.length c) l.length (cel l)) (hl : l.length ≤ 9223372036854775807) : Tri Tryd.prog 10 [.slice p l.length c, .int .i64 16] [V]
    (fun v H' => ∃ K, (∃ b zz, v = .slice (some ⟨b, 0, none⟩) (List.length zz) zz.length ∧ zz.length = 16 ∧ K = [row 5 1 (.slice (some ⟨b, 0, none⟩) zz.length zz.length) zz.length (cel zz)]) ∧ H' = K ++ [V]) :=
  tri_post (sized_spec p c l hV hl 16 (by decide)) fun v H' ⟨K, ⟨b, zz, h1, h2, h3⟩, h4⟩ => ⟨K, ⟨b, zz, by rw [h2]; exact h1, h2, by rw [h2]; exact h3⟩, h4⟩
theorem z_new {U : HProp} {y : Li} (hy : y.Ok U) (hs : y.Sm) {b : Nat} {zz : List UInt8} (hz : zz.length = 16) : ∃ z : Li, lcs (.slice (some ⟨b, 0, none⟩) zz.length zz.length) y.ns y.f = z.cs ∧ z.Ok (St [row 5 1 (.slice (some ⟨b, 0, none⟩) zz.length zz.length) zz.length (cel zz), U]) ∧ z.Sm ∧ z.ck.length = 16 ∧ z.ns = y.ns :=
  ⟨⟨some ⟨b, 0, none⟩, zz.length, zz, y.ns, y.f⟩, rfl, ⟨hy.len, Vw.pick 0 rfl Vw.row, Nat.le_refl _, by show zz.length ≤ _; omega, fun s hs => ⟨vw_sub (sub_pk (SubH.cons 1 rfl (SubH.nil _))) (hy.ns s hs).1, (hy.ns s hs).2⟩⟩, ⟨by show zz.length ≤ _; omega, hs.ns⟩, hz, rfl⟩
theorem enc_dec {V : HProp} {z : Li} (hx : z.Ok V) (hs : z.Sm) {e : Int} {bs : List UInt8} (h : (e = 0 ∧ enOk z ∧ bs = encAll z.ck z.ls z.f) ∨ (e ≠ 0 ∧ ¬ enOk z ∧ bs = [])) (h0 : e = 0) : decL bs = some (z.ck, z.ls, z.f) ∧ 1 ≤ bs.length ∧ bs.length ≤ 4086 := by
  rcases h with ⟨_, h1, rfl⟩ | ⟨h1, _⟩
  · refine ⟨dec_enc z.f h1.1 (by rw [ls_len]; exact hx.len) h1.2, ?_⟩
    rw [encTo_all hx.len]
    have h2 := encTo_len hx.len hs 10
    have h3 : 1 ≤ (encTo z 10).length := by rw [encTo, List.length_cons]; omega
    simp only [List.length_append, be_length, List.length_cons, List.length_nil]; omega
  · exact absurd h0 h1
theorem li_le {x y : Li} (hx : x.ns.length = 10) (hy : y.ns.length = 10) : 0 + y.cs.length ≤ x.cs.length := by rw [Li.cs, Li.cs, lcs_len hx, lcs_len hy]; decide
theorem li_eq {x y : Li} (hx : x.ns.length = 10) (hy : y.ns.length = 10) : x.cs.length = y.cs.length := by rw [Li.cs, Li.cs, lcs_len hx, lcs_len hy]
theorem li_pos {y : Li} (hy : y.ns.length = 10) : 0 + 0 < y.cs.length := by rw [Li.cs, lcs_len hy]; decide
theorem vs_le {vs : List Value} (h : vs.length = 12) : 0 + vs.length ≤ List.length ([.slice none 0 0, .slice none 0 0, .slice none 0 0, .slice none 0 0, .slice none 0 0, .slice none 0 0, .slice none 0 0, .slice none 0 0, .slice none 0 0, .slice none 0 0, .slice none 0 0, .bool false] : List Value) := by rw [h]; decide
theorem decP_none {U : HProp} {b : List UInt8} {vs : List Value} {e : Int} (h : DecP U b vs e) (hd : decL b = none) : e = 12 := by
  rcases h.2.2 with ⟨_, y, _, _, h2⟩ | ⟨h1, _⟩
  · rw [hd] at h2; cases h2
  · exact h1
theorem decP_iff {U : HProp} {b mr : List UInt8} {vs : List Value} {e : Int} (h : DecP U b vs e) (hd : (decL b).isSome = decide (mr.length = 0)) : decide (e = 0) = decide (((mr.length : Nat) : Int) = 0) := by
  rcases h.2.2 with ⟨h1, y, _, _, h2⟩ | ⟨h1, h2⟩
  · rw [h2] at hd
    have h3 : mr.length = 0 := of_decide_eq_true hd.symm
    rw [h1, h3]; rfl
  · rw [h2] at hd
    have h3 : ¬ mr.length = 0 := of_decide_eq_false hd.symm
    rw [h1, decide_eq_false (by decide), decide_eq_false (by omega)]
theorem line_cut {s ln : List UInt8} {e : Int} (hs : s.length ≤ 260) (h : (e = 0 ∧ veOk s = true ∧ ln = s ++ [13, 10]) ∨ (e ≠ 0 ∧ veOk s = false ∧ ln = [])) (h0 : e = 0) : (∀ k, k < ln.length → vers (ln.take k) = ([], (0 : Int), (10 : Int))) ∧ 2 ≤ ln.length ∧ ln.length ≤ 262 := by
  rcases h with ⟨_, h1, rfl⟩ | ⟨h1, _⟩
  · exact ⟨fun k hk => vers_cut h1 hk, by simp, by simp; omega⟩
  · exact absurd h0 h1

end Go.Proofs.YtigaolglnnjnmaaDoor
