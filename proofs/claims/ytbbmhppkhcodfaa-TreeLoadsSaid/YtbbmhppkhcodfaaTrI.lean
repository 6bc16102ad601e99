/-
  slices.Insert, slices.Delete at a directory's things.
-/
import Derived.Test.YtbbmhppkhcodfaaSxIns
import Derived.Test.YtbbmhppkhcodfaaSxMap
import Derived.Test.YtbbmhppkhcodfaaSxSub
import Derived.Test.YtbbmhppkhcodfaaSxApp
import Derived.Test.YtbbmhppkhcodfaaTy
namespace Go.Proofs.Ytbbmhppkhcodfaa
open Go.Sx
set_option linter.unusedVariables false
set_option linter.unusedSimpArgs false
set_option maxRecDepth 100000
set_option maxHeartbeats 4000000

def Pq.cs (b : Nat) : List Value := [.pointer (some ⟨b, 0, none⟩)]
theorem Pq.len (b : Nat) : (Pq.cs b).length = 1 := rfl
theorem Pq.one (b : Nat) : ∀ v ∈ Pq.cs b, v.oneCell' = true := fun v hv => by rw [List.mem_singleton.1 hv]; rfl
/-- pointers to these blocks -/
abbrev pts (l : List Nat) : List Value := flat Pq.cs l
theorem pts_len (l : List Nat) : (pts l).length = l.length := by rw [flat_len Pq.len, Nat.mul_one]
theorem pts_one (l : List Nat) : ∀ v ∈ pts l, v.oneCell' = true := flat_one' Pq.one l
abbrev rowP (p : Option Addr) (c : Nat) (l : List Nat) : HProp := row 76 1 (.slice p l.length c) l.length (pts l)
def insAt (l : List Nat) (i y : Nat) : List Nat := l.take i ++ y :: l.drop i
theorem insAt_len {l : List Nat} {i y : Nat} (h : i ≤ l.length) : (insAt l i y).length = l.length + 1 := by simp [insAt]; omega
theorem insAt_end (l : List Nat) (y : Nat) : insAt l l.length y = l ++ [y] := by simp [insAt]
theorem resl_zero (b c h : Nat) : resl b 0 c 1 0 h = .slice (some ⟨b, 0, none⟩) h c := by unfold resl; split <;> simp
theorem resl_lt {b c l h : Nat} (hl : l < c) : resl b 0 c 1 l h = .slice (some ⟨b, l, none⟩) (h - l) (c - l) := by unfold resl; rw [if_neg (by omega), Nat.zero_add, Nat.mul_one]
theorem rdn_seg {e : TypeId} {fr : Nat × Nat} {b : Nat} {cs : List Value} {l : List Nat} (h : cs.take (l.length * 1) = pts l) (j m : Nat) : RdN (own b (.cells cs.toArray e fr)) b j (pts ((l.drop j).take m)) := fun i v hv => by
  refine Rd.own ?_
  have h1 : (pts l)[j + i]? = some v := by
    have e1 : pts ((l.drop j).take m) = ((pts l).drop j).take m := by
      have h2 := flat_take Pq.len (l.drop j) m
      have h3 := flat_drop Pq.len l j
      rw [Nat.mul_one] at h2 h3
      rw [pts, ← h2, ← h3]
    rw [e1, List.getElem?_take] at hv
    split at hv
    · rwa [List.getElem?_drop] at hv
    · cases hv
  rw [← h, List.getElem?_take] at h1
  split at h1
  · exact h1
  · cases h1
theorem rdn_drop {e : TypeId} {fr : Nat × Nat} {b : Nat} {cs : List Value} {l : List Nat} (h : cs.take (l.length * 1) = pts l) (j : Nat) : RdN (own b (.cells cs.toArray e fr)) b j (pts (l.drop j)) := by
  have h1 := rdn_seg (e := e) (fr := fr) (b := b) h j (l.length - j)
  rwa [List.take_of_length_le (by simp)] at h1
theorem rdn_pre {e : TypeId} {fr : Nat × Nat} {b : Nat} {cs : List Value} {l : List Nat} (h : cs.take (l.length * 1) = pts l) (i : Nat) : RdN (own b (.cells cs.toArray e fr)) b 0 (pts (l.take i)) := by
  have h1 := rdn_seg (e := e) (fr := fr) (b := b) h 0 i
  rwa [List.drop_zero] at h1
theorem over_take {cs vs : List Value} {o k : Nat} (h : o + vs.length ≤ cs.length) (hk : o + vs.length ≤ k) : (over cs o vs).take k = cs.take o ++ vs ++ (cs.drop (o + vs.length)).take (k - (o + vs.length)) := by
  unfold over
  rw [List.take_append, List.take_of_length_le (by simp only [List.length_append, List.length_take]; omega)]
  congr 2
  simp only [List.length_append, List.length_take]; omega
/-- grown: a new row -/
theorem ins_grow {l : List Nat} {i y cap : Nat} {z : Value} (hi : i < l.length) (hc : l.length + 1 ≤ cap) :
    (over (over (pts (l.take i) ++ List.replicate (cap - i) z) i (pts [y])) (i + 1) (pts (l.drop i))).take ((insAt l i y).length * 1) = pts (insAt l i y) ∧ (over (over (pts (l.take i) ++ List.replicate (cap - i) z) i (pts [y])) (i + 1) (pts (l.drop i))).length = cap * 1 := by
  have l1 : (pts (l.take i)).length = i := by rw [pts_len, List.length_take]; omega
  have l2 : (pts [y]).length = 1 := rfl
  have l3 : (pts (l.drop i)).length = l.length - i := by rw [pts_len, List.length_drop]
  have l0 : (pts (l.take i) ++ List.replicate (cap - i) z).length = cap := by rw [List.length_append, l1, List.length_replicate]; omega
  have e1 : over (pts (l.take i) ++ List.replicate (cap - i) z) i (pts [y]) = pts (l.take i) ++ pts [y] ++ List.replicate (cap - i - 1) z := by
    unfold over
    rw [l2, List.take_append_of_le_length (by omega), List.take_of_length_le (by omega), List.drop_append, List.drop_of_length_le (by omega), List.nil_append, List.drop_replicate, l1]
    congr 2; omega
  have l4 : (pts (l.take i) ++ pts [y] ++ List.replicate (cap - i - 1) z).length = cap := by simp only [List.length_append, l1, l2, List.length_replicate]; omega
  rw [e1]
  refine ⟨?_, by rw [over_length (by rw [l3, l4]; omega), l4, Nat.mul_one]⟩
  rw [insAt_len (by omega), over_take (by rw [l3, l4]; omega) (by rw [l3]; omega), l3]
  have e2 : (pts (l.take i) ++ pts [y] ++ List.replicate (cap - i - 1) z).take (i + 1) = pts (l.take i) ++ pts [y] := by
    rw [List.take_append_of_le_length (by rw [List.length_append, l1, l2]; omega), List.take_of_length_le (by rw [List.length_append, l1, l2]; omega)]
  rw [e2, show (l.length + 1) * 1 - (i + 1 + (l.length - i)) = 0 by omega, List.take_zero, List.append_nil]
  show pts (l.take i) ++ pts [y] ++ pts (l.drop i) = pts (l.take i ++ y :: l.drop i)
  rw [pts, pts, pts, pts, flat_append, flat_cons, List.append_assoc]; rfl
/-- in place -/
theorem ins_place {l : List Nat} {i y : Nat} {cs : List Value} (hi : i < l.length) (hc : l.length + 1 ≤ cs.length) (ht : cs.take (l.length * 1) = pts l) :
    (over (over cs (i + 1) (pts (l.drop i))) i (pts [y])).take ((insAt l i y).length * 1) = pts (insAt l i y) ∧ (over (over cs (i + 1) (pts (l.drop i))) i (pts [y])).length = cs.length := by
  have l2 : (pts [y]).length = 1 := rfl
  have l3 : (pts (l.drop i)).length = l.length - i := by rw [pts_len, List.length_drop]
  have l4 : (over cs (i + 1) (pts (l.drop i))).length = cs.length := over_length (by rw [l3]; omega)
  refine ⟨?_, by rw [over_length (by rw [l2, l4]; omega), l4]⟩
  have e0 : cs.take i = pts (l.take i) := by
    have h1 := congrArg (List.take i) ht
    rw [List.take_take, Nat.min_eq_left (by omega)] at h1
    have h2 := flat_take Pq.len l i
    rw [Nat.mul_one] at h2
    rw [h1]; exact h2
  have e1 : over cs (i + 1) (pts (l.drop i)) = cs.take (i + 1) ++ (pts (l.drop i) ++ cs.drop (l.length + 1)) := by
    unfold over; rw [l3, List.append_assoc, show i + 1 + (l.length - i) = l.length + 1 by omega]
  have e2 : (over cs (i + 1) (pts (l.drop i))).take i = pts (l.take i) := by
    rw [e1, List.take_append_of_le_length (by rw [List.length_take]; omega), List.take_take, Nat.min_eq_left (by omega), e0]
  have e3 : (over cs (i + 1) (pts (l.drop i))).drop (i + 1) = pts (l.drop i) ++ cs.drop (l.length + 1) := by
    rw [e1]
    have h5 : (cs.take (i + 1)).length = i + 1 := by rw [List.length_take]; omega
    conv => lhs; rw [show i + 1 = (cs.take (i + 1)).length from h5.symm]
    rw [h5]
    exact List.drop_left' h5
  rw [insAt_len (by omega), over_take (by rw [l2, l4]; omega) (by rw [l2]; omega), l2, e2, e3, List.take_append_of_le_length (by rw [l3]; omega), List.take_of_length_le (l := pts (l.drop i)) (by rw [l3]; omega)]
  show pts (l.take i) ++ pts [y] ++ pts (l.drop i) = pts (l.take i ++ y :: l.drop i)
  rw [pts, pts, pts, pts, flat_append, flat_cons, List.append_assoc]; rfl
theorem own_ne {b b2 : Nat} {o o2 : Obj} {w : World} {F : HProp} (s : sat w (star (own b o) (star (own b2 o2) F))) : b ≠ b2 := by
  rintro rfl
  obtain ⟨_, ⟨g, k, sp, rfl, hg, hk⟩, f⟩ := s
  obtain ⟨g2, k2, sp2, rfl, hg2, hk2⟩ := hk
  subst hg hg2
  have h1 : (Hp.join (single b o2) k2) b = some (true, o2) := by simp [Hp.join, single]
  have h2 := (sp b _ _ (single_self b o) h1).2
  cases h2
section
variable {n : Nat} {Γ : Env} {d : Option Tmp} {ty : TypeId} {pos : String} {aft : Array Edge} {g : Option (Nat × Bool)}
/-- two rows of their own do not overlap -/
theorem ro_ovl {x y : Operand} {t t2 : TypeId} {vb b o m vc lb cb : Nat} {vs cs : List Value} {fr : Nat × Nat} {L : List HProp} (hx : ev Γ x = some (.slice (some ⟨vb, 0, none⟩) m vc)) (hy : ev Γ y = some (.slice (some ⟨b, o, none⟩) lb cb)) (hcs : 0 < cs.length)
    (i : Nat) (hi : L[i]? = some (own vb (.cells vs.toArray 76 (0, 0)))) (j : Nat) (hj : (L.eraseIdx i)[j]? = some (own b (.cells cs.toArray 76 fr))) :
    RO Try.prog n (St L) Γ ⟨d, .call { callee := .value (.func 74), args := #[x, y], argTypes := #[t, t2] }, ty, pos, aft, g⟩ (.bool false) := fun a w R f s => by
  rw [perm_front hi, perm_front hj] at s
  have hb1 := sat_own (sat_star_left s)
  have hb2 := sat_own (sat_star_left (sat_star_right s))
  have hne := own_ne s
  have hsa : w.shape? vb = some (76, vs.length) := by simp [World.shape?, hb1]
  have hsb : w.shape? b = some (76, cs.length) := by simp [World.shape?, hb2]
  have hrun : (callFunc 74 #[.slice (some ⟨vb, 0, none⟩) m vc, .slice (some ⟨b, o, none⟩) lb cb]).run Try.prog w = .ok (.value (.bool false)) w := by
    rw [run_callFunc_extern Try.func74 (by kernel_rfl) (by kernel_rfl) (by kernel_rfl) (e := Extern.SlicesOverlaps.overlaps #[82, 82] #[4]) (by kernel_rfl),
      Lib.run_overlaps_apart w 82 4 76 Try.underlying82 1 (fun w => Try.sizeOf76 w) ⟨vb, 0, none⟩ ⟨b, o, none⟩ m vc lb cb hne 76 76 vs.length cs.length hsa hsb (by omega) (by simp [World.frozen?, hb1]) (by simp [World.frozen?, hb1])]
    rfl
  have e1 := f.ev hx
  have e2 := f.ev hy
  have hm : (#[x, y].map a.eval) = #[.slice (some ⟨vb, 0, none⟩) m vc, .slice (some ⟨b, o, none⟩) lb cb] := by simp [e1, e2]
  simp only [execOp, resolve, hm, Act.eval, Deferred.ofValue, invoke, Sem.run_bind, Sem.run_pure, Result.andThen_ok, Array.append_empty, Array.empty_append, hrun]
end

end Go.Proofs.Ytbbmhppkhcodfaa
