/-
  A region that draws: two operations that act may come up; both ways are walked.
-/
import Derived.Test.YtlefpllcgcicpaaGreatDoorSxSub
namespace Go.Sx
section
variable {P : Program} {n : Nat} {ops : Array Oper} {m : Nat} {L H : List HProp} {Γ : Env} {Q : Post} {fuel : Nat} {listed : Array Bool}
/-- number i comes up -/
def AnyAt (P : Program) (n : Nat) (ops : Array Oper) (m : Nat) (L : List HProp) (fuel : Nat) (listed : Array Bool) (i : Nat) (Γ : Env) (H : List HProp) (Q : Post) : Prop :=
 ∀ a w F, Fits n Γ a → sat w (star (St L) (star (St H) F)) →
  wpOp P ops (Lift n F Q) i (fun a' w' => (i < m → ∃ R, sat w' (star (St L) R)) ∧ wpAnyG P .any ops (Lift n F Q) (fun w => ∃ R, sat w (star (St L) R)) m fuel (listed.setIfInBounds i true) a' w') a w
theorem any_two {i j : Nat} (hb : Region.ready .any ops listed = [i, j]) (h1 : AnyAt P n ops m L fuel listed i Γ H Q) (h2 : AnyAt P n ops m L fuel listed j Γ H Q) : Any P n ops m L (fuel + 1) listed Γ H Q := fun a w F f s => by
 refine ⟨fun e => (by rw [hb] at e; cases e), fun k hk => ?_⟩; rw [hb] at hk
 rcases List.mem_cons.1 hk with rfl | hk
 ·exact h1 a w F f s
 ·obtain rfl : k = j := by simpa using hk
  exact h2 a w F f s
theorem at_eff {i : Nat} {o : Oper} {Ψ : Value → List HProp → Prop} (hi : ops[i]? = some o) (hw : wnt Γ ops o = some true)
 (hr : EFF P n Γ o (St H) Ψ) (hd : okDst n o.dst = true)
 (h : ∀ v H', Ψ v H' → Any P n ops m L fuel (listed.setIfInBounds i true) (pt Γ o.dst v) H' Q) : AnyAt P n ops m L fuel listed i Γ H Q := fun a w F f s => by
 refine wpOp_step hi fun K hK => ?_
 rw [xZ f hw]; simp only [if_true]; rw [qH] at s; refine hr a w _ K _ f s fun v w' H' hp hs => hK _ _ ⟨fun _ => ⟨star (St H') F, ?_⟩, h v H' hp _ w' F (f.put hd v) ?_⟩
 ·rw [qH]; exact hs
 ·rw [qH]; exact hs
variable {d : Nat} {op : Op} {ty : TypeId} {pos : String} {aft : Array Edge} {g : Option (Nat × Bool)} {Ψ : Value → List HProp → Prop}
theorem at_eff' {i : Nat} (hi : ops[i]? = some ⟨some d, op, ty, pos, aft, g⟩) (hw : wnt Γ ops ⟨some d, op, ty, pos, aft, g⟩ = some true) (hr : EFF P n Γ ⟨some d, op, ty, pos, aft, g⟩ (St H) Ψ) (hd : Nat.blt d n = true)
 (h : ∀ v H', Ψ v H' → Any P n ops m L fuel (listed.setIfInBounds i true) ((d, v) :: Γ) H' Q) : AnyAt P n ops m L fuel listed i Γ H Q := at_eff hi hw hr hd h
theorem at_callL' {i : Nat} {d : Tmp} {op : Op} {ty : TypeId} {pos : String} {aft : Array Edge} {g : Option (Nat × Bool)} {Φ : Value → List HProp → Prop} (hi : ops[i]? = some ⟨some d, op, ty, pos, aft, g⟩) (hw : wnt Γ ops ⟨some d, op, ty, pos, aft, g⟩ = some true)
 (hr : EFF P n Γ ⟨some d, op, ty, pos, aft, g⟩ (St (L ++ H)) (fun v H2 => ∃ K, Φ v K ∧ H2 = K ++ (L ++ H))) (hd : Nat.blt d n = true)
 (h : ∀ v K, Φ v K → Any P n ops m L fuel (listed.setIfInBounds i true) (pt Γ (some d) v) (K ++ H) Q) : AnyAt P n ops m L fuel listed i Γ H Q := fun a w F f s => by
 refine wpOp_step hi fun C hC => ?_
 rw [xZ f hw]; simp only [if_true]; have s2 : sat w (star (St (L ++ H)) F) := by rw [yC, zv]; exact s
 refine hr a w _ C _ f s2 fun v w' H' hp hs => ?_
 obtain ⟨K, hk, rfl⟩ := hp
 have hs2 : sat w' (star (St L) (star (St (K ++ H)) F)) := by
  rw [yC, yC, zv, zv, qH] at hs; rw [yC, zv]; exact hs
 exact hC _ _ ⟨fun _ => ⟨_, hs2⟩, h v K hk _ w' F (f.put (by simpa [okDst] using hd) v) hs2⟩
end
end Go.Sx
