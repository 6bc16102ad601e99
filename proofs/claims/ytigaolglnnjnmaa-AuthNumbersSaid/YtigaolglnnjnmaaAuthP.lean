/-
  The walk of AuthNumbers.
-/
import Derived.Test.YtigaolglnnjnmaaAuthN
namespace Go.Proofs.Ytigaolglnnjnmaa
open Go.Sx
set_option linter.unusedVariables false
set_option linter.unusedSimpArgs false
set_option maxRecDepth 100000
set_option maxHeartbeats 4000000

theorem evp_cons {Γ : Env} {k : Nat} {x : Operand} {v : Value} {ps : List (Nat × Operand)} {vs : List (Nat × Value)} (h : ev Γ x = some v) (h2 : evp Γ ps = some vs) : evp Γ ((k, x) :: ps) = some ((k, v) :: vs) := by unfold evp; rw [h, h2]
def ul3 : List Us := [⟨[117], [112]⟩, ⟨[], []⟩, ⟨[117], [113]⟩]
def Lq.cs (s : Slv (Slv UInt8)) : List Value := [s.v]
theorem Lq.len (s : Slv (Slv UInt8)) : (Lq.cs s).length = 1 := rfl
theorem ops_pack {n : Nat} {ops : Array Oper} {l : List Oper} {Γ : Env} {H : List HProp} {Q : Post} (h : ∀ V2, V2 = St H → Ops Try.prog n ops l Γ [V2] Q) : Ops Try.prog n ops l Γ H Q :=
  ops_sub' (fun w F s => by rw [St_cons, St_nil, star_emp]; exact s) (h (St H) rfl)
theorem St_one (V : HProp) : St [V] = V := by rw [St_cons, St_nil, star_emp]
structure Wd (V0 V : HProp) (q : Option Addr) (xs : List (Slv UInt8)) (ls : List (Slv (Slv UInt8))) : Prop where
  s : SubH [V] [V0]
  u : Vw V (.slice q 3 3) 3 (flat Us.cs ul3)
  x : Xs V xs
  l : ∀ l ∈ ls, Vw V l.v l.l.length (flat Sq.cs l.l) ∧ l.l.length ≤ 1000 ∧ Xs V l.l
theorem Xs.one {V : HProp} {H : List HProp} {xs : List (Slv UInt8)} (h : Xs V xs) (hs : SubH H [V]) : Xs (St H) xs := fun x hx => ⟨Vw.subH hs (by rw [St_one]; exact (h x hx).1), (h x hx).2⟩
theorem Wd.grow {V0 V : HProp} {q : Option Addr} {xs : List (Slv UInt8)} {ls : List (Slv (Slv UInt8))} (h : Wd V0 V q xs ls) {H : List HProp} (hs : SubH H [V]) : Wd V0 (St H) q xs ls :=
  ⟨fun w F s => h.s w F (hs w F (by rw [St_one] at s; exact s)), Vw.subH hs (by rw [St_one]; exact h.u), h.x.one hs, fun l hl => ⟨Vw.subH hs (by rw [St_one]; exact (h.l l hl).1), (h.l l hl).2.1, (h.l l hl).2.2.one hs⟩⟩
theorem Wd.addX {V0 V : HProp} {q : Option Addr} {xs : List (Slv UInt8)} {ls : List (Slv (Slv UInt8))} (h : Wd V0 V q xs ls) {x : Slv UInt8} (hv : Vw V (.slice x.p x.l.length x.c) x.l.length (cel x.l)) (hc : x.l.length ≤ x.c) (hl : x.l.length ≤ 1000) : Wd V0 V q (x :: xs) ls :=
  ⟨h.s, h.u, fun y hy => by rcases List.mem_cons.1 hy with rfl | hy; exact ⟨hv, hc, hl⟩; exact h.x y hy, h.l⟩
theorem Wd.addL {V0 V : HProp} {q : Option Addr} {xs : List (Slv UInt8)} {ls : List (Slv (Slv UInt8))} (h : Wd V0 V q xs ls) {l : Slv (Slv UInt8)} (hv : Vw V (.slice l.p l.l.length l.c) l.l.length (flat Sq.cs l.l)) (hm : ∀ x ∈ l.l, x ∈ xs) (hl : l.l.length ≤ 1000) : Wd V0 V q xs (l :: ls) :=
  ⟨h.s, h.u, h.x, fun y hy => by rcases List.mem_cons.1 hy with rfl | hy; exact ⟨hv, hl, fun x hx => h.x x (hm x hx)⟩; exact h.l y hy⟩
theorem wd_zero (V : HProp) (b : Nat) : Wd V (St [row 30 2 (.slice (some ⟨b, 0, none⟩) 3 3) 3 (flat Us.cs ul3), V]) (some ⟨b, 0, none⟩) [Slv.nil] [] :=
  ⟨fun w F s => by rw [St_one] at s; exact (SubH.cons 1 rfl (SubH.nil _)) w F s, Vw.pick 0 rfl Vw.row, fun x hx => by rw [List.mem_singleton.1 hx]; exact ⟨Vw.nil _, Nat.le_refl _, Nat.zero_le _⟩, fun l hl => by cases hl⟩
theorem authnum_run (V : HProp) : Tri Try.prog 4 [] [V] (fun v H' => v = .bool true ∧ H' = [V]) := by
  refine tri_of_wpS Try.func4 rfl Try.ntmps4 (by simp) ?_
  refine wp_seq' ?_
  refine wp_region' ?_
  refine ops_ro' rfl (ro_assign rfl) rfl ?_
  refine ops_nil ?_
  refine Then_normal ?_
  refine wp_seq' ?_
  refine wp_region' ?_
  refine ops_ro' rfl (ro_build rfl (bld_struct (cs := Us.cs ⟨[117], [112]⟩) st30 rfl)) rfl ?_
  refine ops_ro' rfl (ro_build rfl (bld_struct (cs := Us.cs ⟨[], []⟩) st30 rfl)) rfl ?_
  refine ops_ro' rfl (ro_build rfl (bld_struct (cs := Us.cs ⟨[117], [113]⟩) st30 rfl)) rfl ?_
  refine ops_eff' rfl (eff_lit sl31 rfl (sbld (cs := flat Us.cs ul3) [(.string ByteArray.empty), (.string ByteArray.empty), (.string ByteArray.empty), (.string ByteArray.empty), (.string ByteArray.empty), (.string ByteArray.empty)] sl31 (by decide) (by kernel_rfl) rfl) rfl (by decide)) rfl ?_
  rintro _ _ ⟨b13, rfl, rfl⟩
  refine ops_pack fun V13 e13 => ?_
  have hW : Wd V V13 (some ⟨b13, 0, none⟩) [Slv.nil] [] := by
    subst e13
    exact wd_zero V b13
  clear e13
  refine ops_ro' rfl (ro_assign rfl) rfl ?_
  refine ops_nil ?_
  refine Then_normal ?_
  refine wp_seq' ?_
  refine wp_region' ?_
  refine ops_ro' rfl (ro_build rfl (bld_struct (cs := Ak.cs ⟨1, 0, [], [], [], [], none, 0⟩) st35 rfl)) rfl ?_
  refine ops_eff' rfl (eff_call Try.call16 rfl rfl (by repeat (first | exact Split.nil _ | apply Split.cons 0 rfl | apply Split.cons 1 rfl | apply Split.cons 2 rfl | apply Split.cons 3 rfl | apply Split.cons 4 rfl | apply Split.cons 5 rfl | apply Split.cons 6 rfl | apply Split.cons 7 rfl | apply Split.cons 8 rfl | apply Split.cons 9 rfl | apply Split.cons 10 rfl | apply Split.cons 11 rfl)) (payload_run V13 1 0 [] [] [] [] none 0 (Vw.nil _) (Nat.le_refl _))) rfl ?_
  rintro _ H' ⟨_, ⟨A15, pp, cc, rfl, hv, hc, rfl⟩, hH⟩
  simp only [List.cons_append, List.nil_append, List.eraseIdx_cons_zero, List.eraseIdx_cons_succ, List.set_cons_zero, List.set_cons_succ] at hH
  subst hH
  have hxl := payB_len ⟨1, 0, [], [], [], [], none, 0⟩
  generalize payB ⟨1, 0, [], [], [], [], none, 0⟩ = z at *
  obtain ⟨x15, hx15⟩ : ∃ x : Slv UInt8, x = ⟨pp, cc, z⟩ := ⟨_, rfl⟩
  obtain ⟨e1, e2, e3⟩ : pp = x15.p ∧ cc = x15.c ∧ z = x15.l := by subst hx15; exact ⟨rfl, rfl, rfl⟩
  subst e1 e2 e3
  clear hx15
  refine ops_pack fun V15 e15 => ?_
  replace hW : Wd V V15 (some ⟨b13, 0, none⟩) [x15, Slv.nil] [] := by
    subst e15
    exact (hW.grow (by repeat (first | exact SubH.nil _ | refine SubH.cons 0 rfl ?_ | refine SubH.cons 1 rfl ?_ | refine SubH.cons 2 rfl ?_ | refine SubH.cons 3 rfl ?_ | refine SubH.cons 4 rfl ?_ | refine SubH.cons 5 rfl ?_ | refine SubH.cons 6 rfl ?_ | refine SubH.cons 7 rfl ?_ | refine SubH.cons 8 rfl ?_ | refine SubH.cons 9 rfl ?_ | refine SubH.cons 10 rfl ?_ | refine SubH.cons 11 rfl ?_ | refine SubH.cons 12 rfl ?_ | refine SubH.cons 13 rfl ?_ | refine SubH.rown ?_))).addX (Vw.subH (by repeat (first | exact SubH.nil _ | refine SubH.cons 0 rfl ?_ | refine SubH.cons 1 rfl ?_ | refine SubH.cons 2 rfl ?_ | refine SubH.cons 3 rfl ?_ | refine SubH.cons 4 rfl ?_ | refine SubH.cons 5 rfl ?_ | refine SubH.cons 6 rfl ?_ | refine SubH.cons 7 rfl ?_ | refine SubH.cons 8 rfl ?_ | refine SubH.cons 9 rfl ?_ | refine SubH.cons 10 rfl ?_ | refine SubH.cons 11 rfl ?_ | refine SubH.cons 12 rfl ?_ | refine SubH.cons 13 rfl ?_ | refine SubH.rown ?_)) hv) hc (by omega)
  clear e15
  have hxk15 := hxl
  clear hv hc hxl
  refine ops_ro' rfl (ro_assign rfl) rfl ?_
  refine ops_nil ?_
  refine Then_normal ?_
  refine wp_seq' ?_
  refine wp_region' ?_
  refine ops_ro' rfl (ro_build rfl (bld_struct (cs := Ak.cs ⟨2, 0, [117], [112], [], [], none, 0⟩) st35 rfl)) rfl ?_
  refine ops_eff' rfl (eff_call Try.call16 rfl rfl (by repeat (first | exact Split.nil _ | apply Split.cons 0 rfl | apply Split.cons 1 rfl | apply Split.cons 2 rfl | apply Split.cons 3 rfl | apply Split.cons 4 rfl | apply Split.cons 5 rfl | apply Split.cons 6 rfl | apply Split.cons 7 rfl | apply Split.cons 8 rfl | apply Split.cons 9 rfl | apply Split.cons 10 rfl | apply Split.cons 11 rfl)) (payload_run V15 2 0 [117] [112] [] [] none 0 (Vw.nil _) (Nat.le_refl _))) rfl ?_
  rintro _ H' ⟨_, ⟨A17, pp, cc, rfl, hv, hc, rfl⟩, hH⟩
  simp only [List.cons_append, List.nil_append, List.eraseIdx_cons_zero, List.eraseIdx_cons_succ, List.set_cons_zero, List.set_cons_succ] at hH
  subst hH
  have hxl := payB_len ⟨2, 0, [117], [112], [], [], none, 0⟩
  generalize payB ⟨2, 0, [117], [112], [], [], none, 0⟩ = z at *
  obtain ⟨x17, hx17⟩ : ∃ x : Slv UInt8, x = ⟨pp, cc, z⟩ := ⟨_, rfl⟩
  obtain ⟨e1, e2, e3⟩ : pp = x17.p ∧ cc = x17.c ∧ z = x17.l := by subst hx17; exact ⟨rfl, rfl, rfl⟩
  subst e1 e2 e3
  clear hx17
  refine ops_pack fun V17 e17 => ?_
  replace hW : Wd V V17 (some ⟨b13, 0, none⟩) [x17, x15, Slv.nil] [] := by
    subst e17
    exact (hW.grow (by repeat (first | exact SubH.nil _ | refine SubH.cons 0 rfl ?_ | refine SubH.cons 1 rfl ?_ | refine SubH.cons 2 rfl ?_ | refine SubH.cons 3 rfl ?_ | refine SubH.cons 4 rfl ?_ | refine SubH.cons 5 rfl ?_ | refine SubH.cons 6 rfl ?_ | refine SubH.cons 7 rfl ?_ | refine SubH.cons 8 rfl ?_ | refine SubH.cons 9 rfl ?_ | refine SubH.cons 10 rfl ?_ | refine SubH.cons 11 rfl ?_ | refine SubH.cons 12 rfl ?_ | refine SubH.cons 13 rfl ?_ | refine SubH.rown ?_))).addX (Vw.subH (by repeat (first | exact SubH.nil _ | refine SubH.cons 0 rfl ?_ | refine SubH.cons 1 rfl ?_ | refine SubH.cons 2 rfl ?_ | refine SubH.cons 3 rfl ?_ | refine SubH.cons 4 rfl ?_ | refine SubH.cons 5 rfl ?_ | refine SubH.cons 6 rfl ?_ | refine SubH.cons 7 rfl ?_ | refine SubH.cons 8 rfl ?_ | refine SubH.cons 9 rfl ?_ | refine SubH.cons 10 rfl ?_ | refine SubH.cons 11 rfl ?_ | refine SubH.cons 12 rfl ?_ | refine SubH.cons 13 rfl ?_ | refine SubH.rown ?_)) hv) hc (by omega)
  clear e17
  have hxk17 := hxl
  clear hv hc hxl
  refine ops_ro' rfl (ro_assign rfl) rfl ?_
  refine ops_nil ?_
  refine Then_normal ?_
  refine wp_seq' ?_
  refine wp_region' ?_
  refine ops_ro' rfl (ro_build rfl (bld_struct (cs := Ak.cs ⟨2, 0, [117], [120], [], [], none, 0⟩) st35 rfl)) rfl ?_
  refine ops_eff' rfl (eff_call Try.call16 rfl rfl (by repeat (first | exact Split.nil _ | apply Split.cons 0 rfl | apply Split.cons 1 rfl | apply Split.cons 2 rfl | apply Split.cons 3 rfl | apply Split.cons 4 rfl | apply Split.cons 5 rfl | apply Split.cons 6 rfl | apply Split.cons 7 rfl | apply Split.cons 8 rfl | apply Split.cons 9 rfl | apply Split.cons 10 rfl | apply Split.cons 11 rfl)) (payload_run V17 2 0 [117] [120] [] [] none 0 (Vw.nil _) (Nat.le_refl _))) rfl ?_
  rintro _ H' ⟨_, ⟨A19, pp, cc, rfl, hv, hc, rfl⟩, hH⟩
  simp only [List.cons_append, List.nil_append, List.eraseIdx_cons_zero, List.eraseIdx_cons_succ, List.set_cons_zero, List.set_cons_succ] at hH
  subst hH
  have hxl := payB_len ⟨2, 0, [117], [120], [], [], none, 0⟩
  generalize payB ⟨2, 0, [117], [120], [], [], none, 0⟩ = z at *
  obtain ⟨x19, hx19⟩ : ∃ x : Slv UInt8, x = ⟨pp, cc, z⟩ := ⟨_, rfl⟩
  obtain ⟨e1, e2, e3⟩ : pp = x19.p ∧ cc = x19.c ∧ z = x19.l := by subst hx19; exact ⟨rfl, rfl, rfl⟩
  subst e1 e2 e3
  clear hx19
  refine ops_pack fun V19 e19 => ?_
  replace hW : Wd V V19 (some ⟨b13, 0, none⟩) [x19, x17, x15, Slv.nil] [] := by
    subst e19
    exact (hW.grow (by repeat (first | exact SubH.nil _ | refine SubH.cons 0 rfl ?_ | refine SubH.cons 1 rfl ?_ | refine SubH.cons 2 rfl ?_ | refine SubH.cons 3 rfl ?_ | refine SubH.cons 4 rfl ?_ | refine SubH.cons 5 rfl ?_ | refine SubH.cons 6 rfl ?_ | refine SubH.cons 7 rfl ?_ | refine SubH.cons 8 rfl ?_ | refine SubH.cons 9 rfl ?_ | refine SubH.cons 10 rfl ?_ | refine SubH.cons 11 rfl ?_ | refine SubH.cons 12 rfl ?_ | refine SubH.cons 13 rfl ?_ | refine SubH.rown ?_))).addX (Vw.subH (by repeat (first | exact SubH.nil _ | refine SubH.cons 0 rfl ?_ | refine SubH.cons 1 rfl ?_ | refine SubH.cons 2 rfl ?_ | refine SubH.cons 3 rfl ?_ | refine SubH.cons 4 rfl ?_ | refine SubH.cons 5 rfl ?_ | refine SubH.cons 6 rfl ?_ | refine SubH.cons 7 rfl ?_ | refine SubH.cons 8 rfl ?_ | refine SubH.cons 9 rfl ?_ | refine SubH.cons 10 rfl ?_ | refine SubH.cons 11 rfl ?_ | refine SubH.cons 12 rfl ?_ | refine SubH.cons 13 rfl ?_ | refine SubH.rown ?_)) hv) hc (by omega)
  clear e19
  clear hv hc hxl
  refine ops_ro' rfl (ro_assign rfl) rfl ?_
  refine ops_nil ?_
  refine Then_normal ?_
  refine wp_seq' ?_
  refine wp_region' ?_
  refine ops_ro' rfl (ro_build rfl (bld_struct (cs := Ak.cs ⟨3, 0, [117], [], [110, 111, 110, 101], [], none, 0⟩) st35 rfl)) rfl ?_
  refine ops_eff' rfl (eff_call Try.call16 rfl rfl (by repeat (first | exact Split.nil _ | apply Split.cons 0 rfl | apply Split.cons 1 rfl | apply Split.cons 2 rfl | apply Split.cons 3 rfl | apply Split.cons 4 rfl | apply Split.cons 5 rfl | apply Split.cons 6 rfl | apply Split.cons 7 rfl | apply Split.cons 8 rfl | apply Split.cons 9 rfl | apply Split.cons 10 rfl | apply Split.cons 11 rfl)) (payload_run V19 3 0 [117] [] [110, 111, 110, 101] [] none 0 (Vw.nil _) (Nat.le_refl _))) rfl ?_
  rintro _ H' ⟨_, ⟨A21, pp, cc, rfl, hv, hc, rfl⟩, hH⟩
  simp only [List.cons_append, List.nil_append, List.eraseIdx_cons_zero, List.eraseIdx_cons_succ, List.set_cons_zero, List.set_cons_succ] at hH
  subst hH
  have hxl := payB_len ⟨3, 0, [117], [], [110, 111, 110, 101], [], none, 0⟩
  generalize payB ⟨3, 0, [117], [], [110, 111, 110, 101], [], none, 0⟩ = z at *
  obtain ⟨x21, hx21⟩ : ∃ x : Slv UInt8, x = ⟨pp, cc, z⟩ := ⟨_, rfl⟩
  obtain ⟨e1, e2, e3⟩ : pp = x21.p ∧ cc = x21.c ∧ z = x21.l := by subst hx21; exact ⟨rfl, rfl, rfl⟩
  subst e1 e2 e3
  clear hx21
  refine ops_pack fun V21 e21 => ?_
  replace hW : Wd V V21 (some ⟨b13, 0, none⟩) [x21, x19, x17, x15, Slv.nil] [] := by
    subst e21
    exact (hW.grow (by repeat (first | exact SubH.nil _ | refine SubH.cons 0 rfl ?_ | refine SubH.cons 1 rfl ?_ | refine SubH.cons 2 rfl ?_ | refine SubH.cons 3 rfl ?_ | refine SubH.cons 4 rfl ?_ | refine SubH.cons 5 rfl ?_ | refine SubH.cons 6 rfl ?_ | refine SubH.cons 7 rfl ?_ | refine SubH.cons 8 rfl ?_ | refine SubH.cons 9 rfl ?_ | refine SubH.cons 10 rfl ?_ | refine SubH.cons 11 rfl ?_ | refine SubH.cons 12 rfl ?_ | refine SubH.cons 13 rfl ?_ | refine SubH.rown ?_))).addX (Vw.subH (by repeat (first | exact SubH.nil _ | refine SubH.cons 0 rfl ?_ | refine SubH.cons 1 rfl ?_ | refine SubH.cons 2 rfl ?_ | refine SubH.cons 3 rfl ?_ | refine SubH.cons 4 rfl ?_ | refine SubH.cons 5 rfl ?_ | refine SubH.cons 6 rfl ?_ | refine SubH.cons 7 rfl ?_ | refine SubH.cons 8 rfl ?_ | refine SubH.cons 9 rfl ?_ | refine SubH.cons 10 rfl ?_ | refine SubH.cons 11 rfl ?_ | refine SubH.cons 12 rfl ?_ | refine SubH.cons 13 rfl ?_ | refine SubH.rown ?_)) hv) hc (by omega)
  clear e21
  clear hv hc hxl
  refine ops_ro' rfl (ro_assign rfl) rfl ?_
  refine ops_nil ?_
  refine Then_normal ?_
  refine wp_seq' ?_
  refine wp_region' ?_
  refine ops_ro' rfl (ro_build rfl (bld_struct (cs := Ak.cs ⟨2, 1, [117], [112], [], [], none, 0⟩) st35 rfl)) rfl ?_
  refine ops_eff' rfl (eff_call Try.call16 rfl rfl (by repeat (first | exact Split.nil _ | apply Split.cons 0 rfl | apply Split.cons 1 rfl | apply Split.cons 2 rfl | apply Split.cons 3 rfl | apply Split.cons 4 rfl | apply Split.cons 5 rfl | apply Split.cons 6 rfl | apply Split.cons 7 rfl | apply Split.cons 8 rfl | apply Split.cons 9 rfl | apply Split.cons 10 rfl | apply Split.cons 11 rfl)) (payload_run V21 2 1 [117] [112] [] [] none 0 (Vw.nil _) (Nat.le_refl _))) rfl ?_
  rintro _ H' ⟨_, ⟨A23, pp, cc, rfl, hv, hc, rfl⟩, hH⟩
  simp only [List.cons_append, List.nil_append, List.eraseIdx_cons_zero, List.eraseIdx_cons_succ, List.set_cons_zero, List.set_cons_succ] at hH
  subst hH
  have hxl := payB_len ⟨2, 1, [117], [112], [], [], none, 0⟩
  generalize payB ⟨2, 1, [117], [112], [], [], none, 0⟩ = z at *
  obtain ⟨x23, hx23⟩ : ∃ x : Slv UInt8, x = ⟨pp, cc, z⟩ := ⟨_, rfl⟩
  obtain ⟨e1, e2, e3⟩ : pp = x23.p ∧ cc = x23.c ∧ z = x23.l := by subst hx23; exact ⟨rfl, rfl, rfl⟩
  subst e1 e2 e3
  clear hx23
  refine ops_pack fun V23 e23 => ?_
  replace hW : Wd V V23 (some ⟨b13, 0, none⟩) [x23, x21, x19, x17, x15, Slv.nil] [] := by
    subst e23
    exact (hW.grow (by repeat (first | exact SubH.nil _ | refine SubH.cons 0 rfl ?_ | refine SubH.cons 1 rfl ?_ | refine SubH.cons 2 rfl ?_ | refine SubH.cons 3 rfl ?_ | refine SubH.cons 4 rfl ?_ | refine SubH.cons 5 rfl ?_ | refine SubH.cons 6 rfl ?_ | refine SubH.cons 7 rfl ?_ | refine SubH.cons 8 rfl ?_ | refine SubH.cons 9 rfl ?_ | refine SubH.cons 10 rfl ?_ | refine SubH.cons 11 rfl ?_ | refine SubH.cons 12 rfl ?_ | refine SubH.cons 13 rfl ?_ | refine SubH.rown ?_))).addX (Vw.subH (by repeat (first | exact SubH.nil _ | refine SubH.cons 0 rfl ?_ | refine SubH.cons 1 rfl ?_ | refine SubH.cons 2 rfl ?_ | refine SubH.cons 3 rfl ?_ | refine SubH.cons 4 rfl ?_ | refine SubH.cons 5 rfl ?_ | refine SubH.cons 6 rfl ?_ | refine SubH.cons 7 rfl ?_ | refine SubH.cons 8 rfl ?_ | refine SubH.cons 9 rfl ?_ | refine SubH.cons 10 rfl ?_ | refine SubH.cons 11 rfl ?_ | refine SubH.cons 12 rfl ?_ | refine SubH.cons 13 rfl ?_ | refine SubH.rown ?_)) hv) hc (by omega)
  clear e23
  clear hv hc hxl
  refine ops_ro' rfl (ro_assign rfl) rfl ?_
  refine ops_nil ?_
  refine Then_normal ?_
  refine wp_seq' ?_
  refine wp_region' ?_
  refine ops_eff' rfl (eff_makeB sl32 rfl rfl (by dsimp only; omega)) rfl ?_
  rintro _ _ ⟨b24, rfl, rfl⟩
  refine ops_ro' rfl (ro_toStr Try.underlying32 Try.underlying5 Try.underlying9 rfl (Vw.pick 0 rfl Vw.row) rfl) rfl ?_
  refine ops_ro' rfl (ro_build rfl (bld_struct (cs := Ak.cs ⟨2, 0, (List.replicate 65 0), [112], [], [], none, 0⟩) st35 rfl)) rfl ?_
  refine ops_eff' rfl (eff_call Try.call16 rfl rfl (by repeat (first | exact Split.nil _ | apply Split.cons 0 rfl | apply Split.cons 1 rfl | apply Split.cons 2 rfl | apply Split.cons 3 rfl | apply Split.cons 4 rfl | apply Split.cons 5 rfl | apply Split.cons 6 rfl | apply Split.cons 7 rfl | apply Split.cons 8 rfl | apply Split.cons 9 rfl | apply Split.cons 10 rfl | apply Split.cons 11 rfl)) (payload_run V23 2 0 (List.replicate 65 0) [112] [] [] none 0 (Vw.nil _) (Nat.le_refl _))) rfl ?_
  rintro _ H' ⟨_, ⟨A27, pp, cc, rfl, hv, hc, rfl⟩, hH⟩
  simp only [List.cons_append, List.nil_append, List.eraseIdx_cons_zero, List.eraseIdx_cons_succ, List.set_cons_zero, List.set_cons_succ] at hH
  subst hH
  have hxl := payB_len ⟨2, 0, (List.replicate 65 0), [112], [], [], none, 0⟩
  generalize payB ⟨2, 0, (List.replicate 65 0), [112], [], [], none, 0⟩ = z at *
  obtain ⟨x27, hx27⟩ : ∃ x : Slv UInt8, x = ⟨pp, cc, z⟩ := ⟨_, rfl⟩
  obtain ⟨e1, e2, e3⟩ : pp = x27.p ∧ cc = x27.c ∧ z = x27.l := by subst hx27; exact ⟨rfl, rfl, rfl⟩
  subst e1 e2 e3
  clear hx27
  refine ops_pack fun V27 e27 => ?_
  replace hW : Wd V V27 (some ⟨b13, 0, none⟩) [x27, x23, x21, x19, x17, x15, Slv.nil] [] := by
    subst e27
    exact (hW.grow (by repeat (first | exact SubH.nil _ | refine SubH.cons 0 rfl ?_ | refine SubH.cons 1 rfl ?_ | refine SubH.cons 2 rfl ?_ | refine SubH.cons 3 rfl ?_ | refine SubH.cons 4 rfl ?_ | refine SubH.cons 5 rfl ?_ | refine SubH.cons 6 rfl ?_ | refine SubH.cons 7 rfl ?_ | refine SubH.cons 8 rfl ?_ | refine SubH.cons 9 rfl ?_ | refine SubH.cons 10 rfl ?_ | refine SubH.cons 11 rfl ?_ | refine SubH.cons 12 rfl ?_ | refine SubH.cons 13 rfl ?_ | refine SubH.rown ?_))).addX (Vw.subH (by repeat (first | exact SubH.nil _ | refine SubH.cons 0 rfl ?_ | refine SubH.cons 1 rfl ?_ | refine SubH.cons 2 rfl ?_ | refine SubH.cons 3 rfl ?_ | refine SubH.cons 4 rfl ?_ | refine SubH.cons 5 rfl ?_ | refine SubH.cons 6 rfl ?_ | refine SubH.cons 7 rfl ?_ | refine SubH.cons 8 rfl ?_ | refine SubH.cons 9 rfl ?_ | refine SubH.cons 10 rfl ?_ | refine SubH.cons 11 rfl ?_ | refine SubH.cons 12 rfl ?_ | refine SubH.cons 13 rfl ?_ | refine SubH.rown ?_)) hv) hc (by omega)
  clear e27
  clear hv hc hxl
  refine ops_ro' rfl (ro_assign rfl) rfl ?_
  refine ops_nil ?_
  refine Then_normal ?_
  refine wp_seq' ?_
  refine wp_seq' ?_
  refine wp_region' ?_
  refine ops_ro' rfl (ro_move rfl) rfl ?_
  refine ops_eff' rfl (eff_lit sl36 rfl (sbld (cs := flat Sq.cs [x17]) [(.slice none 0 0)] sl36 (by decide) (by kernel_rfl) rfl) rfl (by decide)) rfl ?_
  rintro _ _ ⟨b29, rfl, rfl⟩
  refine ops_pack fun V29 e29 => ?_
  replace hW : Wd V V29 (some ⟨b13, 0, none⟩) [x27, x23, x21, x19, x17, x15, Slv.nil] [⟨some ⟨b29, 0, none⟩, 1, [x17]⟩] := by
    subst e29
    exact (hW.grow (by repeat (first | exact SubH.nil _ | refine SubH.cons 0 rfl ?_ | refine SubH.cons 1 rfl ?_ | refine SubH.cons 2 rfl ?_ | refine SubH.cons 3 rfl ?_ | refine SubH.cons 4 rfl ?_ | refine SubH.cons 5 rfl ?_ | refine SubH.cons 6 rfl ?_ | refine SubH.cons 7 rfl ?_ | refine SubH.cons 8 rfl ?_ | refine SubH.cons 9 rfl ?_ | refine SubH.cons 10 rfl ?_ | refine SubH.cons 11 rfl ?_ | refine SubH.cons 12 rfl ?_ | refine SubH.cons 13 rfl ?_ | refine SubH.rown ?_))).addL (l := ⟨some ⟨b29, 0, none⟩, 1, [x17]⟩) (Vw.pick 0 rfl Vw.row) (by simp) (by simp)
  clear e29
  refine ops_ro' rfl (ro_move rfl) rfl ?_
  refine ops_ro' rfl (ro_move rfl) rfl ?_
  refine ops_ro' rfl (ro_move rfl) rfl ?_
  refine ops_ro' rfl (ro_move rfl) rfl ?_
  refine ops_ro' rfl (ro_move rfl) rfl ?_
  refine ops_eff' rfl (eff_lit sl36 rfl (sbld (cs := flat Sq.cs [x15, x17, x17, x19, x15]) [(.slice none 0 0), (.slice none 0 0), (.slice none 0 0), (.slice none 0 0), (.slice none 0 0)] sl36 (by decide) (by kernel_rfl) rfl) rfl (by decide)) rfl ?_
  rintro _ _ ⟨b35, rfl, rfl⟩
  refine ops_pack fun V35 e35 => ?_
  replace hW : Wd V V35 (some ⟨b13, 0, none⟩) [x27, x23, x21, x19, x17, x15, Slv.nil] [⟨some ⟨b35, 0, none⟩, 5, [x15, x17, x17, x19, x15]⟩, ⟨some ⟨b29, 0, none⟩, 1, [x17]⟩] := by
    subst e35
    exact (hW.grow (by repeat (first | exact SubH.nil _ | refine SubH.cons 0 rfl ?_ | refine SubH.cons 1 rfl ?_ | refine SubH.cons 2 rfl ?_ | refine SubH.cons 3 rfl ?_ | refine SubH.cons 4 rfl ?_ | refine SubH.cons 5 rfl ?_ | refine SubH.cons 6 rfl ?_ | refine SubH.cons 7 rfl ?_ | refine SubH.cons 8 rfl ?_ | refine SubH.cons 9 rfl ?_ | refine SubH.cons 10 rfl ?_ | refine SubH.cons 11 rfl ?_ | refine SubH.cons 12 rfl ?_ | refine SubH.cons 13 rfl ?_ | refine SubH.rown ?_))).addL (l := ⟨some ⟨b35, 0, none⟩, 5, [x15, x17, x17, x19, x15]⟩) (Vw.pick 0 rfl Vw.row) (by simp) (by simp)
  clear e35
  refine ops_ro' rfl (ro_move rfl) rfl ?_
  refine ops_ro' rfl (ro_move rfl) rfl ?_
  refine ops_ro' rfl (ro_move rfl) rfl ?_
  refine ops_ro' rfl (ro_move rfl) rfl ?_
  refine ops_ro' rfl (ro_move rfl) rfl ?_
  refine ops_ro' rfl (ro_move rfl) rfl ?_
  refine ops_eff' rfl (eff_lit sl36 rfl (sbld (cs := flat Sq.cs [x15, x19, x21, x19, x19, x17]) [(.slice none 0 0), (.slice none 0 0), (.slice none 0 0), (.slice none 0 0), (.slice none 0 0), (.slice none 0 0)] sl36 (by decide) (by kernel_rfl) rfl) rfl (by decide)) rfl ?_
  rintro _ _ ⟨b42, rfl, rfl⟩
  refine ops_pack fun V42 e42 => ?_
  replace hW : Wd V V42 (some ⟨b13, 0, none⟩) [x27, x23, x21, x19, x17, x15, Slv.nil] [⟨some ⟨b42, 0, none⟩, 6, [x15, x19, x21, x19, x19, x17]⟩, ⟨some ⟨b35, 0, none⟩, 5, [x15, x17, x17, x19, x15]⟩, ⟨some ⟨b29, 0, none⟩, 1, [x17]⟩] := by
    subst e42
    exact (hW.grow (by repeat (first | exact SubH.nil _ | refine SubH.cons 0 rfl ?_ | refine SubH.cons 1 rfl ?_ | refine SubH.cons 2 rfl ?_ | refine SubH.cons 3 rfl ?_ | refine SubH.cons 4 rfl ?_ | refine SubH.cons 5 rfl ?_ | refine SubH.cons 6 rfl ?_ | refine SubH.cons 7 rfl ?_ | refine SubH.cons 8 rfl ?_ | refine SubH.cons 9 rfl ?_ | refine SubH.cons 10 rfl ?_ | refine SubH.cons 11 rfl ?_ | refine SubH.cons 12 rfl ?_ | refine SubH.cons 13 rfl ?_ | refine SubH.rown ?_))).addL (l := ⟨some ⟨b42, 0, none⟩, 6, [x15, x19, x21, x19, x19, x17]⟩) (Vw.pick 0 rfl Vw.row) (by simp) (by simp)
  clear e42
  refine ops_ro' rfl (ro_move rfl) rfl ?_
  refine ops_ro' rfl (ro_move rfl) rfl ?_
  refine ops_ro' rfl (ro_move rfl) rfl ?_
  refine ops_ro' rfl (ro_move rfl) rfl ?_
  refine ops_ro' rfl (ro_move rfl) rfl ?_
  refine ops_ro' rfl (ro_move rfl) rfl ?_
  refine ops_ro' rfl (ro_move rfl) rfl ?_
  refine ops_eff' rfl (eff_lit sl36 rfl (sbld (cs := flat Sq.cs [x15, x19, x21, x19, x21, x19, x17]) [(.slice none 0 0), (.slice none 0 0), (.slice none 0 0), (.slice none 0 0), (.slice none 0 0), (.slice none 0 0), (.slice none 0 0)] sl36 (by decide) (by kernel_rfl) rfl) rfl (by decide)) rfl ?_
  rintro _ _ ⟨b50, rfl, rfl⟩
  refine ops_pack fun V50 e50 => ?_
  replace hW : Wd V V50 (some ⟨b13, 0, none⟩) [x27, x23, x21, x19, x17, x15, Slv.nil] [⟨some ⟨b50, 0, none⟩, 7, [x15, x19, x21, x19, x21, x19, x17]⟩, ⟨some ⟨b42, 0, none⟩, 6, [x15, x19, x21, x19, x19, x17]⟩, ⟨some ⟨b35, 0, none⟩, 5, [x15, x17, x17, x19, x15]⟩, ⟨some ⟨b29, 0, none⟩, 1, [x17]⟩] := by
    subst e50
    exact (hW.grow (by repeat (first | exact SubH.nil _ | refine SubH.cons 0 rfl ?_ | refine SubH.cons 1 rfl ?_ | refine SubH.cons 2 rfl ?_ | refine SubH.cons 3 rfl ?_ | refine SubH.cons 4 rfl ?_ | refine SubH.cons 5 rfl ?_ | refine SubH.cons 6 rfl ?_ | refine SubH.cons 7 rfl ?_ | refine SubH.cons 8 rfl ?_ | refine SubH.cons 9 rfl ?_ | refine SubH.cons 10 rfl ?_ | refine SubH.cons 11 rfl ?_ | refine SubH.cons 12 rfl ?_ | refine SubH.cons 13 rfl ?_ | refine SubH.rown ?_))).addL (l := ⟨some ⟨b50, 0, none⟩, 7, [x15, x19, x21, x19, x21, x19, x17]⟩) (Vw.pick 0 rfl Vw.row) (by simp) (by simp)
  clear e50
  refine ops_ro' rfl (ro_move rfl) rfl ?_
  refine ops_ro' rfl (ro_move rfl) rfl ?_
  refine ops_eff' rfl (eff_lit sl36 rfl (sbld (cs := flat Sq.cs [x15, x15]) [(.slice none 0 0), (.slice none 0 0)] sl36 (by decide) (by kernel_rfl) rfl) rfl (by decide)) rfl ?_
  rintro _ _ ⟨b53, rfl, rfl⟩
  refine ops_pack fun V53 e53 => ?_
  replace hW : Wd V V53 (some ⟨b13, 0, none⟩) [x27, x23, x21, x19, x17, x15, Slv.nil] [⟨some ⟨b53, 0, none⟩, 2, [x15, x15]⟩, ⟨some ⟨b50, 0, none⟩, 7, [x15, x19, x21, x19, x21, x19, x17]⟩, ⟨some ⟨b42, 0, none⟩, 6, [x15, x19, x21, x19, x19, x17]⟩, ⟨some ⟨b35, 0, none⟩, 5, [x15, x17, x17, x19, x15]⟩, ⟨some ⟨b29, 0, none⟩, 1, [x17]⟩] := by
    subst e53
    exact (hW.grow (by repeat (first | exact SubH.nil _ | refine SubH.cons 0 rfl ?_ | refine SubH.cons 1 rfl ?_ | refine SubH.cons 2 rfl ?_ | refine SubH.cons 3 rfl ?_ | refine SubH.cons 4 rfl ?_ | refine SubH.cons 5 rfl ?_ | refine SubH.cons 6 rfl ?_ | refine SubH.cons 7 rfl ?_ | refine SubH.cons 8 rfl ?_ | refine SubH.cons 9 rfl ?_ | refine SubH.cons 10 rfl ?_ | refine SubH.cons 11 rfl ?_ | refine SubH.cons 12 rfl ?_ | refine SubH.cons 13 rfl ?_ | refine SubH.rown ?_))).addL (l := ⟨some ⟨b53, 0, none⟩, 2, [x15, x15]⟩) (Vw.pick 0 rfl Vw.row) (by simp) (by simp)
  clear e53
  refine ops_ro' rfl (ro_build rfl (bld_struct (cs := Ak.cs ⟨1, 1, [], [], [115, 115, 104, 45, 99, 111, 110, 110, 101, 99, 116, 105, 111, 110], [], none, 0⟩) st35 rfl)) rfl ?_
  refine ops_eff' rfl (eff_call Try.call16 rfl rfl (by repeat (first | exact Split.nil _ | apply Split.cons 0 rfl | apply Split.cons 1 rfl | apply Split.cons 2 rfl | apply Split.cons 3 rfl | apply Split.cons 4 rfl | apply Split.cons 5 rfl | apply Split.cons 6 rfl | apply Split.cons 7 rfl | apply Split.cons 8 rfl | apply Split.cons 9 rfl | apply Split.cons 10 rfl | apply Split.cons 11 rfl)) (payload_run V53 1 1 [] [] [115, 115, 104, 45, 99, 111, 110, 110, 101, 99, 116, 105, 111, 110] [] none 0 (Vw.nil _) (Nat.le_refl _))) rfl ?_
  rintro _ H' ⟨_, ⟨A55, pp, cc, rfl, hv, hc, rfl⟩, hH⟩
  simp only [List.cons_append, List.nil_append, List.eraseIdx_cons_zero, List.eraseIdx_cons_succ, List.set_cons_zero, List.set_cons_succ] at hH
  subst hH
  have hxl := payB_len ⟨1, 1, [], [], [115, 115, 104, 45, 99, 111, 110, 110, 101, 99, 116, 105, 111, 110], [], none, 0⟩
  generalize payB ⟨1, 1, [], [], [115, 115, 104, 45, 99, 111, 110, 110, 101, 99, 116, 105, 111, 110], [], none, 0⟩ = z at *
  obtain ⟨x55, hx55⟩ : ∃ x : Slv UInt8, x = ⟨pp, cc, z⟩ := ⟨_, rfl⟩
  obtain ⟨e1, e2, e3⟩ : pp = x55.p ∧ cc = x55.c ∧ z = x55.l := by subst hx55; exact ⟨rfl, rfl, rfl⟩
  subst e1 e2 e3
  clear hx55
  refine ops_pack fun V55 e55 => ?_
  replace hW : Wd V V55 (some ⟨b13, 0, none⟩) [x55, x27, x23, x21, x19, x17, x15, Slv.nil] [⟨some ⟨b53, 0, none⟩, 2, [x15, x15]⟩, ⟨some ⟨b50, 0, none⟩, 7, [x15, x19, x21, x19, x21, x19, x17]⟩, ⟨some ⟨b42, 0, none⟩, 6, [x15, x19, x21, x19, x19, x17]⟩, ⟨some ⟨b35, 0, none⟩, 5, [x15, x17, x17, x19, x15]⟩, ⟨some ⟨b29, 0, none⟩, 1, [x17]⟩] := by
    subst e55
    exact (hW.grow (by repeat (first | exact SubH.nil _ | refine SubH.cons 0 rfl ?_ | refine SubH.cons 1 rfl ?_ | refine SubH.cons 2 rfl ?_ | refine SubH.cons 3 rfl ?_ | refine SubH.cons 4 rfl ?_ | refine SubH.cons 5 rfl ?_ | refine SubH.cons 6 rfl ?_ | refine SubH.cons 7 rfl ?_ | refine SubH.cons 8 rfl ?_ | refine SubH.cons 9 rfl ?_ | refine SubH.cons 10 rfl ?_ | refine SubH.cons 11 rfl ?_ | refine SubH.cons 12 rfl ?_ | refine SubH.cons 13 rfl ?_ | refine SubH.rown ?_))).addX (Vw.subH (by repeat (first | exact SubH.nil _ | refine SubH.cons 0 rfl ?_ | refine SubH.cons 1 rfl ?_ | refine SubH.cons 2 rfl ?_ | refine SubH.cons 3 rfl ?_ | refine SubH.cons 4 rfl ?_ | refine SubH.cons 5 rfl ?_ | refine SubH.cons 6 rfl ?_ | refine SubH.cons 7 rfl ?_ | refine SubH.cons 8 rfl ?_ | refine SubH.cons 9 rfl ?_ | refine SubH.cons 10 rfl ?_ | refine SubH.cons 11 rfl ?_ | refine SubH.cons 12 rfl ?_ | refine SubH.cons 13 rfl ?_ | refine SubH.rown ?_)) hv) hc (by omega)
  clear e55
  clear hv hc hxl
  refine ops_ro' rfl (ro_move rfl) rfl ?_
  refine ops_eff' rfl (eff_lit sl36 rfl (sbld (cs := flat Sq.cs [x55, x15]) [(.slice none 0 0), (.slice none 0 0)] sl36 (by decide) (by kernel_rfl) rfl) rfl (by decide)) rfl ?_
  rintro _ _ ⟨b57, rfl, rfl⟩
  refine ops_pack fun V57 e57 => ?_
  replace hW : Wd V V57 (some ⟨b13, 0, none⟩) [x55, x27, x23, x21, x19, x17, x15, Slv.nil] [⟨some ⟨b57, 0, none⟩, 2, [x55, x15]⟩, ⟨some ⟨b53, 0, none⟩, 2, [x15, x15]⟩, ⟨some ⟨b50, 0, none⟩, 7, [x15, x19, x21, x19, x21, x19, x17]⟩, ⟨some ⟨b42, 0, none⟩, 6, [x15, x19, x21, x19, x19, x17]⟩, ⟨some ⟨b35, 0, none⟩, 5, [x15, x17, x17, x19, x15]⟩, ⟨some ⟨b29, 0, none⟩, 1, [x17]⟩] := by
    subst e57
    exact (hW.grow (by repeat (first | exact SubH.nil _ | refine SubH.cons 0 rfl ?_ | refine SubH.cons 1 rfl ?_ | refine SubH.cons 2 rfl ?_ | refine SubH.cons 3 rfl ?_ | refine SubH.cons 4 rfl ?_ | refine SubH.cons 5 rfl ?_ | refine SubH.cons 6 rfl ?_ | refine SubH.cons 7 rfl ?_ | refine SubH.cons 8 rfl ?_ | refine SubH.cons 9 rfl ?_ | refine SubH.cons 10 rfl ?_ | refine SubH.cons 11 rfl ?_ | refine SubH.cons 12 rfl ?_ | refine SubH.cons 13 rfl ?_ | refine SubH.rown ?_))).addL (l := ⟨some ⟨b57, 0, none⟩, 2, [x55, x15]⟩) (Vw.pick 0 rfl Vw.row) (by simp) (by simp)
  clear e57
  refine ops_ro' rfl (ro_move rfl) rfl ?_
  refine ops_ro' rfl (ro_build rfl (bld_struct (cs := Ak.cs ⟨4, 0, [117], [], [115, 102, 116, 112], [], none, 0⟩) st35 rfl)) rfl ?_
  refine ops_eff' rfl (eff_call Try.call16 rfl rfl (by repeat (first | exact Split.nil _ | apply Split.cons 0 rfl | apply Split.cons 1 rfl | apply Split.cons 2 rfl | apply Split.cons 3 rfl | apply Split.cons 4 rfl | apply Split.cons 5 rfl | apply Split.cons 6 rfl | apply Split.cons 7 rfl | apply Split.cons 8 rfl | apply Split.cons 9 rfl | apply Split.cons 10 rfl | apply Split.cons 11 rfl)) (payload_run V57 4 0 [117] [] [115, 102, 116, 112] [] none 0 (Vw.nil _) (Nat.le_refl _))) rfl ?_
  rintro _ H' ⟨_, ⟨A60, pp, cc, rfl, hv, hc, rfl⟩, hH⟩
  simp only [List.cons_append, List.nil_append, List.eraseIdx_cons_zero, List.eraseIdx_cons_succ, List.set_cons_zero, List.set_cons_succ] at hH
  subst hH
  have hxl := payB_len ⟨4, 0, [117], [], [115, 102, 116, 112], [], none, 0⟩
  generalize payB ⟨4, 0, [117], [], [115, 102, 116, 112], [], none, 0⟩ = z at *
  obtain ⟨x60, hx60⟩ : ∃ x : Slv UInt8, x = ⟨pp, cc, z⟩ := ⟨_, rfl⟩
  obtain ⟨e1, e2, e3⟩ : pp = x60.p ∧ cc = x60.c ∧ z = x60.l := by subst hx60; exact ⟨rfl, rfl, rfl⟩
  subst e1 e2 e3
  clear hx60
  refine ops_pack fun V60 e60 => ?_
  replace hW : Wd V V60 (some ⟨b13, 0, none⟩) [x60, x55, x27, x23, x21, x19, x17, x15, Slv.nil] [⟨some ⟨b57, 0, none⟩, 2, [x55, x15]⟩, ⟨some ⟨b53, 0, none⟩, 2, [x15, x15]⟩, ⟨some ⟨b50, 0, none⟩, 7, [x15, x19, x21, x19, x21, x19, x17]⟩, ⟨some ⟨b42, 0, none⟩, 6, [x15, x19, x21, x19, x19, x17]⟩, ⟨some ⟨b35, 0, none⟩, 5, [x15, x17, x17, x19, x15]⟩, ⟨some ⟨b29, 0, none⟩, 1, [x17]⟩] := by
    subst e60
    exact (hW.grow (by repeat (first | exact SubH.nil _ | refine SubH.cons 0 rfl ?_ | refine SubH.cons 1 rfl ?_ | refine SubH.cons 2 rfl ?_ | refine SubH.cons 3 rfl ?_ | refine SubH.cons 4 rfl ?_ | refine SubH.cons 5 rfl ?_ | refine SubH.cons 6 rfl ?_ | refine SubH.cons 7 rfl ?_ | refine SubH.cons 8 rfl ?_ | refine SubH.cons 9 rfl ?_ | refine SubH.cons 10 rfl ?_ | refine SubH.cons 11 rfl ?_ | refine SubH.cons 12 rfl ?_ | refine SubH.cons 13 rfl ?_ | refine SubH.rown ?_))).addX (Vw.subH (by repeat (first | exact SubH.nil _ | refine SubH.cons 0 rfl ?_ | refine SubH.cons 1 rfl ?_ | refine SubH.cons 2 rfl ?_ | refine SubH.cons 3 rfl ?_ | refine SubH.cons 4 rfl ?_ | refine SubH.cons 5 rfl ?_ | refine SubH.cons 6 rfl ?_ | refine SubH.cons 7 rfl ?_ | refine SubH.cons 8 rfl ?_ | refine SubH.cons 9 rfl ?_ | refine SubH.cons 10 rfl ?_ | refine SubH.cons 11 rfl ?_ | refine SubH.cons 12 rfl ?_ | refine SubH.cons 13 rfl ?_ | refine SubH.rown ?_)) hv) hc (by omega)
  clear e60
  clear hv hc hxl
  refine ops_ro' rfl (ro_move rfl) rfl ?_
  refine ops_eff' rfl (eff_lit sl36 rfl (sbld (cs := flat Sq.cs [x15, x60, x17]) [(.slice none 0 0), (.slice none 0 0), (.slice none 0 0)] sl36 (by decide) (by kernel_rfl) rfl) rfl (by decide)) rfl ?_
  rintro _ _ ⟨b62, rfl, rfl⟩
  refine ops_pack fun V62 e62 => ?_
  replace hW : Wd V V62 (some ⟨b13, 0, none⟩) [x60, x55, x27, x23, x21, x19, x17, x15, Slv.nil] [⟨some ⟨b62, 0, none⟩, 3, [x15, x60, x17]⟩, ⟨some ⟨b57, 0, none⟩, 2, [x55, x15]⟩, ⟨some ⟨b53, 0, none⟩, 2, [x15, x15]⟩, ⟨some ⟨b50, 0, none⟩, 7, [x15, x19, x21, x19, x21, x19, x17]⟩, ⟨some ⟨b42, 0, none⟩, 6, [x15, x19, x21, x19, x19, x17]⟩, ⟨some ⟨b35, 0, none⟩, 5, [x15, x17, x17, x19, x15]⟩, ⟨some ⟨b29, 0, none⟩, 1, [x17]⟩] := by
    subst e62
    exact (hW.grow (by repeat (first | exact SubH.nil _ | refine SubH.cons 0 rfl ?_ | refine SubH.cons 1 rfl ?_ | refine SubH.cons 2 rfl ?_ | refine SubH.cons 3 rfl ?_ | refine SubH.cons 4 rfl ?_ | refine SubH.cons 5 rfl ?_ | refine SubH.cons 6 rfl ?_ | refine SubH.cons 7 rfl ?_ | refine SubH.cons 8 rfl ?_ | refine SubH.cons 9 rfl ?_ | refine SubH.cons 10 rfl ?_ | refine SubH.cons 11 rfl ?_ | refine SubH.cons 12 rfl ?_ | refine SubH.cons 13 rfl ?_ | refine SubH.rown ?_))).addL (l := ⟨some ⟨b62, 0, none⟩, 3, [x15, x60, x17]⟩) (Vw.pick 0 rfl Vw.row) (by simp) (by simp)
  clear e62
  refine ops_ro' rfl (ro_move rfl) rfl ?_
  refine ops_ro' rfl (ro_move rfl) rfl ?_
  refine ops_ro' rfl (ro_move rfl) rfl ?_
  refine ops_eff' rfl (eff_lit sl36 rfl (sbld (cs := flat Sq.cs [x15, x23, x17]) [(.slice none 0 0), (.slice none 0 0), (.slice none 0 0)] sl36 (by decide) (by kernel_rfl) rfl) rfl (by decide)) rfl ?_
  rintro _ _ ⟨b66, rfl, rfl⟩
  refine ops_pack fun V66 e66 => ?_
  replace hW : Wd V V66 (some ⟨b13, 0, none⟩) [x60, x55, x27, x23, x21, x19, x17, x15, Slv.nil] [⟨some ⟨b66, 0, none⟩, 3, [x15, x23, x17]⟩, ⟨some ⟨b62, 0, none⟩, 3, [x15, x60, x17]⟩, ⟨some ⟨b57, 0, none⟩, 2, [x55, x15]⟩, ⟨some ⟨b53, 0, none⟩, 2, [x15, x15]⟩, ⟨some ⟨b50, 0, none⟩, 7, [x15, x19, x21, x19, x21, x19, x17]⟩, ⟨some ⟨b42, 0, none⟩, 6, [x15, x19, x21, x19, x19, x17]⟩, ⟨some ⟨b35, 0, none⟩, 5, [x15, x17, x17, x19, x15]⟩, ⟨some ⟨b29, 0, none⟩, 1, [x17]⟩] := by
    subst e66
    exact (hW.grow (by repeat (first | exact SubH.nil _ | refine SubH.cons 0 rfl ?_ | refine SubH.cons 1 rfl ?_ | refine SubH.cons 2 rfl ?_ | refine SubH.cons 3 rfl ?_ | refine SubH.cons 4 rfl ?_ | refine SubH.cons 5 rfl ?_ | refine SubH.cons 6 rfl ?_ | refine SubH.cons 7 rfl ?_ | refine SubH.cons 8 rfl ?_ | refine SubH.cons 9 rfl ?_ | refine SubH.cons 10 rfl ?_ | refine SubH.cons 11 rfl ?_ | refine SubH.cons 12 rfl ?_ | refine SubH.cons 13 rfl ?_ | refine SubH.rown ?_))).addL (l := ⟨some ⟨b66, 0, none⟩, 3, [x15, x23, x17]⟩) (Vw.pick 0 rfl Vw.row) (by simp) (by simp)
  clear e66
  refine ops_ro' rfl (ro_move rfl) rfl ?_
  refine ops_ro' rfl (ro_move rfl) rfl ?_
  refine ops_eff' rfl (eff_lit sl36 rfl (sbld (cs := flat Sq.cs [x15, x27]) [(.slice none 0 0), (.slice none 0 0)] sl36 (by decide) (by kernel_rfl) rfl) rfl (by decide)) rfl ?_
  rintro _ _ ⟨b69, rfl, rfl⟩
  refine ops_pack fun V69 e69 => ?_
  replace hW : Wd V V69 (some ⟨b13, 0, none⟩) [x60, x55, x27, x23, x21, x19, x17, x15, Slv.nil] [⟨some ⟨b69, 0, none⟩, 2, [x15, x27]⟩, ⟨some ⟨b66, 0, none⟩, 3, [x15, x23, x17]⟩, ⟨some ⟨b62, 0, none⟩, 3, [x15, x60, x17]⟩, ⟨some ⟨b57, 0, none⟩, 2, [x55, x15]⟩, ⟨some ⟨b53, 0, none⟩, 2, [x15, x15]⟩, ⟨some ⟨b50, 0, none⟩, 7, [x15, x19, x21, x19, x21, x19, x17]⟩, ⟨some ⟨b42, 0, none⟩, 6, [x15, x19, x21, x19, x19, x17]⟩, ⟨some ⟨b35, 0, none⟩, 5, [x15, x17, x17, x19, x15]⟩, ⟨some ⟨b29, 0, none⟩, 1, [x17]⟩] := by
    subst e69
    exact (hW.grow (by repeat (first | exact SubH.nil _ | refine SubH.cons 0 rfl ?_ | refine SubH.cons 1 rfl ?_ | refine SubH.cons 2 rfl ?_ | refine SubH.cons 3 rfl ?_ | refine SubH.cons 4 rfl ?_ | refine SubH.cons 5 rfl ?_ | refine SubH.cons 6 rfl ?_ | refine SubH.cons 7 rfl ?_ | refine SubH.cons 8 rfl ?_ | refine SubH.cons 9 rfl ?_ | refine SubH.cons 10 rfl ?_ | refine SubH.cons 11 rfl ?_ | refine SubH.cons 12 rfl ?_ | refine SubH.cons 13 rfl ?_ | refine SubH.rown ?_))).addL (l := ⟨some ⟨b69, 0, none⟩, 2, [x15, x27]⟩) (Vw.pick 0 rfl Vw.row) (by simp) (by simp)
  clear e69
  refine ops_ro' rfl (ro_move rfl) rfl ?_
  refine ops_eff' rfl (eff_lit sl32 rfl (sbld (cs := cel [2]) [(.int .u8 0)] sl32 (by decide) (by kernel_rfl) rfl) rfl (by decide)) rfl ?_
  rintro _ _ ⟨b71, rfl, rfl⟩
  refine ops_pack fun V71 e71 => ?_
  replace hW : Wd V V71 (some ⟨b13, 0, none⟩) [⟨some ⟨b71, 0, none⟩, 1, [2]⟩, x60, x55, x27, x23, x21, x19, x17, x15, Slv.nil] [⟨some ⟨b69, 0, none⟩, 2, [x15, x27]⟩, ⟨some ⟨b66, 0, none⟩, 3, [x15, x23, x17]⟩, ⟨some ⟨b62, 0, none⟩, 3, [x15, x60, x17]⟩, ⟨some ⟨b57, 0, none⟩, 2, [x55, x15]⟩, ⟨some ⟨b53, 0, none⟩, 2, [x15, x15]⟩, ⟨some ⟨b50, 0, none⟩, 7, [x15, x19, x21, x19, x21, x19, x17]⟩, ⟨some ⟨b42, 0, none⟩, 6, [x15, x19, x21, x19, x19, x17]⟩, ⟨some ⟨b35, 0, none⟩, 5, [x15, x17, x17, x19, x15]⟩, ⟨some ⟨b29, 0, none⟩, 1, [x17]⟩] := by
    subst e71
    exact (hW.grow (by repeat (first | exact SubH.nil _ | refine SubH.cons 0 rfl ?_ | refine SubH.cons 1 rfl ?_ | refine SubH.cons 2 rfl ?_ | refine SubH.cons 3 rfl ?_ | refine SubH.cons 4 rfl ?_ | refine SubH.cons 5 rfl ?_ | refine SubH.cons 6 rfl ?_ | refine SubH.cons 7 rfl ?_ | refine SubH.cons 8 rfl ?_ | refine SubH.cons 9 rfl ?_ | refine SubH.cons 10 rfl ?_ | refine SubH.cons 11 rfl ?_ | refine SubH.cons 12 rfl ?_ | refine SubH.cons 13 rfl ?_ | refine SubH.rown ?_))).addX (x := ⟨some ⟨b71, 0, none⟩, 1, [2]⟩) (Vw.pick 0 rfl Vw.row) (Nat.le_refl _) (by simp)
  clear e71
  refine ops_eff' rfl (eff_lit sl32 rfl (sbld (cs := cel [3]) [(.int .u8 0)] sl32 (by decide) (by kernel_rfl) rfl) rfl (by decide)) rfl ?_
  rintro _ _ ⟨b72, rfl, rfl⟩
  refine ops_pack fun V72 e72 => ?_
  replace hW : Wd V V72 (some ⟨b13, 0, none⟩) [⟨some ⟨b72, 0, none⟩, 1, [3]⟩, ⟨some ⟨b71, 0, none⟩, 1, [2]⟩, x60, x55, x27, x23, x21, x19, x17, x15, Slv.nil] [⟨some ⟨b69, 0, none⟩, 2, [x15, x27]⟩, ⟨some ⟨b66, 0, none⟩, 3, [x15, x23, x17]⟩, ⟨some ⟨b62, 0, none⟩, 3, [x15, x60, x17]⟩, ⟨some ⟨b57, 0, none⟩, 2, [x55, x15]⟩, ⟨some ⟨b53, 0, none⟩, 2, [x15, x15]⟩, ⟨some ⟨b50, 0, none⟩, 7, [x15, x19, x21, x19, x21, x19, x17]⟩, ⟨some ⟨b42, 0, none⟩, 6, [x15, x19, x21, x19, x19, x17]⟩, ⟨some ⟨b35, 0, none⟩, 5, [x15, x17, x17, x19, x15]⟩, ⟨some ⟨b29, 0, none⟩, 1, [x17]⟩] := by
    subst e72
    exact (hW.grow (by repeat (first | exact SubH.nil _ | refine SubH.cons 0 rfl ?_ | refine SubH.cons 1 rfl ?_ | refine SubH.cons 2 rfl ?_ | refine SubH.cons 3 rfl ?_ | refine SubH.cons 4 rfl ?_ | refine SubH.cons 5 rfl ?_ | refine SubH.cons 6 rfl ?_ | refine SubH.cons 7 rfl ?_ | refine SubH.cons 8 rfl ?_ | refine SubH.cons 9 rfl ?_ | refine SubH.cons 10 rfl ?_ | refine SubH.cons 11 rfl ?_ | refine SubH.cons 12 rfl ?_ | refine SubH.cons 13 rfl ?_ | refine SubH.rown ?_))).addX (x := ⟨some ⟨b72, 0, none⟩, 1, [3]⟩) (Vw.pick 0 rfl Vw.row) (Nat.le_refl _) (by simp)
  clear e72
  refine ops_eff' rfl (eff_lit sl32 rfl (sbld (cs := cel [4, 9]) [(.int .u8 0), (.int .u8 0)] sl32 (by decide) (by kernel_rfl) rfl) rfl (by decide)) rfl ?_
  rintro _ _ ⟨b73, rfl, rfl⟩
  refine ops_pack fun V73 e73 => ?_
  replace hW : Wd V V73 (some ⟨b13, 0, none⟩) [⟨some ⟨b73, 0, none⟩, 2, [4, 9]⟩, ⟨some ⟨b72, 0, none⟩, 1, [3]⟩, ⟨some ⟨b71, 0, none⟩, 1, [2]⟩, x60, x55, x27, x23, x21, x19, x17, x15, Slv.nil] [⟨some ⟨b69, 0, none⟩, 2, [x15, x27]⟩, ⟨some ⟨b66, 0, none⟩, 3, [x15, x23, x17]⟩, ⟨some ⟨b62, 0, none⟩, 3, [x15, x60, x17]⟩, ⟨some ⟨b57, 0, none⟩, 2, [x55, x15]⟩, ⟨some ⟨b53, 0, none⟩, 2, [x15, x15]⟩, ⟨some ⟨b50, 0, none⟩, 7, [x15, x19, x21, x19, x21, x19, x17]⟩, ⟨some ⟨b42, 0, none⟩, 6, [x15, x19, x21, x19, x19, x17]⟩, ⟨some ⟨b35, 0, none⟩, 5, [x15, x17, x17, x19, x15]⟩, ⟨some ⟨b29, 0, none⟩, 1, [x17]⟩] := by
    subst e73
    exact (hW.grow (by repeat (first | exact SubH.nil _ | refine SubH.cons 0 rfl ?_ | refine SubH.cons 1 rfl ?_ | refine SubH.cons 2 rfl ?_ | refine SubH.cons 3 rfl ?_ | refine SubH.cons 4 rfl ?_ | refine SubH.cons 5 rfl ?_ | refine SubH.cons 6 rfl ?_ | refine SubH.cons 7 rfl ?_ | refine SubH.cons 8 rfl ?_ | refine SubH.cons 9 rfl ?_ | refine SubH.cons 10 rfl ?_ | refine SubH.cons 11 rfl ?_ | refine SubH.cons 12 rfl ?_ | refine SubH.cons 13 rfl ?_ | refine SubH.rown ?_))).addX (x := ⟨some ⟨b73, 0, none⟩, 2, [4, 9]⟩) (Vw.pick 0 rfl Vw.row) (Nat.le_refl _) (by simp)
  clear e73
  refine ops_ro' rfl (ro_move rfl) rfl ?_
  refine ops_eff' rfl (eff_lit sl36 rfl (sbld (cs := flat Sq.cs [x15, ⟨some ⟨b71, 0, none⟩, 1, [2]⟩, ⟨some ⟨b72, 0, none⟩, 1, [3]⟩, ⟨some ⟨b73, 0, none⟩, 2, [4, 9]⟩, x17]) [(.slice none 0 0), (.slice none 0 0), (.slice none 0 0), (.slice none 0 0), (.slice none 0 0)] sl36 (by decide) (by kernel_rfl) rfl) rfl (by decide)) rfl ?_
  rintro _ _ ⟨b75, rfl, rfl⟩
  refine ops_pack fun V75 e75 => ?_
  replace hW : Wd V V75 (some ⟨b13, 0, none⟩) [⟨some ⟨b73, 0, none⟩, 2, [4, 9]⟩, ⟨some ⟨b72, 0, none⟩, 1, [3]⟩, ⟨some ⟨b71, 0, none⟩, 1, [2]⟩, x60, x55, x27, x23, x21, x19, x17, x15, Slv.nil] [⟨some ⟨b75, 0, none⟩, 5, [x15, ⟨some ⟨b71, 0, none⟩, 1, [2]⟩, ⟨some ⟨b72, 0, none⟩, 1, [3]⟩, ⟨some ⟨b73, 0, none⟩, 2, [4, 9]⟩, x17]⟩, ⟨some ⟨b69, 0, none⟩, 2, [x15, x27]⟩, ⟨some ⟨b66, 0, none⟩, 3, [x15, x23, x17]⟩, ⟨some ⟨b62, 0, none⟩, 3, [x15, x60, x17]⟩, ⟨some ⟨b57, 0, none⟩, 2, [x55, x15]⟩, ⟨some ⟨b53, 0, none⟩, 2, [x15, x15]⟩, ⟨some ⟨b50, 0, none⟩, 7, [x15, x19, x21, x19, x21, x19, x17]⟩, ⟨some ⟨b42, 0, none⟩, 6, [x15, x19, x21, x19, x19, x17]⟩, ⟨some ⟨b35, 0, none⟩, 5, [x15, x17, x17, x19, x15]⟩, ⟨some ⟨b29, 0, none⟩, 1, [x17]⟩] := by
    subst e75
    exact (hW.grow (by repeat (first | exact SubH.nil _ | refine SubH.cons 0 rfl ?_ | refine SubH.cons 1 rfl ?_ | refine SubH.cons 2 rfl ?_ | refine SubH.cons 3 rfl ?_ | refine SubH.cons 4 rfl ?_ | refine SubH.cons 5 rfl ?_ | refine SubH.cons 6 rfl ?_ | refine SubH.cons 7 rfl ?_ | refine SubH.cons 8 rfl ?_ | refine SubH.cons 9 rfl ?_ | refine SubH.cons 10 rfl ?_ | refine SubH.cons 11 rfl ?_ | refine SubH.cons 12 rfl ?_ | refine SubH.cons 13 rfl ?_ | refine SubH.rown ?_))).addL (l := ⟨some ⟨b75, 0, none⟩, 5, [x15, ⟨some ⟨b71, 0, none⟩, 1, [2]⟩, ⟨some ⟨b72, 0, none⟩, 1, [3]⟩, ⟨some ⟨b73, 0, none⟩, 2, [4, 9]⟩, x17]⟩) (Vw.pick 0 rfl Vw.row) (by simp) (by simp)
  clear e75
  refine ops_eff' rfl (eff_lit sl32 rfl (sbld (cs := cel [1]) [(.int .u8 0)] sl32 (by decide) (by kernel_rfl) rfl) rfl (by decide)) rfl ?_
  rintro _ _ ⟨b76, rfl, rfl⟩
  refine ops_pack fun V76 e76 => ?_
  replace hW : Wd V V76 (some ⟨b13, 0, none⟩) [⟨some ⟨b76, 0, none⟩, 1, [1]⟩, ⟨some ⟨b73, 0, none⟩, 2, [4, 9]⟩, ⟨some ⟨b72, 0, none⟩, 1, [3]⟩, ⟨some ⟨b71, 0, none⟩, 1, [2]⟩, x60, x55, x27, x23, x21, x19, x17, x15, Slv.nil] [⟨some ⟨b75, 0, none⟩, 5, [x15, ⟨some ⟨b71, 0, none⟩, 1, [2]⟩, ⟨some ⟨b72, 0, none⟩, 1, [3]⟩, ⟨some ⟨b73, 0, none⟩, 2, [4, 9]⟩, x17]⟩, ⟨some ⟨b69, 0, none⟩, 2, [x15, x27]⟩, ⟨some ⟨b66, 0, none⟩, 3, [x15, x23, x17]⟩, ⟨some ⟨b62, 0, none⟩, 3, [x15, x60, x17]⟩, ⟨some ⟨b57, 0, none⟩, 2, [x55, x15]⟩, ⟨some ⟨b53, 0, none⟩, 2, [x15, x15]⟩, ⟨some ⟨b50, 0, none⟩, 7, [x15, x19, x21, x19, x21, x19, x17]⟩, ⟨some ⟨b42, 0, none⟩, 6, [x15, x19, x21, x19, x19, x17]⟩, ⟨some ⟨b35, 0, none⟩, 5, [x15, x17, x17, x19, x15]⟩, ⟨some ⟨b29, 0, none⟩, 1, [x17]⟩] := by
    subst e76
    exact (hW.grow (by repeat (first | exact SubH.nil _ | refine SubH.cons 0 rfl ?_ | refine SubH.cons 1 rfl ?_ | refine SubH.cons 2 rfl ?_ | refine SubH.cons 3 rfl ?_ | refine SubH.cons 4 rfl ?_ | refine SubH.cons 5 rfl ?_ | refine SubH.cons 6 rfl ?_ | refine SubH.cons 7 rfl ?_ | refine SubH.cons 8 rfl ?_ | refine SubH.cons 9 rfl ?_ | refine SubH.cons 10 rfl ?_ | refine SubH.cons 11 rfl ?_ | refine SubH.cons 12 rfl ?_ | refine SubH.cons 13 rfl ?_ | refine SubH.rown ?_))).addX (x := ⟨some ⟨b76, 0, none⟩, 1, [1]⟩) (Vw.pick 0 rfl Vw.row) (Nat.le_refl _) (by simp)
  clear e76
  refine ops_ro' rfl (ro_move rfl) rfl ?_
  refine ops_eff' rfl (eff_lit sl36 rfl (sbld (cs := flat Sq.cs [⟨some ⟨b76, 0, none⟩, 1, [1]⟩, x15]) [(.slice none 0 0), (.slice none 0 0)] sl36 (by decide) (by kernel_rfl) rfl) rfl (by decide)) rfl ?_
  rintro _ _ ⟨b78, rfl, rfl⟩
  refine ops_pack fun V78 e78 => ?_
  replace hW : Wd V V78 (some ⟨b13, 0, none⟩) [⟨some ⟨b76, 0, none⟩, 1, [1]⟩, ⟨some ⟨b73, 0, none⟩, 2, [4, 9]⟩, ⟨some ⟨b72, 0, none⟩, 1, [3]⟩, ⟨some ⟨b71, 0, none⟩, 1, [2]⟩, x60, x55, x27, x23, x21, x19, x17, x15, Slv.nil] [⟨some ⟨b78, 0, none⟩, 2, [⟨some ⟨b76, 0, none⟩, 1, [1]⟩, x15]⟩, ⟨some ⟨b75, 0, none⟩, 5, [x15, ⟨some ⟨b71, 0, none⟩, 1, [2]⟩, ⟨some ⟨b72, 0, none⟩, 1, [3]⟩, ⟨some ⟨b73, 0, none⟩, 2, [4, 9]⟩, x17]⟩, ⟨some ⟨b69, 0, none⟩, 2, [x15, x27]⟩, ⟨some ⟨b66, 0, none⟩, 3, [x15, x23, x17]⟩, ⟨some ⟨b62, 0, none⟩, 3, [x15, x60, x17]⟩, ⟨some ⟨b57, 0, none⟩, 2, [x55, x15]⟩, ⟨some ⟨b53, 0, none⟩, 2, [x15, x15]⟩, ⟨some ⟨b50, 0, none⟩, 7, [x15, x19, x21, x19, x21, x19, x17]⟩, ⟨some ⟨b42, 0, none⟩, 6, [x15, x19, x21, x19, x19, x17]⟩, ⟨some ⟨b35, 0, none⟩, 5, [x15, x17, x17, x19, x15]⟩, ⟨some ⟨b29, 0, none⟩, 1, [x17]⟩] := by
    subst e78
    exact (hW.grow (by repeat (first | exact SubH.nil _ | refine SubH.cons 0 rfl ?_ | refine SubH.cons 1 rfl ?_ | refine SubH.cons 2 rfl ?_ | refine SubH.cons 3 rfl ?_ | refine SubH.cons 4 rfl ?_ | refine SubH.cons 5 rfl ?_ | refine SubH.cons 6 rfl ?_ | refine SubH.cons 7 rfl ?_ | refine SubH.cons 8 rfl ?_ | refine SubH.cons 9 rfl ?_ | refine SubH.cons 10 rfl ?_ | refine SubH.cons 11 rfl ?_ | refine SubH.cons 12 rfl ?_ | refine SubH.cons 13 rfl ?_ | refine SubH.rown ?_))).addL (l := ⟨some ⟨b78, 0, none⟩, 2, [⟨some ⟨b76, 0, none⟩, 1, [1]⟩, x15]⟩) (Vw.pick 0 rfl Vw.row) (by simp) (by simp)
  clear e78
  refine ops_ro' rfl (ro_move rfl) rfl ?_
  refine ops_eff' rfl (eff_lit sl32 rfl (sbld (cs := cel [1]) [(.int .u8 0)] sl32 (by decide) (by kernel_rfl) rfl) rfl (by decide)) rfl ?_
  rintro _ _ ⟨b80, rfl, rfl⟩
  refine ops_pack fun V80 e80 => ?_
  replace hW : Wd V V80 (some ⟨b13, 0, none⟩) [⟨some ⟨b80, 0, none⟩, 1, [1]⟩, ⟨some ⟨b76, 0, none⟩, 1, [1]⟩, ⟨some ⟨b73, 0, none⟩, 2, [4, 9]⟩, ⟨some ⟨b72, 0, none⟩, 1, [3]⟩, ⟨some ⟨b71, 0, none⟩, 1, [2]⟩, x60, x55, x27, x23, x21, x19, x17, x15, Slv.nil] [⟨some ⟨b78, 0, none⟩, 2, [⟨some ⟨b76, 0, none⟩, 1, [1]⟩, x15]⟩, ⟨some ⟨b75, 0, none⟩, 5, [x15, ⟨some ⟨b71, 0, none⟩, 1, [2]⟩, ⟨some ⟨b72, 0, none⟩, 1, [3]⟩, ⟨some ⟨b73, 0, none⟩, 2, [4, 9]⟩, x17]⟩, ⟨some ⟨b69, 0, none⟩, 2, [x15, x27]⟩, ⟨some ⟨b66, 0, none⟩, 3, [x15, x23, x17]⟩, ⟨some ⟨b62, 0, none⟩, 3, [x15, x60, x17]⟩, ⟨some ⟨b57, 0, none⟩, 2, [x55, x15]⟩, ⟨some ⟨b53, 0, none⟩, 2, [x15, x15]⟩, ⟨some ⟨b50, 0, none⟩, 7, [x15, x19, x21, x19, x21, x19, x17]⟩, ⟨some ⟨b42, 0, none⟩, 6, [x15, x19, x21, x19, x19, x17]⟩, ⟨some ⟨b35, 0, none⟩, 5, [x15, x17, x17, x19, x15]⟩, ⟨some ⟨b29, 0, none⟩, 1, [x17]⟩] := by
    subst e80
    exact (hW.grow (by repeat (first | exact SubH.nil _ | refine SubH.cons 0 rfl ?_ | refine SubH.cons 1 rfl ?_ | refine SubH.cons 2 rfl ?_ | refine SubH.cons 3 rfl ?_ | refine SubH.cons 4 rfl ?_ | refine SubH.cons 5 rfl ?_ | refine SubH.cons 6 rfl ?_ | refine SubH.cons 7 rfl ?_ | refine SubH.cons 8 rfl ?_ | refine SubH.cons 9 rfl ?_ | refine SubH.cons 10 rfl ?_ | refine SubH.cons 11 rfl ?_ | refine SubH.cons 12 rfl ?_ | refine SubH.cons 13 rfl ?_ | refine SubH.rown ?_))).addX (x := ⟨some ⟨b80, 0, none⟩, 1, [1]⟩) (Vw.pick 0 rfl Vw.row) (Nat.le_refl _) (by simp)
  clear e80
  refine ops_ro' rfl (ro_move rfl) rfl ?_
  refine ops_eff' rfl (eff_lit sl36 rfl (sbld (cs := flat Sq.cs [x15, ⟨some ⟨b80, 0, none⟩, 1, [1]⟩, x17]) [(.slice none 0 0), (.slice none 0 0), (.slice none 0 0)] sl36 (by decide) (by kernel_rfl) rfl) rfl (by decide)) rfl ?_
  rintro _ _ ⟨b82, rfl, rfl⟩
  refine ops_pack fun V82 e82 => ?_
  replace hW : Wd V V82 (some ⟨b13, 0, none⟩) [⟨some ⟨b80, 0, none⟩, 1, [1]⟩, ⟨some ⟨b76, 0, none⟩, 1, [1]⟩, ⟨some ⟨b73, 0, none⟩, 2, [4, 9]⟩, ⟨some ⟨b72, 0, none⟩, 1, [3]⟩, ⟨some ⟨b71, 0, none⟩, 1, [2]⟩, x60, x55, x27, x23, x21, x19, x17, x15, Slv.nil] [⟨some ⟨b82, 0, none⟩, 3, [x15, ⟨some ⟨b80, 0, none⟩, 1, [1]⟩, x17]⟩, ⟨some ⟨b78, 0, none⟩, 2, [⟨some ⟨b76, 0, none⟩, 1, [1]⟩, x15]⟩, ⟨some ⟨b75, 0, none⟩, 5, [x15, ⟨some ⟨b71, 0, none⟩, 1, [2]⟩, ⟨some ⟨b72, 0, none⟩, 1, [3]⟩, ⟨some ⟨b73, 0, none⟩, 2, [4, 9]⟩, x17]⟩, ⟨some ⟨b69, 0, none⟩, 2, [x15, x27]⟩, ⟨some ⟨b66, 0, none⟩, 3, [x15, x23, x17]⟩, ⟨some ⟨b62, 0, none⟩, 3, [x15, x60, x17]⟩, ⟨some ⟨b57, 0, none⟩, 2, [x55, x15]⟩, ⟨some ⟨b53, 0, none⟩, 2, [x15, x15]⟩, ⟨some ⟨b50, 0, none⟩, 7, [x15, x19, x21, x19, x21, x19, x17]⟩, ⟨some ⟨b42, 0, none⟩, 6, [x15, x19, x21, x19, x19, x17]⟩, ⟨some ⟨b35, 0, none⟩, 5, [x15, x17, x17, x19, x15]⟩, ⟨some ⟨b29, 0, none⟩, 1, [x17]⟩] := by
    subst e82
    exact (hW.grow (by repeat (first | exact SubH.nil _ | refine SubH.cons 0 rfl ?_ | refine SubH.cons 1 rfl ?_ | refine SubH.cons 2 rfl ?_ | refine SubH.cons 3 rfl ?_ | refine SubH.cons 4 rfl ?_ | refine SubH.cons 5 rfl ?_ | refine SubH.cons 6 rfl ?_ | refine SubH.cons 7 rfl ?_ | refine SubH.cons 8 rfl ?_ | refine SubH.cons 9 rfl ?_ | refine SubH.cons 10 rfl ?_ | refine SubH.cons 11 rfl ?_ | refine SubH.cons 12 rfl ?_ | refine SubH.cons 13 rfl ?_ | refine SubH.rown ?_))).addL (l := ⟨some ⟨b82, 0, none⟩, 3, [x15, ⟨some ⟨b80, 0, none⟩, 1, [1]⟩, x17]⟩) (Vw.pick 0 rfl Vw.row) (by simp) (by simp)
  clear e82
  refine ops_ro' rfl (ro_move rfl) rfl ?_
  refine ops_eff' rfl (eff_lit sl32 rfl (sbld (cs := cel [90]) [(.int .u8 0)] sl32 (by decide) (by kernel_rfl) rfl) rfl (by decide)) rfl ?_
  rintro _ _ ⟨b84, rfl, rfl⟩
  refine ops_pack fun V84 e84 => ?_
  replace hW : Wd V V84 (some ⟨b13, 0, none⟩) [⟨some ⟨b84, 0, none⟩, 1, [90]⟩, ⟨some ⟨b80, 0, none⟩, 1, [1]⟩, ⟨some ⟨b76, 0, none⟩, 1, [1]⟩, ⟨some ⟨b73, 0, none⟩, 2, [4, 9]⟩, ⟨some ⟨b72, 0, none⟩, 1, [3]⟩, ⟨some ⟨b71, 0, none⟩, 1, [2]⟩, x60, x55, x27, x23, x21, x19, x17, x15, Slv.nil] [⟨some ⟨b82, 0, none⟩, 3, [x15, ⟨some ⟨b80, 0, none⟩, 1, [1]⟩, x17]⟩, ⟨some ⟨b78, 0, none⟩, 2, [⟨some ⟨b76, 0, none⟩, 1, [1]⟩, x15]⟩, ⟨some ⟨b75, 0, none⟩, 5, [x15, ⟨some ⟨b71, 0, none⟩, 1, [2]⟩, ⟨some ⟨b72, 0, none⟩, 1, [3]⟩, ⟨some ⟨b73, 0, none⟩, 2, [4, 9]⟩, x17]⟩, ⟨some ⟨b69, 0, none⟩, 2, [x15, x27]⟩, ⟨some ⟨b66, 0, none⟩, 3, [x15, x23, x17]⟩, ⟨some ⟨b62, 0, none⟩, 3, [x15, x60, x17]⟩, ⟨some ⟨b57, 0, none⟩, 2, [x55, x15]⟩, ⟨some ⟨b53, 0, none⟩, 2, [x15, x15]⟩, ⟨some ⟨b50, 0, none⟩, 7, [x15, x19, x21, x19, x21, x19, x17]⟩, ⟨some ⟨b42, 0, none⟩, 6, [x15, x19, x21, x19, x19, x17]⟩, ⟨some ⟨b35, 0, none⟩, 5, [x15, x17, x17, x19, x15]⟩, ⟨some ⟨b29, 0, none⟩, 1, [x17]⟩] := by
    subst e84
    exact (hW.grow (by repeat (first | exact SubH.nil _ | refine SubH.cons 0 rfl ?_ | refine SubH.cons 1 rfl ?_ | refine SubH.cons 2 rfl ?_ | refine SubH.cons 3 rfl ?_ | refine SubH.cons 4 rfl ?_ | refine SubH.cons 5 rfl ?_ | refine SubH.cons 6 rfl ?_ | refine SubH.cons 7 rfl ?_ | refine SubH.cons 8 rfl ?_ | refine SubH.cons 9 rfl ?_ | refine SubH.cons 10 rfl ?_ | refine SubH.cons 11 rfl ?_ | refine SubH.cons 12 rfl ?_ | refine SubH.cons 13 rfl ?_ | refine SubH.rown ?_))).addX (x := ⟨some ⟨b84, 0, none⟩, 1, [90]⟩) (Vw.pick 0 rfl Vw.row) (Nat.le_refl _) (by simp)
  clear e84
  refine ops_eff' rfl (eff_lit sl36 rfl (sbld (cs := flat Sq.cs [x15, ⟨some ⟨b84, 0, none⟩, 1, [90]⟩]) [(.slice none 0 0), (.slice none 0 0)] sl36 (by decide) (by kernel_rfl) rfl) rfl (by decide)) rfl ?_
  rintro _ _ ⟨b85, rfl, rfl⟩
  refine ops_pack fun V85 e85 => ?_
  replace hW : Wd V V85 (some ⟨b13, 0, none⟩) [⟨some ⟨b84, 0, none⟩, 1, [90]⟩, ⟨some ⟨b80, 0, none⟩, 1, [1]⟩, ⟨some ⟨b76, 0, none⟩, 1, [1]⟩, ⟨some ⟨b73, 0, none⟩, 2, [4, 9]⟩, ⟨some ⟨b72, 0, none⟩, 1, [3]⟩, ⟨some ⟨b71, 0, none⟩, 1, [2]⟩, x60, x55, x27, x23, x21, x19, x17, x15, Slv.nil] [⟨some ⟨b85, 0, none⟩, 2, [x15, ⟨some ⟨b84, 0, none⟩, 1, [90]⟩]⟩, ⟨some ⟨b82, 0, none⟩, 3, [x15, ⟨some ⟨b80, 0, none⟩, 1, [1]⟩, x17]⟩, ⟨some ⟨b78, 0, none⟩, 2, [⟨some ⟨b76, 0, none⟩, 1, [1]⟩, x15]⟩, ⟨some ⟨b75, 0, none⟩, 5, [x15, ⟨some ⟨b71, 0, none⟩, 1, [2]⟩, ⟨some ⟨b72, 0, none⟩, 1, [3]⟩, ⟨some ⟨b73, 0, none⟩, 2, [4, 9]⟩, x17]⟩, ⟨some ⟨b69, 0, none⟩, 2, [x15, x27]⟩, ⟨some ⟨b66, 0, none⟩, 3, [x15, x23, x17]⟩, ⟨some ⟨b62, 0, none⟩, 3, [x15, x60, x17]⟩, ⟨some ⟨b57, 0, none⟩, 2, [x55, x15]⟩, ⟨some ⟨b53, 0, none⟩, 2, [x15, x15]⟩, ⟨some ⟨b50, 0, none⟩, 7, [x15, x19, x21, x19, x21, x19, x17]⟩, ⟨some ⟨b42, 0, none⟩, 6, [x15, x19, x21, x19, x19, x17]⟩, ⟨some ⟨b35, 0, none⟩, 5, [x15, x17, x17, x19, x15]⟩, ⟨some ⟨b29, 0, none⟩, 1, [x17]⟩] := by
    subst e85
    exact (hW.grow (by repeat (first | exact SubH.nil _ | refine SubH.cons 0 rfl ?_ | refine SubH.cons 1 rfl ?_ | refine SubH.cons 2 rfl ?_ | refine SubH.cons 3 rfl ?_ | refine SubH.cons 4 rfl ?_ | refine SubH.cons 5 rfl ?_ | refine SubH.cons 6 rfl ?_ | refine SubH.cons 7 rfl ?_ | refine SubH.cons 8 rfl ?_ | refine SubH.cons 9 rfl ?_ | refine SubH.cons 10 rfl ?_ | refine SubH.cons 11 rfl ?_ | refine SubH.cons 12 rfl ?_ | refine SubH.cons 13 rfl ?_ | refine SubH.rown ?_))).addL (l := ⟨some ⟨b85, 0, none⟩, 2, [x15, ⟨some ⟨b84, 0, none⟩, 1, [90]⟩]⟩) (Vw.pick 0 rfl Vw.row) (by simp) (by simp)
  clear e85
  refine ops_eff' rfl (eff_lit sl32 rfl (sbld (cs := cel []) [] sl32 (by decide) (by kernel_rfl) rfl) rfl (by decide)) rfl ?_
  rintro _ _ ⟨b86, rfl, rfl⟩
  refine ops_pack fun V86 e86 => ?_
  replace hW : Wd V V86 (some ⟨b13, 0, none⟩) [⟨some ⟨b86, 0, none⟩, 0, []⟩, ⟨some ⟨b84, 0, none⟩, 1, [90]⟩, ⟨some ⟨b80, 0, none⟩, 1, [1]⟩, ⟨some ⟨b76, 0, none⟩, 1, [1]⟩, ⟨some ⟨b73, 0, none⟩, 2, [4, 9]⟩, ⟨some ⟨b72, 0, none⟩, 1, [3]⟩, ⟨some ⟨b71, 0, none⟩, 1, [2]⟩, x60, x55, x27, x23, x21, x19, x17, x15, Slv.nil] [⟨some ⟨b85, 0, none⟩, 2, [x15, ⟨some ⟨b84, 0, none⟩, 1, [90]⟩]⟩, ⟨some ⟨b82, 0, none⟩, 3, [x15, ⟨some ⟨b80, 0, none⟩, 1, [1]⟩, x17]⟩, ⟨some ⟨b78, 0, none⟩, 2, [⟨some ⟨b76, 0, none⟩, 1, [1]⟩, x15]⟩, ⟨some ⟨b75, 0, none⟩, 5, [x15, ⟨some ⟨b71, 0, none⟩, 1, [2]⟩, ⟨some ⟨b72, 0, none⟩, 1, [3]⟩, ⟨some ⟨b73, 0, none⟩, 2, [4, 9]⟩, x17]⟩, ⟨some ⟨b69, 0, none⟩, 2, [x15, x27]⟩, ⟨some ⟨b66, 0, none⟩, 3, [x15, x23, x17]⟩, ⟨some ⟨b62, 0, none⟩, 3, [x15, x60, x17]⟩, ⟨some ⟨b57, 0, none⟩, 2, [x55, x15]⟩, ⟨some ⟨b53, 0, none⟩, 2, [x15, x15]⟩, ⟨some ⟨b50, 0, none⟩, 7, [x15, x19, x21, x19, x21, x19, x17]⟩, ⟨some ⟨b42, 0, none⟩, 6, [x15, x19, x21, x19, x19, x17]⟩, ⟨some ⟨b35, 0, none⟩, 5, [x15, x17, x17, x19, x15]⟩, ⟨some ⟨b29, 0, none⟩, 1, [x17]⟩] := by
    subst e86
    exact (hW.grow (by repeat (first | exact SubH.nil _ | refine SubH.cons 0 rfl ?_ | refine SubH.cons 1 rfl ?_ | refine SubH.cons 2 rfl ?_ | refine SubH.cons 3 rfl ?_ | refine SubH.cons 4 rfl ?_ | refine SubH.cons 5 rfl ?_ | refine SubH.cons 6 rfl ?_ | refine SubH.cons 7 rfl ?_ | refine SubH.cons 8 rfl ?_ | refine SubH.cons 9 rfl ?_ | refine SubH.cons 10 rfl ?_ | refine SubH.cons 11 rfl ?_ | refine SubH.cons 12 rfl ?_ | refine SubH.cons 13 rfl ?_ | refine SubH.rown ?_))).addX (x := ⟨some ⟨b86, 0, none⟩, 0, []⟩) (Vw.pick 0 rfl Vw.row) (Nat.le_refl _) (by simp)
  clear e86
  refine ops_ro' rfl (ro_move rfl) rfl ?_
  refine ops_ro' rfl (ro_build rfl (bld_struct (cs := Ak.cs ⟨2, 0, [], [], [], [], none, 0⟩) st35 rfl)) rfl ?_
  refine ops_eff' rfl (eff_call Try.call16 rfl rfl (by repeat (first | exact Split.nil _ | apply Split.cons 0 rfl | apply Split.cons 1 rfl | apply Split.cons 2 rfl | apply Split.cons 3 rfl | apply Split.cons 4 rfl | apply Split.cons 5 rfl | apply Split.cons 6 rfl | apply Split.cons 7 rfl | apply Split.cons 8 rfl | apply Split.cons 9 rfl | apply Split.cons 10 rfl | apply Split.cons 11 rfl)) (payload_run V86 2 0 [] [] [] [] none 0 (Vw.nil _) (Nat.le_refl _))) rfl ?_
  rintro _ H' ⟨_, ⟨A89, pp, cc, rfl, hv, hc, rfl⟩, hH⟩
  simp only [List.cons_append, List.nil_append, List.eraseIdx_cons_zero, List.eraseIdx_cons_succ, List.set_cons_zero, List.set_cons_succ] at hH
  subst hH
  have hxl := payB_len ⟨2, 0, [], [], [], [], none, 0⟩
  generalize payB ⟨2, 0, [], [], [], [], none, 0⟩ = z at *
  obtain ⟨x89, hx89⟩ : ∃ x : Slv UInt8, x = ⟨pp, cc, z⟩ := ⟨_, rfl⟩
  obtain ⟨e1, e2, e3⟩ : pp = x89.p ∧ cc = x89.c ∧ z = x89.l := by subst hx89; exact ⟨rfl, rfl, rfl⟩
  subst e1 e2 e3
  clear hx89
  refine ops_pack fun V89 e89 => ?_
  replace hW : Wd V V89 (some ⟨b13, 0, none⟩) [x89, ⟨some ⟨b86, 0, none⟩, 0, []⟩, ⟨some ⟨b84, 0, none⟩, 1, [90]⟩, ⟨some ⟨b80, 0, none⟩, 1, [1]⟩, ⟨some ⟨b76, 0, none⟩, 1, [1]⟩, ⟨some ⟨b73, 0, none⟩, 2, [4, 9]⟩, ⟨some ⟨b72, 0, none⟩, 1, [3]⟩, ⟨some ⟨b71, 0, none⟩, 1, [2]⟩, x60, x55, x27, x23, x21, x19, x17, x15, Slv.nil] [⟨some ⟨b85, 0, none⟩, 2, [x15, ⟨some ⟨b84, 0, none⟩, 1, [90]⟩]⟩, ⟨some ⟨b82, 0, none⟩, 3, [x15, ⟨some ⟨b80, 0, none⟩, 1, [1]⟩, x17]⟩, ⟨some ⟨b78, 0, none⟩, 2, [⟨some ⟨b76, 0, none⟩, 1, [1]⟩, x15]⟩, ⟨some ⟨b75, 0, none⟩, 5, [x15, ⟨some ⟨b71, 0, none⟩, 1, [2]⟩, ⟨some ⟨b72, 0, none⟩, 1, [3]⟩, ⟨some ⟨b73, 0, none⟩, 2, [4, 9]⟩, x17]⟩, ⟨some ⟨b69, 0, none⟩, 2, [x15, x27]⟩, ⟨some ⟨b66, 0, none⟩, 3, [x15, x23, x17]⟩, ⟨some ⟨b62, 0, none⟩, 3, [x15, x60, x17]⟩, ⟨some ⟨b57, 0, none⟩, 2, [x55, x15]⟩, ⟨some ⟨b53, 0, none⟩, 2, [x15, x15]⟩, ⟨some ⟨b50, 0, none⟩, 7, [x15, x19, x21, x19, x21, x19, x17]⟩, ⟨some ⟨b42, 0, none⟩, 6, [x15, x19, x21, x19, x19, x17]⟩, ⟨some ⟨b35, 0, none⟩, 5, [x15, x17, x17, x19, x15]⟩, ⟨some ⟨b29, 0, none⟩, 1, [x17]⟩] := by
    subst e89
    exact (hW.grow (by repeat (first | exact SubH.nil _ | refine SubH.cons 0 rfl ?_ | refine SubH.cons 1 rfl ?_ | refine SubH.cons 2 rfl ?_ | refine SubH.cons 3 rfl ?_ | refine SubH.cons 4 rfl ?_ | refine SubH.cons 5 rfl ?_ | refine SubH.cons 6 rfl ?_ | refine SubH.cons 7 rfl ?_ | refine SubH.cons 8 rfl ?_ | refine SubH.cons 9 rfl ?_ | refine SubH.cons 10 rfl ?_ | refine SubH.cons 11 rfl ?_ | refine SubH.cons 12 rfl ?_ | refine SubH.cons 13 rfl ?_ | refine SubH.rown ?_))).addX (Vw.subH (by repeat (first | exact SubH.nil _ | refine SubH.cons 0 rfl ?_ | refine SubH.cons 1 rfl ?_ | refine SubH.cons 2 rfl ?_ | refine SubH.cons 3 rfl ?_ | refine SubH.cons 4 rfl ?_ | refine SubH.cons 5 rfl ?_ | refine SubH.cons 6 rfl ?_ | refine SubH.cons 7 rfl ?_ | refine SubH.cons 8 rfl ?_ | refine SubH.cons 9 rfl ?_ | refine SubH.cons 10 rfl ?_ | refine SubH.cons 11 rfl ?_ | refine SubH.cons 12 rfl ?_ | refine SubH.cons 13 rfl ?_ | refine SubH.rown ?_)) hv) hc (by omega)
  clear e89
  clear hv hc hxl
  refine ops_eff' rfl (eff_lit sl32 rfl (sbld (cs := cel [50]) [(.int .u8 0)] sl32 (by decide) (by kernel_rfl) rfl) rfl (by decide)) rfl ?_
  rintro _ _ ⟨b90, rfl, rfl⟩
  refine ops_pack fun V90 e90 => ?_
  replace hW : Wd V V90 (some ⟨b13, 0, none⟩) [⟨some ⟨b90, 0, none⟩, 1, [50]⟩, x89, ⟨some ⟨b86, 0, none⟩, 0, []⟩, ⟨some ⟨b84, 0, none⟩, 1, [90]⟩, ⟨some ⟨b80, 0, none⟩, 1, [1]⟩, ⟨some ⟨b76, 0, none⟩, 1, [1]⟩, ⟨some ⟨b73, 0, none⟩, 2, [4, 9]⟩, ⟨some ⟨b72, 0, none⟩, 1, [3]⟩, ⟨some ⟨b71, 0, none⟩, 1, [2]⟩, x60, x55, x27, x23, x21, x19, x17, x15, Slv.nil] [⟨some ⟨b85, 0, none⟩, 2, [x15, ⟨some ⟨b84, 0, none⟩, 1, [90]⟩]⟩, ⟨some ⟨b82, 0, none⟩, 3, [x15, ⟨some ⟨b80, 0, none⟩, 1, [1]⟩, x17]⟩, ⟨some ⟨b78, 0, none⟩, 2, [⟨some ⟨b76, 0, none⟩, 1, [1]⟩, x15]⟩, ⟨some ⟨b75, 0, none⟩, 5, [x15, ⟨some ⟨b71, 0, none⟩, 1, [2]⟩, ⟨some ⟨b72, 0, none⟩, 1, [3]⟩, ⟨some ⟨b73, 0, none⟩, 2, [4, 9]⟩, x17]⟩, ⟨some ⟨b69, 0, none⟩, 2, [x15, x27]⟩, ⟨some ⟨b66, 0, none⟩, 3, [x15, x23, x17]⟩, ⟨some ⟨b62, 0, none⟩, 3, [x15, x60, x17]⟩, ⟨some ⟨b57, 0, none⟩, 2, [x55, x15]⟩, ⟨some ⟨b53, 0, none⟩, 2, [x15, x15]⟩, ⟨some ⟨b50, 0, none⟩, 7, [x15, x19, x21, x19, x21, x19, x17]⟩, ⟨some ⟨b42, 0, none⟩, 6, [x15, x19, x21, x19, x19, x17]⟩, ⟨some ⟨b35, 0, none⟩, 5, [x15, x17, x17, x19, x15]⟩, ⟨some ⟨b29, 0, none⟩, 1, [x17]⟩] := by
    subst e90
    exact (hW.grow (by repeat (first | exact SubH.nil _ | refine SubH.cons 0 rfl ?_ | refine SubH.cons 1 rfl ?_ | refine SubH.cons 2 rfl ?_ | refine SubH.cons 3 rfl ?_ | refine SubH.cons 4 rfl ?_ | refine SubH.cons 5 rfl ?_ | refine SubH.cons 6 rfl ?_ | refine SubH.cons 7 rfl ?_ | refine SubH.cons 8 rfl ?_ | refine SubH.cons 9 rfl ?_ | refine SubH.cons 10 rfl ?_ | refine SubH.cons 11 rfl ?_ | refine SubH.cons 12 rfl ?_ | refine SubH.cons 13 rfl ?_ | refine SubH.rown ?_))).addX (x := ⟨some ⟨b90, 0, none⟩, 1, [50]⟩) (Vw.pick 0 rfl Vw.row) (Nat.le_refl _) (by simp)
  clear e90
  refine ops_eff' rfl (eff_lit sl36 rfl (sbld (cs := flat Sq.cs [Slv.nil, ⟨some ⟨b86, 0, none⟩, 0, []⟩, x15, x89, ⟨some ⟨b90, 0, none⟩, 1, [50]⟩]) [(.slice none 0 0), (.slice none 0 0), (.slice none 0 0), (.slice none 0 0), (.slice none 0 0)] sl36 (by decide) (by kernel_rfl) rfl) rfl (by decide)) rfl ?_
  rintro _ _ ⟨b91, rfl, rfl⟩
  refine ops_pack fun V91 e91 => ?_
  replace hW : Wd V V91 (some ⟨b13, 0, none⟩) [⟨some ⟨b90, 0, none⟩, 1, [50]⟩, x89, ⟨some ⟨b86, 0, none⟩, 0, []⟩, ⟨some ⟨b84, 0, none⟩, 1, [90]⟩, ⟨some ⟨b80, 0, none⟩, 1, [1]⟩, ⟨some ⟨b76, 0, none⟩, 1, [1]⟩, ⟨some ⟨b73, 0, none⟩, 2, [4, 9]⟩, ⟨some ⟨b72, 0, none⟩, 1, [3]⟩, ⟨some ⟨b71, 0, none⟩, 1, [2]⟩, x60, x55, x27, x23, x21, x19, x17, x15, Slv.nil] [⟨some ⟨b91, 0, none⟩, 5, [Slv.nil, ⟨some ⟨b86, 0, none⟩, 0, []⟩, x15, x89, ⟨some ⟨b90, 0, none⟩, 1, [50]⟩]⟩, ⟨some ⟨b85, 0, none⟩, 2, [x15, ⟨some ⟨b84, 0, none⟩, 1, [90]⟩]⟩, ⟨some ⟨b82, 0, none⟩, 3, [x15, ⟨some ⟨b80, 0, none⟩, 1, [1]⟩, x17]⟩, ⟨some ⟨b78, 0, none⟩, 2, [⟨some ⟨b76, 0, none⟩, 1, [1]⟩, x15]⟩, ⟨some ⟨b75, 0, none⟩, 5, [x15, ⟨some ⟨b71, 0, none⟩, 1, [2]⟩, ⟨some ⟨b72, 0, none⟩, 1, [3]⟩, ⟨some ⟨b73, 0, none⟩, 2, [4, 9]⟩, x17]⟩, ⟨some ⟨b69, 0, none⟩, 2, [x15, x27]⟩, ⟨some ⟨b66, 0, none⟩, 3, [x15, x23, x17]⟩, ⟨some ⟨b62, 0, none⟩, 3, [x15, x60, x17]⟩, ⟨some ⟨b57, 0, none⟩, 2, [x55, x15]⟩, ⟨some ⟨b53, 0, none⟩, 2, [x15, x15]⟩, ⟨some ⟨b50, 0, none⟩, 7, [x15, x19, x21, x19, x21, x19, x17]⟩, ⟨some ⟨b42, 0, none⟩, 6, [x15, x19, x21, x19, x19, x17]⟩, ⟨some ⟨b35, 0, none⟩, 5, [x15, x17, x17, x19, x15]⟩, ⟨some ⟨b29, 0, none⟩, 1, [x17]⟩] := by
    subst e91
    exact (hW.grow (by repeat (first | exact SubH.nil _ | refine SubH.cons 0 rfl ?_ | refine SubH.cons 1 rfl ?_ | refine SubH.cons 2 rfl ?_ | refine SubH.cons 3 rfl ?_ | refine SubH.cons 4 rfl ?_ | refine SubH.cons 5 rfl ?_ | refine SubH.cons 6 rfl ?_ | refine SubH.cons 7 rfl ?_ | refine SubH.cons 8 rfl ?_ | refine SubH.cons 9 rfl ?_ | refine SubH.cons 10 rfl ?_ | refine SubH.cons 11 rfl ?_ | refine SubH.cons 12 rfl ?_ | refine SubH.cons 13 rfl ?_ | refine SubH.rown ?_))).addL (l := ⟨some ⟨b91, 0, none⟩, 5, [Slv.nil, ⟨some ⟨b86, 0, none⟩, 0, []⟩, x15, x89, ⟨some ⟨b90, 0, none⟩, 1, [50]⟩]⟩) (Vw.pick 0 rfl Vw.row) (by simp) (by simp)
  clear e91
  refine ops_ro' rfl (ro_move rfl) rfl ?_
  refine ops_ro' rfl (ro_build rfl (bld_struct (cs := Ak.cs ⟨2, 0, [117], [113], [], [], none, 0⟩) st35 rfl)) rfl ?_
  refine ops_eff' rfl (eff_call Try.call16 rfl rfl (by repeat (first | exact Split.nil _ | apply Split.cons 0 rfl | apply Split.cons 1 rfl | apply Split.cons 2 rfl | apply Split.cons 3 rfl | apply Split.cons 4 rfl | apply Split.cons 5 rfl | apply Split.cons 6 rfl | apply Split.cons 7 rfl | apply Split.cons 8 rfl | apply Split.cons 9 rfl | apply Split.cons 10 rfl | apply Split.cons 11 rfl)) (payload_run V91 2 0 [117] [113] [] [] none 0 (Vw.nil _) (Nat.le_refl _))) rfl ?_
  rintro _ H' ⟨_, ⟨A94, pp, cc, rfl, hv, hc, rfl⟩, hH⟩
  simp only [List.cons_append, List.nil_append, List.eraseIdx_cons_zero, List.eraseIdx_cons_succ, List.set_cons_zero, List.set_cons_succ] at hH
  subst hH
  have hxl := payB_len ⟨2, 0, [117], [113], [], [], none, 0⟩
  generalize payB ⟨2, 0, [117], [113], [], [], none, 0⟩ = z at *
  obtain ⟨x94, hx94⟩ : ∃ x : Slv UInt8, x = ⟨pp, cc, z⟩ := ⟨_, rfl⟩
  obtain ⟨e1, e2, e3⟩ : pp = x94.p ∧ cc = x94.c ∧ z = x94.l := by subst hx94; exact ⟨rfl, rfl, rfl⟩
  subst e1 e2 e3
  clear hx94
  refine ops_pack fun V94 e94 => ?_
  replace hW : Wd V V94 (some ⟨b13, 0, none⟩) [x94, ⟨some ⟨b90, 0, none⟩, 1, [50]⟩, x89, ⟨some ⟨b86, 0, none⟩, 0, []⟩, ⟨some ⟨b84, 0, none⟩, 1, [90]⟩, ⟨some ⟨b80, 0, none⟩, 1, [1]⟩, ⟨some ⟨b76, 0, none⟩, 1, [1]⟩, ⟨some ⟨b73, 0, none⟩, 2, [4, 9]⟩, ⟨some ⟨b72, 0, none⟩, 1, [3]⟩, ⟨some ⟨b71, 0, none⟩, 1, [2]⟩, x60, x55, x27, x23, x21, x19, x17, x15, Slv.nil] [⟨some ⟨b91, 0, none⟩, 5, [Slv.nil, ⟨some ⟨b86, 0, none⟩, 0, []⟩, x15, x89, ⟨some ⟨b90, 0, none⟩, 1, [50]⟩]⟩, ⟨some ⟨b85, 0, none⟩, 2, [x15, ⟨some ⟨b84, 0, none⟩, 1, [90]⟩]⟩, ⟨some ⟨b82, 0, none⟩, 3, [x15, ⟨some ⟨b80, 0, none⟩, 1, [1]⟩, x17]⟩, ⟨some ⟨b78, 0, none⟩, 2, [⟨some ⟨b76, 0, none⟩, 1, [1]⟩, x15]⟩, ⟨some ⟨b75, 0, none⟩, 5, [x15, ⟨some ⟨b71, 0, none⟩, 1, [2]⟩, ⟨some ⟨b72, 0, none⟩, 1, [3]⟩, ⟨some ⟨b73, 0, none⟩, 2, [4, 9]⟩, x17]⟩, ⟨some ⟨b69, 0, none⟩, 2, [x15, x27]⟩, ⟨some ⟨b66, 0, none⟩, 3, [x15, x23, x17]⟩, ⟨some ⟨b62, 0, none⟩, 3, [x15, x60, x17]⟩, ⟨some ⟨b57, 0, none⟩, 2, [x55, x15]⟩, ⟨some ⟨b53, 0, none⟩, 2, [x15, x15]⟩, ⟨some ⟨b50, 0, none⟩, 7, [x15, x19, x21, x19, x21, x19, x17]⟩, ⟨some ⟨b42, 0, none⟩, 6, [x15, x19, x21, x19, x19, x17]⟩, ⟨some ⟨b35, 0, none⟩, 5, [x15, x17, x17, x19, x15]⟩, ⟨some ⟨b29, 0, none⟩, 1, [x17]⟩] := by
    subst e94
    exact (hW.grow (by repeat (first | exact SubH.nil _ | refine SubH.cons 0 rfl ?_ | refine SubH.cons 1 rfl ?_ | refine SubH.cons 2 rfl ?_ | refine SubH.cons 3 rfl ?_ | refine SubH.cons 4 rfl ?_ | refine SubH.cons 5 rfl ?_ | refine SubH.cons 6 rfl ?_ | refine SubH.cons 7 rfl ?_ | refine SubH.cons 8 rfl ?_ | refine SubH.cons 9 rfl ?_ | refine SubH.cons 10 rfl ?_ | refine SubH.cons 11 rfl ?_ | refine SubH.cons 12 rfl ?_ | refine SubH.cons 13 rfl ?_ | refine SubH.rown ?_))).addX (Vw.subH (by repeat (first | exact SubH.nil _ | refine SubH.cons 0 rfl ?_ | refine SubH.cons 1 rfl ?_ | refine SubH.cons 2 rfl ?_ | refine SubH.cons 3 rfl ?_ | refine SubH.cons 4 rfl ?_ | refine SubH.cons 5 rfl ?_ | refine SubH.cons 6 rfl ?_ | refine SubH.cons 7 rfl ?_ | refine SubH.cons 8 rfl ?_ | refine SubH.cons 9 rfl ?_ | refine SubH.cons 10 rfl ?_ | refine SubH.cons 11 rfl ?_ | refine SubH.cons 12 rfl ?_ | refine SubH.cons 13 rfl ?_ | refine SubH.rown ?_)) hv) hc (by omega)
  clear e94
  clear hv hc hxl
  refine ops_eff' rfl (eff_lit sl36 rfl (sbld (cs := flat Sq.cs [x15, x94]) [(.slice none 0 0), (.slice none 0 0)] sl36 (by decide) (by kernel_rfl) rfl) rfl (by decide)) rfl ?_
  rintro _ _ ⟨b95, rfl, rfl⟩
  refine ops_pack fun V95 e95 => ?_
  replace hW : Wd V V95 (some ⟨b13, 0, none⟩) [x94, ⟨some ⟨b90, 0, none⟩, 1, [50]⟩, x89, ⟨some ⟨b86, 0, none⟩, 0, []⟩, ⟨some ⟨b84, 0, none⟩, 1, [90]⟩, ⟨some ⟨b80, 0, none⟩, 1, [1]⟩, ⟨some ⟨b76, 0, none⟩, 1, [1]⟩, ⟨some ⟨b73, 0, none⟩, 2, [4, 9]⟩, ⟨some ⟨b72, 0, none⟩, 1, [3]⟩, ⟨some ⟨b71, 0, none⟩, 1, [2]⟩, x60, x55, x27, x23, x21, x19, x17, x15, Slv.nil] [⟨some ⟨b95, 0, none⟩, 2, [x15, x94]⟩, ⟨some ⟨b91, 0, none⟩, 5, [Slv.nil, ⟨some ⟨b86, 0, none⟩, 0, []⟩, x15, x89, ⟨some ⟨b90, 0, none⟩, 1, [50]⟩]⟩, ⟨some ⟨b85, 0, none⟩, 2, [x15, ⟨some ⟨b84, 0, none⟩, 1, [90]⟩]⟩, ⟨some ⟨b82, 0, none⟩, 3, [x15, ⟨some ⟨b80, 0, none⟩, 1, [1]⟩, x17]⟩, ⟨some ⟨b78, 0, none⟩, 2, [⟨some ⟨b76, 0, none⟩, 1, [1]⟩, x15]⟩, ⟨some ⟨b75, 0, none⟩, 5, [x15, ⟨some ⟨b71, 0, none⟩, 1, [2]⟩, ⟨some ⟨b72, 0, none⟩, 1, [3]⟩, ⟨some ⟨b73, 0, none⟩, 2, [4, 9]⟩, x17]⟩, ⟨some ⟨b69, 0, none⟩, 2, [x15, x27]⟩, ⟨some ⟨b66, 0, none⟩, 3, [x15, x23, x17]⟩, ⟨some ⟨b62, 0, none⟩, 3, [x15, x60, x17]⟩, ⟨some ⟨b57, 0, none⟩, 2, [x55, x15]⟩, ⟨some ⟨b53, 0, none⟩, 2, [x15, x15]⟩, ⟨some ⟨b50, 0, none⟩, 7, [x15, x19, x21, x19, x21, x19, x17]⟩, ⟨some ⟨b42, 0, none⟩, 6, [x15, x19, x21, x19, x19, x17]⟩, ⟨some ⟨b35, 0, none⟩, 5, [x15, x17, x17, x19, x15]⟩, ⟨some ⟨b29, 0, none⟩, 1, [x17]⟩] := by
    subst e95
    exact (hW.grow (by repeat (first | exact SubH.nil _ | refine SubH.cons 0 rfl ?_ | refine SubH.cons 1 rfl ?_ | refine SubH.cons 2 rfl ?_ | refine SubH.cons 3 rfl ?_ | refine SubH.cons 4 rfl ?_ | refine SubH.cons 5 rfl ?_ | refine SubH.cons 6 rfl ?_ | refine SubH.cons 7 rfl ?_ | refine SubH.cons 8 rfl ?_ | refine SubH.cons 9 rfl ?_ | refine SubH.cons 10 rfl ?_ | refine SubH.cons 11 rfl ?_ | refine SubH.cons 12 rfl ?_ | refine SubH.cons 13 rfl ?_ | refine SubH.rown ?_))).addL (l := ⟨some ⟨b95, 0, none⟩, 2, [x15, x94]⟩) (Vw.pick 0 rfl Vw.row) (by simp) (by simp)
  clear e95
  refine ops_ro' rfl (ro_move rfl) rfl ?_
  refine ops_eff' rfl (eff_lit sl32 rfl (sbld (cs := cel []) [] sl32 (by decide) (by kernel_rfl) rfl) rfl (by decide)) rfl ?_
  rintro _ _ ⟨b97, rfl, rfl⟩
  refine ops_ro' rfl (ro_move rfl) rfl ?_
  refine ops_eff' rfl (eff_appB (l := []) (l2 := x17.l) 0 sl32 (.inl ⟨5, Try.underlying32⟩) rfl rfl rfl (by first | exact Src.strl | exact Src.celv (Vw.pick 0 rfl (hW.x x15 (by simp)).1) | exact Src.celv (Vw.pick 1 rfl (hW.x x15 (by simp)).1) | exact Src.celv (Vw.pick 2 rfl (hW.x x15 (by simp)).1) | exact Src.celv (Vw.pick 3 rfl (hW.x x15 (by simp)).1) | exact Src.celv (Vw.pick 4 rfl (hW.x x15 (by simp)).1) | exact Src.celv (Vw.pick 5 rfl (hW.x x15 (by simp)).1) | exact Src.celv (Vw.pick 6 rfl (hW.x x15 (by simp)).1) | exact Src.celv (Vw.pick 7 rfl (hW.x x15 (by simp)).1) | exact Src.celv (Vw.pick 8 rfl (hW.x x15 (by simp)).1) | exact Src.celv (Vw.pick 0 rfl (hW.x x17 (by simp)).1) | exact Src.celv (Vw.pick 1 rfl (hW.x x17 (by simp)).1) | exact Src.celv (Vw.pick 2 rfl (hW.x x17 (by simp)).1) | exact Src.celv (Vw.pick 3 rfl (hW.x x17 (by simp)).1) | exact Src.celv (Vw.pick 4 rfl (hW.x x17 (by simp)).1) | exact Src.celv (Vw.pick 5 rfl (hW.x x17 (by simp)).1) | exact Src.celv (Vw.pick 6 rfl (hW.x x17 (by simp)).1) | exact Src.celv (Vw.pick 7 rfl (hW.x x17 (by simp)).1) | exact Src.celv (Vw.pick 8 rfl (hW.x x17 (by simp)).1) | exact Src.celv (Vw.pick 0 rfl Vw.row) | exact Src.celv (Vw.pick 1 rfl Vw.row) | exact Src.celv (Vw.pick 2 rfl Vw.row) | exact Src.celv (Vw.pick 3 rfl Vw.row) | exact Src.celv (Vw.pick 4 rfl Vw.row) | exact Src.celv (Vw.pick 5 rfl Vw.row) | exact Src.celv (Vw.pick 6 rfl Vw.row) | exact Src.celv (Vw.pick 7 rfl Vw.row) | exact Src.celv (Vw.pick 8 rfl Vw.row)) (by have h9 := (hW.x x17 (by simp)).2.2; simp only [List.length_cons, List.length_nil] at *; omega)) rfl ?_
  rintro _ _ ⟨p99, c99, rfl, hn99, rfl⟩
  simp only [List.set_cons_zero, List.set_cons_succ, List.nil_append]
  have hxl99 := (hW.x x17 (by simp)).2.2
  refine ops_eff' rfl (eff_lit sl32 rfl (sbld (cs := cel [0]) [(.int .u8 0)] sl32 (by decide) (by kernel_rfl) rfl) rfl (by decide)) rfl ?_
  rintro _ _ ⟨b100, rfl, rfl⟩
  refine ops_eff' rfl (eff_appB (l2 := [0]) 1 sl32 (.inl ⟨5, Try.underlying32⟩) rfl rfl rfl (by first | exact Src.strl | exact Src.celv (Vw.pick 0 rfl (hW.x x15 (by simp)).1) | exact Src.celv (Vw.pick 1 rfl (hW.x x15 (by simp)).1) | exact Src.celv (Vw.pick 2 rfl (hW.x x15 (by simp)).1) | exact Src.celv (Vw.pick 3 rfl (hW.x x15 (by simp)).1) | exact Src.celv (Vw.pick 4 rfl (hW.x x15 (by simp)).1) | exact Src.celv (Vw.pick 5 rfl (hW.x x15 (by simp)).1) | exact Src.celv (Vw.pick 6 rfl (hW.x x15 (by simp)).1) | exact Src.celv (Vw.pick 7 rfl (hW.x x15 (by simp)).1) | exact Src.celv (Vw.pick 8 rfl (hW.x x15 (by simp)).1) | exact Src.celv (Vw.pick 0 rfl (hW.x x17 (by simp)).1) | exact Src.celv (Vw.pick 1 rfl (hW.x x17 (by simp)).1) | exact Src.celv (Vw.pick 2 rfl (hW.x x17 (by simp)).1) | exact Src.celv (Vw.pick 3 rfl (hW.x x17 (by simp)).1) | exact Src.celv (Vw.pick 4 rfl (hW.x x17 (by simp)).1) | exact Src.celv (Vw.pick 5 rfl (hW.x x17 (by simp)).1) | exact Src.celv (Vw.pick 6 rfl (hW.x x17 (by simp)).1) | exact Src.celv (Vw.pick 7 rfl (hW.x x17 (by simp)).1) | exact Src.celv (Vw.pick 8 rfl (hW.x x17 (by simp)).1) | exact Src.celv (Vw.pick 0 rfl Vw.row) | exact Src.celv (Vw.pick 1 rfl Vw.row) | exact Src.celv (Vw.pick 2 rfl Vw.row) | exact Src.celv (Vw.pick 3 rfl Vw.row) | exact Src.celv (Vw.pick 4 rfl Vw.row) | exact Src.celv (Vw.pick 5 rfl Vw.row) | exact Src.celv (Vw.pick 6 rfl Vw.row) | exact Src.celv (Vw.pick 7 rfl Vw.row) | exact Src.celv (Vw.pick 8 rfl Vw.row)) (by first | omega | (simp only [List.length_append, List.length_cons, List.length_nil, List.length_take, List.length_drop] at *; omega))) rfl ?_
  rintro _ _ ⟨p101, c101, rfl, hn101, rfl⟩
  simp only [List.set_cons_zero, List.set_cons_succ]
  refine ops_know (fun w F s => row_caps 1 rfl s) ?_
  intro hcp
  refine ops_pack fun V101 e101 => ?_
  replace hW : Wd V V101 (some ⟨b13, 0, none⟩) [⟨p101, c101, x17.l ++ [0]⟩, x94, ⟨some ⟨b90, 0, none⟩, 1, [50]⟩, x89, ⟨some ⟨b86, 0, none⟩, 0, []⟩, ⟨some ⟨b84, 0, none⟩, 1, [90]⟩, ⟨some ⟨b80, 0, none⟩, 1, [1]⟩, ⟨some ⟨b76, 0, none⟩, 1, [1]⟩, ⟨some ⟨b73, 0, none⟩, 2, [4, 9]⟩, ⟨some ⟨b72, 0, none⟩, 1, [3]⟩, ⟨some ⟨b71, 0, none⟩, 1, [2]⟩, x60, x55, x27, x23, x21, x19, x17, x15, Slv.nil] [⟨some ⟨b95, 0, none⟩, 2, [x15, x94]⟩, ⟨some ⟨b91, 0, none⟩, 5, [Slv.nil, ⟨some ⟨b86, 0, none⟩, 0, []⟩, x15, x89, ⟨some ⟨b90, 0, none⟩, 1, [50]⟩]⟩, ⟨some ⟨b85, 0, none⟩, 2, [x15, ⟨some ⟨b84, 0, none⟩, 1, [90]⟩]⟩, ⟨some ⟨b82, 0, none⟩, 3, [x15, ⟨some ⟨b80, 0, none⟩, 1, [1]⟩, x17]⟩, ⟨some ⟨b78, 0, none⟩, 2, [⟨some ⟨b76, 0, none⟩, 1, [1]⟩, x15]⟩, ⟨some ⟨b75, 0, none⟩, 5, [x15, ⟨some ⟨b71, 0, none⟩, 1, [2]⟩, ⟨some ⟨b72, 0, none⟩, 1, [3]⟩, ⟨some ⟨b73, 0, none⟩, 2, [4, 9]⟩, x17]⟩, ⟨some ⟨b69, 0, none⟩, 2, [x15, x27]⟩, ⟨some ⟨b66, 0, none⟩, 3, [x15, x23, x17]⟩, ⟨some ⟨b62, 0, none⟩, 3, [x15, x60, x17]⟩, ⟨some ⟨b57, 0, none⟩, 2, [x55, x15]⟩, ⟨some ⟨b53, 0, none⟩, 2, [x15, x15]⟩, ⟨some ⟨b50, 0, none⟩, 7, [x15, x19, x21, x19, x21, x19, x17]⟩, ⟨some ⟨b42, 0, none⟩, 6, [x15, x19, x21, x19, x19, x17]⟩, ⟨some ⟨b35, 0, none⟩, 5, [x15, x17, x17, x19, x15]⟩, ⟨some ⟨b29, 0, none⟩, 1, [x17]⟩] := by
    subst e101
    exact (hW.grow (by repeat (first | exact SubH.nil _ | refine SubH.cons 0 rfl ?_ | refine SubH.cons 1 rfl ?_ | refine SubH.cons 2 rfl ?_ | refine SubH.cons 3 rfl ?_ | refine SubH.cons 4 rfl ?_ | refine SubH.cons 5 rfl ?_ | refine SubH.cons 6 rfl ?_ | refine SubH.cons 7 rfl ?_ | refine SubH.cons 8 rfl ?_ | refine SubH.cons 9 rfl ?_ | refine SubH.cons 10 rfl ?_ | refine SubH.cons 11 rfl ?_ | refine SubH.cons 12 rfl ?_ | refine SubH.cons 13 rfl ?_ | refine SubH.rown ?_))).addX (x := ⟨p101, c101, x17.l ++ [0]⟩) (Vw.pick 1 rfl Vw.row) hcp (by simp only [List.length_append, List.length_cons, List.length_nil]; omega)
  clear e101
  refine ops_eff' rfl (eff_lit sl36 rfl (sbld (cs := flat Sq.cs [x15, ⟨p101, c101, x17.l ++ [0]⟩]) [(.slice none 0 0), (.slice none 0 0)] sl36 (by decide) (by kernel_rfl) rfl) rfl (by decide)) rfl ?_
  rintro _ _ ⟨b102, rfl, rfl⟩
  refine ops_pack fun V102 e102 => ?_
  replace hW : Wd V V102 (some ⟨b13, 0, none⟩) [⟨p101, c101, x17.l ++ [0]⟩, x94, ⟨some ⟨b90, 0, none⟩, 1, [50]⟩, x89, ⟨some ⟨b86, 0, none⟩, 0, []⟩, ⟨some ⟨b84, 0, none⟩, 1, [90]⟩, ⟨some ⟨b80, 0, none⟩, 1, [1]⟩, ⟨some ⟨b76, 0, none⟩, 1, [1]⟩, ⟨some ⟨b73, 0, none⟩, 2, [4, 9]⟩, ⟨some ⟨b72, 0, none⟩, 1, [3]⟩, ⟨some ⟨b71, 0, none⟩, 1, [2]⟩, x60, x55, x27, x23, x21, x19, x17, x15, Slv.nil] [⟨some ⟨b102, 0, none⟩, 2, [x15, ⟨p101, c101, x17.l ++ [0]⟩]⟩, ⟨some ⟨b95, 0, none⟩, 2, [x15, x94]⟩, ⟨some ⟨b91, 0, none⟩, 5, [Slv.nil, ⟨some ⟨b86, 0, none⟩, 0, []⟩, x15, x89, ⟨some ⟨b90, 0, none⟩, 1, [50]⟩]⟩, ⟨some ⟨b85, 0, none⟩, 2, [x15, ⟨some ⟨b84, 0, none⟩, 1, [90]⟩]⟩, ⟨some ⟨b82, 0, none⟩, 3, [x15, ⟨some ⟨b80, 0, none⟩, 1, [1]⟩, x17]⟩, ⟨some ⟨b78, 0, none⟩, 2, [⟨some ⟨b76, 0, none⟩, 1, [1]⟩, x15]⟩, ⟨some ⟨b75, 0, none⟩, 5, [x15, ⟨some ⟨b71, 0, none⟩, 1, [2]⟩, ⟨some ⟨b72, 0, none⟩, 1, [3]⟩, ⟨some ⟨b73, 0, none⟩, 2, [4, 9]⟩, x17]⟩, ⟨some ⟨b69, 0, none⟩, 2, [x15, x27]⟩, ⟨some ⟨b66, 0, none⟩, 3, [x15, x23, x17]⟩, ⟨some ⟨b62, 0, none⟩, 3, [x15, x60, x17]⟩, ⟨some ⟨b57, 0, none⟩, 2, [x55, x15]⟩, ⟨some ⟨b53, 0, none⟩, 2, [x15, x15]⟩, ⟨some ⟨b50, 0, none⟩, 7, [x15, x19, x21, x19, x21, x19, x17]⟩, ⟨some ⟨b42, 0, none⟩, 6, [x15, x19, x21, x19, x19, x17]⟩, ⟨some ⟨b35, 0, none⟩, 5, [x15, x17, x17, x19, x15]⟩, ⟨some ⟨b29, 0, none⟩, 1, [x17]⟩] := by
    subst e102
    exact (hW.grow (by repeat (first | exact SubH.nil _ | refine SubH.cons 0 rfl ?_ | refine SubH.cons 1 rfl ?_ | refine SubH.cons 2 rfl ?_ | refine SubH.cons 3 rfl ?_ | refine SubH.cons 4 rfl ?_ | refine SubH.cons 5 rfl ?_ | refine SubH.cons 6 rfl ?_ | refine SubH.cons 7 rfl ?_ | refine SubH.cons 8 rfl ?_ | refine SubH.cons 9 rfl ?_ | refine SubH.cons 10 rfl ?_ | refine SubH.cons 11 rfl ?_ | refine SubH.cons 12 rfl ?_ | refine SubH.cons 13 rfl ?_ | refine SubH.rown ?_))).addL (l := ⟨some ⟨b102, 0, none⟩, 2, [x15, ⟨p101, c101, x17.l ++ [0]⟩]⟩) (Vw.pick 0 rfl Vw.row) (by simp) (by simp)
  clear e102
  refine ops_eff' rfl (eff_lit sl32 rfl (sbld (cs := cel []) [] sl32 (by decide) (by kernel_rfl) rfl) rfl (by decide)) rfl ?_
  rintro _ _ ⟨b103, rfl, rfl⟩
  refine ops_ro' rfl (ro_move rfl) rfl ?_
  refine ops_eff' rfl (eff_appB (l := []) (l2 := x15.l) 0 sl32 (.inl ⟨5, Try.underlying32⟩) rfl rfl rfl (by first | exact Src.strl | exact Src.celv (Vw.pick 0 rfl (hW.x x15 (by simp)).1) | exact Src.celv (Vw.pick 1 rfl (hW.x x15 (by simp)).1) | exact Src.celv (Vw.pick 2 rfl (hW.x x15 (by simp)).1) | exact Src.celv (Vw.pick 3 rfl (hW.x x15 (by simp)).1) | exact Src.celv (Vw.pick 4 rfl (hW.x x15 (by simp)).1) | exact Src.celv (Vw.pick 5 rfl (hW.x x15 (by simp)).1) | exact Src.celv (Vw.pick 6 rfl (hW.x x15 (by simp)).1) | exact Src.celv (Vw.pick 7 rfl (hW.x x15 (by simp)).1) | exact Src.celv (Vw.pick 8 rfl (hW.x x15 (by simp)).1) | exact Src.celv (Vw.pick 0 rfl (hW.x x17 (by simp)).1) | exact Src.celv (Vw.pick 1 rfl (hW.x x17 (by simp)).1) | exact Src.celv (Vw.pick 2 rfl (hW.x x17 (by simp)).1) | exact Src.celv (Vw.pick 3 rfl (hW.x x17 (by simp)).1) | exact Src.celv (Vw.pick 4 rfl (hW.x x17 (by simp)).1) | exact Src.celv (Vw.pick 5 rfl (hW.x x17 (by simp)).1) | exact Src.celv (Vw.pick 6 rfl (hW.x x17 (by simp)).1) | exact Src.celv (Vw.pick 7 rfl (hW.x x17 (by simp)).1) | exact Src.celv (Vw.pick 8 rfl (hW.x x17 (by simp)).1) | exact Src.celv (Vw.pick 0 rfl Vw.row) | exact Src.celv (Vw.pick 1 rfl Vw.row) | exact Src.celv (Vw.pick 2 rfl Vw.row) | exact Src.celv (Vw.pick 3 rfl Vw.row) | exact Src.celv (Vw.pick 4 rfl Vw.row) | exact Src.celv (Vw.pick 5 rfl Vw.row) | exact Src.celv (Vw.pick 6 rfl Vw.row) | exact Src.celv (Vw.pick 7 rfl Vw.row) | exact Src.celv (Vw.pick 8 rfl Vw.row)) (by have h9 := (hW.x x15 (by simp)).2.2; simp only [List.length_cons, List.length_nil] at *; omega)) rfl ?_
  rintro _ _ ⟨p105, c105, rfl, hn105, rfl⟩
  simp only [List.set_cons_zero, List.set_cons_succ, List.nil_append]
  have hxl105 := (hW.x x15 (by simp)).2.2
  refine ops_eff' rfl (eff_lit sl32 rfl (sbld (cs := cel [0]) [(.int .u8 0)] sl32 (by decide) (by kernel_rfl) rfl) rfl (by decide)) rfl ?_
  rintro _ _ ⟨b106, rfl, rfl⟩
  refine ops_eff' rfl (eff_appB (l2 := [0]) 1 sl32 (.inl ⟨5, Try.underlying32⟩) rfl rfl rfl (by first | exact Src.strl | exact Src.celv (Vw.pick 0 rfl (hW.x x15 (by simp)).1) | exact Src.celv (Vw.pick 1 rfl (hW.x x15 (by simp)).1) | exact Src.celv (Vw.pick 2 rfl (hW.x x15 (by simp)).1) | exact Src.celv (Vw.pick 3 rfl (hW.x x15 (by simp)).1) | exact Src.celv (Vw.pick 4 rfl (hW.x x15 (by simp)).1) | exact Src.celv (Vw.pick 5 rfl (hW.x x15 (by simp)).1) | exact Src.celv (Vw.pick 6 rfl (hW.x x15 (by simp)).1) | exact Src.celv (Vw.pick 7 rfl (hW.x x15 (by simp)).1) | exact Src.celv (Vw.pick 8 rfl (hW.x x15 (by simp)).1) | exact Src.celv (Vw.pick 0 rfl (hW.x x17 (by simp)).1) | exact Src.celv (Vw.pick 1 rfl (hW.x x17 (by simp)).1) | exact Src.celv (Vw.pick 2 rfl (hW.x x17 (by simp)).1) | exact Src.celv (Vw.pick 3 rfl (hW.x x17 (by simp)).1) | exact Src.celv (Vw.pick 4 rfl (hW.x x17 (by simp)).1) | exact Src.celv (Vw.pick 5 rfl (hW.x x17 (by simp)).1) | exact Src.celv (Vw.pick 6 rfl (hW.x x17 (by simp)).1) | exact Src.celv (Vw.pick 7 rfl (hW.x x17 (by simp)).1) | exact Src.celv (Vw.pick 8 rfl (hW.x x17 (by simp)).1) | exact Src.celv (Vw.pick 0 rfl Vw.row) | exact Src.celv (Vw.pick 1 rfl Vw.row) | exact Src.celv (Vw.pick 2 rfl Vw.row) | exact Src.celv (Vw.pick 3 rfl Vw.row) | exact Src.celv (Vw.pick 4 rfl Vw.row) | exact Src.celv (Vw.pick 5 rfl Vw.row) | exact Src.celv (Vw.pick 6 rfl Vw.row) | exact Src.celv (Vw.pick 7 rfl Vw.row) | exact Src.celv (Vw.pick 8 rfl Vw.row)) (by first | omega | (simp only [List.length_append, List.length_cons, List.length_nil, List.length_take, List.length_drop] at *; omega))) rfl ?_
  rintro _ _ ⟨p107, c107, rfl, hn107, rfl⟩
  simp only [List.set_cons_zero, List.set_cons_succ]
  refine ops_know (fun w F s => row_caps 1 rfl s) ?_
  intro hcp
  refine ops_pack fun V107 e107 => ?_
  replace hW : Wd V V107 (some ⟨b13, 0, none⟩) [⟨p107, c107, x15.l ++ [0]⟩, ⟨p101, c101, x17.l ++ [0]⟩, x94, ⟨some ⟨b90, 0, none⟩, 1, [50]⟩, x89, ⟨some ⟨b86, 0, none⟩, 0, []⟩, ⟨some ⟨b84, 0, none⟩, 1, [90]⟩, ⟨some ⟨b80, 0, none⟩, 1, [1]⟩, ⟨some ⟨b76, 0, none⟩, 1, [1]⟩, ⟨some ⟨b73, 0, none⟩, 2, [4, 9]⟩, ⟨some ⟨b72, 0, none⟩, 1, [3]⟩, ⟨some ⟨b71, 0, none⟩, 1, [2]⟩, x60, x55, x27, x23, x21, x19, x17, x15, Slv.nil] [⟨some ⟨b102, 0, none⟩, 2, [x15, ⟨p101, c101, x17.l ++ [0]⟩]⟩, ⟨some ⟨b95, 0, none⟩, 2, [x15, x94]⟩, ⟨some ⟨b91, 0, none⟩, 5, [Slv.nil, ⟨some ⟨b86, 0, none⟩, 0, []⟩, x15, x89, ⟨some ⟨b90, 0, none⟩, 1, [50]⟩]⟩, ⟨some ⟨b85, 0, none⟩, 2, [x15, ⟨some ⟨b84, 0, none⟩, 1, [90]⟩]⟩, ⟨some ⟨b82, 0, none⟩, 3, [x15, ⟨some ⟨b80, 0, none⟩, 1, [1]⟩, x17]⟩, ⟨some ⟨b78, 0, none⟩, 2, [⟨some ⟨b76, 0, none⟩, 1, [1]⟩, x15]⟩, ⟨some ⟨b75, 0, none⟩, 5, [x15, ⟨some ⟨b71, 0, none⟩, 1, [2]⟩, ⟨some ⟨b72, 0, none⟩, 1, [3]⟩, ⟨some ⟨b73, 0, none⟩, 2, [4, 9]⟩, x17]⟩, ⟨some ⟨b69, 0, none⟩, 2, [x15, x27]⟩, ⟨some ⟨b66, 0, none⟩, 3, [x15, x23, x17]⟩, ⟨some ⟨b62, 0, none⟩, 3, [x15, x60, x17]⟩, ⟨some ⟨b57, 0, none⟩, 2, [x55, x15]⟩, ⟨some ⟨b53, 0, none⟩, 2, [x15, x15]⟩, ⟨some ⟨b50, 0, none⟩, 7, [x15, x19, x21, x19, x21, x19, x17]⟩, ⟨some ⟨b42, 0, none⟩, 6, [x15, x19, x21, x19, x19, x17]⟩, ⟨some ⟨b35, 0, none⟩, 5, [x15, x17, x17, x19, x15]⟩, ⟨some ⟨b29, 0, none⟩, 1, [x17]⟩] := by
    subst e107
    exact (hW.grow (by repeat (first | exact SubH.nil _ | refine SubH.cons 0 rfl ?_ | refine SubH.cons 1 rfl ?_ | refine SubH.cons 2 rfl ?_ | refine SubH.cons 3 rfl ?_ | refine SubH.cons 4 rfl ?_ | refine SubH.cons 5 rfl ?_ | refine SubH.cons 6 rfl ?_ | refine SubH.cons 7 rfl ?_ | refine SubH.cons 8 rfl ?_ | refine SubH.cons 9 rfl ?_ | refine SubH.cons 10 rfl ?_ | refine SubH.cons 11 rfl ?_ | refine SubH.cons 12 rfl ?_ | refine SubH.cons 13 rfl ?_ | refine SubH.rown ?_))).addX (x := ⟨p107, c107, x15.l ++ [0]⟩) (Vw.pick 1 rfl Vw.row) hcp (by simp only [List.length_append, List.length_cons, List.length_nil]; omega)
  clear e107
  refine ops_eff' rfl (eff_lit sl36 rfl (sbld (cs := flat Sq.cs [⟨p107, c107, x15.l ++ [0]⟩]) [(.slice none 0 0)] sl36 (by decide) (by kernel_rfl) rfl) rfl (by decide)) rfl ?_
  rintro _ _ ⟨b108, rfl, rfl⟩
  refine ops_pack fun V108 e108 => ?_
  replace hW : Wd V V108 (some ⟨b13, 0, none⟩) [⟨p107, c107, x15.l ++ [0]⟩, ⟨p101, c101, x17.l ++ [0]⟩, x94, ⟨some ⟨b90, 0, none⟩, 1, [50]⟩, x89, ⟨some ⟨b86, 0, none⟩, 0, []⟩, ⟨some ⟨b84, 0, none⟩, 1, [90]⟩, ⟨some ⟨b80, 0, none⟩, 1, [1]⟩, ⟨some ⟨b76, 0, none⟩, 1, [1]⟩, ⟨some ⟨b73, 0, none⟩, 2, [4, 9]⟩, ⟨some ⟨b72, 0, none⟩, 1, [3]⟩, ⟨some ⟨b71, 0, none⟩, 1, [2]⟩, x60, x55, x27, x23, x21, x19, x17, x15, Slv.nil] [⟨some ⟨b108, 0, none⟩, 1, [⟨p107, c107, x15.l ++ [0]⟩]⟩, ⟨some ⟨b102, 0, none⟩, 2, [x15, ⟨p101, c101, x17.l ++ [0]⟩]⟩, ⟨some ⟨b95, 0, none⟩, 2, [x15, x94]⟩, ⟨some ⟨b91, 0, none⟩, 5, [Slv.nil, ⟨some ⟨b86, 0, none⟩, 0, []⟩, x15, x89, ⟨some ⟨b90, 0, none⟩, 1, [50]⟩]⟩, ⟨some ⟨b85, 0, none⟩, 2, [x15, ⟨some ⟨b84, 0, none⟩, 1, [90]⟩]⟩, ⟨some ⟨b82, 0, none⟩, 3, [x15, ⟨some ⟨b80, 0, none⟩, 1, [1]⟩, x17]⟩, ⟨some ⟨b78, 0, none⟩, 2, [⟨some ⟨b76, 0, none⟩, 1, [1]⟩, x15]⟩, ⟨some ⟨b75, 0, none⟩, 5, [x15, ⟨some ⟨b71, 0, none⟩, 1, [2]⟩, ⟨some ⟨b72, 0, none⟩, 1, [3]⟩, ⟨some ⟨b73, 0, none⟩, 2, [4, 9]⟩, x17]⟩, ⟨some ⟨b69, 0, none⟩, 2, [x15, x27]⟩, ⟨some ⟨b66, 0, none⟩, 3, [x15, x23, x17]⟩, ⟨some ⟨b62, 0, none⟩, 3, [x15, x60, x17]⟩, ⟨some ⟨b57, 0, none⟩, 2, [x55, x15]⟩, ⟨some ⟨b53, 0, none⟩, 2, [x15, x15]⟩, ⟨some ⟨b50, 0, none⟩, 7, [x15, x19, x21, x19, x21, x19, x17]⟩, ⟨some ⟨b42, 0, none⟩, 6, [x15, x19, x21, x19, x19, x17]⟩, ⟨some ⟨b35, 0, none⟩, 5, [x15, x17, x17, x19, x15]⟩, ⟨some ⟨b29, 0, none⟩, 1, [x17]⟩] := by
    subst e108
    exact (hW.grow (by repeat (first | exact SubH.nil _ | refine SubH.cons 0 rfl ?_ | refine SubH.cons 1 rfl ?_ | refine SubH.cons 2 rfl ?_ | refine SubH.cons 3 rfl ?_ | refine SubH.cons 4 rfl ?_ | refine SubH.cons 5 rfl ?_ | refine SubH.cons 6 rfl ?_ | refine SubH.cons 7 rfl ?_ | refine SubH.cons 8 rfl ?_ | refine SubH.cons 9 rfl ?_ | refine SubH.cons 10 rfl ?_ | refine SubH.cons 11 rfl ?_ | refine SubH.cons 12 rfl ?_ | refine SubH.cons 13 rfl ?_ | refine SubH.rown ?_))).addL (l := ⟨some ⟨b108, 0, none⟩, 1, [⟨p107, c107, x15.l ++ [0]⟩]⟩) (Vw.pick 0 rfl Vw.row) (by simp) (by simp)
  clear e108
  refine ops_ro' rfl (ro_move rfl) rfl ?_
  refine ops_ro' rfl (ro_move rfl) rfl ?_
  refine ops_ro' rfl (ro_build rfl (bld_struct (cs := Ak.cs ⟨4, 0, [117], [], [115, 102, 116, 112], [], none, 0⟩) st35 rfl)) rfl ?_
  refine ops_eff' rfl (eff_call Try.call16 rfl rfl (by repeat (first | exact Split.nil _ | apply Split.cons 0 rfl | apply Split.cons 1 rfl | apply Split.cons 2 rfl | apply Split.cons 3 rfl | apply Split.cons 4 rfl | apply Split.cons 5 rfl | apply Split.cons 6 rfl | apply Split.cons 7 rfl | apply Split.cons 8 rfl | apply Split.cons 9 rfl | apply Split.cons 10 rfl | apply Split.cons 11 rfl)) (payload_run V108 4 0 [117] [] [115, 102, 116, 112] [] none 0 (Vw.nil _) (Nat.le_refl _))) rfl ?_
  rintro _ H' ⟨_, ⟨A112, pp, cc, rfl, hv, hc, rfl⟩, hH⟩
  simp only [List.cons_append, List.nil_append, List.eraseIdx_cons_zero, List.eraseIdx_cons_succ, List.set_cons_zero, List.set_cons_succ] at hH
  subst hH
  have hxl := payB_len ⟨4, 0, [117], [], [115, 102, 116, 112], [], none, 0⟩
  generalize payB ⟨4, 0, [117], [], [115, 102, 116, 112], [], none, 0⟩ = z at *
  obtain ⟨x112, hx112⟩ : ∃ x : Slv UInt8, x = ⟨pp, cc, z⟩ := ⟨_, rfl⟩
  obtain ⟨e1, e2, e3⟩ : pp = x112.p ∧ cc = x112.c ∧ z = x112.l := by subst hx112; exact ⟨rfl, rfl, rfl⟩
  subst e1 e2 e3
  clear hx112
  refine ops_pack fun V112 e112 => ?_
  replace hW : Wd V V112 (some ⟨b13, 0, none⟩) [x112, ⟨p107, c107, x15.l ++ [0]⟩, ⟨p101, c101, x17.l ++ [0]⟩, x94, ⟨some ⟨b90, 0, none⟩, 1, [50]⟩, x89, ⟨some ⟨b86, 0, none⟩, 0, []⟩, ⟨some ⟨b84, 0, none⟩, 1, [90]⟩, ⟨some ⟨b80, 0, none⟩, 1, [1]⟩, ⟨some ⟨b76, 0, none⟩, 1, [1]⟩, ⟨some ⟨b73, 0, none⟩, 2, [4, 9]⟩, ⟨some ⟨b72, 0, none⟩, 1, [3]⟩, ⟨some ⟨b71, 0, none⟩, 1, [2]⟩, x60, x55, x27, x23, x21, x19, x17, x15, Slv.nil] [⟨some ⟨b108, 0, none⟩, 1, [⟨p107, c107, x15.l ++ [0]⟩]⟩, ⟨some ⟨b102, 0, none⟩, 2, [x15, ⟨p101, c101, x17.l ++ [0]⟩]⟩, ⟨some ⟨b95, 0, none⟩, 2, [x15, x94]⟩, ⟨some ⟨b91, 0, none⟩, 5, [Slv.nil, ⟨some ⟨b86, 0, none⟩, 0, []⟩, x15, x89, ⟨some ⟨b90, 0, none⟩, 1, [50]⟩]⟩, ⟨some ⟨b85, 0, none⟩, 2, [x15, ⟨some ⟨b84, 0, none⟩, 1, [90]⟩]⟩, ⟨some ⟨b82, 0, none⟩, 3, [x15, ⟨some ⟨b80, 0, none⟩, 1, [1]⟩, x17]⟩, ⟨some ⟨b78, 0, none⟩, 2, [⟨some ⟨b76, 0, none⟩, 1, [1]⟩, x15]⟩, ⟨some ⟨b75, 0, none⟩, 5, [x15, ⟨some ⟨b71, 0, none⟩, 1, [2]⟩, ⟨some ⟨b72, 0, none⟩, 1, [3]⟩, ⟨some ⟨b73, 0, none⟩, 2, [4, 9]⟩, x17]⟩, ⟨some ⟨b69, 0, none⟩, 2, [x15, x27]⟩, ⟨some ⟨b66, 0, none⟩, 3, [x15, x23, x17]⟩, ⟨some ⟨b62, 0, none⟩, 3, [x15, x60, x17]⟩, ⟨some ⟨b57, 0, none⟩, 2, [x55, x15]⟩, ⟨some ⟨b53, 0, none⟩, 2, [x15, x15]⟩, ⟨some ⟨b50, 0, none⟩, 7, [x15, x19, x21, x19, x21, x19, x17]⟩, ⟨some ⟨b42, 0, none⟩, 6, [x15, x19, x21, x19, x19, x17]⟩, ⟨some ⟨b35, 0, none⟩, 5, [x15, x17, x17, x19, x15]⟩, ⟨some ⟨b29, 0, none⟩, 1, [x17]⟩] := by
    subst e112
    exact (hW.grow (by repeat (first | exact SubH.nil _ | refine SubH.cons 0 rfl ?_ | refine SubH.cons 1 rfl ?_ | refine SubH.cons 2 rfl ?_ | refine SubH.cons 3 rfl ?_ | refine SubH.cons 4 rfl ?_ | refine SubH.cons 5 rfl ?_ | refine SubH.cons 6 rfl ?_ | refine SubH.cons 7 rfl ?_ | refine SubH.cons 8 rfl ?_ | refine SubH.cons 9 rfl ?_ | refine SubH.cons 10 rfl ?_ | refine SubH.cons 11 rfl ?_ | refine SubH.cons 12 rfl ?_ | refine SubH.cons 13 rfl ?_ | refine SubH.rown ?_))).addX (Vw.subH (by repeat (first | exact SubH.nil _ | refine SubH.cons 0 rfl ?_ | refine SubH.cons 1 rfl ?_ | refine SubH.cons 2 rfl ?_ | refine SubH.cons 3 rfl ?_ | refine SubH.cons 4 rfl ?_ | refine SubH.cons 5 rfl ?_ | refine SubH.cons 6 rfl ?_ | refine SubH.cons 7 rfl ?_ | refine SubH.cons 8 rfl ?_ | refine SubH.cons 9 rfl ?_ | refine SubH.cons 10 rfl ?_ | refine SubH.cons 11 rfl ?_ | refine SubH.cons 12 rfl ?_ | refine SubH.cons 13 rfl ?_ | refine SubH.rown ?_)) hv) hc (by omega)
  clear e112
  clear hv hc hxl
  refine ops_eff' rfl (eff_lit sl32 rfl (sbld (cs := cel [50, 0]) [(.int .u8 0), (.int .u8 0)] sl32 (by decide) (by kernel_rfl) rfl) rfl (by decide)) rfl ?_
  rintro _ _ ⟨b113, rfl, rfl⟩
  refine ops_pack fun V113 e113 => ?_
  replace hW : Wd V V113 (some ⟨b13, 0, none⟩) [⟨some ⟨b113, 0, none⟩, 2, [50, 0]⟩, x112, ⟨p107, c107, x15.l ++ [0]⟩, ⟨p101, c101, x17.l ++ [0]⟩, x94, ⟨some ⟨b90, 0, none⟩, 1, [50]⟩, x89, ⟨some ⟨b86, 0, none⟩, 0, []⟩, ⟨some ⟨b84, 0, none⟩, 1, [90]⟩, ⟨some ⟨b80, 0, none⟩, 1, [1]⟩, ⟨some ⟨b76, 0, none⟩, 1, [1]⟩, ⟨some ⟨b73, 0, none⟩, 2, [4, 9]⟩, ⟨some ⟨b72, 0, none⟩, 1, [3]⟩, ⟨some ⟨b71, 0, none⟩, 1, [2]⟩, x60, x55, x27, x23, x21, x19, x17, x15, Slv.nil] [⟨some ⟨b108, 0, none⟩, 1, [⟨p107, c107, x15.l ++ [0]⟩]⟩, ⟨some ⟨b102, 0, none⟩, 2, [x15, ⟨p101, c101, x17.l ++ [0]⟩]⟩, ⟨some ⟨b95, 0, none⟩, 2, [x15, x94]⟩, ⟨some ⟨b91, 0, none⟩, 5, [Slv.nil, ⟨some ⟨b86, 0, none⟩, 0, []⟩, x15, x89, ⟨some ⟨b90, 0, none⟩, 1, [50]⟩]⟩, ⟨some ⟨b85, 0, none⟩, 2, [x15, ⟨some ⟨b84, 0, none⟩, 1, [90]⟩]⟩, ⟨some ⟨b82, 0, none⟩, 3, [x15, ⟨some ⟨b80, 0, none⟩, 1, [1]⟩, x17]⟩, ⟨some ⟨b78, 0, none⟩, 2, [⟨some ⟨b76, 0, none⟩, 1, [1]⟩, x15]⟩, ⟨some ⟨b75, 0, none⟩, 5, [x15, ⟨some ⟨b71, 0, none⟩, 1, [2]⟩, ⟨some ⟨b72, 0, none⟩, 1, [3]⟩, ⟨some ⟨b73, 0, none⟩, 2, [4, 9]⟩, x17]⟩, ⟨some ⟨b69, 0, none⟩, 2, [x15, x27]⟩, ⟨some ⟨b66, 0, none⟩, 3, [x15, x23, x17]⟩, ⟨some ⟨b62, 0, none⟩, 3, [x15, x60, x17]⟩, ⟨some ⟨b57, 0, none⟩, 2, [x55, x15]⟩, ⟨some ⟨b53, 0, none⟩, 2, [x15, x15]⟩, ⟨some ⟨b50, 0, none⟩, 7, [x15, x19, x21, x19, x21, x19, x17]⟩, ⟨some ⟨b42, 0, none⟩, 6, [x15, x19, x21, x19, x19, x17]⟩, ⟨some ⟨b35, 0, none⟩, 5, [x15, x17, x17, x19, x15]⟩, ⟨some ⟨b29, 0, none⟩, 1, [x17]⟩] := by
    subst e113
    exact (hW.grow (by repeat (first | exact SubH.nil _ | refine SubH.cons 0 rfl ?_ | refine SubH.cons 1 rfl ?_ | refine SubH.cons 2 rfl ?_ | refine SubH.cons 3 rfl ?_ | refine SubH.cons 4 rfl ?_ | refine SubH.cons 5 rfl ?_ | refine SubH.cons 6 rfl ?_ | refine SubH.cons 7 rfl ?_ | refine SubH.cons 8 rfl ?_ | refine SubH.cons 9 rfl ?_ | refine SubH.cons 10 rfl ?_ | refine SubH.cons 11 rfl ?_ | refine SubH.cons 12 rfl ?_ | refine SubH.cons 13 rfl ?_ | refine SubH.rown ?_))).addX (x := ⟨some ⟨b113, 0, none⟩, 2, [50, 0]⟩) (Vw.pick 0 rfl Vw.row) (Nat.le_refl _) (by simp)
  clear e113
  refine ops_eff' rfl (eff_lit sl36 rfl (sbld (cs := flat Sq.cs [x15, x17, x112, ⟨some ⟨b113, 0, none⟩, 2, [50, 0]⟩]) [(.slice none 0 0), (.slice none 0 0), (.slice none 0 0), (.slice none 0 0)] sl36 (by decide) (by kernel_rfl) rfl) rfl (by decide)) rfl ?_
  rintro _ _ ⟨b114, rfl, rfl⟩
  refine ops_pack fun V114 e114 => ?_
  replace hW : Wd V V114 (some ⟨b13, 0, none⟩) [⟨some ⟨b113, 0, none⟩, 2, [50, 0]⟩, x112, ⟨p107, c107, x15.l ++ [0]⟩, ⟨p101, c101, x17.l ++ [0]⟩, x94, ⟨some ⟨b90, 0, none⟩, 1, [50]⟩, x89, ⟨some ⟨b86, 0, none⟩, 0, []⟩, ⟨some ⟨b84, 0, none⟩, 1, [90]⟩, ⟨some ⟨b80, 0, none⟩, 1, [1]⟩, ⟨some ⟨b76, 0, none⟩, 1, [1]⟩, ⟨some ⟨b73, 0, none⟩, 2, [4, 9]⟩, ⟨some ⟨b72, 0, none⟩, 1, [3]⟩, ⟨some ⟨b71, 0, none⟩, 1, [2]⟩, x60, x55, x27, x23, x21, x19, x17, x15, Slv.nil] [⟨some ⟨b114, 0, none⟩, 4, [x15, x17, x112, ⟨some ⟨b113, 0, none⟩, 2, [50, 0]⟩]⟩, ⟨some ⟨b108, 0, none⟩, 1, [⟨p107, c107, x15.l ++ [0]⟩]⟩, ⟨some ⟨b102, 0, none⟩, 2, [x15, ⟨p101, c101, x17.l ++ [0]⟩]⟩, ⟨some ⟨b95, 0, none⟩, 2, [x15, x94]⟩, ⟨some ⟨b91, 0, none⟩, 5, [Slv.nil, ⟨some ⟨b86, 0, none⟩, 0, []⟩, x15, x89, ⟨some ⟨b90, 0, none⟩, 1, [50]⟩]⟩, ⟨some ⟨b85, 0, none⟩, 2, [x15, ⟨some ⟨b84, 0, none⟩, 1, [90]⟩]⟩, ⟨some ⟨b82, 0, none⟩, 3, [x15, ⟨some ⟨b80, 0, none⟩, 1, [1]⟩, x17]⟩, ⟨some ⟨b78, 0, none⟩, 2, [⟨some ⟨b76, 0, none⟩, 1, [1]⟩, x15]⟩, ⟨some ⟨b75, 0, none⟩, 5, [x15, ⟨some ⟨b71, 0, none⟩, 1, [2]⟩, ⟨some ⟨b72, 0, none⟩, 1, [3]⟩, ⟨some ⟨b73, 0, none⟩, 2, [4, 9]⟩, x17]⟩, ⟨some ⟨b69, 0, none⟩, 2, [x15, x27]⟩, ⟨some ⟨b66, 0, none⟩, 3, [x15, x23, x17]⟩, ⟨some ⟨b62, 0, none⟩, 3, [x15, x60, x17]⟩, ⟨some ⟨b57, 0, none⟩, 2, [x55, x15]⟩, ⟨some ⟨b53, 0, none⟩, 2, [x15, x15]⟩, ⟨some ⟨b50, 0, none⟩, 7, [x15, x19, x21, x19, x21, x19, x17]⟩, ⟨some ⟨b42, 0, none⟩, 6, [x15, x19, x21, x19, x19, x17]⟩, ⟨some ⟨b35, 0, none⟩, 5, [x15, x17, x17, x19, x15]⟩, ⟨some ⟨b29, 0, none⟩, 1, [x17]⟩] := by
    subst e114
    exact (hW.grow (by repeat (first | exact SubH.nil _ | refine SubH.cons 0 rfl ?_ | refine SubH.cons 1 rfl ?_ | refine SubH.cons 2 rfl ?_ | refine SubH.cons 3 rfl ?_ | refine SubH.cons 4 rfl ?_ | refine SubH.cons 5 rfl ?_ | refine SubH.cons 6 rfl ?_ | refine SubH.cons 7 rfl ?_ | refine SubH.cons 8 rfl ?_ | refine SubH.cons 9 rfl ?_ | refine SubH.cons 10 rfl ?_ | refine SubH.cons 11 rfl ?_ | refine SubH.cons 12 rfl ?_ | refine SubH.cons 13 rfl ?_ | refine SubH.rown ?_))).addL (l := ⟨some ⟨b114, 0, none⟩, 4, [x15, x17, x112, ⟨some ⟨b113, 0, none⟩, 2, [50, 0]⟩]⟩) (Vw.pick 0 rfl Vw.row) (by simp) (by simp)
  clear e114
  refine ops_eff' rfl (eff_lit sl37 (evp_cons rfl (evp_cons rfl (evp_cons rfl (evp_cons rfl (evp_cons rfl (evp_cons rfl (evp_cons rfl (evp_cons rfl (evp_cons rfl (evp_cons rfl (evp_cons rfl (evp_cons rfl (evp_cons rfl (evp_cons rfl (evp_cons rfl (evp_cons rfl (evp_cons rfl (evp_cons rfl (rfl))))))))))))))))))) (sbld (cs := [.slice (some ⟨b29, 0, none⟩) 1 1, .slice (some ⟨b35, 0, none⟩) 5 5, .slice (some ⟨b42, 0, none⟩) 6 6, .slice (some ⟨b50, 0, none⟩) 7 7, .slice (some ⟨b53, 0, none⟩) 2 2, .slice (some ⟨b57, 0, none⟩) 2 2, .slice (some ⟨b62, 0, none⟩) 3 3, .slice (some ⟨b66, 0, none⟩) 3 3, .slice (some ⟨b69, 0, none⟩) 2 2, .slice (some ⟨b75, 0, none⟩) 5 5, .slice (some ⟨b78, 0, none⟩) 2 2, .slice (some ⟨b82, 0, none⟩) 3 3, .slice (some ⟨b85, 0, none⟩) 2 2, .slice (some ⟨b91, 0, none⟩) 5 5, .slice (some ⟨b95, 0, none⟩) 2 2, .slice (some ⟨b102, 0, none⟩) 2 2, .slice (some ⟨b108, 0, none⟩) 1 1, .slice (some ⟨b114, 0, none⟩) 4 4]) (List.replicate 18 (.slice none 0 0)) sl37 (by decide) (by kernel_rfl) (by kernel_rfl)) rfl (by decide)) rfl ?_
  rintro _ _ ⟨b115, rfl, rfl⟩
  obtain ⟨ll, hll⟩ : ∃ ll : List (Slv (Slv UInt8)), ll = [⟨some ⟨b29, 0, none⟩, 1, [x17]⟩, ⟨some ⟨b35, 0, none⟩, 5, [x15, x17, x17, x19, x15]⟩, ⟨some ⟨b42, 0, none⟩, 6, [x15, x19, x21, x19, x19, x17]⟩, ⟨some ⟨b50, 0, none⟩, 7, [x15, x19, x21, x19, x21, x19, x17]⟩, ⟨some ⟨b53, 0, none⟩, 2, [x15, x15]⟩, ⟨some ⟨b57, 0, none⟩, 2, [x55, x15]⟩, ⟨some ⟨b62, 0, none⟩, 3, [x15, x60, x17]⟩, ⟨some ⟨b66, 0, none⟩, 3, [x15, x23, x17]⟩, ⟨some ⟨b69, 0, none⟩, 2, [x15, x27]⟩, ⟨some ⟨b75, 0, none⟩, 5, [x15, ⟨some ⟨b71, 0, none⟩, 1, [2]⟩, ⟨some ⟨b72, 0, none⟩, 1, [3]⟩, ⟨some ⟨b73, 0, none⟩, 2, [4, 9]⟩, x17]⟩, ⟨some ⟨b78, 0, none⟩, 2, [⟨some ⟨b76, 0, none⟩, 1, [1]⟩, x15]⟩, ⟨some ⟨b82, 0, none⟩, 3, [x15, ⟨some ⟨b80, 0, none⟩, 1, [1]⟩, x17]⟩, ⟨some ⟨b85, 0, none⟩, 2, [x15, ⟨some ⟨b84, 0, none⟩, 1, [90]⟩]⟩, ⟨some ⟨b91, 0, none⟩, 5, [Slv.nil, ⟨some ⟨b86, 0, none⟩, 0, []⟩, x15, x89, ⟨some ⟨b90, 0, none⟩, 1, [50]⟩]⟩, ⟨some ⟨b95, 0, none⟩, 2, [x15, x94]⟩, ⟨some ⟨b102, 0, none⟩, 2, [x15, ⟨p101, c101, x17.l ++ [0]⟩]⟩, ⟨some ⟨b108, 0, none⟩, 1, [⟨p107, c107, x15.l ++ [0]⟩]⟩, ⟨some ⟨b114, 0, none⟩, 4, [x15, x17, x112, ⟨some ⟨b113, 0, none⟩, 2, [50, 0]⟩]⟩] := ⟨_, rfl⟩
  have hln : ll.length = 18 := by rw [hll]; rfl
  refine ops_pack fun V115 e115 => ?_
  have hlw : Vw V115 (.slice (some ⟨b115, 0, none⟩) 18 18) 18 (flat Lq.cs ll) := by
    subst e115
    rw [hll]
    exact Vw.pick 0 rfl Vw.row
  replace hW : Wd V V115 (some ⟨b13, 0, none⟩) [⟨some ⟨b113, 0, none⟩, 2, [50, 0]⟩, x112, ⟨p107, c107, x15.l ++ [0]⟩, ⟨p101, c101, x17.l ++ [0]⟩, x94, ⟨some ⟨b90, 0, none⟩, 1, [50]⟩, x89, ⟨some ⟨b86, 0, none⟩, 0, []⟩, ⟨some ⟨b84, 0, none⟩, 1, [90]⟩, ⟨some ⟨b80, 0, none⟩, 1, [1]⟩, ⟨some ⟨b76, 0, none⟩, 1, [1]⟩, ⟨some ⟨b73, 0, none⟩, 2, [4, 9]⟩, ⟨some ⟨b72, 0, none⟩, 1, [3]⟩, ⟨some ⟨b71, 0, none⟩, 1, [2]⟩, x60, x55, x27, x23, x21, x19, x17, x15, Slv.nil] [⟨some ⟨b114, 0, none⟩, 4, [x15, x17, x112, ⟨some ⟨b113, 0, none⟩, 2, [50, 0]⟩]⟩, ⟨some ⟨b108, 0, none⟩, 1, [⟨p107, c107, x15.l ++ [0]⟩]⟩, ⟨some ⟨b102, 0, none⟩, 2, [x15, ⟨p101, c101, x17.l ++ [0]⟩]⟩, ⟨some ⟨b95, 0, none⟩, 2, [x15, x94]⟩, ⟨some ⟨b91, 0, none⟩, 5, [Slv.nil, ⟨some ⟨b86, 0, none⟩, 0, []⟩, x15, x89, ⟨some ⟨b90, 0, none⟩, 1, [50]⟩]⟩, ⟨some ⟨b85, 0, none⟩, 2, [x15, ⟨some ⟨b84, 0, none⟩, 1, [90]⟩]⟩, ⟨some ⟨b82, 0, none⟩, 3, [x15, ⟨some ⟨b80, 0, none⟩, 1, [1]⟩, x17]⟩, ⟨some ⟨b78, 0, none⟩, 2, [⟨some ⟨b76, 0, none⟩, 1, [1]⟩, x15]⟩, ⟨some ⟨b75, 0, none⟩, 5, [x15, ⟨some ⟨b71, 0, none⟩, 1, [2]⟩, ⟨some ⟨b72, 0, none⟩, 1, [3]⟩, ⟨some ⟨b73, 0, none⟩, 2, [4, 9]⟩, x17]⟩, ⟨some ⟨b69, 0, none⟩, 2, [x15, x27]⟩, ⟨some ⟨b66, 0, none⟩, 3, [x15, x23, x17]⟩, ⟨some ⟨b62, 0, none⟩, 3, [x15, x60, x17]⟩, ⟨some ⟨b57, 0, none⟩, 2, [x55, x15]⟩, ⟨some ⟨b53, 0, none⟩, 2, [x15, x15]⟩, ⟨some ⟨b50, 0, none⟩, 7, [x15, x19, x21, x19, x21, x19, x17]⟩, ⟨some ⟨b42, 0, none⟩, 6, [x15, x19, x21, x19, x19, x17]⟩, ⟨some ⟨b35, 0, none⟩, 5, [x15, x17, x17, x19, x15]⟩, ⟨some ⟨b29, 0, none⟩, 1, [x17]⟩] := by
    subst e115
    exact (hW.grow (by repeat (first | exact SubH.nil _ | refine SubH.cons 0 rfl ?_ | refine SubH.cons 1 rfl ?_ | refine SubH.cons 2 rfl ?_ | refine SubH.cons 3 rfl ?_ | refine SubH.cons 4 rfl ?_ | refine SubH.cons 5 rfl ?_ | refine SubH.cons 6 rfl ?_ | refine SubH.cons 7 rfl ?_ | refine SubH.cons 8 rfl ?_ | refine SubH.cons 9 rfl ?_ | refine SubH.cons 10 rfl ?_ | refine SubH.cons 11 rfl ?_ | refine SubH.cons 12 rfl ?_ | refine SubH.cons 13 rfl ?_ | refine SubH.rown ?_)))
  clear e115
  have hLL : ∀ l ∈ ll, Vw V115 l.v l.l.length (flat Sq.cs l.l) ∧ l.l.length ≤ 1000 ∧ Xs V115 l.l := fun l hl => hW.l l (by rw [hll] at hl; simp only [List.mem_cons, List.not_mem_nil, or_false] at hl ⊢; first | exact hl | ((repeat' (rcases hl with hl | hl)) <;> first | (subst hl; simp; done) | (simp; done)))
  obtain ⟨hS, hU⟩ : SubH [V115] [V] ∧ Vw V115 (.slice (some ⟨b13, 0, none⟩) 3 3) 3 (flat Us.cs ul3) := ⟨hW.s, hW.u⟩
  clear hW hll
  refine ops_ro' rfl (ro_sliceLen Try.underlying37 rfl) rfl ?_
  refine ops_ro' rfl (ro_move rfl) rfl ?_
  refine ops_nil ?_
  refine Then_normal ?_
  refine wp_block' ?_
  refine wp_loopK 9 (fun m Δ LL => ∃ (i : Nat), (i + m = 18) ∧ Δ = [(117, .int .i64 (i : Nat))] ∧ LL = [V115]) (m := 18) (Has.cons (k := 1) rfl (Has.cons (k := 115) rfl (Has.cons (k := 116) rfl (Has.nil _)))) (kept ⟨0, by omega, rfl, rfl⟩ (by repeat (first | exact Has.nil _ | refine Has.cons rfl ?_)) (by repeat (first | exact Has.nil _ | refine Has.cons rfl ?_)) (by repeat (first | exact SubH.nil _ | refine SubH.cons 0 rfl ?_ | refine SubH.cons 1 rfl ?_ | refine SubH.cons 2 rfl ?_ | refine SubH.cons 3 rfl ?_ | refine SubH.cons 4 rfl ?_ | refine SubH.cons 5 rfl ?_ | refine SubH.cons 6 rfl ?_ | refine SubH.cons 7 rfl ?_ | refine SubH.cons 8 rfl ?_ | refine SubH.cons 9 rfl ?_ | refine SubH.cons 10 rfl ?_ | refine SubH.cons 11 rfl ?_ | refine SubH.cons 12 rfl ?_ | refine SubH.cons 13 rfl ?_ | refine SubH.rown ?_))) ?_
  rintro m Δ LL ⟨i, hm, rfl, rfl⟩
  simp only [List.cons_append, List.nil_append]
  refine wp_seq' ?_
  refine wp_region' ?_
  refine ops_ro' rfl (ro_lss rfl rfl rfl) rfl ?_
  refine ops_nil ?_
  refine Then_normal ?_
  refine wp_seq' ?_
  refine wp_cond' rfl (fun hc118 => ?_) (fun hc118 => ?_)
  · replace hc118 := of_decide_eq_true hc118
    refine wp_skip' ?_
    refine Then_normal ?_
    refine wp_seq' ?_
    refine wp_block' ?_
    refine wp_seq' ?_
    have hi : i < ll.length := by omega
    refine wp_region' ?_
    refine ops_ro' rfl (ro_indexSlice sl37 rfl rfl rfl (by omega)) rfl ?_
    refine ops_ro' rfl (ro_load sc36 rfl (Rd.pick 0 rfl (Rd.elem (j := 0) (vw_rdn hlw) Lq.len (List.getElem?_eq_getElem hi) rfl))) rfl ?_
    refine ops_ro' rfl (ro_assign rfl) rfl ?_
    refine ops_nil ?_
    refine Then_normal ?_
    refine wp_seq' ?_
    refine wp_region' ?_
    refine ops_ro' rfl (ro_move rfl) rfl ?_
    refine ops_ro' rfl (ro_move rfl) rfl ?_
    refine ops_eff' rfl (eff_call Try.call17 rfl rfl (by repeat (first | exact Split.nil _ | apply Split.cons 0 rfl | apply Split.cons 1 rfl | apply Split.cons 2 rfl | apply Split.cons 3 rfl | apply Split.cons 4 rfl | apply Split.cons 5 rfl | apply Split.cons 6 rfl | apply Split.cons 7 rfl | apply Split.cons 8 rfl | apply Split.cons 9 rfl | apply Split.cons 10 rfl | apply Split.cons 11 rfl)) (plays_spec V115 (some ⟨b13, 0, none⟩) 3 ul3 hU (by decide) ll[i].p ll[i].c ll[i].l (hLL ll[i] (List.getElem_mem hi)).1 (hLL ll[i] (List.getElem_mem hi)).2.1 (hLL ll[i] (List.getElem_mem hi)).2.2)) rfl ?_
    rintro _ H' ⟨_, ⟨_, ⟨rfl, rfl⟩, rfl⟩, hH⟩
    simp only [List.cons_append, List.nil_append, List.eraseIdx_cons_zero, List.eraseIdx_cons_succ, List.set_cons_zero, List.set_cons_succ] at hH
    subst hH
    refine ops_ro' rfl (ro_not rfl rfl) rfl ?_
    refine ops_nil ?_
    refine Then_normal ?_
    refine wp_condF rfl ?_
    refine wp_skip' ?_
    refine InBlock_normal ?_
    refine Then_normal ?_
    refine wp_region' ?_
    refine ops_ro' rfl (ro_add rfl rfl (wrap_inc (by omega))) rfl ?_
    refine ops_ro' rfl (ro_move rfl) rfl ?_
    refine ops_nil ?_
    refine Then_normal ?_
    refine back (m - 1) (by omega) (kept ⟨i + 1, by omega, rfl, rfl⟩ ?_ ?_ ?_)
    · exact (by repeat (first | exact Has.nil _ | refine Has.cons rfl ?_))
    · exact (by repeat (first | exact Has.nil _ | refine Has.cons rfl ?_))
    · exact SubH.refl _
  · replace hc118 := of_decide_eq_false hc118
    refine wp_exit' ?_
    refine Then_exit ?_
    refine Then_exit ?_
    refine InBlock_here ?_
    refine Then_normal ?_
    refine wp_seq' ?_
    refine wp_draw 15 (by kernel_rfl) (Split.nil _) ?_
    refine any_eff' (i := 0) (by kernel_rfl) rfl rfl (eff_call Try.call18 rfl rfl (by repeat (first | exact Split.nil _ | apply Split.cons 0 rfl | apply Split.cons 1 rfl | apply Split.cons 2 rfl | apply Split.cons 3 rfl | apply Split.cons 4 rfl | apply Split.cons 5 rfl | apply Split.cons 6 rfl | apply Split.cons 7 rfl | apply Split.cons 8 rfl | apply Split.cons 9 rfl | apply Split.cons 10 rfl | apply Split.cons 11 rfl)) (auBye_spec 14 (by decide))) rfl ?_
    rintro _ H' ⟨_, ⟨p126, c126, rfl, rfl⟩, hH⟩
    simp only [List.cons_append, List.nil_append, List.eraseIdx_cons_zero, List.eraseIdx_cons_succ, List.set_cons_zero, List.set_cons_succ] at hH
    subst hH
    refine any_two (i := 1) (j := 2) (by kernel_rfl) ?_ ?_
    · refine at_eff' rfl rfl (eff_ro (ro_toStr Try.underlying32 Try.underlying5 Try.underlying9 rfl (Vw.pick 0 rfl Vw.row) rfl)) rfl ?_
      rintro _ _ ⟨rfl, rfl⟩
      refine any_eff' (i := 2) (by kernel_rfl) rfl rfl (eff_callM (Pre := []) Try.call19 rfl rfl (Split.nil _) (rqBye_spec _ 14)) rfl ?_
      rintro _ H' ⟨_, ⟨p128, c128, rfl, rfl⟩, hH⟩
      simp only [List.cons_append, List.nil_append, List.eraseIdx_cons_zero, List.eraseIdx_cons_succ, List.set_cons_zero, List.set_cons_succ] at hH
      subst hH
      refine any_eff' (i := 3) (by kernel_rfl) rfl rfl (eff_ro (ro_toStr Try.underlying32 Try.underlying5 Try.underlying9 rfl (Vw.pick 0 rfl Vw.row) rfl)) rfl ?_
      rintro _ _ ⟨rfl, rfl⟩
      refine any_ro' (i := 4) (by kernel_rfl) rfl rfl (ro_eqlS rfl rfl (decide_eq_true rfl)) rfl (fun _ _ _ h => h) ?_
      refine any_ro' (i := 5) (by kernel_rfl) rfl rfl (ro_move (v := .bool true) rfl) rfl (fun _ _ _ h => h) ?_
      refine any_eff' (i := 6) (by kernel_rfl) rfl rfl (eff_call Try.call18 rfl rfl (by repeat (first | exact Split.nil _ | apply Split.cons 0 rfl | apply Split.cons 1 rfl | apply Split.cons 2 rfl | apply Split.cons 3 rfl | apply Split.cons 4 rfl | apply Split.cons 5 rfl | apply Split.cons 6 rfl | apply Split.cons 7 rfl | apply Split.cons 8 rfl | apply Split.cons 9 rfl | apply Split.cons 10 rfl | apply Split.cons 11 rfl)) (auBye_spec 4294967295 (by decide))) rfl ?_
      rintro _ H' ⟨_, ⟨p132, c132, rfl, rfl⟩, hH⟩
      simp only [List.cons_append, List.nil_append, List.eraseIdx_cons_zero, List.eraseIdx_cons_succ, List.set_cons_zero, List.set_cons_succ] at hH
      subst hH
      refine any_two (i := 7) (j := 8) (by kernel_rfl) ?_ ?_
      · refine at_eff' rfl rfl (eff_ro (ro_toStr Try.underlying32 Try.underlying5 Try.underlying9 rfl (Vw.pick 0 rfl Vw.row) rfl)) rfl ?_
        rintro _ _ ⟨rfl, rfl⟩
        refine any_eff' (i := 8) (by kernel_rfl) rfl rfl (eff_callM (Pre := []) Try.call19 rfl rfl (Split.nil _) (rqBye_spec _ 4294967295)) rfl ?_
        rintro _ H' ⟨_, ⟨p134, c134, rfl, rfl⟩, hH⟩
        simp only [List.cons_append, List.nil_append, List.eraseIdx_cons_zero, List.eraseIdx_cons_succ, List.set_cons_zero, List.set_cons_succ] at hH
        subst hH
        refine any_eff' (i := 9) (by kernel_rfl) rfl rfl (eff_ro (ro_toStr Try.underlying32 Try.underlying5 Try.underlying9 rfl (Vw.pick 0 rfl Vw.row) rfl)) rfl ?_
        rintro _ _ ⟨rfl, rfl⟩
        refine any_ro' (i := 10) (by kernel_rfl) rfl rfl (ro_eqlS rfl rfl (decide_eq_true rfl)) rfl (fun _ _ _ h => h) ?_
        refine any_ro' (i := 11) (by kernel_rfl) rfl rfl (ro_pick rfl rfl) rfl (fun _ _ _ h => h) ?_
        refine any_ro' (i := 12) (by kernel_rfl) rfl rfl (ro_move (v := .bool true) rfl) rfl (fun _ _ _ h => h) ?_
        refine any_eff' (i := 13) (by kernel_rfl) rfl rfl (eff_call Try.call20 rfl rfl (by repeat (first | exact Split.nil _ | apply Split.cons 0 rfl | apply Split.cons 1 rfl | apply Split.cons 2 rfl | apply Split.cons 3 rfl | apply Split.cons 4 rfl | apply Split.cons 5 rfl | apply Split.cons 6 rfl | apply Split.cons 7 rfl | apply Split.cons 8 rfl | apply Split.cons 9 rfl | apply Split.cons 10 rfl | apply Split.cons 11 rfl)) (known11_spec V115)) rfl ?_
        rintro _ H' ⟨_, ⟨rfl, rfl⟩, hH⟩
        simp only [List.cons_append, List.nil_append, List.eraseIdx_cons_zero, List.eraseIdx_cons_succ, List.set_cons_zero, List.set_cons_succ] at hH
        subst hH
        refine any_ro' (i := 14) (by kernel_rfl) rfl rfl (ro_pick rfl rfl) rfl (fun _ _ _ h => h) ?_
        refine any_unlock (m' := 16) (L' := []) (by kernel_rfl) unlock ?_
        simp only [List.cons_append, List.nil_append, List.append_nil]
        refine any_ro' (i := 15) (by kernel_rfl) rfl rfl (ro_assign rfl) rfl (fun _ _ _ h => h) ?_
        refine any_doneH (by kernel_rfl) ?_
        refine Then_normal ?_
        refine wp_ret' ?_
        refine doneS_pre (SubH.trans (show SubH _ [V115] from (by repeat (first | exact SubH.nil _ | refine SubH.cons 0 rfl ?_ | refine SubH.cons 1 rfl ?_ | refine SubH.cons 2 rfl ?_ | refine SubH.cons 3 rfl ?_ | refine SubH.cons 4 rfl ?_ | refine SubH.cons 5 rfl ?_ | refine SubH.cons 6 rfl ?_ | refine SubH.cons 7 rfl ?_ | refine SubH.cons 8 rfl ?_ | refine SubH.cons 9 rfl ?_ | refine SubH.cons 10 rfl ?_ | refine SubH.cons 11 rfl ?_ | refine SubH.cons 12 rfl ?_ | refine SubH.cons 13 rfl ?_ | refine SubH.rown ?_))) hS) ?_
        refine' doneS_ret (res1 rfl rfl) ?_ ?_
        rotate_left 1
        exact ⟨rfl, rfl⟩
        exact SubH.refl _
      · refine at_eff' rfl rfl (eff_callM (Pre := []) Try.call19 rfl rfl (Split.nil _) (rqBye_spec _ 4294967295)) rfl ?_
        rintro _ H' ⟨_, ⟨p134, c134, rfl, rfl⟩, hH⟩
        simp only [List.cons_append, List.nil_append, List.eraseIdx_cons_zero, List.eraseIdx_cons_succ, List.set_cons_zero, List.set_cons_succ] at hH
        subst hH
        refine any_two (i := 7) (j := 9) (by kernel_rfl) ?_ ?_
        · refine at_eff' rfl rfl (eff_ro (ro_toStr Try.underlying32 Try.underlying5 Try.underlying9 rfl (Vw.pick 1 rfl Vw.row) rfl)) rfl ?_
          rintro _ _ ⟨rfl, rfl⟩
          refine any_eff' (i := 9) (by kernel_rfl) rfl rfl (eff_ro (ro_toStr Try.underlying32 Try.underlying5 Try.underlying9 rfl (Vw.pick 0 rfl Vw.row) rfl)) rfl ?_
          rintro _ _ ⟨rfl, rfl⟩
          refine any_ro' (i := 10) (by kernel_rfl) rfl rfl (ro_eqlS rfl rfl (decide_eq_true rfl)) rfl (fun _ _ _ h => h) ?_
          refine any_ro' (i := 11) (by kernel_rfl) rfl rfl (ro_pick rfl rfl) rfl (fun _ _ _ h => h) ?_
          refine any_ro' (i := 12) (by kernel_rfl) rfl rfl (ro_move (v := .bool true) rfl) rfl (fun _ _ _ h => h) ?_
          refine any_eff' (i := 13) (by kernel_rfl) rfl rfl (eff_call Try.call20 rfl rfl (by repeat (first | exact Split.nil _ | apply Split.cons 0 rfl | apply Split.cons 1 rfl | apply Split.cons 2 rfl | apply Split.cons 3 rfl | apply Split.cons 4 rfl | apply Split.cons 5 rfl | apply Split.cons 6 rfl | apply Split.cons 7 rfl | apply Split.cons 8 rfl | apply Split.cons 9 rfl | apply Split.cons 10 rfl | apply Split.cons 11 rfl)) (known11_spec V115)) rfl ?_
          rintro _ H' ⟨_, ⟨rfl, rfl⟩, hH⟩
          simp only [List.cons_append, List.nil_append, List.eraseIdx_cons_zero, List.eraseIdx_cons_succ, List.set_cons_zero, List.set_cons_succ] at hH
          subst hH
          refine any_ro' (i := 14) (by kernel_rfl) rfl rfl (ro_pick rfl rfl) rfl (fun _ _ _ h => h) ?_
          refine any_unlock (m' := 16) (L' := []) (by kernel_rfl) unlock ?_
          simp only [List.cons_append, List.nil_append, List.append_nil]
          refine any_ro' (i := 15) (by kernel_rfl) rfl rfl (ro_assign rfl) rfl (fun _ _ _ h => h) ?_
          refine any_doneH (by kernel_rfl) ?_
          refine Then_normal ?_
          refine wp_ret' ?_
          refine doneS_pre (SubH.trans (show SubH _ [V115] from (by repeat (first | exact SubH.nil _ | refine SubH.cons 0 rfl ?_ | refine SubH.cons 1 rfl ?_ | refine SubH.cons 2 rfl ?_ | refine SubH.cons 3 rfl ?_ | refine SubH.cons 4 rfl ?_ | refine SubH.cons 5 rfl ?_ | refine SubH.cons 6 rfl ?_ | refine SubH.cons 7 rfl ?_ | refine SubH.cons 8 rfl ?_ | refine SubH.cons 9 rfl ?_ | refine SubH.cons 10 rfl ?_ | refine SubH.cons 11 rfl ?_ | refine SubH.cons 12 rfl ?_ | refine SubH.cons 13 rfl ?_ | refine SubH.rown ?_))) hS) ?_
          refine' doneS_ret (res1 rfl rfl) ?_ ?_
          rotate_left 1
          exact ⟨rfl, rfl⟩
          exact SubH.refl _
        · refine at_eff' rfl rfl (eff_ro (ro_toStr Try.underlying32 Try.underlying5 Try.underlying9 rfl (Vw.pick 0 rfl Vw.row) rfl)) rfl ?_
          rintro _ _ ⟨rfl, rfl⟩
          refine any_eff' (i := 7) (by kernel_rfl) rfl rfl (eff_ro (ro_toStr Try.underlying32 Try.underlying5 Try.underlying9 rfl (Vw.pick 1 rfl Vw.row) rfl)) rfl ?_
          rintro _ _ ⟨rfl, rfl⟩
          refine any_ro' (i := 10) (by kernel_rfl) rfl rfl (ro_eqlS rfl rfl (decide_eq_true rfl)) rfl (fun _ _ _ h => h) ?_
          refine any_ro' (i := 11) (by kernel_rfl) rfl rfl (ro_pick rfl rfl) rfl (fun _ _ _ h => h) ?_
          refine any_ro' (i := 12) (by kernel_rfl) rfl rfl (ro_move (v := .bool true) rfl) rfl (fun _ _ _ h => h) ?_
          refine any_eff' (i := 13) (by kernel_rfl) rfl rfl (eff_call Try.call20 rfl rfl (by repeat (first | exact Split.nil _ | apply Split.cons 0 rfl | apply Split.cons 1 rfl | apply Split.cons 2 rfl | apply Split.cons 3 rfl | apply Split.cons 4 rfl | apply Split.cons 5 rfl | apply Split.cons 6 rfl | apply Split.cons 7 rfl | apply Split.cons 8 rfl | apply Split.cons 9 rfl | apply Split.cons 10 rfl | apply Split.cons 11 rfl)) (known11_spec V115)) rfl ?_
          rintro _ H' ⟨_, ⟨rfl, rfl⟩, hH⟩
          simp only [List.cons_append, List.nil_append, List.eraseIdx_cons_zero, List.eraseIdx_cons_succ, List.set_cons_zero, List.set_cons_succ] at hH
          subst hH
          refine any_ro' (i := 14) (by kernel_rfl) rfl rfl (ro_pick rfl rfl) rfl (fun _ _ _ h => h) ?_
          refine any_unlock (m' := 16) (L' := []) (by kernel_rfl) unlock ?_
          simp only [List.cons_append, List.nil_append, List.append_nil]
          refine any_ro' (i := 15) (by kernel_rfl) rfl rfl (ro_assign rfl) rfl (fun _ _ _ h => h) ?_
          refine any_doneH (by kernel_rfl) ?_
          refine Then_normal ?_
          refine wp_ret' ?_
          refine doneS_pre (SubH.trans (show SubH _ [V115] from (by repeat (first | exact SubH.nil _ | refine SubH.cons 0 rfl ?_ | refine SubH.cons 1 rfl ?_ | refine SubH.cons 2 rfl ?_ | refine SubH.cons 3 rfl ?_ | refine SubH.cons 4 rfl ?_ | refine SubH.cons 5 rfl ?_ | refine SubH.cons 6 rfl ?_ | refine SubH.cons 7 rfl ?_ | refine SubH.cons 8 rfl ?_ | refine SubH.cons 9 rfl ?_ | refine SubH.cons 10 rfl ?_ | refine SubH.cons 11 rfl ?_ | refine SubH.cons 12 rfl ?_ | refine SubH.cons 13 rfl ?_ | refine SubH.rown ?_))) hS) ?_
          refine' doneS_ret (res1 rfl rfl) ?_ ?_
          rotate_left 1
          exact ⟨rfl, rfl⟩
          exact SubH.refl _
    · refine at_eff' rfl rfl (eff_callM (Pre := []) Try.call19 rfl rfl (Split.nil _) (rqBye_spec _ 14)) rfl ?_
      rintro _ H' ⟨_, ⟨p128, c128, rfl, rfl⟩, hH⟩
      simp only [List.cons_append, List.nil_append, List.eraseIdx_cons_zero, List.eraseIdx_cons_succ, List.set_cons_zero, List.set_cons_succ] at hH
      subst hH
      refine any_two (i := 1) (j := 3) (by kernel_rfl) ?_ ?_
      · refine at_eff' rfl rfl (eff_ro (ro_toStr Try.underlying32 Try.underlying5 Try.underlying9 rfl (Vw.pick 1 rfl Vw.row) rfl)) rfl ?_
        rintro _ _ ⟨rfl, rfl⟩
        refine any_eff' (i := 3) (by kernel_rfl) rfl rfl (eff_ro (ro_toStr Try.underlying32 Try.underlying5 Try.underlying9 rfl (Vw.pick 0 rfl Vw.row) rfl)) rfl ?_
        rintro _ _ ⟨rfl, rfl⟩
        refine any_ro' (i := 4) (by kernel_rfl) rfl rfl (ro_eqlS rfl rfl (decide_eq_true rfl)) rfl (fun _ _ _ h => h) ?_
        refine any_ro' (i := 5) (by kernel_rfl) rfl rfl (ro_move (v := .bool true) rfl) rfl (fun _ _ _ h => h) ?_
        refine any_eff' (i := 6) (by kernel_rfl) rfl rfl (eff_call Try.call18 rfl rfl (by repeat (first | exact Split.nil _ | apply Split.cons 0 rfl | apply Split.cons 1 rfl | apply Split.cons 2 rfl | apply Split.cons 3 rfl | apply Split.cons 4 rfl | apply Split.cons 5 rfl | apply Split.cons 6 rfl | apply Split.cons 7 rfl | apply Split.cons 8 rfl | apply Split.cons 9 rfl | apply Split.cons 10 rfl | apply Split.cons 11 rfl)) (auBye_spec 4294967295 (by decide))) rfl ?_
        rintro _ H' ⟨_, ⟨p132, c132, rfl, rfl⟩, hH⟩
        simp only [List.cons_append, List.nil_append, List.eraseIdx_cons_zero, List.eraseIdx_cons_succ, List.set_cons_zero, List.set_cons_succ] at hH
        subst hH
        refine any_two (i := 7) (j := 8) (by kernel_rfl) ?_ ?_
        · refine at_eff' rfl rfl (eff_ro (ro_toStr Try.underlying32 Try.underlying5 Try.underlying9 rfl (Vw.pick 0 rfl Vw.row) rfl)) rfl ?_
          rintro _ _ ⟨rfl, rfl⟩
          refine any_eff' (i := 8) (by kernel_rfl) rfl rfl (eff_callM (Pre := []) Try.call19 rfl rfl (Split.nil _) (rqBye_spec _ 4294967295)) rfl ?_
          rintro _ H' ⟨_, ⟨p134, c134, rfl, rfl⟩, hH⟩
          simp only [List.cons_append, List.nil_append, List.eraseIdx_cons_zero, List.eraseIdx_cons_succ, List.set_cons_zero, List.set_cons_succ] at hH
          subst hH
          refine any_eff' (i := 9) (by kernel_rfl) rfl rfl (eff_ro (ro_toStr Try.underlying32 Try.underlying5 Try.underlying9 rfl (Vw.pick 0 rfl Vw.row) rfl)) rfl ?_
          rintro _ _ ⟨rfl, rfl⟩
          refine any_ro' (i := 10) (by kernel_rfl) rfl rfl (ro_eqlS rfl rfl (decide_eq_true rfl)) rfl (fun _ _ _ h => h) ?_
          refine any_ro' (i := 11) (by kernel_rfl) rfl rfl (ro_pick rfl rfl) rfl (fun _ _ _ h => h) ?_
          refine any_ro' (i := 12) (by kernel_rfl) rfl rfl (ro_move (v := .bool true) rfl) rfl (fun _ _ _ h => h) ?_
          refine any_eff' (i := 13) (by kernel_rfl) rfl rfl (eff_call Try.call20 rfl rfl (by repeat (first | exact Split.nil _ | apply Split.cons 0 rfl | apply Split.cons 1 rfl | apply Split.cons 2 rfl | apply Split.cons 3 rfl | apply Split.cons 4 rfl | apply Split.cons 5 rfl | apply Split.cons 6 rfl | apply Split.cons 7 rfl | apply Split.cons 8 rfl | apply Split.cons 9 rfl | apply Split.cons 10 rfl | apply Split.cons 11 rfl)) (known11_spec V115)) rfl ?_
          rintro _ H' ⟨_, ⟨rfl, rfl⟩, hH⟩
          simp only [List.cons_append, List.nil_append, List.eraseIdx_cons_zero, List.eraseIdx_cons_succ, List.set_cons_zero, List.set_cons_succ] at hH
          subst hH
          refine any_ro' (i := 14) (by kernel_rfl) rfl rfl (ro_pick rfl rfl) rfl (fun _ _ _ h => h) ?_
          refine any_unlock (m' := 16) (L' := []) (by kernel_rfl) unlock ?_
          simp only [List.cons_append, List.nil_append, List.append_nil]
          refine any_ro' (i := 15) (by kernel_rfl) rfl rfl (ro_assign rfl) rfl (fun _ _ _ h => h) ?_
          refine any_doneH (by kernel_rfl) ?_
          refine Then_normal ?_
          refine wp_ret' ?_
          refine doneS_pre (SubH.trans (show SubH _ [V115] from (by repeat (first | exact SubH.nil _ | refine SubH.cons 0 rfl ?_ | refine SubH.cons 1 rfl ?_ | refine SubH.cons 2 rfl ?_ | refine SubH.cons 3 rfl ?_ | refine SubH.cons 4 rfl ?_ | refine SubH.cons 5 rfl ?_ | refine SubH.cons 6 rfl ?_ | refine SubH.cons 7 rfl ?_ | refine SubH.cons 8 rfl ?_ | refine SubH.cons 9 rfl ?_ | refine SubH.cons 10 rfl ?_ | refine SubH.cons 11 rfl ?_ | refine SubH.cons 12 rfl ?_ | refine SubH.cons 13 rfl ?_ | refine SubH.rown ?_))) hS) ?_
          refine' doneS_ret (res1 rfl rfl) ?_ ?_
          rotate_left 1
          exact ⟨rfl, rfl⟩
          exact SubH.refl _
        · refine at_eff' rfl rfl (eff_callM (Pre := []) Try.call19 rfl rfl (Split.nil _) (rqBye_spec _ 4294967295)) rfl ?_
          rintro _ H' ⟨_, ⟨p134, c134, rfl, rfl⟩, hH⟩
          simp only [List.cons_append, List.nil_append, List.eraseIdx_cons_zero, List.eraseIdx_cons_succ, List.set_cons_zero, List.set_cons_succ] at hH
          subst hH
          refine any_two (i := 7) (j := 9) (by kernel_rfl) ?_ ?_
          · refine at_eff' rfl rfl (eff_ro (ro_toStr Try.underlying32 Try.underlying5 Try.underlying9 rfl (Vw.pick 1 rfl Vw.row) rfl)) rfl ?_
            rintro _ _ ⟨rfl, rfl⟩
            refine any_eff' (i := 9) (by kernel_rfl) rfl rfl (eff_ro (ro_toStr Try.underlying32 Try.underlying5 Try.underlying9 rfl (Vw.pick 0 rfl Vw.row) rfl)) rfl ?_
            rintro _ _ ⟨rfl, rfl⟩
            refine any_ro' (i := 10) (by kernel_rfl) rfl rfl (ro_eqlS rfl rfl (decide_eq_true rfl)) rfl (fun _ _ _ h => h) ?_
            refine any_ro' (i := 11) (by kernel_rfl) rfl rfl (ro_pick rfl rfl) rfl (fun _ _ _ h => h) ?_
            refine any_ro' (i := 12) (by kernel_rfl) rfl rfl (ro_move (v := .bool true) rfl) rfl (fun _ _ _ h => h) ?_
            refine any_eff' (i := 13) (by kernel_rfl) rfl rfl (eff_call Try.call20 rfl rfl (by repeat (first | exact Split.nil _ | apply Split.cons 0 rfl | apply Split.cons 1 rfl | apply Split.cons 2 rfl | apply Split.cons 3 rfl | apply Split.cons 4 rfl | apply Split.cons 5 rfl | apply Split.cons 6 rfl | apply Split.cons 7 rfl | apply Split.cons 8 rfl | apply Split.cons 9 rfl | apply Split.cons 10 rfl | apply Split.cons 11 rfl)) (known11_spec V115)) rfl ?_
            rintro _ H' ⟨_, ⟨rfl, rfl⟩, hH⟩
            simp only [List.cons_append, List.nil_append, List.eraseIdx_cons_zero, List.eraseIdx_cons_succ, List.set_cons_zero, List.set_cons_succ] at hH
            subst hH
            refine any_ro' (i := 14) (by kernel_rfl) rfl rfl (ro_pick rfl rfl) rfl (fun _ _ _ h => h) ?_
            refine any_unlock (m' := 16) (L' := []) (by kernel_rfl) unlock ?_
            simp only [List.cons_append, List.nil_append, List.append_nil]
            refine any_ro' (i := 15) (by kernel_rfl) rfl rfl (ro_assign rfl) rfl (fun _ _ _ h => h) ?_
            refine any_doneH (by kernel_rfl) ?_
            refine Then_normal ?_
            refine wp_ret' ?_
            refine doneS_pre (SubH.trans (show SubH _ [V115] from (by repeat (first | exact SubH.nil _ | refine SubH.cons 0 rfl ?_ | refine SubH.cons 1 rfl ?_ | refine SubH.cons 2 rfl ?_ | refine SubH.cons 3 rfl ?_ | refine SubH.cons 4 rfl ?_ | refine SubH.cons 5 rfl ?_ | refine SubH.cons 6 rfl ?_ | refine SubH.cons 7 rfl ?_ | refine SubH.cons 8 rfl ?_ | refine SubH.cons 9 rfl ?_ | refine SubH.cons 10 rfl ?_ | refine SubH.cons 11 rfl ?_ | refine SubH.cons 12 rfl ?_ | refine SubH.cons 13 rfl ?_ | refine SubH.rown ?_))) hS) ?_
            refine' doneS_ret (res1 rfl rfl) ?_ ?_
            rotate_left 1
            exact ⟨rfl, rfl⟩
            exact SubH.refl _
          · refine at_eff' rfl rfl (eff_ro (ro_toStr Try.underlying32 Try.underlying5 Try.underlying9 rfl (Vw.pick 0 rfl Vw.row) rfl)) rfl ?_
            rintro _ _ ⟨rfl, rfl⟩
            refine any_eff' (i := 7) (by kernel_rfl) rfl rfl (eff_ro (ro_toStr Try.underlying32 Try.underlying5 Try.underlying9 rfl (Vw.pick 1 rfl Vw.row) rfl)) rfl ?_
            rintro _ _ ⟨rfl, rfl⟩
            refine any_ro' (i := 10) (by kernel_rfl) rfl rfl (ro_eqlS rfl rfl (decide_eq_true rfl)) rfl (fun _ _ _ h => h) ?_
            refine any_ro' (i := 11) (by kernel_rfl) rfl rfl (ro_pick rfl rfl) rfl (fun _ _ _ h => h) ?_
            refine any_ro' (i := 12) (by kernel_rfl) rfl rfl (ro_move (v := .bool true) rfl) rfl (fun _ _ _ h => h) ?_
            refine any_eff' (i := 13) (by kernel_rfl) rfl rfl (eff_call Try.call20 rfl rfl (by repeat (first | exact Split.nil _ | apply Split.cons 0 rfl | apply Split.cons 1 rfl | apply Split.cons 2 rfl | apply Split.cons 3 rfl | apply Split.cons 4 rfl | apply Split.cons 5 rfl | apply Split.cons 6 rfl | apply Split.cons 7 rfl | apply Split.cons 8 rfl | apply Split.cons 9 rfl | apply Split.cons 10 rfl | apply Split.cons 11 rfl)) (known11_spec V115)) rfl ?_
            rintro _ H' ⟨_, ⟨rfl, rfl⟩, hH⟩
            simp only [List.cons_append, List.nil_append, List.eraseIdx_cons_zero, List.eraseIdx_cons_succ, List.set_cons_zero, List.set_cons_succ] at hH
            subst hH
            refine any_ro' (i := 14) (by kernel_rfl) rfl rfl (ro_pick rfl rfl) rfl (fun _ _ _ h => h) ?_
            refine any_unlock (m' := 16) (L' := []) (by kernel_rfl) unlock ?_
            simp only [List.cons_append, List.nil_append, List.append_nil]
            refine any_ro' (i := 15) (by kernel_rfl) rfl rfl (ro_assign rfl) rfl (fun _ _ _ h => h) ?_
            refine any_doneH (by kernel_rfl) ?_
            refine Then_normal ?_
            refine wp_ret' ?_
            refine doneS_pre (SubH.trans (show SubH _ [V115] from (by repeat (first | exact SubH.nil _ | refine SubH.cons 0 rfl ?_ | refine SubH.cons 1 rfl ?_ | refine SubH.cons 2 rfl ?_ | refine SubH.cons 3 rfl ?_ | refine SubH.cons 4 rfl ?_ | refine SubH.cons 5 rfl ?_ | refine SubH.cons 6 rfl ?_ | refine SubH.cons 7 rfl ?_ | refine SubH.cons 8 rfl ?_ | refine SubH.cons 9 rfl ?_ | refine SubH.cons 10 rfl ?_ | refine SubH.cons 11 rfl ?_ | refine SubH.cons 12 rfl ?_ | refine SubH.cons 13 rfl ?_ | refine SubH.rown ?_))) hS) ?_
            refine' doneS_ret (res1 rfl rfl) ?_ ?_
            rotate_left 1
            exact ⟨rfl, rfl⟩
            exact SubH.refl _
      · refine at_eff' rfl rfl (eff_ro (ro_toStr Try.underlying32 Try.underlying5 Try.underlying9 rfl (Vw.pick 0 rfl Vw.row) rfl)) rfl ?_
        rintro _ _ ⟨rfl, rfl⟩
        refine any_eff' (i := 1) (by kernel_rfl) rfl rfl (eff_ro (ro_toStr Try.underlying32 Try.underlying5 Try.underlying9 rfl (Vw.pick 1 rfl Vw.row) rfl)) rfl ?_
        rintro _ _ ⟨rfl, rfl⟩
        refine any_ro' (i := 4) (by kernel_rfl) rfl rfl (ro_eqlS rfl rfl (decide_eq_true rfl)) rfl (fun _ _ _ h => h) ?_
        refine any_ro' (i := 5) (by kernel_rfl) rfl rfl (ro_move (v := .bool true) rfl) rfl (fun _ _ _ h => h) ?_
        refine any_eff' (i := 6) (by kernel_rfl) rfl rfl (eff_call Try.call18 rfl rfl (by repeat (first | exact Split.nil _ | apply Split.cons 0 rfl | apply Split.cons 1 rfl | apply Split.cons 2 rfl | apply Split.cons 3 rfl | apply Split.cons 4 rfl | apply Split.cons 5 rfl | apply Split.cons 6 rfl | apply Split.cons 7 rfl | apply Split.cons 8 rfl | apply Split.cons 9 rfl | apply Split.cons 10 rfl | apply Split.cons 11 rfl)) (auBye_spec 4294967295 (by decide))) rfl ?_
        rintro _ H' ⟨_, ⟨p132, c132, rfl, rfl⟩, hH⟩
        simp only [List.cons_append, List.nil_append, List.eraseIdx_cons_zero, List.eraseIdx_cons_succ, List.set_cons_zero, List.set_cons_succ] at hH
        subst hH
        refine any_two (i := 7) (j := 8) (by kernel_rfl) ?_ ?_
        · refine at_eff' rfl rfl (eff_ro (ro_toStr Try.underlying32 Try.underlying5 Try.underlying9 rfl (Vw.pick 0 rfl Vw.row) rfl)) rfl ?_
          rintro _ _ ⟨rfl, rfl⟩
          refine any_eff' (i := 8) (by kernel_rfl) rfl rfl (eff_callM (Pre := []) Try.call19 rfl rfl (Split.nil _) (rqBye_spec _ 4294967295)) rfl ?_
          rintro _ H' ⟨_, ⟨p134, c134, rfl, rfl⟩, hH⟩
          simp only [List.cons_append, List.nil_append, List.eraseIdx_cons_zero, List.eraseIdx_cons_succ, List.set_cons_zero, List.set_cons_succ] at hH
          subst hH
          refine any_eff' (i := 9) (by kernel_rfl) rfl rfl (eff_ro (ro_toStr Try.underlying32 Try.underlying5 Try.underlying9 rfl (Vw.pick 0 rfl Vw.row) rfl)) rfl ?_
          rintro _ _ ⟨rfl, rfl⟩
          refine any_ro' (i := 10) (by kernel_rfl) rfl rfl (ro_eqlS rfl rfl (decide_eq_true rfl)) rfl (fun _ _ _ h => h) ?_
          refine any_ro' (i := 11) (by kernel_rfl) rfl rfl (ro_pick rfl rfl) rfl (fun _ _ _ h => h) ?_
          refine any_ro' (i := 12) (by kernel_rfl) rfl rfl (ro_move (v := .bool true) rfl) rfl (fun _ _ _ h => h) ?_
          refine any_eff' (i := 13) (by kernel_rfl) rfl rfl (eff_call Try.call20 rfl rfl (by repeat (first | exact Split.nil _ | apply Split.cons 0 rfl | apply Split.cons 1 rfl | apply Split.cons 2 rfl | apply Split.cons 3 rfl | apply Split.cons 4 rfl | apply Split.cons 5 rfl | apply Split.cons 6 rfl | apply Split.cons 7 rfl | apply Split.cons 8 rfl | apply Split.cons 9 rfl | apply Split.cons 10 rfl | apply Split.cons 11 rfl)) (known11_spec V115)) rfl ?_
          rintro _ H' ⟨_, ⟨rfl, rfl⟩, hH⟩
          simp only [List.cons_append, List.nil_append, List.eraseIdx_cons_zero, List.eraseIdx_cons_succ, List.set_cons_zero, List.set_cons_succ] at hH
          subst hH
          refine any_ro' (i := 14) (by kernel_rfl) rfl rfl (ro_pick rfl rfl) rfl (fun _ _ _ h => h) ?_
          refine any_unlock (m' := 16) (L' := []) (by kernel_rfl) unlock ?_
          simp only [List.cons_append, List.nil_append, List.append_nil]
          refine any_ro' (i := 15) (by kernel_rfl) rfl rfl (ro_assign rfl) rfl (fun _ _ _ h => h) ?_
          refine any_doneH (by kernel_rfl) ?_
          refine Then_normal ?_
          refine wp_ret' ?_
          refine doneS_pre (SubH.trans (show SubH _ [V115] from (by repeat (first | exact SubH.nil _ | refine SubH.cons 0 rfl ?_ | refine SubH.cons 1 rfl ?_ | refine SubH.cons 2 rfl ?_ | refine SubH.cons 3 rfl ?_ | refine SubH.cons 4 rfl ?_ | refine SubH.cons 5 rfl ?_ | refine SubH.cons 6 rfl ?_ | refine SubH.cons 7 rfl ?_ | refine SubH.cons 8 rfl ?_ | refine SubH.cons 9 rfl ?_ | refine SubH.cons 10 rfl ?_ | refine SubH.cons 11 rfl ?_ | refine SubH.cons 12 rfl ?_ | refine SubH.cons 13 rfl ?_ | refine SubH.rown ?_))) hS) ?_
          refine' doneS_ret (res1 rfl rfl) ?_ ?_
          rotate_left 1
          exact ⟨rfl, rfl⟩
          exact SubH.refl _
        · refine at_eff' rfl rfl (eff_callM (Pre := []) Try.call19 rfl rfl (Split.nil _) (rqBye_spec _ 4294967295)) rfl ?_
          rintro _ H' ⟨_, ⟨p134, c134, rfl, rfl⟩, hH⟩
          simp only [List.cons_append, List.nil_append, List.eraseIdx_cons_zero, List.eraseIdx_cons_succ, List.set_cons_zero, List.set_cons_succ] at hH
          subst hH
          refine any_two (i := 7) (j := 9) (by kernel_rfl) ?_ ?_
          · refine at_eff' rfl rfl (eff_ro (ro_toStr Try.underlying32 Try.underlying5 Try.underlying9 rfl (Vw.pick 1 rfl Vw.row) rfl)) rfl ?_
            rintro _ _ ⟨rfl, rfl⟩
            refine any_eff' (i := 9) (by kernel_rfl) rfl rfl (eff_ro (ro_toStr Try.underlying32 Try.underlying5 Try.underlying9 rfl (Vw.pick 0 rfl Vw.row) rfl)) rfl ?_
            rintro _ _ ⟨rfl, rfl⟩
            refine any_ro' (i := 10) (by kernel_rfl) rfl rfl (ro_eqlS rfl rfl (decide_eq_true rfl)) rfl (fun _ _ _ h => h) ?_
            refine any_ro' (i := 11) (by kernel_rfl) rfl rfl (ro_pick rfl rfl) rfl (fun _ _ _ h => h) ?_
            refine any_ro' (i := 12) (by kernel_rfl) rfl rfl (ro_move (v := .bool true) rfl) rfl (fun _ _ _ h => h) ?_
            refine any_eff' (i := 13) (by kernel_rfl) rfl rfl (eff_call Try.call20 rfl rfl (by repeat (first | exact Split.nil _ | apply Split.cons 0 rfl | apply Split.cons 1 rfl | apply Split.cons 2 rfl | apply Split.cons 3 rfl | apply Split.cons 4 rfl | apply Split.cons 5 rfl | apply Split.cons 6 rfl | apply Split.cons 7 rfl | apply Split.cons 8 rfl | apply Split.cons 9 rfl | apply Split.cons 10 rfl | apply Split.cons 11 rfl)) (known11_spec V115)) rfl ?_
            rintro _ H' ⟨_, ⟨rfl, rfl⟩, hH⟩
            simp only [List.cons_append, List.nil_append, List.eraseIdx_cons_zero, List.eraseIdx_cons_succ, List.set_cons_zero, List.set_cons_succ] at hH
            subst hH
            refine any_ro' (i := 14) (by kernel_rfl) rfl rfl (ro_pick rfl rfl) rfl (fun _ _ _ h => h) ?_
            refine any_unlock (m' := 16) (L' := []) (by kernel_rfl) unlock ?_
            simp only [List.cons_append, List.nil_append, List.append_nil]
            refine any_ro' (i := 15) (by kernel_rfl) rfl rfl (ro_assign rfl) rfl (fun _ _ _ h => h) ?_
            refine any_doneH (by kernel_rfl) ?_
            refine Then_normal ?_
            refine wp_ret' ?_
            refine doneS_pre (SubH.trans (show SubH _ [V115] from (by repeat (first | exact SubH.nil _ | refine SubH.cons 0 rfl ?_ | refine SubH.cons 1 rfl ?_ | refine SubH.cons 2 rfl ?_ | refine SubH.cons 3 rfl ?_ | refine SubH.cons 4 rfl ?_ | refine SubH.cons 5 rfl ?_ | refine SubH.cons 6 rfl ?_ | refine SubH.cons 7 rfl ?_ | refine SubH.cons 8 rfl ?_ | refine SubH.cons 9 rfl ?_ | refine SubH.cons 10 rfl ?_ | refine SubH.cons 11 rfl ?_ | refine SubH.cons 12 rfl ?_ | refine SubH.cons 13 rfl ?_ | refine SubH.rown ?_))) hS) ?_
            refine' doneS_ret (res1 rfl rfl) ?_ ?_
            rotate_left 1
            exact ⟨rfl, rfl⟩
            exact SubH.refl _
          · refine at_eff' rfl rfl (eff_ro (ro_toStr Try.underlying32 Try.underlying5 Try.underlying9 rfl (Vw.pick 0 rfl Vw.row) rfl)) rfl ?_
            rintro _ _ ⟨rfl, rfl⟩
            refine any_eff' (i := 7) (by kernel_rfl) rfl rfl (eff_ro (ro_toStr Try.underlying32 Try.underlying5 Try.underlying9 rfl (Vw.pick 1 rfl Vw.row) rfl)) rfl ?_
            rintro _ _ ⟨rfl, rfl⟩
            refine any_ro' (i := 10) (by kernel_rfl) rfl rfl (ro_eqlS rfl rfl (decide_eq_true rfl)) rfl (fun _ _ _ h => h) ?_
            refine any_ro' (i := 11) (by kernel_rfl) rfl rfl (ro_pick rfl rfl) rfl (fun _ _ _ h => h) ?_
            refine any_ro' (i := 12) (by kernel_rfl) rfl rfl (ro_move (v := .bool true) rfl) rfl (fun _ _ _ h => h) ?_
            refine any_eff' (i := 13) (by kernel_rfl) rfl rfl (eff_call Try.call20 rfl rfl (by repeat (first | exact Split.nil _ | apply Split.cons 0 rfl | apply Split.cons 1 rfl | apply Split.cons 2 rfl | apply Split.cons 3 rfl | apply Split.cons 4 rfl | apply Split.cons 5 rfl | apply Split.cons 6 rfl | apply Split.cons 7 rfl | apply Split.cons 8 rfl | apply Split.cons 9 rfl | apply Split.cons 10 rfl | apply Split.cons 11 rfl)) (known11_spec V115)) rfl ?_
            rintro _ H' ⟨_, ⟨rfl, rfl⟩, hH⟩
            simp only [List.cons_append, List.nil_append, List.eraseIdx_cons_zero, List.eraseIdx_cons_succ, List.set_cons_zero, List.set_cons_succ] at hH
            subst hH
            refine any_ro' (i := 14) (by kernel_rfl) rfl rfl (ro_pick rfl rfl) rfl (fun _ _ _ h => h) ?_
            refine any_unlock (m' := 16) (L' := []) (by kernel_rfl) unlock ?_
            simp only [List.cons_append, List.nil_append, List.append_nil]
            refine any_ro' (i := 15) (by kernel_rfl) rfl rfl (ro_assign rfl) rfl (fun _ _ _ h => h) ?_
            refine any_doneH (by kernel_rfl) ?_
            refine Then_normal ?_
            refine wp_ret' ?_
            refine doneS_pre (SubH.trans (show SubH _ [V115] from (by repeat (first | exact SubH.nil _ | refine SubH.cons 0 rfl ?_ | refine SubH.cons 1 rfl ?_ | refine SubH.cons 2 rfl ?_ | refine SubH.cons 3 rfl ?_ | refine SubH.cons 4 rfl ?_ | refine SubH.cons 5 rfl ?_ | refine SubH.cons 6 rfl ?_ | refine SubH.cons 7 rfl ?_ | refine SubH.cons 8 rfl ?_ | refine SubH.cons 9 rfl ?_ | refine SubH.cons 10 rfl ?_ | refine SubH.cons 11 rfl ?_ | refine SubH.cons 12 rfl ?_ | refine SubH.cons 13 rfl ?_ | refine SubH.rown ?_))) hS) ?_
            refine' doneS_ret (res1 rfl rfl) ?_ ?_
            rotate_left 1
            exact ⟨rfl, rfl⟩
            exact SubH.refl _

end Go.Proofs.Ytigaolglnnjnmaa
