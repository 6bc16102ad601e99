/-
  The walk of AuthOnly.
-/
import Derived.Test.YtigaolglnnjnmaaAuthJ
namespace Go.Proofs.Ytigaolglnnjnmaa
open Go.Sx
set_option linter.unusedVariables false
set_option linter.unusedSimpArgs false
set_option maxRecDepth 100000
set_option maxHeartbeats 4000000

/-- what a login does at a gate whose service was asked for -/
inductive Only (g : Gs) (us : List Us) (x : Us) : Gs → Option (List UInt8) → Prop
  | q : (g.inn = true ∨ 5 ≤ g.tries) → Only g us x g none
  | r : ¬ (g.inn = true ∨ 5 ≤ g.tries) → x ∈ us → Only g us x { g with user := x.name, inn := true } (some [52])
  | w (y : List UInt8) : ¬ (g.inn = true ∨ 5 ≤ g.tries) → x ∉ us → 0 < y.length → (∀ h : 0 < y.length, y[0].toNat ≠ 52) → Only g us x { g with tries := g.tries + 1, dead := decide (5 ≤ g.tries + 1) } (some y)
theorem Only.quiet {g g2 : Gs} {us : List Us} {x : Us} {o : Option (List UInt8)} (h : Only g us x g2 o) (hc : g.inn = true ∨ 5 ≤ g.tries) : g2 = g ∧ o = none := by
  cases h with
  | q _ => exact ⟨rfl, rfl⟩
  | r h _ => exact absurd hc h
  | w y h _ _ _ => exact absurd hc h
theorem Only.right {g g2 : Gs} {us : List Us} {x : Us} {o : Option (List UInt8)} (h : Only g us x g2 o) (hc : ¬ (g.inn = true ∨ 5 ≤ g.tries)) (hx : x ∈ us) : g2 = { g with user := x.name, inn := true } ∧ o = some [52] := by
  cases h with
  | q h => exact absurd h hc
  | r _ _ => exact ⟨rfl, rfl⟩
  | w y _ h _ _ => exact absurd hx h
theorem Only.wrong {g g2 : Gs} {us : List Us} {x : Us} {o : Option (List UInt8)} (h : Only g us x g2 o) (hc : ¬ (g.inn = true ∨ 5 ≤ g.tries)) (hx : x ∉ us) : g2 = { g with tries := g.tries + 1, dead := decide (5 ≤ g.tries + 1) } ∧ ∃ y, o = some y ∧ 0 < y.length ∧ ∀ h : 0 < y.length, y[0].toNat ≠ 52 := by
  cases h with
  | q h => exact absurd h hc
  | r _ h => exact absurd h hx
  | w y _ _ h1 h2 => exact ⟨rfl, y, rfl, h1, h2⟩
theorem only_all {g : Gs} {us : List Us} {x : Us} {nm b : List UInt8} {pb : Option Addr} {cb : Nat} (hu : x.name.length ≤ 64) (hp : x.pass.length ≤ 64) (hs : g.sv = true) (hd : g.dead = decide (5 ≤ g.tries)) :
    Only g us x (gDo g us (payB ⟨2, 0, x.name, x.pass, nm, b, pb, cb⟩)).1 (gDo g us (payB ⟨2, 0, x.name, x.pass, nm, b, pb, cb⟩)).2 := by
  rw [only_step hu hp hs]
  by_cases h1 : g.dead = true
  · rw [if_pos h1]; exact .q (.inr (by rw [hd] at h1; simpa using h1))
  · rw [if_neg h1]
    by_cases h2 : g.inn = true
    · rw [if_pos h2]; exact .q (.inl h2)
    · rw [if_neg h2]
      have hn : ¬ (g.inn = true ∨ 5 ≤ g.tries) := by rintro (h | h); exact h2 h; rw [hd] at h1; exact h1 (decide_eq_true h)
      by_cases h3 : x ∈ us
      · rw [if_pos h3]; exact .r hn h3
      · rw [if_neg h3]
        have h5 : ¬ 5 ≤ g.tries := fun h => hn (.inr h)
        have hdf : g.dead = false := by rw [hd]; simpa using h5
        by_cases h4 : 5 ≤ g.tries + 1
        · rw [gTry_end h4]
          have e : (gEnd { g with tries := g.tries + 1 } 14).1 = { g with tries := g.tries + 1, dead := decide (5 ≤ g.tries + 1) } := by rw [decide_eq_true h4]; rfl
          rw [e]; exact .w (byeB 14) hn h3 (by decide) (by decide)
        · rw [gTry_go h4]
          have e : ({ g with tries := g.tries + 1 } : Gs) = { g with tries := g.tries + 1, dead := decide (5 ≤ g.tries + 1) } := by rw [decide_eq_false h4]; cases g; simp_all
          show Only g us x { g with tries := g.tries + 1 } (some tryB)
          rw [e]; exact .w tryB hn h3 (by decide) (by decide)
theorem us_eq {x y : Us} : y = x ↔ x.name = y.name ∧ x.pass = y.pass := by
  cases x; cases y; simp only [Us.mk.injEq]; exact ⟨fun h => ⟨h.1.symm, h.2.symm⟩, fun h => ⟨h.1.symm, h.2.symm⟩⟩
theorem in1 {us : List Us} {x : Us} {j : Nat} {rt : Bool} (hrt : rt = true ↔ x ∈ us.take j) (hk : j < us.length) (h : rt = true) : (true = true ↔ x ∈ us.take (j + 1)) := by
  rw [List.take_succ_eq_append_getElem hk, List.mem_append]; exact ⟨fun _ => .inl (hrt.1 h), fun _ => rfl⟩
theorem in2 {us : List Us} {x : Us} {j : Nat} {rt : Bool} (hrt : rt = true ↔ x ∈ us.take j) (hk : j < us.length) (h : ¬ rt = true) (h2 : ¬ us[j].name = x.name) : (false = true ↔ x ∈ us.take (j + 1)) := by
  rw [List.take_succ_eq_append_getElem hk, List.mem_append, List.mem_singleton, us_eq]
  exact ⟨fun h => (by cases h), fun h' => by rcases h' with h' | h'; exact absurd (hrt.2 h') h; exact absurd h'.1 h2⟩
theorem in3 {us : List Us} {x : Us} {j : Nat} {rt : Bool} (hrt : rt = true ↔ x ∈ us.take j) (hk : j < us.length) (h : ¬ rt = true) (h2 : us[j].name = x.name) : (decide (us[j].pass = x.pass) = true ↔ x ∈ us.take (j + 1)) := by
  rw [List.take_succ_eq_append_getElem hk, List.mem_append, List.mem_singleton, us_eq, decide_eq_true_eq]
  exact ⟨fun h3 => .inr ⟨h2, h3⟩, fun h' => by rcases h' with h' | h'; exact absurd (hrt.2 h') h; exact h'.2⟩
theorem not2 {b : Bool} {t : Nat} (h : b = false) (ht : ¬ 5 ≤ t) : ¬ (b = true ∨ 5 ≤ t) := by
  rintro (h1 | h1)
  · rw [h] at h1; cases h1
  · exact ht h1
theorem dd6 {t : Nat} {z : Int} {b d : Bool} (h : d = decide (5 ≤ t)) (hz : z = t) (hb : decide (5 ≤ z) = b) : (d != b) = false := by
  subst h hz hb; rw [show decide ((5 : Int) ≤ (t : Int)) = decide (5 ≤ t) from decide_eq_decide.2 (by omega)]; simp
theorem authonly_run (V : HProp) (q : Option Addr) (cq : Nat) (l : List Us) (hV : Vw V (.slice q l.length cq) l.length (flat Us.cs l)) (hlq : l.length ≤ 9223372036854775807) (qa : Option Addr) (ca : Nat) (a : List Ak) (hVa : Vw V (.slice qa a.length ca) a.length (flat Ak.cs a)) (hA : ∀ x ∈ a, Vw V (.slice x.p x.b.length x.c) x.b.length (cel x.b) ∧ x.b.length ≤ x.c) :
    Tri Try.prog 7 [.slice q l.length cq, .slice qa a.length ca] [V] (fun v H' => v = .bool true ∧ H' = [V]) := by
  refine tri_of_wpS Try.func7 rfl Try.ntmps7 (by simp) ?_
  refine wp_seq' ?_
  refine wp_region' ?_
  refine ops_ro' rfl (ro_assign rfl) rfl ?_
  refine ops_nil ?_
  refine Then_normal ?_
  refine wp_seq' ?_
  refine wp_region' ?_
  refine ops_ro' rfl (ro_move rfl) rfl ?_
  refine ops_eff' rfl (eff_call Try.call21 rfl rfl (by repeat (first | exact Split.nil _ | apply Split.cons 0 rfl | apply Split.cons 1 rfl | apply Split.cons 2 rfl | apply Split.cons 3 rfl | apply Split.cons 4 rfl | apply Split.cons 5 rfl | apply Split.cons 6 rfl | apply Split.cons 7 rfl | apply Split.cons 8 rfl | apply Split.cons 9 rfl | apply Split.cons 10 rfl | apply Split.cons 11 rfl)) (users_spec V q cq l hV hlq)) rfl ?_
  rintro _ H' ⟨_, ⟨_, ⟨p13, c13, rfl, rfl⟩, rfl⟩, hH⟩
  simp only [List.cons_append, List.nil_append, List.eraseIdx_cons_zero, List.eraseIdx_cons_succ, List.set_cons_zero, List.set_cons_succ] at hH
  subst hH
  have hus : (usr (l.take 5)).length ≤ 5 := by rw [usr, List.length_map, List.length_take]; omega
  generalize usr (l.take 5) = us at *
  refine ops_ro' rfl (ro_assign rfl) rfl ?_
  refine ops_nil ?_
  refine Then_normal ?_
  refine wp_seq' ?_
  refine wp_region' ?_
  refine ops_ro' rfl (ro_move rfl) rfl ?_
  refine ops_eff' rfl (eff_callM (Pre := []) Try.call23 rfl rfl (Split.nil _) (auNew_K _ _ _ us (by first | exact Vw.pick 0 rfl Vw.row | exact Vw.pick 1 rfl Vw.row | exact Vw.pick 2 rfl Vw.row | exact Vw.pick 3 rfl Vw.row | exact Vw.pick 4 rfl Vw.row | exact Vw.pick 5 rfl Vw.row | exact Vw.pick 6 rfl Vw.row | exact Vw.pick 7 rfl Vw.row | exact Vw.pick 8 rfl Vw.row | exact Vw.nil _ | exact Vw.empty _ _) (by omega))) rfl ?_
  rintro _ H' ⟨_, ⟨bg, p, c, rfl, rfl⟩, hH⟩
  simp only [List.cons_append, List.nil_append, List.eraseIdx_cons_zero, List.eraseIdx_cons_succ, List.set_cons_zero, List.set_cons_succ] at hH
  subst hH
  refine ops_ro' rfl (ro_assign rfl) rfl ?_
  refine ops_nil ?_
  refine Then_normal ?_
  refine wp_seq' ?_
  refine wp_seq' ?_
  refine wp_region' ?_
  refine ops_ro' rfl (ro_move rfl) rfl ?_
  refine ops_ro' rfl (ro_ptrEqlNil Try.underlying46 rfl rfl rfl) rfl ?_
  refine ops_nil ?_
  refine Then_normal ?_
  refine wp_condF rfl ?_
  refine wp_skip' ?_
  refine Then_normal ?_
  refine wp_seq' ?_
  refine wp_region' ?_
  refine ops_ro' rfl (ro_move rfl) rfl ?_
  refine ops_ro' rfl (ro_build rfl (bld_struct (cs := Ak.cs ⟨1, 0, [], [], [], [], none, 0⟩) st35 rfl)) rfl ?_
  refine ops_eff' rfl (eff_call Try.call16 rfl rfl (by repeat (first | exact Split.nil _ | apply Split.cons 0 rfl | apply Split.cons 1 rfl | apply Split.cons 2 rfl | apply Split.cons 3 rfl | apply Split.cons 4 rfl | apply Split.cons 5 rfl | apply Split.cons 6 rfl | apply Split.cons 7 rfl | apply Split.cons 8 rfl | apply Split.cons 9 rfl | apply Split.cons 10 rfl | apply Split.cons 11 rfl)) (payload_run V 1 0 [] [] [] [] none 0 (Vw.nil V) (Nat.le_refl _))) rfl ?_
  rintro _ H' ⟨_, ⟨A24, pp24, cc24, rfl, hv24, hc24, rfl⟩, hH⟩
  simp only [List.cons_append, List.nil_append, List.eraseIdx_cons_zero, List.eraseIdx_cons_succ, List.set_cons_zero, List.set_cons_succ] at hH
  subst hH
  refine ops_eff' rfl (eff_callM (Pre := [_]) Try.call24 rfl rfl (by repeat (first | exact Split.nil _ | apply Split.cons 0 rfl | apply Split.cons 1 rfl | apply Split.cons 2 rfl | apply Split.cons 3 rfl | apply Split.cons 4 rfl | apply Split.cons 5 rfl | apply Split.cons 6 rfl | apply Split.cons 7 rfl | apply Split.cons 8 rfl | apply Split.cons 9 rfl | apply Split.cons 10 rfl | apply Split.cons 11 rfl)) (auDo_K _ bg p c Gs.zero (by decide) us (by first | exact Vw.pick 0 rfl Vw.row | exact Vw.pick 1 rfl Vw.row | exact Vw.pick 2 rfl Vw.row | exact Vw.pick 3 rfl Vw.row | exact Vw.pick 4 rfl Vw.row | exact Vw.pick 5 rfl Vw.row | exact Vw.pick 6 rfl Vw.row | exact Vw.pick 7 rfl Vw.row | exact Vw.pick 8 rfl Vw.row | exact Vw.nil _ | exact Vw.empty _ _) (by omega) _ (payB ⟨1, 0, [], [], [], [], none, 0⟩) _ (Vw.subH (by repeat (first | exact SubH.nil _ | refine SubH.cons 0 rfl ?_ | refine SubH.cons 1 rfl ?_ | refine SubH.cons 2 rfl ?_ | refine SubH.cons 3 rfl ?_ | refine SubH.cons 4 rfl ?_ | refine SubH.cons 5 rfl ?_ | refine SubH.cons 6 rfl ?_ | refine SubH.cons 7 rfl ?_ | refine SubH.cons 8 rfl ?_ | refine SubH.cons 9 rfl ?_ | refine SubH.cons 10 rfl ?_ | refine SubH.cons 11 rfl ?_ | refine SubH.cons 12 rfl ?_ | refine SubH.cons 13 rfl ?_ | refine SubH.rown ?_)) hv24) hc24 (by rw [show (payB ⟨1, 0, [], [], [], [], none, 0⟩).length = _ from rfl]; decide))) rfl ?_
  rintro _ H' ⟨_, rfl, hH⟩
  simp only [List.cons_append, List.nil_append, List.eraseIdx_cons_zero, List.eraseIdx_cons_succ, List.set_cons_zero, List.set_cons_succ] at hH
  subst hH
  rw [show gDo Gs.zero us (payB ⟨1, 0, [], [], [], [], none, 0⟩) = (⟨true, 0, [], false, false⟩, some [6, 0, 0, 0, 12, 115, 115, 104, 45, 117, 115, 101, 114, 97, 117, 116, 104]) from rfl]
  refine ops_nil ?_
  refine Then_normal ?_
  refine wp_seq' ?_
  refine wp_region' ?_
  refine ops_ro' rfl (ro_assign rfl) rfl ?_
  refine ops_nil ?_
  refine Then_normal ?_
  refine wp_seq' ?_
  refine wp_region' ?_
  refine ops_ro' rfl (ro_assign rfl) rfl ?_
  refine ops_nil ?_
  refine Then_normal ?_
  refine wp_seq' ?_
  refine wp_seq' ?_
  refine wp_region' ?_
  refine ops_ro' rfl (ro_assign rfl) rfl ?_
  refine ops_nil ?_
  refine Then_normal ?_
  refine wp_block' ?_
  refine wp_loopK 9 (fun m Δ LL => ∃ (i : Nat) (g : Gs), (i + m = a.length ∧ i ≤ 20 ∧ g.sv = true ∧ g.dead = decide (5 ≤ g.tries) ∧ g.tries ≤ 20) ∧ Δ = [(7, .bool g.inn), (8, .int .i64 (g.tries : Nat)), (9, .int .i64 (i : Nat))] ∧ LL = [gt bg p us.length c g, row 30 2 (.slice p13 us.length c13) us.length (flat Us.cs us), row 30 2 (.slice p us.length c) us.length (flat Us.cs us), V]) (m := a.length) (Has.cons (k := 1) rfl (Has.cons (k := 5) rfl (Has.cons (k := 6) rfl (Has.nil _)))) (kept ⟨0, ⟨true, 0, [], false, false⟩, ⟨by omega, by omega, rfl, rfl, by decide⟩, rfl, rfl⟩ (by repeat (first | exact Has.nil _ | refine Has.cons rfl ?_)) (by repeat (first | exact Has.nil _ | refine Has.cons rfl ?_)) (by repeat (first | exact SubH.nil _ | refine SubH.cons 0 rfl ?_ | refine SubH.cons 1 rfl ?_ | refine SubH.cons 2 rfl ?_ | refine SubH.cons 3 rfl ?_ | refine SubH.cons 4 rfl ?_ | refine SubH.cons 5 rfl ?_ | refine SubH.cons 6 rfl ?_ | refine SubH.cons 7 rfl ?_ | refine SubH.cons 8 rfl ?_ | refine SubH.cons 9 rfl ?_ | refine SubH.cons 10 rfl ?_ | refine SubH.cons 11 rfl ?_ | refine SubH.cons 12 rfl ?_ | refine SubH.cons 13 rfl ?_ | refine SubH.rown ?_))) ?_
  rintro m Δ LL ⟨i, g, ⟨hm, hi20, hg1, hg2, hg3⟩, rfl, rfl⟩
  simp only [List.cons_append, List.nil_append]
  refine wp_seq' ?_
  refine wp_seq' ?_
  refine wp_region' ?_
  refine ops_ro' rfl (ro_move rfl) rfl ?_
  refine ops_ro' rfl (ro_move rfl) rfl ?_
  refine ops_ro' rfl (ro_sliceLen Try.underlying41 rfl) rfl ?_
  refine ops_ro' rfl (ro_lss rfl rfl rfl) rfl ?_
  refine ops_split rfl rfl rfl (fun hg30 => ?_) (fun hg30 => ?_)
  · replace hg30 := of_decide_eq_true hg30
    refine ops_ro' rfl (ro_move rfl) rfl ?_
    refine ops_ro' rfl (ro_lss rfl rfl rfl) rfl ?_
    refine ops_ro' rfl (ro_pick rfl rfl) rfl ?_
    refine ops_nil ?_
    refine Then_normal ?_
    refine wp_cond' rfl (fun hc33 => ?_) (fun hc33 => ?_)
    · replace hc33 := of_decide_eq_true hc33
      refine wp_skip' ?_
      refine Then_normal ?_
      refine wp_seq' ?_
      refine wp_block' ?_
      refine wp_seq' ?_
      have hi : i < a.length := by omega
      obtain ⟨hB, hBc⟩ := hA a[i] (List.getElem_mem hi)
      refine wp_know (fun w F s => vw_ptr (Vw.pick (H := [_, _, _, V]) 3 rfl hVa) s (by omega)) ?_
      rintro ⟨b7, o7, rfl⟩
      refine wp_region' ?_
      refine ops_ro' rfl (ro_move rfl) rfl ?_
      refine ops_ro' rfl (ro_move rfl) rfl ?_
      refine ops_ro' rfl (ro_indexSlice sl41 rfl rfl rfl (by omega)) rfl ?_
      refine ops_ro' rfl (ro_loadA ag35 rfl (RdN.of_pick 3 rfl ((RdN.elem (vw_rdn hVa) Ak.len (List.getElem?_eq_getElem hi)))) rfl) rfl ?_
      refine ops_eff' rfl (eff_alloc z35) rfl ?_
      rintro _ _ ⟨b10, rfl, rfl⟩
      refine ops_eff0 rfl (eff_storeA 0 ag35 rfl rfl rfl rfl rfl (Nat.le_of_ble_eq_true rfl) (warm_zero _)) rfl ?_
      rintro _ _ rfl
      refine ops_nil ?_
      refine Then_normal ?_
      refine wp_seq' ?_
      refine wp_region' ?_
      refine ops_ro' rfl (ro_fieldAddr fa35_0 rfl) rfl ?_
      refine ops_eff0 rfl (eff_store 0 sc3 rfl rfl rfl rfl (Nat.le_of_ble_eq_true rfl) (warm_zero _)) rfl ?_
      rintro _ _ rfl
      refine ops_nil ?_
      refine Then_normal ?_
      refine wp_seq' ?_
      refine wp_region' ?_
      refine ops_ro' rfl (ro_fieldAddr fa35_1 rfl) rfl ?_
      refine ops_eff0 rfl (eff_store 0 sc3 rfl rfl rfl rfl (Nat.le_of_ble_eq_true rfl) (warm_zero _)) rfl ?_
      rintro _ _ rfl
      refine ops_nil ?_
      refine Then_normal ?_
      refine wp_seq' ?_
      refine wp_region' ?_
      refine ops_ro' rfl (ro_fieldAddr fa35_2 rfl) rfl ?_
      refine ops_ro' rfl (ro_load sc9 rfl (Rd.pick 0 rfl (Rd.own rfl))) rfl ?_
      refine ops_eff' rfl (eff_call Try.call25 rfl rfl (by repeat (first | exact Split.nil _ | apply Split.cons 0 rfl | apply Split.cons 1 rfl | apply Split.cons 2 rfl | apply Split.cons 3 rfl | apply Split.cons 4 rfl | apply Split.cons 5 rfl | apply Split.cons 6 rfl | apply Split.cons 7 rfl | apply Split.cons 8 rfl | apply Split.cons 9 rfl | apply Split.cons 10 rfl | apply Split.cons 11 rfl)) (kHead a[i].user 64)) rfl ?_
      rintro _ H' ⟨_, ⟨rfl, rfl⟩, hH⟩
      simp only [List.cons_append, List.nil_append, List.eraseIdx_cons_zero, List.eraseIdx_cons_succ, List.set_cons_zero, List.set_cons_succ] at hH
      subst hH
      refine ops_ro' rfl (ro_fieldAddr fa35_2 rfl) rfl ?_
      refine ops_eff0 rfl (eff_store 0 sc9 rfl rfl rfl rfl (Nat.le_of_ble_eq_true rfl) (warm_zero _)) rfl ?_
      rintro _ _ rfl
      refine ops_nil ?_
      refine Then_normal ?_
      refine wp_seq' ?_
      refine wp_region' ?_
      refine ops_ro' rfl (ro_fieldAddr fa35_3 rfl) rfl ?_
      refine ops_ro' rfl (ro_load sc9 rfl (Rd.pick 0 rfl (Rd.own rfl))) rfl ?_
      refine ops_eff' rfl (eff_call Try.call25 rfl rfl (by repeat (first | exact Split.nil _ | apply Split.cons 0 rfl | apply Split.cons 1 rfl | apply Split.cons 2 rfl | apply Split.cons 3 rfl | apply Split.cons 4 rfl | apply Split.cons 5 rfl | apply Split.cons 6 rfl | apply Split.cons 7 rfl | apply Split.cons 8 rfl | apply Split.cons 9 rfl | apply Split.cons 10 rfl | apply Split.cons 11 rfl)) (kHead a[i].pass 64)) rfl ?_
      rintro _ H' ⟨_, ⟨rfl, rfl⟩, hH⟩
      simp only [List.cons_append, List.nil_append, List.eraseIdx_cons_zero, List.eraseIdx_cons_succ, List.set_cons_zero, List.set_cons_succ] at hH
      subst hH
      refine ops_ro' rfl (ro_fieldAddr fa35_3 rfl) rfl ?_
      refine ops_eff0 rfl (eff_store 0 sc9 rfl rfl rfl rfl (Nat.le_of_ble_eq_true rfl) (warm_zero _)) rfl ?_
      rintro _ _ rfl
      refine ops_nil ?_
      refine Then_normal ?_
      refine wp_seq' ?_
      refine wp_region' ?_
      refine ops_ro' rfl (ro_move rfl) rfl ?_
      refine ops_ro' rfl (ro_loadA ag35 rfl (RdN.of_pick 0 rfl rdn_all) rfl) rfl ?_
      refine ops_eff' rfl (eff_call Try.call16 rfl rfl (by repeat (first | exact Split.nil _ | apply Split.cons 0 rfl | apply Split.cons 1 rfl | apply Split.cons 2 rfl | apply Split.cons 3 rfl | apply Split.cons 4 rfl | apply Split.cons 5 rfl | apply Split.cons 6 rfl | apply Split.cons 7 rfl | apply Split.cons 8 rfl | apply Split.cons 9 rfl | apply Split.cons 10 rfl | apply Split.cons 11 rfl)) (payload_run V 2 0 (a[i].user.take 64) (a[i].pass.take 64) a[i].name a[i].b a[i].p a[i].c hB hBc)) rfl ?_
      rintro _ H' ⟨_, ⟨A52, pp, cc, rfl, hv, hc, rfl⟩, hH⟩
      simp only [List.cons_append, List.nil_append, List.eraseIdx_cons_zero, List.eraseIdx_cons_succ, List.set_cons_zero, List.set_cons_succ] at hH
      subst hH
      have hxl := payB_len ⟨2, 0, a[i].user.take 64, a[i].pass.take 64, a[i].name, a[i].b, a[i].p, a[i].c⟩
      have hO := only_all (g := g) (us := us) (x := (⟨a[i].user.take 64, a[i].pass.take 64⟩ : Us)) (nm := a[i].name) (b := a[i].b) (pb := a[i].p) (cb := a[i].c) (by simp only [List.length_take]; omega) (by simp only [List.length_take]; omega) hg1 hg2
      simp only at hO
      generalize payB ⟨2, 0, a[i].user.take 64, a[i].pass.take 64, a[i].name, a[i].b, a[i].p, a[i].c⟩ = x at *
      refine ops_eff' rfl (eff_callM (Pre := [_]) Try.call24 rfl rfl (by repeat (first | exact Split.nil _ | apply Split.cons 0 rfl | apply Split.cons 1 rfl | apply Split.cons 2 rfl | apply Split.cons 3 rfl | apply Split.cons 4 rfl | apply Split.cons 5 rfl | apply Split.cons 6 rfl | apply Split.cons 7 rfl | apply Split.cons 8 rfl | apply Split.cons 9 rfl | apply Split.cons 10 rfl | apply Split.cons 11 rfl)) (auDo_K _ bg p c g (by omega) us (by first | exact Vw.pick 0 rfl Vw.row | exact Vw.pick 1 rfl Vw.row | exact Vw.pick 2 rfl Vw.row | exact Vw.pick 3 rfl Vw.row | exact Vw.pick 4 rfl Vw.row | exact Vw.pick 5 rfl Vw.row | exact Vw.pick 6 rfl Vw.row | exact Vw.pick 7 rfl Vw.row | exact Vw.pick 8 rfl Vw.row | exact Vw.nil _ | exact Vw.empty _ _) (by omega) _ x _ (Vw.subH (by repeat (first | exact SubH.nil _ | refine SubH.cons 0 rfl ?_ | refine SubH.cons 1 rfl ?_ | refine SubH.cons 2 rfl ?_ | refine SubH.cons 3 rfl ?_ | refine SubH.cons 4 rfl ?_ | refine SubH.cons 5 rfl ?_ | refine SubH.cons 6 rfl ?_ | refine SubH.cons 7 rfl ?_ | refine SubH.cons 8 rfl ?_ | refine SubH.cons 9 rfl ?_ | refine SubH.cons 10 rfl ?_ | refine SubH.cons 11 rfl ?_ | refine SubH.cons 12 rfl ?_ | refine SubH.cons 13 rfl ?_ | refine SubH.rown ?_)) hv) hc (by omega))) rfl ?_
      rintro v53 H' ⟨_, rfl, hH⟩
      simp only [List.cons_append, List.nil_append, List.eraseIdx_cons_zero, List.eraseIdx_cons_succ, List.set_cons_zero, List.set_cons_succ] at hH
      subst hH
      generalize gDo g us x = t at *
      obtain ⟨g2, o⟩ := t
      simp only at *
      refine ops_ro' rfl (ro_assign rfl) rfl ?_
      refine ops_nil ?_
      refine Then_normal ?_
      refine wp_seq' ?_
      refine wp_region' ?_
      refine ops_ro' rfl (ro_assign rfl) rfl ?_
      refine ops_nil ?_
      refine Then_normal ?_
      refine wp_seq' ?_
      refine wp_seq' ?_
      refine wp_region' ?_
      refine ops_ro' rfl (ro_assign rfl) rfl ?_
      refine ops_nil ?_
      refine Then_normal ?_
      refine wp_block' ?_
      refine wp_loopK 19 (fun m Δ LL => ∃ (j : Nat) (rt : Bool), (j + m = us.length ∧ (rt = true ↔ (⟨a[i].user.take 64, a[i].pass.take 64⟩ : Us) ∈ us.take j)) ∧ Δ = [(12, .bool rt), (13, .int .i64 (j : Nat))] ∧ LL = [ansP v53 o, gt bg p us.length c g2, own b10 (.cells (Ak.cs ⟨2, 0, a[i].user.take 64, a[i].pass.take 64, a[i].name, a[i].b, a[i].p, a[i].c⟩).toArray 35 (0, 0)), row 30 2 (.slice p13 us.length c13) us.length (flat Us.cs us), row 30 2 (.slice p us.length c) us.length (flat Us.cs us), V]) (m := us.length) (Has.cons (k := 1) rfl (Has.cons (k := 5) rfl (Has.cons (k := 6) rfl (Has.cons (k := 7) rfl (Has.cons (k := 8) rfl (Has.cons (k := 9) rfl (Has.cons (k := 10) rfl (Has.cons (k := 11) rfl (Has.nil _))))))))) (kept ⟨0, false, ⟨by omega, by simp⟩, rfl, rfl⟩ (by repeat (first | exact Has.nil _ | refine Has.cons rfl ?_)) (by repeat (first | exact Has.nil _ | refine Has.cons rfl ?_)) (by repeat (first | exact SubH.nil _ | refine SubH.cons 0 rfl ?_ | refine SubH.cons 1 rfl ?_ | refine SubH.cons 2 rfl ?_ | refine SubH.cons 3 rfl ?_ | refine SubH.cons 4 rfl ?_ | refine SubH.cons 5 rfl ?_ | refine SubH.cons 6 rfl ?_ | refine SubH.cons 7 rfl ?_ | refine SubH.cons 8 rfl ?_ | refine SubH.cons 9 rfl ?_ | refine SubH.cons 10 rfl ?_ | refine SubH.cons 11 rfl ?_ | refine SubH.cons 12 rfl ?_ | refine SubH.cons 13 rfl ?_ | refine SubH.rown ?_))) ?_
      rintro m2 Δ LL ⟨j, rt, ⟨hj, hrt⟩, rfl, rfl⟩
      simp only [List.cons_append, List.nil_append]
      refine wp_seq' ?_
      refine wp_seq' ?_
      refine wp_region' ?_
      refine ops_ro' rfl (ro_move rfl) rfl ?_
      refine ops_ro' rfl (ro_move rfl) rfl ?_
      refine ops_ro' rfl (ro_sliceLen Try.underlying31 rfl) rfl ?_
      refine ops_ro' rfl (ro_lss rfl rfl rfl) rfl ?_
      refine ops_nil ?_
      refine Then_normal ?_
      refine wp_cond' rfl (fun hc57 => ?_) (fun hc57 => ?_)
      · replace hc57 := of_decide_eq_true hc57
        refine wp_skip' ?_
        refine Then_normal ?_
        refine wp_seq' ?_
        refine wp_block' ?_
        have hk : j < us.length := by omega
        refine wp_know (fun w F s => row_ptr' 3 rfl s (by omega)) ?_
        rintro ⟨bu, rfl⟩
        refine wp_draw 21 (by kernel_rfl) (Split.all _) ?_
        refine any_ro' (i := 0) (by kernel_rfl) rfl rfl (ro_move rfl) rfl (fun _ _ _ h => h) ?_
        refine any_split (i := 1) (by kernel_rfl) rfl rfl rfl rfl (fun _ _ _ h => h) (fun hg61 => ?_) (fun hg61 => ?_)
        · skip
          refine any_skip' (i := 2) (by kernel_rfl) rfl rfl rfl (fun _ _ _ h => h) ?_
          refine any_skip' (i := 3) (by kernel_rfl) rfl rfl rfl (fun _ _ _ h => h) ?_
          refine any_skip' (i := 4) (by kernel_rfl) rfl rfl rfl (fun _ _ _ h => h) ?_
          refine any_skip' (i := 5) (by kernel_rfl) rfl rfl rfl (fun _ _ _ h => h) ?_
          refine any_skip' (i := 6) (by kernel_rfl) rfl rfl rfl (fun _ _ _ h => h) ?_
          refine any_skip' (i := 7) (by kernel_rfl) rfl rfl rfl (fun _ _ _ h => h) ?_
          refine any_skip' (i := 8) (by kernel_rfl) rfl rfl rfl (fun _ _ _ h => h) ?_
          refine any_skip' (i := 9) (by kernel_rfl) rfl rfl rfl (fun _ _ _ h => h) ?_
          refine any_skip' (i := 10) (by kernel_rfl) rfl rfl rfl (fun _ _ _ h => h) ?_
          refine any_skip' (i := 11) (by kernel_rfl) rfl rfl rfl (fun _ _ _ h => h) ?_
          refine any_skip' (i := 12) (by kernel_rfl) rfl rfl rfl (fun _ _ _ h => h) ?_
          refine any_skip' (i := 13) (by kernel_rfl) rfl rfl rfl (fun _ _ _ h => h) ?_
          refine any_skip' (i := 14) (by kernel_rfl) rfl rfl rfl (fun _ _ _ h => h) ?_
          refine any_skip' (i := 15) (by kernel_rfl) rfl rfl rfl (fun _ _ _ h => h) ?_
          refine any_skip' (i := 16) (by kernel_rfl) rfl rfl rfl (fun _ _ _ h => h) ?_
          refine any_skip' (i := 17) (by kernel_rfl) rfl rfl rfl (fun _ _ _ h => h) ?_
          refine any_skip' (i := 18) (by kernel_rfl) rfl rfl rfl (fun _ _ _ h => h) ?_
          refine any_skip' (i := 19) (by kernel_rfl) rfl rfl rfl (fun _ _ _ h => h) ?_
          refine any_ro' (i := 20) (by kernel_rfl) rfl rfl (ro_pick rfl rfl) rfl (fun _ _ _ h => h) ?_
          refine any_unlock (m' := 22) (L' := []) (by kernel_rfl) unlock ?_
          simp only [List.cons_append, List.nil_append, List.append_nil]
          refine any_ro' (i := 21) (by kernel_rfl) rfl rfl (ro_assign rfl) rfl (fun _ _ _ h => h) ?_
          refine any_doneH (by kernel_rfl) ?_
          refine InBlock_normal ?_
          refine Then_normal ?_
          refine wp_region' ?_
          refine ops_ro' rfl (ro_move rfl) rfl ?_
          refine ops_ro' rfl (ro_add rfl rfl (wrap_inc (by omega))) rfl ?_
          refine ops_ro' rfl (ro_assign rfl) rfl ?_
          refine ops_nil ?_
          refine Then_normal ?_
          refine back (m2 - 1) (by omega) (kept ⟨j + 1, true, ⟨by omega, by (first | exact in1 (by assumption) (by assumption) (by simp_all) | exact in2 (by assumption) (by assumption) (by simp_all) (by assumption) | exact in3 (by assumption) (by assumption) (by simp_all) (by assumption))⟩, rfl, rfl⟩ ?_ ?_ ?_)
          · exact (by repeat (first | exact Has.nil _ | refine Has.cons rfl ?_))
          · exact (by repeat (first | exact Has.nil _ | refine Has.cons rfl ?_))
          · exact SubH.refl _
        · skip
          refine any_ro' (i := 2) (by kernel_rfl) rfl rfl (ro_move rfl) rfl (fun _ _ _ h => h) ?_
          refine any_ro' (i := 3) (by kernel_rfl) rfl rfl (ro_move rfl) rfl (fun _ _ _ h => h) ?_
          refine any_ro' (i := 4) (by kernel_rfl) rfl rfl (ro_indexSlice sl31 rfl rfl rfl (by omega)) rfl (fun _ _ _ h => h) ?_
          refine any_ro' (i := 5) (by kernel_rfl) rfl rfl (ro_fieldAddr fa30_0 rfl) rfl (fun _ _ _ h => h) ?_
          refine any_ro' (i := 6) (by kernel_rfl) rfl rfl (ro_load sc9 rfl (Rd.pick 3 rfl (Rd.elem (j := 0) RdN.row Us.len (List.getElem?_eq_getElem hk) rfl))) rfl (fun _ _ _ h => h) ?_
          refine any_ro' (i := 7) (by kernel_rfl) rfl rfl (ro_fieldAddr fa35_2 rfl) rfl (fun _ _ _ h => h) ?_
          refine any_ro' (i := 8) (by kernel_rfl) rfl rfl (ro_load sc9 rfl (Rd.pick 2 rfl (Rd.own rfl))) rfl (fun _ _ _ h => h) ?_
          refine any_ro' (i := 9) (by kernel_rfl) rfl rfl (ro_eqlS rfl rfl rfl) rfl (fun _ _ _ h => h) ?_
          refine any_split (i := 10) (by kernel_rfl) rfl rfl rfl rfl (fun _ _ _ h => h) (fun hg70 => ?_) (fun hg70 => ?_)
          · replace hg70 := of_decide_eq_true hg70
            dsimp only at hg70
            refine any_ro' (i := 11) (by kernel_rfl) rfl rfl (ro_move rfl) rfl (fun _ _ _ h => h) ?_
            refine any_ro' (i := 12) (by kernel_rfl) rfl rfl (ro_move rfl) rfl (fun _ _ _ h => h) ?_
            refine any_ro' (i := 13) (by kernel_rfl) rfl rfl (ro_indexSlice sl31 rfl rfl rfl (by omega)) rfl (fun _ _ _ h => h) ?_
            refine any_ro' (i := 14) (by kernel_rfl) rfl rfl (ro_fieldAddr fa30_1 rfl) rfl (fun _ _ _ h => h) ?_
            refine any_ro' (i := 15) (by kernel_rfl) rfl rfl (ro_load sc9 rfl (Rd.pick 3 rfl (Rd.elem (j := 1) RdN.row Us.len (List.getElem?_eq_getElem hk) rfl))) rfl (fun _ _ _ h => h) ?_
            refine any_ro' (i := 16) (by kernel_rfl) rfl rfl (ro_fieldAddr fa35_3 rfl) rfl (fun _ _ _ h => h) ?_
            refine any_ro' (i := 17) (by kernel_rfl) rfl rfl (ro_load sc9 rfl (Rd.pick 2 rfl (Rd.own rfl))) rfl (fun _ _ _ h => h) ?_
            refine any_ro' (i := 18) (by kernel_rfl) rfl rfl (ro_eqlS rfl rfl rfl) rfl (fun _ _ _ h => h) ?_
            refine any_ro' (i := 19) (by kernel_rfl) rfl rfl (ro_pick rfl rfl) rfl (fun _ _ _ h => h) ?_
            refine any_ro' (i := 20) (by kernel_rfl) rfl rfl (ro_pick rfl rfl) rfl (fun _ _ _ h => h) ?_
            refine any_unlock (m' := 22) (L' := []) (by kernel_rfl) unlock ?_
            simp only [List.cons_append, List.nil_append, List.append_nil]
            refine any_ro' (i := 21) (by kernel_rfl) rfl rfl (ro_assign rfl) rfl (fun _ _ _ h => h) ?_
            refine any_doneH (by kernel_rfl) ?_
            refine InBlock_normal ?_
            refine Then_normal ?_
            refine wp_region' ?_
            refine ops_ro' rfl (ro_move rfl) rfl ?_
            refine ops_ro' rfl (ro_add rfl rfl (wrap_inc (by omega))) rfl ?_
            refine ops_ro' rfl (ro_assign rfl) rfl ?_
            refine ops_nil ?_
            refine Then_normal ?_
            refine back (m2 - 1) (by omega) (kept ⟨j + 1, decide (us[j].pass = (⟨a[i].user.take 64, a[i].pass.take 64⟩ : Us).pass), ⟨by omega, by (first | exact in1 (by assumption) (by assumption) (by simp_all) | exact in2 (by assumption) (by assumption) (by simp_all) (by assumption) | exact in3 (by assumption) (by assumption) (by simp_all) (by assumption))⟩, rfl, rfl⟩ ?_ ?_ ?_)
            · exact (by repeat (first | exact Has.nil _ | refine Has.cons rfl ?_))
            · exact (by repeat (first | exact Has.nil _ | refine Has.cons rfl ?_))
            · exact SubH.refl _
          · replace hg70 := of_decide_eq_false hg70
            dsimp only at hg70
            refine any_skip' (i := 11) (by kernel_rfl) rfl rfl rfl (fun _ _ _ h => h) ?_
            refine any_skip' (i := 12) (by kernel_rfl) rfl rfl rfl (fun _ _ _ h => h) ?_
            refine any_skip' (i := 13) (by kernel_rfl) rfl rfl rfl (fun _ _ _ h => h) ?_
            refine any_skip' (i := 14) (by kernel_rfl) rfl rfl rfl (fun _ _ _ h => h) ?_
            refine any_skip' (i := 15) (by kernel_rfl) rfl rfl rfl (fun _ _ _ h => h) ?_
            refine any_skip' (i := 16) (by kernel_rfl) rfl rfl rfl (fun _ _ _ h => h) ?_
            refine any_skip' (i := 17) (by kernel_rfl) rfl rfl rfl (fun _ _ _ h => h) ?_
            refine any_skip' (i := 18) (by kernel_rfl) rfl rfl rfl (fun _ _ _ h => h) ?_
            refine any_ro' (i := 19) (by kernel_rfl) rfl rfl (ro_pick rfl rfl) rfl (fun _ _ _ h => h) ?_
            refine any_ro' (i := 20) (by kernel_rfl) rfl rfl (ro_pick rfl rfl) rfl (fun _ _ _ h => h) ?_
            refine any_unlock (m' := 22) (L' := []) (by kernel_rfl) unlock ?_
            simp only [List.cons_append, List.nil_append, List.append_nil]
            refine any_ro' (i := 21) (by kernel_rfl) rfl rfl (ro_assign rfl) rfl (fun _ _ _ h => h) ?_
            refine any_doneH (by kernel_rfl) ?_
            refine InBlock_normal ?_
            refine Then_normal ?_
            refine wp_region' ?_
            refine ops_ro' rfl (ro_move rfl) rfl ?_
            refine ops_ro' rfl (ro_add rfl rfl (wrap_inc (by omega))) rfl ?_
            refine ops_ro' rfl (ro_assign rfl) rfl ?_
            refine ops_nil ?_
            refine Then_normal ?_
            refine back (m2 - 1) (by omega) (kept ⟨j + 1, false, ⟨by omega, by (first | exact in1 (by assumption) (by assumption) (by simp_all) | exact in2 (by assumption) (by assumption) (by simp_all) (by assumption) | exact in3 (by assumption) (by assumption) (by simp_all) (by assumption))⟩, rfl, rfl⟩ ?_ ?_ ?_)
            · exact (by repeat (first | exact Has.nil _ | refine Has.cons rfl ?_))
            · exact (by repeat (first | exact Has.nil _ | refine Has.cons rfl ?_))
            · exact SubH.refl _
      · replace hc57 := of_decide_eq_false hc57
        refine wp_exit' ?_
        refine Then_exit ?_
        refine Then_exit ?_
        refine InBlock_here ?_
        refine Then_normal ?_
        refine wp_seq' ?_
        refine wp_region' ?_
        refine ops_ro' rfl (ro_move rfl) rfl ?_
        refine ops_eff' rfl (eff_call Try.call26 rfl rfl (by repeat (first | exact Split.nil _ | apply Split.cons 0 rfl | apply Split.cons 1 rfl | apply Split.cons 2 rfl | apply Split.cons 3 rfl | apply Split.cons 4 rfl | apply Split.cons 5 rfl | apply Split.cons 6 rfl | apply Split.cons 7 rfl | apply Split.cons 8 rfl | apply Split.cons 9 rfl | apply Split.cons 10 rfl | apply Split.cons 11 rfl)) (auUser_spec bg p us.length c g2)) rfl ?_
        rintro _ H' ⟨_, ⟨rfl, rfl⟩, hH⟩
        simp only [List.cons_append, List.nil_append, List.eraseIdx_cons_zero, List.eraseIdx_cons_succ, List.set_cons_zero, List.set_cons_succ] at hH
        subst hH
        refine ops_ro' rfl (ro_move rfl) rfl ?_
        refine ops_ro' rfl (ro_extract rfl rfl) rfl ?_
        refine ops_ro' rfl (ro_extract rfl rfl) rfl ?_
        refine ops_ro' rfl (ro_assign rfl) rfl ?_
        refine ops_ro' rfl (ro_assign rfl) rfl ?_
        refine ops_nil ?_
        refine Then_normal ?_
        refine wp_seq' ?_
        refine wp_block' ?_
        refine wp_seq' ?_
        refine wp_region' ?_
        refine ops_ro' rfl (ro_move rfl) rfl ?_
        refine ops_split rfl rfl rfl (fun hg108 => ?_) (fun hg108 => ?_)
        · skip
          refine ops_skip' rfl rfl ?_
          refine ops_skip' rfl rfl ?_
          refine ops_ro' rfl (ro_pick rfl rfl) rfl ?_
          refine ops_ro' rfl (ro_assign rfl) rfl ?_
          refine ops_nil ?_
          refine Then_normal ?_
          refine wp_condT rfl ?_
          refine wp_seq' ?_
          obtain ⟨rfl, rfl⟩ := hO.quiet (by first | exact .inl (by assumption) | exact .inr (by omega))
          refine wp_region' ?_
          (first | refine ops_ansN 0 rfl ?_ | refine ops_ansN 1 rfl ?_); rintro rfl; simp only [List.eraseIdx_cons_zero, List.eraseIdx_cons_succ]
          refine ops_ro' rfl (ro_move rfl) rfl ?_
          refine ops_ro' rfl (ro_sliceLen Try.underlying36 rfl) rfl ?_
          refine ops_ro' rfl (ro_gtr rfl rfl (decide_eq_false (by omega))) rfl ?_
          refine ops_nil ?_
          refine Then_normal ?_
          refine wp_condF rfl ?_
          refine wp_skip' ?_
          refine InBlock_normal ?_
          refine Then_normal ?_
          refine wp_seq' ?_
          refine wp_region' ?_
          refine ops_ro' rfl (ro_move rfl) rfl ?_
          refine ops_ro' rfl (ro_move rfl) rfl ?_
          refine ops_ro' rfl (ro_neq_bool Try.underlying4 rfl rfl (c := false) (by simp)) rfl ?_
          refine ops_ro' rfl (ro_move (v := .bool false) rfl) rfl ?_
          refine ops_ro' rfl (ro_move rfl) rfl ?_
          refine ops_eff' rfl (eff_call Try.call27 rfl rfl (by repeat (first | exact Split.nil _ | apply Split.cons 0 rfl | apply Split.cons 1 rfl | apply Split.cons 2 rfl | apply Split.cons 3 rfl | apply Split.cons 4 rfl | apply Split.cons 5 rfl | apply Split.cons 6 rfl | apply Split.cons 7 rfl | apply Split.cons 8 rfl | apply Split.cons 9 rfl | apply Split.cons 10 rfl | apply Split.cons 11 rfl)) (auDead_spec bg p us.length c _)) rfl ?_
          rintro _ H' ⟨_, ⟨rfl, rfl⟩, hH⟩
          simp only [List.cons_append, List.nil_append, List.eraseIdx_cons_zero, List.eraseIdx_cons_succ, List.set_cons_zero, List.set_cons_succ] at hH
          subst hH
          refine ops_ro' rfl (ro_move rfl) rfl ?_
          refine ops_ro' rfl (ro_geq rfl rfl rfl) rfl ?_
          refine ops_ro' rfl (ro_neq_bool Try.underlying4 rfl rfl (c := false) (dd6 (z := (g2.tries : Int)) hg2 rfl rfl)) rfl ?_
          refine ops_ro' rfl (ro_pick rfl rfl) rfl ?_
          refine ops_nil ?_
          refine Then_normal ?_
          refine wp_condF rfl ?_
          refine wp_skip' ?_
          refine InBlock_normal ?_
          refine Then_normal ?_
          refine wp_region' ?_
          refine ops_ro' rfl (ro_move rfl) rfl ?_
          refine ops_ro' rfl (ro_add rfl rfl (wrap_inc (by omega))) rfl ?_
          refine ops_ro' rfl (ro_assign rfl) rfl ?_
          refine ops_nil ?_
          refine Then_normal ?_
          refine back (m - 1) (by omega) (kept ⟨i + 1, g2, ⟨by omega, by omega, hg1, hg2, hg3⟩, rfl, rfl⟩ ?_ ?_ ?_)
          · exact (by repeat (first | exact Has.nil _ | refine Has.cons rfl ?_))
          · exact (by repeat (first | exact Has.nil _ | refine Has.cons rfl ?_))
          · exact (SubH.cons 0 rfl (SubH.cons 1 rfl (SubH.cons 1 rfl (SubH.cons 1 rfl (SubH.nil _)))))
        · skip
          refine ops_ro' rfl (ro_move rfl) rfl ?_
          refine ops_ro' rfl (ro_geq rfl rfl rfl) rfl ?_
          refine ops_ro' rfl (ro_pick rfl rfl) rfl ?_
          refine ops_ro' rfl (ro_assign rfl) rfl ?_
          refine ops_nil ?_
          refine Then_normal ?_
          refine wp_cond' rfl (fun hc106 => ?_) (fun hc106 => ?_)
          · replace hc106 := of_decide_eq_true hc106
            refine wp_seq' ?_
            obtain ⟨rfl, rfl⟩ := hO.quiet (by first | exact .inl (by assumption) | exact .inr (by omega))
            refine wp_region' ?_
            (first | refine ops_ansN 0 rfl ?_ | refine ops_ansN 1 rfl ?_); rintro rfl; simp only [List.eraseIdx_cons_zero, List.eraseIdx_cons_succ]
            refine ops_ro' rfl (ro_move rfl) rfl ?_
            refine ops_ro' rfl (ro_sliceLen Try.underlying36 rfl) rfl ?_
            refine ops_ro' rfl (ro_gtr rfl rfl (decide_eq_false (by omega))) rfl ?_
            refine ops_nil ?_
            refine Then_normal ?_
            refine wp_condF rfl ?_
            refine wp_skip' ?_
            refine InBlock_normal ?_
            refine Then_normal ?_
            refine wp_seq' ?_
            refine wp_region' ?_
            refine ops_ro' rfl (ro_move rfl) rfl ?_
            refine ops_ro' rfl (ro_move rfl) rfl ?_
            refine ops_ro' rfl (ro_neq_bool Try.underlying4 rfl rfl (c := false) (by simp)) rfl ?_
            refine ops_ro' rfl (ro_move (v := .bool false) rfl) rfl ?_
            refine ops_ro' rfl (ro_move rfl) rfl ?_
            refine ops_eff' rfl (eff_call Try.call27 rfl rfl (by repeat (first | exact Split.nil _ | apply Split.cons 0 rfl | apply Split.cons 1 rfl | apply Split.cons 2 rfl | apply Split.cons 3 rfl | apply Split.cons 4 rfl | apply Split.cons 5 rfl | apply Split.cons 6 rfl | apply Split.cons 7 rfl | apply Split.cons 8 rfl | apply Split.cons 9 rfl | apply Split.cons 10 rfl | apply Split.cons 11 rfl)) (auDead_spec bg p us.length c _)) rfl ?_
            rintro _ H' ⟨_, ⟨rfl, rfl⟩, hH⟩
            simp only [List.cons_append, List.nil_append, List.eraseIdx_cons_zero, List.eraseIdx_cons_succ, List.set_cons_zero, List.set_cons_succ] at hH
            subst hH
            refine ops_ro' rfl (ro_move rfl) rfl ?_
            refine ops_ro' rfl (ro_geq rfl rfl (decide_eq_true (by omega))) rfl ?_
            refine ops_ro' rfl (ro_neq_bool Try.underlying4 rfl rfl (c := false) (dd6 (z := (g2.tries : Int)) hg2 rfl (decide_eq_true (by omega)))) rfl ?_
            refine ops_ro' rfl (ro_pick rfl rfl) rfl ?_
            refine ops_nil ?_
            refine Then_normal ?_
            refine wp_condF rfl ?_
            refine wp_skip' ?_
            refine InBlock_normal ?_
            refine Then_normal ?_
            refine wp_region' ?_
            refine ops_ro' rfl (ro_move rfl) rfl ?_
            refine ops_ro' rfl (ro_add rfl rfl (wrap_inc (by omega))) rfl ?_
            refine ops_ro' rfl (ro_assign rfl) rfl ?_
            refine ops_nil ?_
            refine Then_normal ?_
            refine back (m - 1) (by omega) (kept ⟨i + 1, g2, ⟨by omega, by omega, hg1, hg2, hg3⟩, rfl, rfl⟩ ?_ ?_ ?_)
            · exact (by repeat (first | exact Has.nil _ | refine Has.cons rfl ?_))
            · exact (by repeat (first | exact Has.nil _ | refine Has.cons rfl ?_))
            · exact (SubH.cons 0 rfl (SubH.cons 1 rfl (SubH.cons 1 rfl (SubH.cons 1 rfl (SubH.nil _)))))
          · replace hc106 := of_decide_eq_false hc106
            refine wp_seq' ?_
            refine wp_region' ?_
            refine ops_ro' rfl (ro_move rfl) rfl ?_
            refine ops_ro' rfl (ro_assign rfl) rfl ?_
            refine ops_nil ?_
            refine Then_normal ?_
            refine wp_cond' rfl (fun hc115 => ?_) (fun hc115 => ?_)
            · skip
              refine wp_seq' ?_
              obtain ⟨rfl, rfl⟩ := hO.right (not2 (by first | assumption | simpa using hg108) (by omega)) (by rw [List.take_of_length_le (by omega)] at hrt; exact hrt.1 (by simp_all))
              (first | refine wp_ansS (x := [52]) 0 rfl ?_ | refine wp_ansS (x := [52]) 1 rfl ?_ | refine wp_ansS (x := [52]) 2 rfl ?_ | refine wp_ansS (x := [52]) 3 rfl ?_ | refine wp_ansS (x := [52]) 4 rfl ?_ | refine wp_ansS (x := [52]) 5 rfl ?_ | refine wp_ansS (x := [52]) 6 rfl ?_ | refine wp_ansS (x := [52]) 7 rfl ?_)
              rintro bb pb kb rfl
              simp only [List.eraseIdx_cons_zero, List.eraseIdx_cons_succ, List.cons_append, List.nil_append]
              refine wp_know (fun w F s => row_ptr' 1 rfl s (by decide)) ?_
              rintro ⟨by8, rfl⟩
              refine wp_region' ?_
              refine ops_ro' rfl (ro_assign rfl) rfl ?_
              refine ops_nil ?_
              refine Then_normal ?_
              refine wp_seq' ?_
              refine wp_region' ?_
              refine ops_ro' rfl (ro_move rfl) rfl ?_
              refine ops_ro' rfl (ro_not rfl rfl) rfl ?_
              refine ops_ro' rfl (ro_move (v := .bool false) rfl) rfl ?_
              refine ops_ro' rfl (ro_move rfl) rfl ?_
              refine ops_ro' rfl (ro_fieldAddr fa35_2 rfl) rfl ?_
              refine ops_ro' rfl (ro_load sc9 rfl (Rd.pick 3 rfl (Rd.own rfl))) rfl ?_
              refine ops_ro' rfl (ro_neqS rfl rfl (decide_eq_false (fun h => h rfl))) rfl ?_
              refine ops_ro' rfl (ro_pick rfl rfl) rfl ?_
              refine ops_ro' rfl (ro_move (v := .bool false) rfl) rfl ?_
              refine ops_ro' rfl (ro_move rfl) rfl ?_
              refine ops_ro' rfl (ro_sliceLen Try.underlying36 rfl) rfl ?_
              refine ops_ro' rfl (ro_neq rfl rfl (decide_eq_false (by omega))) rfl ?_
              refine ops_ro' rfl (ro_pick rfl rfl) rfl ?_
              refine ops_ro' rfl (ro_move (v := .bool false) rfl) rfl ?_
              refine ops_ro' rfl (ro_move rfl) rfl ?_
              refine ops_ro' rfl (ro_indexSlice sl36 rfl rfl rfl (by dsimp only; omega)) rfl ?_
              refine ops_ro' rfl (ro_load sc32 rfl (Rd.pick 0 rfl (Rd.row rfl))) rfl ?_
              refine ops_ro' rfl (ro_sliceLen Try.underlying32 rfl) rfl ?_
              refine ops_ro' rfl (ro_neq rfl rfl rfl) rfl ?_
              refine ops_ro' rfl (ro_pick rfl rfl) rfl ?_
              refine ops_ro' rfl (ro_move (v := .bool false) rfl) rfl ?_
              refine ops_ro' rfl (ro_move rfl) rfl ?_
              refine ops_ro' rfl (ro_indexSlice sl36 rfl rfl rfl (by dsimp only; omega)) rfl ?_
              refine ops_ro' rfl (ro_load sc32 rfl (Rd.pick 0 rfl (Rd.row rfl))) rfl ?_
              refine ops_ro' rfl (ro_indexSlice sl32 rfl rfl rfl (by decide)) rfl ?_
              refine ops_ro' rfl (ro_load sc5 rfl (Rd.pick 1 rfl (Rd.row rfl))) rfl ?_
              refine ops_ro' rfl (ro_neq rfl rfl rfl) rfl ?_
              refine ops_ro' rfl (ro_pick rfl rfl) rfl ?_
              refine ops_nil ?_
              refine Then_normal ?_
              refine wp_condF rfl ?_
              refine wp_skip' ?_
              refine InBlock_normal ?_
              refine Then_normal ?_
              refine wp_seq' ?_
              refine wp_region' ?_
              refine ops_ro' rfl (ro_move rfl) rfl ?_
              refine ops_ro' rfl (ro_move rfl) rfl ?_
              refine ops_ro' rfl (ro_neq_bool Try.underlying4 rfl rfl (c := false) (by simp)) rfl ?_
              refine ops_ro' rfl (ro_move (v := .bool false) rfl) rfl ?_
              refine ops_ro' rfl (ro_move rfl) rfl ?_
              refine ops_eff' rfl (eff_call Try.call27 rfl rfl (by repeat (first | exact Split.nil _ | apply Split.cons 0 rfl | apply Split.cons 1 rfl | apply Split.cons 2 rfl | apply Split.cons 3 rfl | apply Split.cons 4 rfl | apply Split.cons 5 rfl | apply Split.cons 6 rfl | apply Split.cons 7 rfl | apply Split.cons 8 rfl | apply Split.cons 9 rfl | apply Split.cons 10 rfl | apply Split.cons 11 rfl)) (auDead_spec bg p us.length c _)) rfl ?_
              rintro _ H' ⟨_, ⟨rfl, rfl⟩, hH⟩
              simp only [List.cons_append, List.nil_append, List.eraseIdx_cons_zero, List.eraseIdx_cons_succ, List.set_cons_zero, List.set_cons_succ] at hH
              subst hH
              refine ops_ro' rfl (ro_move rfl) rfl ?_
              refine ops_ro' rfl (ro_geq rfl rfl (decide_eq_false (by omega))) rfl ?_
              refine ops_ro' rfl (ro_neq_bool Try.underlying4 rfl rfl (c := false) (dd6 (z := (g.tries : Int)) hg2 rfl (decide_eq_false (by omega)))) rfl ?_
              refine ops_ro' rfl (ro_pick rfl rfl) rfl ?_
              refine ops_nil ?_
              refine Then_normal ?_
              refine wp_condF rfl ?_
              refine wp_skip' ?_
              refine InBlock_normal ?_
              refine Then_normal ?_
              refine wp_region' ?_
              refine ops_ro' rfl (ro_move rfl) rfl ?_
              refine ops_ro' rfl (ro_add rfl rfl (wrap_inc (by omega))) rfl ?_
              refine ops_ro' rfl (ro_assign rfl) rfl ?_
              refine ops_nil ?_
              refine Then_normal ?_
              refine back (m - 1) (by omega) (kept ⟨i + 1, { g with user := (⟨a[i].user.take 64, a[i].pass.take 64⟩ : Us).name, inn := true }, ⟨by omega, by omega, hg1, hg2, (fun _ => hg3) by8⟩, rfl, rfl⟩ ?_ ?_ ?_)
              · exact (by repeat (first | exact Has.nil _ | refine Has.cons rfl ?_))
              · exact (by repeat (first | exact Has.nil _ | refine Has.cons rfl ?_))
              · exact (SubH.cons 0 rfl (SubH.cons 3 rfl (SubH.cons 3 rfl (SubH.cons 3 rfl (SubH.nil _)))))
            · skip
              refine wp_seq' ?_
              obtain ⟨rfl, y, rfl, h0, h52⟩ := hO.wrong (not2 (by first | assumption | simpa using hg108) (by omega)) (by rw [List.take_of_length_le (by omega)] at hrt; intro h; have h1 := hrt.2 h; simp_all)
              (first | refine wp_ansS (x := y) 0 rfl ?_ | refine wp_ansS (x := y) 1 rfl ?_ | refine wp_ansS (x := y) 2 rfl ?_ | refine wp_ansS (x := y) 3 rfl ?_ | refine wp_ansS (x := y) 4 rfl ?_ | refine wp_ansS (x := y) 5 rfl ?_ | refine wp_ansS (x := y) 6 rfl ?_ | refine wp_ansS (x := y) 7 rfl ?_)
              rintro bb pb kb rfl
              simp only [List.eraseIdx_cons_zero, List.eraseIdx_cons_succ, List.cons_append, List.nil_append]
              refine wp_know (fun w F s => row_ptr' 1 rfl s (by omega)) ?_
              rintro ⟨by9, rfl⟩
              refine wp_region' ?_
              refine ops_ro' rfl (ro_move rfl) rfl ?_
              refine ops_ro' rfl (ro_add rfl rfl (wrap_inc (by omega))) rfl ?_
              refine ops_ro' rfl (ro_assign rfl) rfl ?_
              refine ops_nil ?_
              refine Then_normal ?_
              refine wp_seq' ?_
              refine wp_region' ?_
              refine ops_ro' rfl (ro_move rfl) rfl ?_
              refine ops_ro' rfl (ro_sliceLen Try.underlying36 rfl) rfl ?_
              refine ops_ro' rfl (ro_neq rfl rfl (decide_eq_false (by omega))) rfl ?_
              refine ops_ro' rfl (ro_move (v := .bool false) rfl) rfl ?_
              refine ops_ro' rfl (ro_move rfl) rfl ?_
              refine ops_ro' rfl (ro_indexSlice sl36 rfl rfl rfl (by dsimp only; omega)) rfl ?_
              refine ops_ro' rfl (ro_load sc32 rfl (Rd.pick 0 rfl (Rd.row rfl))) rfl ?_
              refine ops_ro' rfl (ro_sliceLen Try.underlying32 rfl) rfl ?_
              refine ops_ro' rfl (ro_eql rfl rfl (decide_eq_false (by omega))) rfl ?_
              refine ops_ro' rfl (ro_pick rfl rfl) rfl ?_
              refine ops_ro' rfl (ro_move (v := .bool false) rfl) rfl ?_
              refine ops_ro' rfl (ro_move rfl) rfl ?_
              refine ops_ro' rfl (ro_indexSlice sl36 rfl rfl rfl (by dsimp only; omega)) rfl ?_
              refine ops_ro' rfl (ro_load sc32 rfl (Rd.pick 0 rfl (Rd.row rfl))) rfl ?_
              refine ops_ro' rfl (ro_indexSlice sl32 rfl rfl rfl (by omega)) rfl ?_
              refine ops_ro' rfl (ro_load sc5 rfl (Rd.pick 1 rfl (Rd.row (cel_get h0)))) rfl ?_
              refine ops_ro' rfl (ro_eql rfl rfl rfl) rfl ?_
              refine ops_ro' rfl (ro_pick rfl rfl) rfl ?_
              refine ops_nil ?_
              refine Then_normal ?_
              refine wp_cond' rfl (fun hc105 => ?_) (fun hc105 => ?_)
              · replace hc105 := of_decide_eq_true hc105
                refine wp_seq' ?_
                refine wp_region' ?_
                refine ops_ro' rfl (ro_assign rfl) rfl ?_
                refine ops_nil ?_
                refine Then_normal ?_
                refine wp_ret' ?_
                refine InBlock_ret ?_
                refine Then_ret ?_
                refine InBlock_ret ?_
                refine Then_ret ?_
                refine Then_ret ?_
                refine InBlock_ret ?_
                refine Then_ret ?_
                refine' doneS_ret (res1 rfl rfl) ?_ ?_
                rotate_left 1
                exact absurd hc105 (by have := h52 h0; omega)
                exact (SubH.nil _)
              · replace hc105 := of_decide_eq_false hc105
                refine wp_skip' ?_
                refine InBlock_normal ?_
                refine Then_normal ?_
                refine wp_seq' ?_
                refine wp_region' ?_
                refine ops_ro' rfl (ro_move rfl) rfl ?_
                refine ops_ro' rfl (ro_move rfl) rfl ?_
                refine ops_ro' rfl (ro_neq_bool Try.underlying4 rfl rfl (c := false) (by simp)) rfl ?_
                refine ops_ro' rfl (ro_move (v := .bool false) rfl) rfl ?_
                refine ops_ro' rfl (ro_move rfl) rfl ?_
                refine ops_eff' rfl (eff_call Try.call27 rfl rfl (by repeat (first | exact Split.nil _ | apply Split.cons 0 rfl | apply Split.cons 1 rfl | apply Split.cons 2 rfl | apply Split.cons 3 rfl | apply Split.cons 4 rfl | apply Split.cons 5 rfl | apply Split.cons 6 rfl | apply Split.cons 7 rfl | apply Split.cons 8 rfl | apply Split.cons 9 rfl | apply Split.cons 10 rfl | apply Split.cons 11 rfl)) (auDead_spec bg p us.length c _)) rfl ?_
                rintro _ H' ⟨_, ⟨rfl, rfl⟩, hH⟩
                simp only [List.cons_append, List.nil_append, List.eraseIdx_cons_zero, List.eraseIdx_cons_succ, List.set_cons_zero, List.set_cons_succ] at hH
                subst hH
                refine ops_ro' rfl (ro_move rfl) rfl ?_
                refine ops_ro' rfl (ro_geq rfl rfl rfl) rfl ?_
                refine ops_ro' rfl (ro_neq_bool Try.underlying4 rfl rfl (c := false) (dd6 (t := g.tries + 1) (z := (g.tries : Int) + 1) rfl (by omega) rfl)) rfl ?_
                refine ops_ro' rfl (ro_pick rfl rfl) rfl ?_
                refine ops_nil ?_
                refine Then_normal ?_
                refine wp_condF rfl ?_
                refine wp_skip' ?_
                refine InBlock_normal ?_
                refine Then_normal ?_
                refine wp_region' ?_
                refine ops_ro' rfl (ro_move rfl) rfl ?_
                refine ops_ro' rfl (ro_add rfl rfl (wrap_inc (by omega))) rfl ?_
                refine ops_ro' rfl (ro_assign rfl) rfl ?_
                refine ops_nil ?_
                refine Then_normal ?_
                refine back (m - 1) (by omega) (kept ⟨i + 1, { g with tries := g.tries + 1, dead := decide (5 ≤ g.tries + 1) }, ⟨by omega, by omega, hg1, rfl, (fun _ => (by show g.tries + 1 ≤ 20; omega)) h52⟩, rfl, rfl⟩ ?_ ?_ ?_)
                · exact (by repeat (first | exact Has.nil _ | refine Has.cons rfl ?_))
                · exact (by repeat (first | exact Has.nil _ | refine Has.cons rfl ?_))
                · exact (SubH.cons 0 rfl (SubH.cons 3 rfl (SubH.cons 3 rfl (SubH.cons 3 rfl (SubH.nil _)))))
    · replace hc33 := of_decide_eq_false hc33
      refine wp_exit' ?_
      refine Then_exit ?_
      refine Then_exit ?_
      refine InBlock_here ?_
      refine Then_normal ?_
      refine wp_seq' ?_
      refine wp_region' ?_
      refine ops_eff' rfl (eff_call Try.call20 rfl rfl (by repeat (first | exact Split.nil _ | apply Split.cons 0 rfl | apply Split.cons 1 rfl | apply Split.cons 2 rfl | apply Split.cons 3 rfl | apply Split.cons 4 rfl | apply Split.cons 5 rfl | apply Split.cons 6 rfl | apply Split.cons 7 rfl | apply Split.cons 8 rfl | apply Split.cons 9 rfl | apply Split.cons 10 rfl | apply Split.cons 11 rfl)) (known11_spec V)) rfl ?_
      rintro _ H' ⟨_, ⟨rfl, rfl⟩, hH⟩
      simp only [List.cons_append, List.nil_append, List.eraseIdx_cons_zero, List.eraseIdx_cons_succ, List.set_cons_zero, List.set_cons_succ] at hH
      subst hH
      refine ops_ro' rfl (ro_assign rfl) rfl ?_
      refine ops_nil ?_
      refine Then_normal ?_
      refine wp_ret' ?_
      refine' doneS_ret (res1 rfl rfl) ?_ ?_
      rotate_left 1
      exact ⟨rfl, rfl⟩
      exact (SubH.cons 0 rfl (SubH.nil _))
  · replace hg30 := of_decide_eq_false hg30
    refine ops_skip' rfl rfl ?_
    refine ops_skip' rfl rfl ?_
    refine ops_ro' rfl (ro_pick rfl rfl) rfl ?_
    refine ops_nil ?_
    refine Then_normal ?_
    refine wp_condF rfl ?_
    refine wp_exit' ?_
    refine Then_exit ?_
    refine Then_exit ?_
    refine InBlock_here ?_
    refine Then_normal ?_
    refine wp_seq' ?_
    refine wp_region' ?_
    refine ops_eff' rfl (eff_call Try.call20 rfl rfl (by repeat (first | exact Split.nil _ | apply Split.cons 0 rfl | apply Split.cons 1 rfl | apply Split.cons 2 rfl | apply Split.cons 3 rfl | apply Split.cons 4 rfl | apply Split.cons 5 rfl | apply Split.cons 6 rfl | apply Split.cons 7 rfl | apply Split.cons 8 rfl | apply Split.cons 9 rfl | apply Split.cons 10 rfl | apply Split.cons 11 rfl)) (known11_spec V)) rfl ?_
    rintro _ H' ⟨_, ⟨rfl, rfl⟩, hH⟩
    simp only [List.cons_append, List.nil_append, List.eraseIdx_cons_zero, List.eraseIdx_cons_succ, List.set_cons_zero, List.set_cons_succ] at hH
    subst hH
    refine ops_ro' rfl (ro_assign rfl) rfl ?_
    refine ops_nil ?_
    refine Then_normal ?_
    refine wp_ret' ?_
    refine' doneS_ret (res1 rfl rfl) ?_ ?_
    rotate_left 1
    exact ⟨rfl, rfl⟩
    exact (SubH.cons 0 rfl (SubH.nil _))

end Go.Proofs.Ytigaolglnnjnmaa
