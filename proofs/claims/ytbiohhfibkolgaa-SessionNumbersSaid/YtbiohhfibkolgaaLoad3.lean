/-
  Load.
-/
import Derived.Test.YtbiohhfibkolgaaPSess
import Derived.Test.YtbiohhfibkolgaaApart
namespace Go.Proofs.Ytbiohhfibkolgaa
open Go.Sx
set_option linter.unusedVariables false
set_option linter.unusedSimpArgs false
set_option maxRecDepth 100000
set_option maxHeartbeats 4000000

theorem okz : ∀ e ∈ (List.replicate 16 En.zero), e.r.c.Ok := fun e he => by
  obtain rfl := List.eq_of_mem_replicate he
  exact ⟨At.zero_ok, fun n hn => by cases hn⟩
/-- Load's answer: the table, if the bytes are one -/
def loadOf (b : List UInt8) : Option (List (Int × Rc)) := match R.load 16 (R.new b) with
  | some (q, xs) => if q.fin.1 = 0 then some xs else none
  | none => none
theorem load_zero (q : R) (xs : List (Int × Rc)) : (R.load 0 q).map (fun x => (x.1, xs ++ x.2)) = some (q, xs) := by simp [R.load]
theorem load_bad {b : List UInt8} {q : R} {xs : List (Int × Rc)} {i : Nat} (hld : R.load 16 (R.new b) = (R.load (16 - i) q).map (fun x => (x.1, xs ++ x.2))) (hi : i < 16) (h : ¬ (q.entry.1.why = 0 ∧ fitE q.entry.2)) : loadOf b = none := by
  obtain ⟨k, hk⟩ : ∃ k, 16 - i = k + 1 := ⟨15 - i, by omega⟩
  unfold loadOf
  rw [hld, hk, R.load, if_neg h]; rfl
theorem load_step {b : List UInt8} {q q2 : R} {E : List En} {xs : List (Int × Rc)} {i : Nat} {e : En} (hE : E.length = 16) (hi : i < 16) (hmap : E.map En.sc = xs ++ List.replicate (16 - i) ((0 : Int), Rc.zero)) (hxl : xs.length = i) (hrd : Reads (R.new b) q (tenc xs))
    (hld : R.load 16 (R.new b) = (R.load (16 - i) q).map (fun x => (x.1, xs ++ x.2))) (hq : q.Good) (hfit : q.entry.1.why = 0 ∧ fitE q.entry.2) (he : e.sc = q.entry.2) (eq2 : q.entry.1 = q2) :
    (E.set i e).map En.sc = (xs ++ [e.sc]) ++ List.replicate (16 - (i + 1)) ((0 : Int), Rc.zero) ∧ Reads (R.new b) q2 (tenc (xs ++ [e.sc])) ∧ R.load 16 (R.new b) = (R.load (16 - (i + 1)) q2).map (fun x => (x.1, (xs ++ [e.sc]) ++ x.2)) := by
  obtain ⟨k, hk⟩ : ∃ k, 16 - i = k + 1 := ⟨15 - i, by omega⟩
  have hk2 : 16 - (i + 1) = k := by omega
  refine ⟨?_, ?_, ?_⟩
  · rw [List.map_set, hmap, hk, hk2, List.replicate_succ, List.set_append_right _ _ (by omega), hxl, Nat.sub_self, List.set_cons_zero]; simp
  · have h1 := reads_entry hq.pos hfit.1
    have h2 := hrd.trans h1
    rw [eq2, ← he] at h2
    simp only [tenc, List.flatMap_append, List.flatMap_cons, List.flatMap_nil, List.append_nil] at h2 ⊢
    exact h2
  · rw [hld, hk, hk2, R.load, if_pos hfit, eq2, ← he, Option.map_map]
    congr 1; funext x; simp
theorem load_whole {b : List UInt8} {q : R} {xs : List (Int × Rc)} (hrd : Reads (R.new b) q (tenc xs)) (h0 : q.why = 0) (hf : q.fin.1 = 0) : tenc xs = b := by
  have h1 := hrd.x
  have h2 := hrd.b
  have h3 : q.pos = b.length := by
    unfold R.fin at hf
    rw [if_pos h0] at hf
    have h4 := hrd.pos
    have e : q.b = b := h2
    have e2 : (R.new b).b.length = b.length := rfl
    rw [e] at hf
    by_cases h5 : q.pos < b.length
    · rw [if_pos h5] at hf; simp at hf
    · omega
  have e : (R.new b).b = b := rfl
  have e3 : (R.new b).pos = 0 := rfl
  rw [e, h3, e3, List.take_length, List.take_zero, List.nil_append] at h1
  exact h1.symm
theorem load_tail {b : List UInt8} {q : R} {xs : List (Int × Rc)} (hld : R.load 16 (R.new b) = some (q, xs)) (hf : ¬ q.fin.1 = 0) : loadOf b = none := by
  unfold loadOf; rw [hld]; simp only; rw [if_neg hf]
theorem load_done {b : List UInt8} {q : R} {xs : List (Int × Rc)} {E : List En} (hld : R.load 16 (R.new b) = some (q, xs)) (hmap : E.map En.sc = xs ++ List.replicate 0 ((0 : Int), Rc.zero)) (hf : q.fin.1 = 0) : loadOf b = some (E.map En.sc) := by
  unfold loadOf; rw [hld, hmap]; simp only; rw [if_pos hf]; simp
theorem set_ok {E : List En} {i : Nat} {e : En} (h : ∀ e ∈ E, e.r.c.Ok) (he : e.sc.2.Ok) : ∀ x ∈ E.set i e, x.r.c.Ok := fun x hx => by
  rcases List.mem_or_eq_of_mem_set hx with h1 | h1
  · exact h x h1
  · subst h1; exact he
theorem load_spec (V : HProp) (p : Option Addr) (c : Nat) (b : List UInt8) (hV : Vw V (.slice p b.length c) b.length (cel b)) (hl : b.length ≤ 140737488355328) :
    Tri Try.prog 46 [.slice p b.length c] [V] (fun v H' => ∃ K, ((loadOf b = none ∧ v = .tuple #[.pointer none, .int .i64 12] ∧ K = []) ∨
      ∃ xs bt E, loadOf b = some xs ∧ tenc xs = b ∧ E.length = 16 ∧ E.map En.sc = xs ∧ (∀ e ∈ E, e.r.c.Ok) ∧ Short E ∧ v = .tuple #[.pointer (some ⟨bt, 0, none⟩), .int .i64 0] ∧ K = [tab bt E, owns E]) ∧ H' = K ++ [V]) := by
  refine tri_of_wpS Try.func46 rfl Try.ntmps46 (by simp) ?_
  refine wp_seq' ?_
  refine wp_region' ?_
  refine ops_ro' rfl (ro_assign rfl) rfl ?_
  refine ops_ro' rfl (ro_assign rfl) rfl ?_
  refine ops_nil ?_
  refine Then_normal ?_
  refine wp_seq' ?_
  refine wp_region' ?_
  refine ops_ro' rfl (ro_move rfl) rfl ?_
  refine ops_eff' rfl (eff_call Try.call34 rfl rfl (by repeat (first | exact Split.nil _ | apply Split.cons 0 rfl | apply Split.cons 1 rfl | apply Split.cons 2 rfl | apply Split.cons 3 rfl | apply Split.cons 4 rfl | apply Split.cons 5 rfl | apply Split.cons 6 rfl | apply Split.cons 7 rfl | apply Split.cons 8 rfl | apply Split.cons 9 rfl | apply Split.cons 10 rfl | apply Split.cons 11 rfl)) (newReader_spec V p c b hV hl)) rfl ?_
  rintro _ H' ⟨_, ⟨pr, p', c', rfl, rfl⟩, hH⟩
  simp only [List.cons_append, List.nil_append, List.eraseIdx_cons_zero, List.eraseIdx_cons_succ, List.set_cons_zero, List.set_cons_succ] at hH
  subst hH
  refine ops_ro' rfl (ro_assign rfl) rfl ?_
  refine ops_nil ?_
  refine Then_normal ?_
  refine wp_seq' ?_
  refine wp_region' ?_
  refine ops_eff' rfl (eff_call Try.call14 rfl rfl (by repeat (first | exact Split.nil _ | apply Split.cons 0 rfl | apply Split.cons 1 rfl | apply Split.cons 2 rfl | apply Split.cons 3 rfl | apply Split.cons 4 rfl | apply Split.cons 5 rfl | apply Split.cons 6 rfl | apply Split.cons 7 rfl | apply Split.cons 8 rfl | apply Split.cons 9 rfl | apply Split.cons 10 rfl | apply Split.cons 11 rfl)) (tnew_spec)) rfl ?_
  rintro _ H' ⟨_, ⟨bt, rfl, rfl⟩, hH⟩
  simp only [List.cons_append, List.nil_append, List.eraseIdx_cons_zero, List.eraseIdx_cons_succ, List.set_cons_zero, List.set_cons_succ] at hH
  subst hH
  refine ops_ro' rfl (ro_assign rfl) rfl ?_
  refine ops_nil ?_
  refine Then_normal ?_
  refine wp_seq' ?_
  refine wp_seq' ?_
  refine wp_region' ?_
  refine ops_ro' rfl (ro_move rfl) rfl ?_
  refine ops_nil ?_
  refine Then_normal ?_
  refine wp_block' ?_
  refine wp_loopK 4 (fun m Δ L => ∃ (i : Nat) (q : R) (E : List En) (xs : List (Int × Rc)), (q.Good ∧ q.why = 0 ∧ E.length = 16 ∧ i + m = 16 ∧ E.map En.sc = xs ++ List.replicate (16 - i) ((0 : Int), Rc.zero) ∧ xs.length = i ∧ Reads (R.new b) q (tenc xs) ∧ R.load 16 (R.new b) = (R.load (16 - i) q).map (fun x => (x.1, xs ++ x.2)) ∧ (∀ e ∈ E, e.r.c.Ok) ∧ Short E) ∧ Δ = [(11, .int .i64 (i : Nat))] ∧ L = rd pr p' c' q ++ [tab bt E, owns E, V]) (m := 16) (Has.cons (k := 0) rfl (Has.cons (k := 4) rfl (Has.cons (k := 5) rfl (Has.nil _)))) (kept ⟨0, R.new b, (List.replicate 16 En.zero), [], ⟨R.good_new b hl, rfl, rfl, rfl, rfl, rfl, Reads.refl rfl (Nat.zero_le _), by simp, okz, Short.zero⟩, rfl, rfl⟩ (by repeat (first | exact Has.nil _ | refine Has.cons rfl ?_)) (by repeat (first | exact Has.nil _ | refine Has.cons rfl ?_)) (by repeat (first | exact SubH.nil _ | refine SubH.cons 0 rfl ?_ | refine SubH.cons 1 rfl ?_ | refine SubH.cons 2 rfl ?_ | refine SubH.cons 3 rfl ?_ | refine SubH.cons 4 rfl ?_ | refine SubH.cons 5 rfl ?_ | refine SubH.cons 6 rfl ?_ | refine SubH.cons 7 rfl ?_ | refine SubH.cons 8 rfl ?_ | refine SubH.cons 9 rfl ?_ | refine SubH.cons 10 rfl ?_ | refine SubH.cons 11 rfl ?_ | refine SubH.cons 12 rfl ?_ | refine SubH.cons 13 rfl ?_ | refine SubH.rown ?_))) ?_
  rintro m Δ L ⟨i, q, E, xs, ⟨hq, hq0, hE, him, hmap, hxl, hrd, hld, hok, hsh⟩, rfl, rfl⟩
  simp only [List.cons_append, List.nil_append]
  refine wp_seq' ?_
  refine wp_region' ?_
  refine ops_ro' rfl (ro_lss rfl rfl rfl) rfl ?_
  refine ops_nil ?_
  refine Then_normal ?_
  refine wp_seq' ?_
  refine wp_cond' rfl (fun hc12 => ?_) (fun hc12 => ?_)
  · replace hc12 := of_decide_eq_true hc12
    refine wp_skip' ?_
    refine Then_normal ?_
    refine wp_seq' ?_
    refine wp_block' ?_
    refine wp_seq' ?_
    refine wp_region' ?_
    refine ops_ro' rfl (ro_move rfl) rfl ?_
    refine ops_ro' rfl (ro_assign rfl) rfl ?_
    refine ops_nil ?_
    refine Then_normal ?_
    refine wp_seq' ?_
    refine wp_region' ?_
    refine ops_ro' rfl (ro_move rfl) rfl ?_
    refine ops_eff' rfl (eff_call Try.call73 rfl rfl (by repeat (first | exact Split.nil _ | apply Split.cons 0 rfl | apply Split.cons 1 rfl | apply Split.cons 2 rfl | apply Split.cons 3 rfl | apply Split.cons 4 rfl | apply Split.cons 5 rfl | apply Split.cons 6 rfl | apply Split.cons 7 rfl | apply Split.cons 8 rfl | apply Split.cons 9 rfl | apply Split.cons 10 rfl | apply Split.cons 11 rfl)) (get_spec21 pr p' c' q hq)) rfl ?_
    rintro _ H' ⟨_, ⟨e, he, rfl, rfl⟩, hH⟩
    simp only [List.cons_append, List.nil_append, List.eraseIdx_cons_zero, List.eraseIdx_cons_succ, List.set_cons_zero, List.set_cons_succ] at hH
    subst hH
    have hq2 := R.good_entry hq
    have hen := entry_ok q
    have hed := entry_d q
    rw [← he] at hen hed
    generalize eq2 : q.entry.1 = q2 at *
    obtain ⟨sq, r⟩ := e
    refine ops_eff' rfl (eff_alloc z93) rfl ?_
    rintro _ _ ⟨b7, rfl, rfl⟩
    refine ops_eff0 rfl (eff_storeA 0 ag93 rfl rfl rfl rfl rfl (Nat.le_of_ble_eq_true rfl) (warm_zero _)) rfl ?_
    rintro _ _ rfl
    refine ops_nil ?_
    refine Then_normal ?_
    refine wp_seq' ?_
    refine wp_seq' ?_
    refine wp_region' ?_
    refine ops_ro' rfl (ro_move rfl) rfl ?_
    refine ops_eff' rfl (eff_call Try.call69 rfl rfl (by repeat (first | exact Split.nil _ | apply Split.cons 0 rfl | apply Split.cons 1 rfl | apply Split.cons 2 rfl | apply Split.cons 3 rfl | apply Split.cons 4 rfl | apply Split.cons 5 rfl | apply Split.cons 6 rfl | apply Split.cons 7 rfl | apply Split.cons 8 rfl | apply Split.cons 9 rfl | apply Split.cons 10 rfl | apply Split.cons 11 rfl)) (fine_spec _ _ _ _)) rfl ?_
    rintro _ H' ⟨_, ⟨rfl, rfl⟩, hH⟩
    simp only [List.cons_append, List.nil_append, List.eraseIdx_cons_zero, List.eraseIdx_cons_succ, List.set_cons_zero, List.set_cons_succ] at hH
    subst hH
    refine ops_ro' rfl (ro_not rfl rfl) rfl ?_
    refine ops_split rfl rfl rfl (fun hg19 => ?_) (fun hg19 => ?_)
    · simp only [Bool.and_eq_true, decide_eq_true_eq, Bool.not_eq_true', decide_eq_false_iff_not, bne_iff_ne, ne_eq] at hg19
      refine ops_skip' rfl rfl ?_
      refine ops_skip' rfl rfl ?_
      refine ops_skip' rfl rfl ?_
      refine ops_ro' rfl (ro_pick rfl rfl) rfl ?_
      refine ops_ro' rfl (ro_move (v := .bool true) rfl) rfl ?_
      refine ops_skip' rfl rfl ?_
      refine ops_skip' rfl rfl ?_
      refine ops_skip' rfl rfl ?_
      refine ops_ro' rfl (ro_pick rfl rfl) rfl ?_
      refine ops_ro' rfl (ro_move (v := .bool true) rfl) rfl ?_
      refine ops_skip' rfl rfl ?_
      refine ops_skip' rfl rfl ?_
      refine ops_skip' rfl rfl ?_
      refine ops_skip' rfl rfl ?_
      refine ops_skip' rfl rfl ?_
      refine ops_skip' rfl rfl ?_
      refine ops_skip' rfl rfl ?_
      refine ops_skip' rfl rfl ?_
      refine ops_skip' rfl rfl ?_
      refine ops_ro' rfl (ro_pick rfl rfl) rfl ?_
      refine ops_nil ?_
      refine Then_normal ?_
      refine wp_condT rfl ?_
      refine wp_seq' ?_
      refine wp_region' ?_
      refine ops_ro' rfl (ro_assign rfl) rfl ?_
      refine ops_ro' rfl (ro_assign rfl) rfl ?_
      refine ops_nil ?_
      refine Then_normal ?_
      refine wp_ret' ?_
      refine Then_ret ?_
      refine InBlock_ret ?_
      refine Then_ret ?_
      refine Then_ret ?_
      refine InBlock_ret ?_
      refine Then_ret ?_
      refine' doneS_ret (res2 rfl rfl rfl) ?_ ?_
      rotate_left 1
      exact ⟨_, .inl ⟨load_bad hld (by omega) (fun hh => by obtain ⟨a1, a2, a3, a4⟩ := hh; rw [← he] at a2 a3 a4; rw [eq2] at a1; simp only [En.sc] at a2 a3 a4; first | omega | (have := a4 (by omega); simp_all)), rfl, rfl⟩, rfl⟩
      exact (SubH.cons 7 rfl (SubH.nil _))
    · simp only [Bool.and_eq_false_iff, decide_eq_false_iff_not, Bool.not_eq_false', decide_eq_true_eq] at hg19
      refine ops_ro' rfl (ro_fieldAddr fa93_0 rfl) rfl ?_
      refine ops_ro' rfl (ro_load sc3 rfl (Rd.pick 2 rfl (Rd.own rfl))) rfl ?_
      refine ops_ro' rfl (ro_lss rfl rfl rfl) rfl ?_
      refine ops_ro' rfl (ro_pick rfl rfl) rfl ?_
      refine ops_split rfl rfl rfl (fun hg24 => ?_) (fun hg24 => ?_)
      · replace hg24 := of_decide_eq_true hg24
        dsimp only at hg24
        refine ops_skip' rfl rfl ?_
        refine ops_skip' rfl rfl ?_
        refine ops_skip' rfl rfl ?_
        refine ops_ro' rfl (ro_pick rfl rfl) rfl ?_
        refine ops_ro' rfl (ro_move (v := .bool true) rfl) rfl ?_
        refine ops_skip' rfl rfl ?_
        refine ops_skip' rfl rfl ?_
        refine ops_skip' rfl rfl ?_
        refine ops_skip' rfl rfl ?_
        refine ops_skip' rfl rfl ?_
        refine ops_skip' rfl rfl ?_
        refine ops_skip' rfl rfl ?_
        refine ops_skip' rfl rfl ?_
        refine ops_skip' rfl rfl ?_
        refine ops_ro' rfl (ro_pick rfl rfl) rfl ?_
        refine ops_nil ?_
        refine Then_normal ?_
        refine wp_condT rfl ?_
        refine wp_seq' ?_
        refine wp_region' ?_
        refine ops_ro' rfl (ro_assign rfl) rfl ?_
        refine ops_ro' rfl (ro_assign rfl) rfl ?_
        refine ops_nil ?_
        refine Then_normal ?_
        refine wp_ret' ?_
        refine Then_ret ?_
        refine InBlock_ret ?_
        refine Then_ret ?_
        refine Then_ret ?_
        refine InBlock_ret ?_
        refine Then_ret ?_
        refine' doneS_ret (res2 rfl rfl rfl) ?_ ?_
        rotate_left 1
        exact ⟨_, .inl ⟨load_bad hld (by omega) (fun hh => by obtain ⟨a1, a2, a3, a4⟩ := hh; rw [← he] at a2 a3 a4; rw [eq2] at a1; simp only [En.sc] at a2 a3 a4; first | omega | (have := a4 (by omega); simp_all)), rfl, rfl⟩, rfl⟩
        exact (SubH.cons 7 rfl (SubH.nil _))
      · replace hg24 := of_decide_eq_false hg24
        dsimp only at hg24
        refine ops_ro' rfl (ro_fieldAddr fa93_0 rfl) rfl ?_
        refine ops_ro' rfl (ro_load sc3 rfl (Rd.pick 2 rfl (Rd.own rfl))) rfl ?_
        refine ops_ro' rfl (ro_gtr rfl rfl rfl) rfl ?_
        refine ops_ro' rfl (ro_pick rfl rfl) rfl ?_
        refine ops_split rfl rfl rfl (fun hg29 => ?_) (fun hg29 => ?_)
        · replace hg29 := of_decide_eq_true hg29
          dsimp only at hg29
          refine ops_skip' rfl rfl ?_
          refine ops_skip' rfl rfl ?_
          refine ops_skip' rfl rfl ?_
          refine ops_skip' rfl rfl ?_
          refine ops_skip' rfl rfl ?_
          refine ops_skip' rfl rfl ?_
          refine ops_skip' rfl rfl ?_
          refine ops_skip' rfl rfl ?_
          refine ops_skip' rfl rfl ?_
          refine ops_ro' rfl (ro_pick rfl rfl) rfl ?_
          refine ops_nil ?_
          refine Then_normal ?_
          refine wp_condT rfl ?_
          refine wp_seq' ?_
          refine wp_region' ?_
          refine ops_ro' rfl (ro_assign rfl) rfl ?_
          refine ops_ro' rfl (ro_assign rfl) rfl ?_
          refine ops_nil ?_
          refine Then_normal ?_
          refine wp_ret' ?_
          refine Then_ret ?_
          refine InBlock_ret ?_
          refine Then_ret ?_
          refine Then_ret ?_
          refine InBlock_ret ?_
          refine Then_ret ?_
          refine' doneS_ret (res2 rfl rfl rfl) ?_ ?_
          rotate_left 1
          exact ⟨_, .inl ⟨load_bad hld (by omega) (fun hh => by obtain ⟨a1, a2, a3, a4⟩ := hh; rw [← he] at a2 a3 a4; rw [eq2] at a1; simp only [En.sc] at a2 a3 a4; first | omega | (have := a4 (by omega); simp_all)), rfl, rfl⟩, rfl⟩
          exact (SubH.cons 7 rfl (SubH.nil _))
        · replace hg29 := of_decide_eq_false hg29
          dsimp only at hg29
          refine ops_ro' rfl (ro_fieldAddr fa93_0 rfl) rfl ?_
          refine ops_ro' rfl (ro_load sc3 rfl (Rd.pick 2 rfl (Rd.own rfl))) rfl ?_
          refine ops_ro' rfl (ro_eql rfl rfl rfl) rfl ?_
          refine ops_split rfl rfl rfl (fun hg33 => ?_) (fun hg33 => ?_)
          · replace hg33 := of_decide_eq_true hg33
            dsimp only at hg33
            refine ops_ro' rfl (ro_fieldAddr fa93_1 rfl) rfl ?_
            refine ops_ro' rfl (ro_loadA ag32 rfl (RdN.of_pick 2 rfl ((RdN.sub (k := 1) (ys := r.cs) (show RdN _ _ _ (En.cs ⟨sq, r⟩) from rdn_all) (fun j u hj => by rw [Nat.add_comm]; exact hj)))) rfl) rfl ?_
            refine ops_eff' rfl (eff_call Try.call74 rfl rfl (by repeat (first | exact Split.nil _ | apply Split.cons 0 rfl | apply Split.cons 1 rfl | apply Split.cons 2 rfl | apply Split.cons 3 rfl | apply Split.cons 4 rfl | apply Split.cons 5 rfl | apply Split.cons 6 rfl | apply Split.cons 7 rfl | apply Split.cons 8 rfl | apply Split.cons 9 rfl | apply Split.cons 10 rfl | apply Split.cons 11 rfl)) (bare_spec21 r (by have := hed.1; simp only [En.sc] at this; omega) (by have := hed.2; simp only [En.sc] at this; omega))) rfl ?_
            rintro _ H' ⟨_, ⟨rfl, rfl⟩, hH⟩
            simp only [List.cons_append, List.nil_append, List.eraseIdx_cons_zero, List.eraseIdx_cons_succ, List.set_cons_zero, List.set_cons_succ] at hH
            subst hH
            refine ops_ro' rfl (ro_not rfl rfl) rfl ?_
            refine ops_ro' rfl (ro_pick rfl rfl) rfl ?_
            refine ops_ro' rfl (ro_pick rfl rfl) rfl ?_
            refine ops_nil ?_
            refine Then_normal ?_
            refine wp_cond' rfl (fun hc39 => ?_) (fun hc39 => ?_)
            · simp only [Bool.and_eq_true, decide_eq_true_eq, Bool.not_eq_true', decide_eq_false_iff_not, bne_iff_ne, ne_eq] at hc39
              refine wp_seq' ?_
              refine wp_region' ?_
              refine ops_ro' rfl (ro_assign rfl) rfl ?_
              refine ops_ro' rfl (ro_assign rfl) rfl ?_
              refine ops_nil ?_
              refine Then_normal ?_
              refine wp_ret' ?_
              refine Then_ret ?_
              refine InBlock_ret ?_
              refine Then_ret ?_
              refine Then_ret ?_
              refine InBlock_ret ?_
              refine Then_ret ?_
              refine' doneS_ret (res2 rfl rfl rfl) ?_ ?_
              rotate_left 1
              exact ⟨_, .inl ⟨load_bad hld (by omega) (fun hh => by obtain ⟨a1, a2, a3, a4⟩ := hh; rw [← he] at a2 a3 a4; rw [eq2] at a1; simp only [En.sc] at a2 a3 a4; first | omega | (have := a4 (by omega); simp_all)), rfl, rfl⟩, rfl⟩
              exact (SubH.cons 7 rfl (SubH.nil _))
            · simp only [Bool.and_eq_false_iff, decide_eq_false_iff_not, Bool.not_eq_false', decide_eq_true_eq] at hc39
              refine wp_skip' ?_
              refine Then_normal ?_
              have hfit : q.entry.1.why = 0 ∧ fitE q.entry.2 := by
                rw [eq2, ← he]
                refine ⟨by first | omega | simp_all, ?_⟩
                simp only [fitE, En.sc]
                refine ⟨by omega, by omega, fun h0 => ?_⟩
                first | omega | simp_all
              have hil : i < E.length := by omega
              obtain ⟨e0, he0⟩ : ∃ e, E[i]? = some e := ⟨_, List.getElem?_eq_getElem hil⟩
              refine wp_draw 5 (by kernel_rfl) (Split.all _) ?_
              refine any_ro' (i := 0) (by kernel_rfl) rfl rfl (ro_move rfl) rfl (fun _ _ _ h => h) ?_
              refine any_ro' (i := 1) (by kernel_rfl) rfl rfl (ro_move rfl) rfl (fun _ _ _ h => h) ?_
              refine any_ro' (i := 2) (by kernel_rfl) rfl rfl (ro_loadA ag93 rfl (RdN.of_pick 2 rfl ((show RdN _ _ _ (En.cs ⟨sq, r⟩) from rdn_all))) rfl) rfl (fun _ _ _ h => h) ?_
              refine any_ro' (i := 3) (by kernel_rfl) rfl rfl (ro_nilCheck rfl) rfl (fun _ _ _ h => h) ?_
              refine any_ro' (i := 4) (by kernel_rfl) rfl rfl (ro_fieldAddr fa96_0 rfl) rfl (fun _ _ _ h => h) ?_
              refine any_unlock (m' := 7) (L' := []) (by kernel_rfl) unlock ?_
              simp only [List.cons_append, List.nil_append, List.append_nil]
              refine any_ro' (i := 5) (by kernel_rfl) rfl rfl (ro_indexArr Try.underlying94 (fun w => Try.sizeOf93 w) rfl rfl rfl (by omega)) rfl (fun _ _ _ h => h) ?_
              refine any_eff0 (i := 6) (by kernel_rfl) rfl rfl (eff_storeA 5 ag93 rfl rfl rfl rfl rfl (by rw [flat_len En.len]; show _ + 13 ≤ _; omega) (warm_zero _)) rfl ?_
              rintro _ _ rfl
              simp only [List.set_cons_zero, List.set_cons_succ]
              refine any_doneH (by kernel_rfl) ?_
              refine InBlock_normal ?_
              refine Then_normal ?_
              rw [show over (flat En.cs E) (0 + 0 + i * 13) (En.cs ⟨sq, r⟩) = tcs (E.set i ⟨sq, r⟩) by rw [show 0 + 0 + i * 13 = i * 13 by omega]; exact flat_over En.len _ hil]
              refine wp_sub' (L := r.rd :: r.rn :: owns E :: (rd pr p' c' q2 ++ [tab bt (E.set i ⟨sq, r⟩), V])) (by repeat (first | exact SubH.nil _ | refine SubH.cons 0 rfl ?_ | refine SubH.cons 1 rfl ?_ | refine SubH.cons 2 rfl ?_ | refine SubH.cons 3 rfl ?_ | refine SubH.cons 4 rfl ?_ | refine SubH.cons 5 rfl ?_ | refine SubH.cons 6 rfl ?_ | refine SubH.cons 7 rfl ?_ | refine SubH.cons 8 rfl ?_ | refine SubH.cons 9 rfl ?_ | refine SubH.cons 10 rfl ?_ | refine SubH.cons 11 rfl ?_ | refine SubH.cons 12 rfl ?_ | refine SubH.cons 13 rfl ?_ | refine SubH.rown ?_)) ?_
              refine wp_sub' (own_set (e' := ⟨sq, r⟩) he0 _) ?_
              obtain ⟨n1, n2, n3⟩ := load_step (e := ⟨sq, r⟩) hE (by omega) hmap hxl hrd hld hq hfit he eq2
              refine wp_region' ?_
              refine ops_ro' rfl (ro_add rfl rfl (wrap_inc (by omega))) rfl ?_
              refine ops_ro' rfl (ro_move rfl) rfl ?_
              refine ops_nil ?_
              refine Then_normal ?_
              refine back (m - 1) (by omega) (kept ⟨i + 1, q2, E.set i ⟨sq, r⟩, xs ++ [En.sc ⟨sq, r⟩], ⟨hq2, by rw [← eq2]; exact hfit.1, by simp [hE], by omega, n1, by simp [hxl], n2, n3, set_ok hok hen, hsh.set i _ (by show r.c.d.length ≤ _; have := hed.1; simp only [En.sc] at this; omega) (by show r.c.ns.length ≤ _; have := hed.2; simp only [En.sc] at this; omega)⟩, rfl, rfl⟩ ?_ ?_ ?_)
              · exact (by repeat (first | exact Has.nil _ | refine Has.cons rfl ?_))
              · exact (by repeat (first | exact Has.nil _ | refine Has.cons rfl ?_))
              · exact (SubH.cons 1 rfl (SubH.cons 1 rfl (SubH.cons 1 rfl (SubH.cons 0 rfl (SubH.cons 0 rfl (SubH.nil _))))))
          · replace hg33 := of_decide_eq_false hg33
            dsimp only at hg33
            refine ops_skip' rfl rfl ?_
            refine ops_skip' rfl rfl ?_
            refine ops_skip' rfl rfl ?_
            refine ops_skip' rfl rfl ?_
            refine ops_ro' rfl (ro_pick rfl rfl) rfl ?_
            refine ops_ro' rfl (ro_pick rfl rfl) rfl ?_
            refine ops_nil ?_
            refine Then_normal ?_
            refine wp_condF rfl ?_
            refine wp_skip' ?_
            refine Then_normal ?_
            have hfit : q.entry.1.why = 0 ∧ fitE q.entry.2 := by
              rw [eq2, ← he]
              refine ⟨by first | omega | simp_all, ?_⟩
              simp only [fitE, En.sc]
              refine ⟨by omega, by omega, fun h0 => ?_⟩
              first | omega | simp_all
            have hil : i < E.length := by omega
            obtain ⟨e0, he0⟩ : ∃ e, E[i]? = some e := ⟨_, List.getElem?_eq_getElem hil⟩
            refine wp_draw 5 (by kernel_rfl) (Split.all _) ?_
            refine any_ro' (i := 0) (by kernel_rfl) rfl rfl (ro_move rfl) rfl (fun _ _ _ h => h) ?_
            refine any_ro' (i := 1) (by kernel_rfl) rfl rfl (ro_move rfl) rfl (fun _ _ _ h => h) ?_
            refine any_ro' (i := 2) (by kernel_rfl) rfl rfl (ro_loadA ag93 rfl (RdN.of_pick 2 rfl ((show RdN _ _ _ (En.cs ⟨sq, r⟩) from rdn_all))) rfl) rfl (fun _ _ _ h => h) ?_
            refine any_ro' (i := 3) (by kernel_rfl) rfl rfl (ro_nilCheck rfl) rfl (fun _ _ _ h => h) ?_
            refine any_ro' (i := 4) (by kernel_rfl) rfl rfl (ro_fieldAddr fa96_0 rfl) rfl (fun _ _ _ h => h) ?_
            refine any_unlock (m' := 7) (L' := []) (by kernel_rfl) unlock ?_
            simp only [List.cons_append, List.nil_append, List.append_nil]
            refine any_ro' (i := 5) (by kernel_rfl) rfl rfl (ro_indexArr Try.underlying94 (fun w => Try.sizeOf93 w) rfl rfl rfl (by omega)) rfl (fun _ _ _ h => h) ?_
            refine any_eff0 (i := 6) (by kernel_rfl) rfl rfl (eff_storeA 5 ag93 rfl rfl rfl rfl rfl (by rw [flat_len En.len]; show _ + 13 ≤ _; omega) (warm_zero _)) rfl ?_
            rintro _ _ rfl
            simp only [List.set_cons_zero, List.set_cons_succ]
            refine any_doneH (by kernel_rfl) ?_
            refine InBlock_normal ?_
            refine Then_normal ?_
            rw [show over (flat En.cs E) (0 + 0 + i * 13) (En.cs ⟨sq, r⟩) = tcs (E.set i ⟨sq, r⟩) by rw [show 0 + 0 + i * 13 = i * 13 by omega]; exact flat_over En.len _ hil]
            refine wp_sub' (L := r.rd :: r.rn :: owns E :: (rd pr p' c' q2 ++ [tab bt (E.set i ⟨sq, r⟩), V])) (by repeat (first | exact SubH.nil _ | refine SubH.cons 0 rfl ?_ | refine SubH.cons 1 rfl ?_ | refine SubH.cons 2 rfl ?_ | refine SubH.cons 3 rfl ?_ | refine SubH.cons 4 rfl ?_ | refine SubH.cons 5 rfl ?_ | refine SubH.cons 6 rfl ?_ | refine SubH.cons 7 rfl ?_ | refine SubH.cons 8 rfl ?_ | refine SubH.cons 9 rfl ?_ | refine SubH.cons 10 rfl ?_ | refine SubH.cons 11 rfl ?_ | refine SubH.cons 12 rfl ?_ | refine SubH.cons 13 rfl ?_ | refine SubH.rown ?_)) ?_
            refine wp_sub' (own_set (e' := ⟨sq, r⟩) he0 _) ?_
            obtain ⟨n1, n2, n3⟩ := load_step (e := ⟨sq, r⟩) hE (by omega) hmap hxl hrd hld hq hfit he eq2
            refine wp_region' ?_
            refine ops_ro' rfl (ro_add rfl rfl (wrap_inc (by omega))) rfl ?_
            refine ops_ro' rfl (ro_move rfl) rfl ?_
            refine ops_nil ?_
            refine Then_normal ?_
            refine back (m - 1) (by omega) (kept ⟨i + 1, q2, E.set i ⟨sq, r⟩, xs ++ [En.sc ⟨sq, r⟩], ⟨hq2, by rw [← eq2]; exact hfit.1, by simp [hE], by omega, n1, by simp [hxl], n2, n3, set_ok hok hen, hsh.set i _ (by show r.c.d.length ≤ _; have := hed.1; simp only [En.sc] at this; omega) (by show r.c.ns.length ≤ _; have := hed.2; simp only [En.sc] at this; omega)⟩, rfl, rfl⟩ ?_ ?_ ?_)
            · exact (by repeat (first | exact Has.nil _ | refine Has.cons rfl ?_))
            · exact (by repeat (first | exact Has.nil _ | refine Has.cons rfl ?_))
            · exact (SubH.cons 1 rfl (SubH.cons 1 rfl (SubH.cons 1 rfl (SubH.cons 0 rfl (SubH.cons 0 rfl (SubH.nil _))))))
  · replace hc12 := of_decide_eq_false hc12
    obtain rfl : i = 16 := by omega
    have hl0 := load_zero q xs
    rw [Nat.sub_self] at hld hmap
    rw [hl0] at hld
    refine wp_exit' ?_
    refine Then_exit ?_
    refine Then_exit ?_
    refine InBlock_here ?_
    refine Then_normal ?_
    refine wp_seq' ?_
    refine wp_seq' ?_
    refine wp_region' ?_
    refine ops_ro' rfl (ro_move rfl) rfl ?_
    refine ops_eff' rfl (eff_call Try.call75 rfl rfl (by repeat (first | exact Split.nil _ | apply Split.cons 0 rfl | apply Split.cons 1 rfl | apply Split.cons 2 rfl | apply Split.cons 3 rfl | apply Split.cons 4 rfl | apply Split.cons 5 rfl | apply Split.cons 6 rfl | apply Split.cons 7 rfl | apply Split.cons 8 rfl | apply Split.cons 9 rfl | apply Split.cons 10 rfl | apply Split.cons 11 rfl)) (all_spec pr p' c' q hq.len hq.pos)) rfl ?_
    rintro _ H' ⟨_, ⟨rfl, rfl⟩, hH⟩
    simp only [List.cons_append, List.nil_append, List.eraseIdx_cons_zero, List.eraseIdx_cons_succ, List.set_cons_zero, List.set_cons_succ] at hH
    subst hH
    refine ops_ro' rfl (ro_not rfl rfl) rfl ?_
    refine ops_split rfl rfl rfl (fun hg50 => ?_) (fun hg50 => ?_)
    · simp only [Bool.and_eq_true, decide_eq_true_eq, Bool.not_eq_true', decide_eq_false_iff_not, bne_iff_ne, ne_eq] at hg50
      refine ops_skip' rfl rfl ?_
      refine ops_skip' rfl rfl ?_
      refine ops_skip' rfl rfl ?_
      refine ops_skip' rfl rfl ?_
      refine ops_skip' rfl rfl ?_
      refine ops_ro' rfl (ro_pick rfl rfl) rfl ?_
      refine ops_nil ?_
      refine Then_normal ?_
      refine wp_condT rfl ?_
      refine wp_seq' ?_
      refine wp_region' ?_
      refine ops_ro' rfl (ro_assign rfl) rfl ?_
      refine ops_ro' rfl (ro_assign rfl) rfl ?_
      refine ops_nil ?_
      refine Then_normal ?_
      refine wp_ret' ?_
      refine Then_ret ?_
      refine' doneS_ret (res2 rfl rfl rfl) ?_ ?_
      rotate_left 1
      exact ⟨_, .inl ⟨load_tail hld (by first | assumption | omega), rfl, rfl⟩, rfl⟩
      exact (SubH.cons 4 rfl (SubH.nil _))
    · simp only [Bool.and_eq_false_iff, decide_eq_false_iff_not, Bool.not_eq_false', decide_eq_true_eq] at hg50
      have hxb : tenc (E.map En.sc) = b := by
        rw [hmap]; simp only [List.replicate_zero, List.append_nil]
        exact load_whole hrd hq0 (by first | assumption | omega)
      refine ops_ro' rfl (ro_move rfl) rfl ?_
      refine ops_eff' rfl (eff_call Try.call47 rfl rfl (by repeat (first | exact Split.nil _ | apply Split.cons 0 rfl | apply Split.cons 1 rfl | apply Split.cons 2 rfl | apply Split.cons 3 rfl | apply Split.cons 4 rfl | apply Split.cons 5 rfl | apply Split.cons 6 rfl | apply Split.cons 7 rfl | apply Split.cons 8 rfl | apply Split.cons 9 rfl | apply Split.cons 10 rfl | apply Split.cons 11 rfl)) (save_spec bt E hE hok (by rw [hmap]; simp only [List.replicate_zero, List.append_nil]; have h1 := hrd.x; have h2 := congrArg List.length h1; simp [R.new] at h2; omega))) rfl ?_
      rintro _ H' ⟨_, ⟨ps, cs, rfl, rfl⟩, hH⟩
      simp only [List.cons_append, List.nil_append, List.eraseIdx_cons_zero, List.eraseIdx_cons_succ, List.set_cons_zero, List.set_cons_succ] at hH
      subst hH
      refine ops_ro' rfl (ro_move rfl) rfl ?_
      refine ops_eff' rfl (eff_callM (Pre := []) Try.call76 rfl rfl (Split.nil _) (equal_spec _ _ _ _ _ (tenc (E.map En.sc)) b (by first | exact (Vw.pick 0 rfl hV) | exact (Vw.pick 1 rfl hV) | exact (Vw.pick 2 rfl hV) | exact (Vw.pick 3 rfl hV) | exact (Vw.pick 4 rfl hV) | exact (Vw.pick 5 rfl hV) | exact (Vw.pick 6 rfl hV) | exact (Vw.pick 7 rfl hV) | exact (Vw.pick 8 rfl hV) | exact (Vw.pick 9 rfl hV) | exact (Vw.pick 10 rfl hV) | exact (Vw.pick 11 rfl hV) | exact Vw.pick 0 rfl Vw.row | exact Vw.pick 1 rfl Vw.row | exact Vw.pick 2 rfl Vw.row | exact Vw.pick 3 rfl Vw.row | exact Vw.pick 4 rfl Vw.row | exact Vw.pick 5 rfl Vw.row | exact Vw.pick 6 rfl Vw.row | exact Vw.pick 7 rfl Vw.row | exact Vw.pick 8 rfl Vw.row | exact Vw.pick 9 rfl Vw.row | exact Vw.pick 10 rfl Vw.row | exact Vw.pick 11 rfl Vw.row | exact Vw.nil _) (by first | exact (Vw.pick 0 rfl hV) | exact (Vw.pick 1 rfl hV) | exact (Vw.pick 2 rfl hV) | exact (Vw.pick 3 rfl hV) | exact (Vw.pick 4 rfl hV) | exact (Vw.pick 5 rfl hV) | exact (Vw.pick 6 rfl hV) | exact (Vw.pick 7 rfl hV) | exact (Vw.pick 8 rfl hV) | exact (Vw.pick 9 rfl hV) | exact (Vw.pick 10 rfl hV) | exact (Vw.pick 11 rfl hV) | exact Vw.pick 0 rfl Vw.row | exact Vw.pick 1 rfl Vw.row | exact Vw.pick 2 rfl Vw.row | exact Vw.pick 3 rfl Vw.row | exact Vw.pick 4 rfl Vw.row | exact Vw.pick 5 rfl Vw.row | exact Vw.pick 6 rfl Vw.row | exact Vw.pick 7 rfl Vw.row | exact Vw.pick 8 rfl Vw.row | exact Vw.pick 9 rfl Vw.row | exact Vw.pick 10 rfl Vw.row | exact Vw.pick 11 rfl Vw.row | exact Vw.nil _) rfl rfl)) rfl ?_
      rintro _ H' ⟨_, ⟨rfl, rfl⟩, hH⟩
      simp only [List.cons_append, List.nil_append, List.eraseIdx_cons_zero, List.eraseIdx_cons_succ, List.set_cons_zero, List.set_cons_succ] at hH
      subst hH
      refine ops_ro' rfl (ro_not rfl rfl) rfl ?_
      refine ops_ro' rfl (ro_pick rfl rfl) rfl ?_
      refine ops_nil ?_
      refine Then_normal ?_
      refine wp_cond' rfl (fun hc56 => ?_) (fun hc56 => ?_)
      · simp only [Bool.and_eq_true, decide_eq_true_eq, Bool.not_eq_true', decide_eq_false_iff_not, bne_iff_ne, ne_eq] at hc56
        refine wp_seq' ?_
        refine wp_region' ?_
        refine ops_ro' rfl (ro_assign rfl) rfl ?_
        refine ops_ro' rfl (ro_assign rfl) rfl ?_
        refine ops_nil ?_
        refine Then_normal ?_
        refine wp_ret' ?_
        refine Then_ret ?_
        refine' doneS_ret (res2 rfl rfl rfl) ?_ ?_
        rotate_left 1
        exact absurd hxb hc56
        exact (SubH.nil _)
      · simp only [Bool.and_eq_false_iff, decide_eq_false_iff_not, Bool.not_eq_false', decide_eq_true_eq] at hc56
        refine wp_skip' ?_
        refine Then_normal ?_
        refine wp_seq' ?_
        refine wp_region' ?_
        refine ops_ro' rfl (ro_move rfl) rfl ?_
        refine ops_ro' rfl (ro_assign rfl) rfl ?_
        refine ops_ro' rfl (ro_assign rfl) rfl ?_
        refine ops_nil ?_
        refine Then_normal ?_
        refine wp_ret' ?_
        refine' doneS_ret (res2 rfl rfl rfl) ?_ ?_
        rotate_left 1
        exact ⟨_, .inr ⟨E.map En.sc, bt, E, load_done hld hmap (by first | assumption | omega), hxb, hE, rfl, hok, hsh, rfl, rfl⟩, rfl⟩
        exact (SubH.cons 1 rfl (SubH.cons 1 rfl (SubH.cons 3 rfl (SubH.nil _))))

end Go.Proofs.Ytbiohhfibkolgaa
