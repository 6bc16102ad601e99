/-
  The runs of chapter 21; the walk of SessionApart.
-/
import Derived.Test.YtbiohhfibkolgaaSh21
namespace Go.Proofs.Ytbiohhfibkolgaa
open Go.Sx
set_option linter.unusedVariables false
set_option linter.unusedSimpArgs false
set_option maxRecDepth 100000
set_option maxHeartbeats 4000000

theorem Short.zero : Short (List.replicate 16 En.zero) := fun c e hc => by
  rw [List.getElem?_replicate] at hc
  split at hc
  · injection hc with hc; subst hc; exact ⟨by decide, by decide⟩
  · cases hc
theorem Short.set {E : List En} (h : Short E) (c : Nat) (e : En) (hd : e.r.c.d.length ≤ 140737488355328) (hn : e.r.c.ns.length ≤ 2513169434916) : Short (E.set c e) := fun c' e' hc => by
  by_cases he : c = c'
  · subst he
    by_cases hl : c < E.length
    · rw [List.getElem?_set_self hl] at hc; injection hc with hc; subst hc; exact ⟨hd, hn⟩
    · rw [List.getElem?_eq_none (by simpa using hl)] at hc; cases hc
  · rw [List.getElem?_set_ne he] at hc; exact h c' e' hc
theorem told_det {E : List En} {c : Nat} {e : En} {seq how : Int} {r : Rp} (hE : E.length = 16) (hc : E[c]? = some e) (h1 : 1 ≤ seq) (h2 : seq ≤ 1073741824) (h : Told E c seq how r) : (how = 1 ∧ r = Rp.zero ∧ e.seq < seq) ∨ (how = 2 ∧ r.c = e.r.c ∧ seq = e.seq) ∨ (how = 3 ∧ r = Rp.zero ∧ seq < e.seq) := by
  have hlt := (List.getElem?_eq_some_iff.1 hc).1
  rcases h with ⟨_, _, h⟩ | ⟨c', e', h3, h4, h5⟩
  · omega
  · obtain rfl : c = c' := by omega
    rw [hc] at h4; injection h4 with h4; subst h4
    rcases h5 with ⟨a, b, _, _, d⟩ | ⟨a, b, _, _, d⟩ | ⟨a, b, _, _, d⟩
    · exact .inl ⟨a, b, d⟩
    · exact .inr (.inl ⟨a, b, d⟩)
    · exact .inr (.inr ⟨a, b, d⟩)
theorem ask_fresh (bt : Nat) (E : List En) (hE : E.length = 16) (hl : Short E) (c : Nat) (cc : Int) (hcc : cc = (c : Int)) (seq : Int) (e : En) (hc : E[c]? = some e) (h1 : 1 ≤ seq) (h2 : seq ≤ 1073741824) (hs : e.seq < seq) :
    Tri Try.prog 15 [.pointer (some ⟨bt, 0, none⟩), .int .i64 cc, .int .i64 seq] [tab bt E, owns E] (fun v H' => v = .tuple #[.int .i64 1, Rp.zero.v] ∧ H' = [tab bt E, owns E]) := by
  subst hcc
  refine tri_weak (ask_spec bt E hE hl c seq) ?_
  rintro v H ⟨how, r, rfl, hT, rfl⟩
  rcases told_det hE hc h1 h2 hT with ⟨rfl, rfl, _⟩ | ⟨_, _, h⟩ | ⟨_, _, h⟩
  · exact ⟨_, ⟨rfl, rfl⟩, SubH.cons 2 rfl (SubH.cons 2 rfl (SubH.nil _))⟩
  · omega
  · omega
theorem ask_again (bt : Nat) (E : List En) (hE : E.length = 16) (hl : Short E) (c : Nat) (cc : Int) (hcc : cc = (c : Int)) (seq : Int) (e : En) (hc : E[c]? = some e) (h1 : 1 ≤ seq) (h2 : seq ≤ 1073741824) (hs : seq = e.seq) :
    Tri Try.prog 15 [.pointer (some ⟨bt, 0, none⟩), .int .i64 cc, .int .i64 seq] [tab bt E, owns E] (fun v H' => ∃ r : Rp, r.c = e.r.c ∧ v = .tuple #[.int .i64 2, r.v] ∧ H' = [r.rd, r.rn, tab bt E, owns E]) := by
  subst hcc
  refine tri_post (ask_spec bt E hE hl c seq) ?_
  rintro v H ⟨how, r, rfl, hT, rfl⟩
  rcases told_det hE hc h1 h2 hT with ⟨_, _, h⟩ | ⟨rfl, h3, _⟩ | ⟨_, _, h⟩
  · omega
  · exact ⟨r, h3, rfl, rfl⟩
  · omega
theorem done_fresh (bt : Nat) (E : List En) (hE : E.length = 16) (hl : Short E) (c : Nat) (cc : Int) (hcc : cc = (c : Int)) (seq : Int) (e : En) (hc : E[c]? = some e) (h1 : 1 ≤ seq) (h2 : seq ≤ 1073741824) (hs : e.seq < seq) (r : Rp) (W : HProp) (hV : r.In W) (hd : r.c.d.length ≤ 140737488355328) (hn : r.c.ns.length ≤ 2513169434916) :
    Tri Try.prog 16 [.pointer (some ⟨bt, 0, none⟩), .int .i64 cc, .int .i64 seq, r.v] [tab bt E, owns E, W] (fun v H' => ∃ K, (∃ r' : Rp, r'.c = r.c ∧ v = .int .i64 0 ∧ K = [owns (E.set c ⟨seq, r'⟩), tab bt (E.set c ⟨seq, r'⟩)]) ∧ H' = K ++ [W]) := by
  subst hcc
  refine tri_post (done_spec' bt E hE hl c seq r W hV hd hn) ?_
  rintro v H ⟨K, ⟨how, r0, hT, h⟩, rfl⟩
  rcases h with ⟨h, _, _⟩ | ⟨c', r', h3, _, _, h4, rfl, rfl⟩
  · rcases told_det hE hc h1 h2 hT with ⟨h5, _, _⟩ | ⟨_, _, h5⟩ | ⟨_, _, h5⟩ <;> omega
  · obtain rfl : c = c' := by omega
    exact ⟨_, ⟨r', h4, rfl, rfl⟩, rfl⟩
theorem st_eq {c : Nat} {E : List En} {e : En} (hE : E.length = 16) (hc : c < 16) : (E.set c e)[c]? = some e := List.getElem?_set_self (by omega)


theorem known21_spec : Tri Try.prog 19 [] [] (fun v H' => v = .bool true ∧ H' = []) := by
  refine tri_of_wpS Try.func19 rfl Try.ntmps19 (by simp) ?_
  refine wp_seq' ?_
  refine wp_region' ?_
  refine ops_ro' rfl (ro_assign rfl) rfl ?_
  refine ops_nil ?_
  refine Then_normal ?_
  refine wp_seq' ?_
  refine wp_region' ?_
  refine ops_eff' rfl (eff_call Try.call14 rfl rfl (by repeat (first | exact Split.nil _ | apply Split.cons 0 rfl | apply Split.cons 1 rfl | apply Split.cons 2 rfl | apply Split.cons 3 rfl | apply Split.cons 4 rfl | apply Split.cons 5 rfl | apply Split.cons 6 rfl | apply Split.cons 7 rfl | apply Split.cons 8 rfl | apply Split.cons 9 rfl | apply Split.cons 10 rfl | apply Split.cons 11 rfl)) (tnew_spec)) rfl ?_
  rintro _ H' ⟨_, ⟨bt, rfl, rfl⟩, hH⟩
  simp only [List.cons_append, List.nil_append, List.eraseIdx_cons_zero, List.eraseIdx_cons_succ, List.set_cons_zero, List.set_cons_succ] at hH
  subst hH
  refine ops_ro' rfl (ro_assign rfl) rfl ?_
  refine ops_nil ?_
  refine Then_normal ?_
  refine wp_seq' ?_
  refine wp_seq' ?_
  refine wp_region' ?_
  refine ops_ro' rfl (ro_move rfl) rfl ?_
  refine ops_ro' rfl (ro_ptrEqlNil Try.underlying23 rfl rfl rfl) rfl ?_
  refine ops_nil ?_
  refine Then_normal ?_
  refine wp_condF rfl ?_
  refine wp_skip' ?_
  refine Then_normal ?_
  refine wp_seq' ?_
  refine wp_region' ?_
  refine ops_ro' rfl (ro_move rfl) rfl ?_
  refine ops_ro' rfl (ro_build rfl (bld_struct (cs := Rp.cs (⟨⟨0, 3, [], [], [], At.zero⟩, none, 0, none, 0⟩ : Rp)) st32 rfl)) rfl ?_
  refine ops_eff' rfl (eff_callM (Pre := [_, _]) Try.call16 rfl rfl (by repeat (first | exact Split.nil _ | apply Split.cons 0 rfl | apply Split.cons 1 rfl | apply Split.cons 2 rfl | apply Split.cons 3 rfl | apply Split.cons 4 rfl | apply Split.cons 5 rfl | apply Split.cons 6 rfl | apply Split.cons 7 rfl | apply Split.cons 8 rfl | apply Split.cons 9 rfl | apply Split.cons 10 rfl | apply Split.cons 11 rfl)) (done_fresh bt (List.replicate 16 En.zero) rfl Short.zero 0 _ rfl 1 En.zero rfl (by decide) (by decide) (by decide) (⟨⟨0, 3, [], [], [], At.zero⟩, none, 0, none, 0⟩ : Rp) _ ⟨Vw.nil _, Vw.nil _⟩ (by decide) (by decide))) rfl ?_
  rintro _ H' ⟨_, ⟨r', hr', rfl, rfl⟩, hH⟩
  simp only [List.cons_append, List.nil_append, List.eraseIdx_cons_zero, List.eraseIdx_cons_succ, List.set_cons_zero, List.set_cons_succ] at hH
  subst hH
  refine ops_nil ?_
  refine Then_normal ?_
  refine wp_seq' ?_
  refine wp_region' ?_
  refine ops_ro' rfl (ro_move rfl) rfl ?_
  refine ops_eff' rfl (eff_call Try.call15 rfl rfl (by repeat (first | exact Split.nil _ | apply Split.cons 0 rfl | apply Split.cons 1 rfl | apply Split.cons 2 rfl | apply Split.cons 3 rfl | apply Split.cons 4 rfl | apply Split.cons 5 rfl | apply Split.cons 6 rfl | apply Split.cons 7 rfl | apply Split.cons 8 rfl | apply Split.cons 9 rfl | apply Split.cons 10 rfl | apply Split.cons 11 rfl)) (ask_again bt ((List.replicate 16 En.zero).set 0 ⟨1, r'⟩) (by simp) (Short.zero.set 0 _ (by rw [hr']; decide) (by rw [hr']; decide)) 0 _ rfl 1 ⟨1, r'⟩ (st_eq rfl (by decide)) (by decide) (by decide) rfl)) rfl ?_
  rintro _ H' ⟨_, ⟨r2, hr2, rfl, rfl⟩, hH⟩
  simp only [List.cons_append, List.nil_append, List.eraseIdx_cons_zero, List.eraseIdx_cons_succ, List.set_cons_zero, List.set_cons_succ] at hH
  subst hH
  refine ops_ro' rfl (ro_move rfl) rfl ?_
  refine ops_ro' rfl (ro_extract rfl rfl) rfl ?_
  refine ops_ro' rfl (ro_extract rfl rfl) rfl ?_
  refine ops_eff' rfl (eff_alloc z32) rfl ?_
  rintro _ _ ⟨b3, rfl, rfl⟩
  refine ops_ro' rfl (ro_assign rfl) rfl ?_
  refine ops_eff0 rfl (eff_storeA 0 ag32 rfl rfl rfl rfl rfl (Nat.le_of_ble_eq_true rfl) (warm_zero _)) rfl ?_
  rintro _ _ rfl
  refine ops_nil ?_
  refine Then_normal ?_
  refine wp_seq' ?_
  refine wp_region' ?_
  refine ops_ro' rfl (ro_move rfl) rfl ?_
  refine ops_eff' rfl (eff_call Try.call15 rfl rfl (by repeat (first | exact Split.nil _ | apply Split.cons 0 rfl | apply Split.cons 1 rfl | apply Split.cons 2 rfl | apply Split.cons 3 rfl | apply Split.cons 4 rfl | apply Split.cons 5 rfl | apply Split.cons 6 rfl | apply Split.cons 7 rfl | apply Split.cons 8 rfl | apply Split.cons 9 rfl | apply Split.cons 10 rfl | apply Split.cons 11 rfl)) (ask_fresh bt ((List.replicate 16 En.zero).set 0 ⟨1, r'⟩) (by simp) (Short.zero.set 0 _ (by rw [hr']; decide) (by rw [hr']; decide)) 0 _ rfl 2 ⟨1, r'⟩ (st_eq rfl (by decide)) (by decide) (by decide) (show (1 : Int) < 2 by decide))) rfl ?_
  rintro _ H' ⟨_, ⟨rfl, rfl⟩, hH⟩
  simp only [List.cons_append, List.nil_append, List.eraseIdx_cons_zero, List.eraseIdx_cons_succ, List.set_cons_zero, List.set_cons_succ] at hH
  subst hH
  refine ops_ro' rfl (ro_move rfl) rfl ?_
  refine ops_ro' rfl (ro_extract rfl rfl) rfl ?_
  refine ops_ro' rfl (ro_extract rfl rfl) rfl ?_
  refine ops_eff' rfl (eff_alloc z32) rfl ?_
  rintro _ _ ⟨b5, rfl, rfl⟩
  refine ops_ro' rfl (ro_assign rfl) rfl ?_
  refine ops_eff0 rfl (eff_storeA 0 ag32 rfl rfl rfl rfl rfl (Nat.le_of_ble_eq_true rfl) (warm_zero _)) rfl ?_
  rintro _ _ rfl
  refine ops_nil ?_
  refine Then_normal ?_
  refine wp_seq' ?_
  refine wp_region' ?_
  refine ops_ro' rfl (ro_move rfl) rfl ?_
  refine ops_ro' rfl (ro_eql rfl rfl (decide_eq_true (by omega))) rfl ?_
  refine ops_ro' rfl (ro_move (v := .bool true) rfl) rfl ?_
  refine ops_ro' rfl (ro_loadA ag32 rfl (RdN.of_pick 3 rfl rdn_all) rfl) rfl ?_
  refine ops_ro' rfl (ro_build rfl (bld_struct (cs := Rp.cs (⟨⟨0, 3, [], [], [], At.zero⟩, none, 0, none, 0⟩ : Rp)) st32 rfl)) rfl ?_
  refine ops_eff' rfl (eff_callM (Pre := []) Try.call17 rfl rfl (Split.nil _) (kreply_same _ r2 (⟨⟨0, 3, [], [], [], At.zero⟩, none, 0, none, 0⟩ : Rp) ⟨(by first | exact Vw.pick 0 rfl Vw.row | exact Vw.pick 1 rfl Vw.row | exact Vw.pick 2 rfl Vw.row | exact Vw.pick 3 rfl Vw.row | exact Vw.pick 4 rfl Vw.row | exact Vw.pick 5 rfl Vw.row | exact Vw.pick 6 rfl Vw.row | exact Vw.pick 7 rfl Vw.row | exact Vw.pick 8 rfl Vw.row | exact Vw.pick 9 rfl Vw.row | exact Vw.nil _), (by first | exact Vw.pick 0 rfl Vw.row | exact Vw.pick 1 rfl Vw.row | exact Vw.pick 2 rfl Vw.row | exact Vw.pick 3 rfl Vw.row | exact Vw.pick 4 rfl Vw.row | exact Vw.pick 5 rfl Vw.row | exact Vw.pick 6 rfl Vw.row | exact Vw.pick 7 rfl Vw.row | exact Vw.pick 8 rfl Vw.row | exact Vw.pick 9 rfl Vw.row | exact Vw.nil _)⟩ ⟨Vw.nil _, Vw.nil _⟩ (hr2.trans hr') (by rw [hr2, hr']; decide))) rfl ?_
  rintro _ H' ⟨_, ⟨rfl, rfl⟩, hH⟩
  simp only [List.cons_append, List.nil_append, List.eraseIdx_cons_zero, List.eraseIdx_cons_succ, List.set_cons_zero, List.set_cons_succ] at hH
  subst hH
  refine ops_ro' rfl (ro_pick rfl rfl) rfl ?_
  refine ops_ro' rfl (ro_move (v := .bool true) rfl) rfl ?_
  refine ops_ro' rfl (ro_move rfl) rfl ?_
  refine ops_ro' rfl (ro_eql rfl rfl (decide_eq_true (by omega))) rfl ?_
  refine ops_ro' rfl (ro_pick rfl rfl) rfl ?_
  refine ops_ro' rfl (ro_move (v := .bool true) rfl) rfl ?_
  refine ops_ro' rfl (ro_move rfl) rfl ?_
  refine ops_eff' rfl (eff_call Try.call18 rfl rfl (by repeat (first | exact Split.nil _ | apply Split.cons 0 rfl | apply Split.cons 1 rfl | apply Split.cons 2 rfl | apply Split.cons 3 rfl | apply Split.cons 4 rfl | apply Split.cons 5 rfl | apply Split.cons 6 rfl | apply Split.cons 7 rfl | apply Split.cons 8 rfl | apply Split.cons 9 rfl | apply Split.cons 10 rfl | apply Split.cons 11 rfl)) (last_spec bt ((List.replicate 16 En.zero).set 0 ⟨1, r'⟩) (by simp) 0)) rfl ?_
  rintro _ H' ⟨_, ⟨rfl, rfl⟩, hH⟩
  simp only [List.cons_append, List.nil_append, List.eraseIdx_cons_zero, List.eraseIdx_cons_succ, List.set_cons_zero, List.set_cons_succ] at hH
  subst hH
  rw [show lastOf ((List.replicate 16 En.zero).set 0 ⟨1, r'⟩) 0 = 1 from (lastOf_in (c := 0) (st_eq rfl (by decide)) (by simp))]
  refine ops_ro' rfl (ro_eql rfl rfl (decide_eq_true (by omega))) rfl ?_
  refine ops_ro' rfl (ro_pick rfl rfl) rfl ?_
  refine ops_ro' rfl (ro_assign rfl) rfl ?_
  refine ops_nil ?_
  refine Then_normal ?_
  refine wp_ret' ?_
  refine' doneS_ret (res1 rfl rfl) ?_ ?_
  rotate_left 1
  exact ⟨rfl, rfl⟩
  exact (SubH.nil _)


/-- an ask of law 21 -/
structure Aq where
  kind : Int
  client : Int
  seq : Int
  r : Rp
def Aq.cs (a : Aq) : List Value := .int .i64 a.kind :: .int .i64 a.client :: .int .i64 a.seq :: a.r.cs
theorem Aq.len (a : Aq) : a.cs.length = 15 := rfl
theorem aq_r {V : HProp} {b o i : Nat} {az : List Aq} {a : Aq} (h : RdN V b o (flat Aq.cs az)) (hi : az[i]? = some a) : RdN V b (o + i * 15 + 3) a.r.cs :=
  (RdN.elem h Aq.len hi).sub fun j u hj => by rw [Nat.add_comm]; exact hj
theorem short_ns (c : Rc) : c.short.ns.length ≤ 5 := by
  unfold Rc.short
  simp only
  split
  · simp
  · simp; omega
theorem row_ptr {H : List HProp} (i : Nat) {e : TypeId} {size k c : Nat} {p : Option Addr} {xs : List Value} (hi : H[i]? = some (row e size (.slice p k c) k xs)) {w : World} {F : HProp} (s : sat w (star (St H) F)) (h0 : k ≠ 0) : ∃ b, p = some ⟨b, 0, none⟩ := by
  rcases (row_shape i hi s).2 with ⟨_, h2, _⟩ | ⟨b, cap, h1, _⟩
  · exact absurd h2 h0
  · injection h1 with h1 _ _; exact ⟨b, h1⟩
theorem apart_run (V : HProp) (q : Option Addr) (cq : Nat) (az : List Aq) (hV : Vw V (.slice q az.length cq) az.length (flat Aq.cs az)) (has : ∀ a ∈ az, a.r.In V ∧ a.r.Caps ∧ a.r.c.ns.length ≤ 9223372036854775807) :
    Tri Try.prog 4 [.slice q az.length cq] [V] (fun v H' => v = .bool true ∧ H' = [V]) := by
  refine tri_of_wpS Try.func4 rfl Try.ntmps4 (by simp) ?_
  refine wp_seq' ?_
  refine wp_region' ?_
  refine ops_ro' rfl (ro_assign rfl) rfl ?_
  refine ops_nil ?_
  refine Then_normal ?_
  refine wp_seq' ?_
  refine wp_region' ?_
  refine ops_eff' rfl (eff_call Try.call14 rfl rfl (by repeat (first | exact Split.nil _ | apply Split.cons 0 rfl | apply Split.cons 1 rfl | apply Split.cons 2 rfl | apply Split.cons 3 rfl | apply Split.cons 4 rfl | apply Split.cons 5 rfl | apply Split.cons 6 rfl | apply Split.cons 7 rfl | apply Split.cons 8 rfl | apply Split.cons 9 rfl | apply Split.cons 10 rfl | apply Split.cons 11 rfl)) (tnew_spec)) rfl ?_
  rintro _ H' ⟨_, ⟨bt, rfl, rfl⟩, hH⟩
  simp only [List.cons_append, List.nil_append, List.eraseIdx_cons_zero, List.eraseIdx_cons_succ, List.set_cons_zero, List.set_cons_succ] at hH
  subst hH
  refine ops_ro' rfl (ro_assign rfl) rfl ?_
  refine ops_nil ?_
  refine Then_normal ?_
  refine wp_seq' ?_
  refine wp_seq' ?_
  refine wp_region' ?_
  refine ops_ro' rfl (ro_move rfl) rfl ?_
  refine ops_ro' rfl (ro_ptrEqlNil Try.underlying23 rfl rfl rfl) rfl ?_
  refine ops_nil ?_
  refine Then_normal ?_
  refine wp_condF rfl ?_
  refine wp_skip' ?_
  refine Then_normal ?_
  refine wp_seq' ?_
  refine wp_seq' ?_
  refine wp_region' ?_
  refine ops_ro' rfl (ro_assign rfl) rfl ?_
  refine ops_nil ?_
  refine Then_normal ?_
  refine wp_block' ?_
  refine wp_loopK 5 (fun m Δ L => ∃ (i : Nat) (E : List En) (e : En), (i + m = az.length ∧ i ≤ 10 ∧ E.length = 16 ∧ Short E ∧ E[7]? = some e ∧ e.seq = (i : Nat)) ∧ Δ = [(4, .int .i64 (i : Nat))] ∧ L = [tab bt E, owns E, V]) (m := az.length) (Has.cons (k := 0) rfl (Has.cons (k := 3) rfl (Has.nil _))) (kept ⟨0, (List.replicate 16 En.zero), En.zero, ⟨by omega, by omega, rfl, Short.zero, rfl, rfl⟩, rfl, rfl⟩ (by repeat (first | exact Has.nil _ | refine Has.cons rfl ?_)) (by repeat (first | exact Has.nil _ | refine Has.cons rfl ?_)) (by repeat (first | exact SubH.nil _ | refine SubH.cons 0 rfl ?_ | refine SubH.cons 1 rfl ?_ | refine SubH.cons 2 rfl ?_ | refine SubH.cons 3 rfl ?_ | refine SubH.cons 4 rfl ?_ | refine SubH.cons 5 rfl ?_ | refine SubH.cons 6 rfl ?_ | refine SubH.cons 7 rfl ?_ | refine SubH.cons 8 rfl ?_ | refine SubH.cons 9 rfl ?_ | refine SubH.cons 10 rfl ?_ | refine SubH.cons 11 rfl ?_ | refine SubH.cons 12 rfl ?_ | refine SubH.cons 13 rfl ?_ | refine SubH.rown ?_))) ?_
  rintro m Δ L ⟨i, E, e, ⟨hm, hi10, hE, hSh, he7, hes⟩, rfl, rfl⟩
  simp only [List.cons_append, List.nil_append]
  refine wp_seq' ?_
  refine wp_seq' ?_
  refine wp_region' ?_
  refine ops_ro' rfl (ro_move rfl) rfl ?_
  refine ops_ro' rfl (ro_move rfl) rfl ?_
  refine ops_ro' rfl (ro_sliceLen Try.underlying41 rfl) rfl ?_
  refine ops_ro' rfl (ro_lss rfl rfl rfl) rfl ?_
  refine ops_split rfl rfl rfl (fun hg19 => ?_) (fun hg19 => ?_)
  · replace hg19 := of_decide_eq_true hg19
    have hi : i < az.length := by omega
    refine ops_know (fun w F s => vw_ptr (Vw.pick (H := [_, _, V]) 2 rfl hV) s (by omega)) ?_
    rintro ⟨bb, o, rfl⟩
    obtain ⟨hin, hcap, hln⟩ := has _ (List.getElem_mem hi)
    refine ops_ro' rfl (ro_move rfl) rfl ?_
    refine ops_ro' rfl (ro_lss rfl rfl rfl) rfl ?_
    refine ops_ro' rfl (ro_pick rfl rfl) rfl ?_
    refine ops_nil ?_
    refine Then_normal ?_
    refine wp_cond' rfl (fun hc22 => ?_) (fun hc22 => ?_)
    · replace hc22 := of_decide_eq_true hc22
      refine wp_skip' ?_
      refine Then_normal ?_
      refine wp_seq' ?_
      refine wp_block' ?_
      refine wp_seq' ?_
      refine wp_region' ?_
      refine ops_ro' rfl (ro_move rfl) rfl ?_
      refine ops_ro' rfl (ro_move rfl) rfl ?_
      refine ops_ro' rfl (ro_indexSlice sl41 rfl rfl rfl (by omega)) rfl ?_
      refine ops_ro' rfl (ro_fieldAddr fa44_3 rfl) rfl ?_
      refine ops_ro' rfl (ro_loadA ag32 rfl (RdN.of_pick 2 rfl (aq_r (vw_rdn hV) (List.getElem?_eq_getElem hi))) rfl) rfl ?_
      refine ops_eff' rfl (eff_call Try.call20 rfl rfl (by repeat (first | exact Split.nil _ | apply Split.cons 0 rfl | apply Split.cons 1 rfl | apply Split.cons 2 rfl | apply Split.cons 3 rfl | apply Split.cons 4 rfl | apply Split.cons 5 rfl | apply Split.cons 6 rfl | apply Split.cons 7 rfl | apply Split.cons 8 rfl | apply Split.cons 9 rfl | apply Split.cons 10 rfl | apply Split.cons 11 rfl)) (short_spec V az[i].r hin hcap hln)) rfl ?_
      rintro _ H' ⟨_, ⟨_, ⟨r1, hr1, hc1, hcap1, rfl, rfl⟩, rfl⟩, hH⟩
      simp only [List.cons_append, List.nil_append, List.eraseIdx_cons_zero, List.eraseIdx_cons_succ, List.set_cons_zero, List.set_cons_succ] at hH
      subst hH
      have hd1 : r1.c.d.length ≤ 100 := by rw [hc1]; simp [Rc.short]; omega
      have hn1 : r1.c.ns.length ≤ 5 := by rw [hc1]; exact short_ns _
      refine ops_eff' rfl (eff_alloc z32) rfl ?_
      rintro _ _ ⟨b5, rfl, rfl⟩
      refine ops_eff0 rfl (eff_storeA 0 ag32 rfl rfl rfl rfl rfl (Nat.le_of_ble_eq_true rfl) (warm_zero _)) rfl ?_
      rintro _ _ rfl
      refine ops_nil ?_
      refine Then_normal ?_
      refine wp_seq' ?_
      refine wp_region' ?_
      refine ops_eff' rfl (eff_lit sl25 rfl (sbld (cs := []) [] sl25 (by decide) (by kernel_rfl) rfl) rfl (by decide)) rfl ?_
      rintro _ _ ⟨b31, rfl, rfl⟩
      refine ops_ro' rfl (ro_fieldAddr fa32_3 rfl) rfl ?_
      refine ops_ro' rfl (ro_load sc25 rfl (Rd.pick 1 rfl (Rd.own rfl))) rfl ?_
      refine ops_eff' rfl (eff_appB (l := []) 0 sl25 (.inl ⟨5, Try.underlying25⟩) rfl rfl rfl (by first | exact Src.strl | exact Src.celv (Vw.pick 0 rfl hr1.d) | exact Src.celv (Vw.pick 1 rfl hr1.d) | exact Src.celv (Vw.pick 2 rfl hr1.d) | exact Src.celv (Vw.pick 3 rfl hr1.d) | exact Src.celv (Vw.pick 4 rfl hr1.d) | exact Src.celv (Vw.pick 5 rfl hr1.d) | exact Src.celv (Vw.pick 6 rfl hr1.d) | exact Src.celv (Vw.pick 7 rfl hr1.d) | exact Src.celv (Vw.pick 8 rfl hr1.d) | exact Src.celv (Vw.pick 9 rfl hr1.d) | exact Src.celv (Vw.pick 10 rfl hr1.d) | exact Src.celv (Vw.pick 11 rfl hr1.d) | exact Src.celv (Vw.pick 12 rfl hr1.d) | exact Src.celv (Vw.pick 13 rfl hr1.d) | exact Src.celv (Vw.pick 0 rfl hr1.n) | exact Src.celv (Vw.pick 1 rfl hr1.n) | exact Src.celv (Vw.pick 2 rfl hr1.n) | exact Src.celv (Vw.pick 3 rfl hr1.n) | exact Src.celv (Vw.pick 4 rfl hr1.n) | exact Src.celv (Vw.pick 5 rfl hr1.n) | exact Src.celv (Vw.pick 6 rfl hr1.n) | exact Src.celv (Vw.pick 7 rfl hr1.n) | exact Src.celv (Vw.pick 8 rfl hr1.n) | exact Src.celv (Vw.pick 9 rfl hr1.n) | exact Src.celv (Vw.pick 10 rfl hr1.n) | exact Src.celv (Vw.pick 11 rfl hr1.n) | exact Src.celv (Vw.pick 12 rfl hr1.n) | exact Src.celv (Vw.pick 13 rfl hr1.n) | exact Src.celv (Vw.pick 0 rfl Vw.row) | exact Src.celv (Vw.pick 1 rfl Vw.row) | exact Src.celv (Vw.pick 2 rfl Vw.row) | exact Src.celv (Vw.pick 3 rfl Vw.row) | exact Src.celv (Vw.pick 4 rfl Vw.row) | exact Src.celv (Vw.pick 5 rfl Vw.row) | exact Src.celv (Vw.pick 6 rfl Vw.row) | exact Src.celv (Vw.pick 7 rfl Vw.row) | exact Src.celv (Vw.pick 8 rfl Vw.row) | exact Src.celv (Vw.pick 9 rfl Vw.row) | exact Src.celv (Vw.pick 10 rfl Vw.row) | exact Src.celv (Vw.pick 11 rfl Vw.row) | exact Src.celv (Vw.pick 12 rfl Vw.row) | exact Src.celv (Vw.pick 13 rfl Vw.row)) (by first | omega | (simp only [List.length_append, List.length_cons, List.length_nil] at *; omega))) rfl ?_
      rintro _ _ ⟨p34, c34, rfl, hn34, rfl⟩
      simp only [List.set_cons_zero, List.set_cons_succ, List.nil_append]
      refine ops_ro' rfl (ro_fieldAddr fa32_3 rfl) rfl ?_
      refine ops_eff0 rfl (eff_store 1 sc25 rfl rfl rfl rfl (Nat.le_of_ble_eq_true rfl) (warm_zero _)) rfl ?_
      rintro _ _ rfl
      refine ops_nil ?_
      refine Then_normal ?_
      refine wp_seq' ?_
      refine wp_region' ?_
      refine ops_eff' rfl (eff_lit sl26 rfl (sbld (cs := []) [] sl26 (by decide) (by kernel_rfl) rfl) rfl (by decide)) rfl ?_
      rintro _ _ ⟨b36, rfl, rfl⟩
      refine ops_ro' rfl (ro_fieldAddr fa32_4 rfl) rfl ?_
      refine ops_ro' rfl (ro_load sc26 rfl (Rd.pick 2 rfl (Rd.own rfl))) rfl ?_
      refine ops_eff' rfl (eff_appF (f := Nm.cs) (l := []) 0 sl26 (.inl ⟨46, Try.underlying26⟩) rfl rfl rfl (by first | exact Src.flatv Nm.len Nm.one (Vw.pick 0 rfl hr1.d) | exact Src.flatv Nm.len Nm.one (Vw.pick 1 rfl hr1.d) | exact Src.flatv Nm.len Nm.one (Vw.pick 2 rfl hr1.d) | exact Src.flatv Nm.len Nm.one (Vw.pick 3 rfl hr1.d) | exact Src.flatv Nm.len Nm.one (Vw.pick 4 rfl hr1.d) | exact Src.flatv Nm.len Nm.one (Vw.pick 5 rfl hr1.d) | exact Src.flatv Nm.len Nm.one (Vw.pick 6 rfl hr1.d) | exact Src.flatv Nm.len Nm.one (Vw.pick 7 rfl hr1.d) | exact Src.flatv Nm.len Nm.one (Vw.pick 8 rfl hr1.d) | exact Src.flatv Nm.len Nm.one (Vw.pick 9 rfl hr1.d) | exact Src.flatv Nm.len Nm.one (Vw.pick 10 rfl hr1.d) | exact Src.flatv Nm.len Nm.one (Vw.pick 11 rfl hr1.d) | exact Src.flatv Nm.len Nm.one (Vw.pick 12 rfl hr1.d) | exact Src.flatv Nm.len Nm.one (Vw.pick 13 rfl hr1.d) | exact Src.flatv Nm.len Nm.one (Vw.pick 0 rfl hr1.n) | exact Src.flatv Nm.len Nm.one (Vw.pick 1 rfl hr1.n) | exact Src.flatv Nm.len Nm.one (Vw.pick 2 rfl hr1.n) | exact Src.flatv Nm.len Nm.one (Vw.pick 3 rfl hr1.n) | exact Src.flatv Nm.len Nm.one (Vw.pick 4 rfl hr1.n) | exact Src.flatv Nm.len Nm.one (Vw.pick 5 rfl hr1.n) | exact Src.flatv Nm.len Nm.one (Vw.pick 6 rfl hr1.n) | exact Src.flatv Nm.len Nm.one (Vw.pick 7 rfl hr1.n) | exact Src.flatv Nm.len Nm.one (Vw.pick 8 rfl hr1.n) | exact Src.flatv Nm.len Nm.one (Vw.pick 9 rfl hr1.n) | exact Src.flatv Nm.len Nm.one (Vw.pick 10 rfl hr1.n) | exact Src.flatv Nm.len Nm.one (Vw.pick 11 rfl hr1.n) | exact Src.flatv Nm.len Nm.one (Vw.pick 12 rfl hr1.n) | exact Src.flatv Nm.len Nm.one (Vw.pick 13 rfl hr1.n) | exact Src.flatv Nm.len Nm.one (Vw.pick 0 rfl Vw.row) | exact Src.flatv Nm.len Nm.one (Vw.pick 1 rfl Vw.row) | exact Src.flatv Nm.len Nm.one (Vw.pick 2 rfl Vw.row) | exact Src.flatv Nm.len Nm.one (Vw.pick 3 rfl Vw.row) | exact Src.flatv Nm.len Nm.one (Vw.pick 4 rfl Vw.row) | exact Src.flatv Nm.len Nm.one (Vw.pick 5 rfl Vw.row) | exact Src.flatv Nm.len Nm.one (Vw.pick 6 rfl Vw.row) | exact Src.flatv Nm.len Nm.one (Vw.pick 7 rfl Vw.row) | exact Src.flatv Nm.len Nm.one (Vw.pick 8 rfl Vw.row) | exact Src.flatv Nm.len Nm.one (Vw.pick 9 rfl Vw.row) | exact Src.flatv Nm.len Nm.one (Vw.pick 10 rfl Vw.row) | exact Src.flatv Nm.len Nm.one (Vw.pick 11 rfl Vw.row) | exact Src.flatv Nm.len Nm.one (Vw.pick 12 rfl Vw.row) | exact Src.flatv Nm.len Nm.one (Vw.pick 13 rfl Vw.row)) (by first | omega | (simp only [List.length_append, List.length_cons, List.length_nil] at *; omega)) (by first | omega | (simp only [List.length_append, List.length_cons, List.length_nil] at *; omega))) rfl ?_
      rintro _ _ ⟨p39, c39, rfl, hn39, rfl⟩
      simp only [List.set_cons_zero, List.set_cons_succ, List.nil_append]
      refine ops_ro' rfl (ro_fieldAddr fa32_4 rfl) rfl ?_
      refine ops_eff0 rfl (eff_store 2 sc26 rfl rfl rfl rfl (Nat.le_of_ble_eq_true rfl) (warm_zero _)) rfl ?_
      rintro _ _ rfl
      refine ops_nil ?_
      refine Then_normal ?_
      refine wp_seq' ?_
      refine wp_region' ?_
      refine ops_ro' rfl (ro_loadA ag32 rfl (RdN.of_pick 2 rfl rdn_all) rfl) rfl ?_
      refine ops_eff' rfl (eff_alloc z32) rfl ?_
      rintro _ _ ⟨b6, rfl, rfl⟩
      refine ops_eff0 rfl (eff_storeA 0 ag32 rfl rfl rfl rfl rfl (Nat.le_of_ble_eq_true rfl) (warm_zero _)) rfl ?_
      rintro _ _ rfl
      refine ops_nil ?_
      refine Then_normal ?_
      refine wp_seq' ?_
      refine wp_region' ?_
      refine ops_eff' rfl (eff_lit sl25 rfl (sbld (cs := []) [] sl25 (by decide) (by kernel_rfl) rfl) rfl (by decide)) rfl ?_
      rintro _ _ ⟨b42, rfl, rfl⟩
      refine ops_ro' rfl (ro_fieldAddr fa32_3 rfl) rfl ?_
      refine ops_ro' rfl (ro_load sc25 rfl (Rd.pick 4 rfl (Rd.own rfl))) rfl ?_
      refine ops_eff' rfl (eff_appB (l := []) 0 sl25 (.inl ⟨5, Try.underlying25⟩) rfl rfl rfl (by first | exact Src.strl | exact Src.celv (Vw.pick 0 rfl hr1.d) | exact Src.celv (Vw.pick 1 rfl hr1.d) | exact Src.celv (Vw.pick 2 rfl hr1.d) | exact Src.celv (Vw.pick 3 rfl hr1.d) | exact Src.celv (Vw.pick 4 rfl hr1.d) | exact Src.celv (Vw.pick 5 rfl hr1.d) | exact Src.celv (Vw.pick 6 rfl hr1.d) | exact Src.celv (Vw.pick 7 rfl hr1.d) | exact Src.celv (Vw.pick 8 rfl hr1.d) | exact Src.celv (Vw.pick 9 rfl hr1.d) | exact Src.celv (Vw.pick 10 rfl hr1.d) | exact Src.celv (Vw.pick 11 rfl hr1.d) | exact Src.celv (Vw.pick 12 rfl hr1.d) | exact Src.celv (Vw.pick 13 rfl hr1.d) | exact Src.celv (Vw.pick 0 rfl hr1.n) | exact Src.celv (Vw.pick 1 rfl hr1.n) | exact Src.celv (Vw.pick 2 rfl hr1.n) | exact Src.celv (Vw.pick 3 rfl hr1.n) | exact Src.celv (Vw.pick 4 rfl hr1.n) | exact Src.celv (Vw.pick 5 rfl hr1.n) | exact Src.celv (Vw.pick 6 rfl hr1.n) | exact Src.celv (Vw.pick 7 rfl hr1.n) | exact Src.celv (Vw.pick 8 rfl hr1.n) | exact Src.celv (Vw.pick 9 rfl hr1.n) | exact Src.celv (Vw.pick 10 rfl hr1.n) | exact Src.celv (Vw.pick 11 rfl hr1.n) | exact Src.celv (Vw.pick 12 rfl hr1.n) | exact Src.celv (Vw.pick 13 rfl hr1.n) | exact Src.celv (Vw.pick 0 rfl Vw.row) | exact Src.celv (Vw.pick 1 rfl Vw.row) | exact Src.celv (Vw.pick 2 rfl Vw.row) | exact Src.celv (Vw.pick 3 rfl Vw.row) | exact Src.celv (Vw.pick 4 rfl Vw.row) | exact Src.celv (Vw.pick 5 rfl Vw.row) | exact Src.celv (Vw.pick 6 rfl Vw.row) | exact Src.celv (Vw.pick 7 rfl Vw.row) | exact Src.celv (Vw.pick 8 rfl Vw.row) | exact Src.celv (Vw.pick 9 rfl Vw.row) | exact Src.celv (Vw.pick 10 rfl Vw.row) | exact Src.celv (Vw.pick 11 rfl Vw.row) | exact Src.celv (Vw.pick 12 rfl Vw.row) | exact Src.celv (Vw.pick 13 rfl Vw.row)) (by first | omega | (simp only [List.length_append, List.length_cons, List.length_nil] at *; omega))) rfl ?_
      rintro _ _ ⟨p45, c45, rfl, hn45, rfl⟩
      simp only [List.set_cons_zero, List.set_cons_succ, List.nil_append]
      refine ops_ro' rfl (ro_fieldAddr fa32_3 rfl) rfl ?_
      refine ops_eff0 rfl (eff_store 1 sc25 rfl rfl rfl rfl (Nat.le_of_ble_eq_true rfl) (warm_zero _)) rfl ?_
      rintro _ _ rfl
      refine ops_nil ?_
      refine Then_normal ?_
      refine wp_seq' ?_
      refine wp_region' ?_
      refine ops_eff' rfl (eff_lit sl26 rfl (sbld (cs := []) [] sl26 (by decide) (by kernel_rfl) rfl) rfl (by decide)) rfl ?_
      rintro _ _ ⟨b47, rfl, rfl⟩
      refine ops_ro' rfl (ro_fieldAddr fa32_4 rfl) rfl ?_
      refine ops_ro' rfl (ro_load sc26 rfl (Rd.pick 5 rfl (Rd.own rfl))) rfl ?_
      refine ops_eff' rfl (eff_appF (f := Nm.cs) (l := []) 0 sl26 (.inl ⟨46, Try.underlying26⟩) rfl rfl rfl (by first | exact Src.flatv Nm.len Nm.one (Vw.pick 0 rfl hr1.d) | exact Src.flatv Nm.len Nm.one (Vw.pick 1 rfl hr1.d) | exact Src.flatv Nm.len Nm.one (Vw.pick 2 rfl hr1.d) | exact Src.flatv Nm.len Nm.one (Vw.pick 3 rfl hr1.d) | exact Src.flatv Nm.len Nm.one (Vw.pick 4 rfl hr1.d) | exact Src.flatv Nm.len Nm.one (Vw.pick 5 rfl hr1.d) | exact Src.flatv Nm.len Nm.one (Vw.pick 6 rfl hr1.d) | exact Src.flatv Nm.len Nm.one (Vw.pick 7 rfl hr1.d) | exact Src.flatv Nm.len Nm.one (Vw.pick 8 rfl hr1.d) | exact Src.flatv Nm.len Nm.one (Vw.pick 9 rfl hr1.d) | exact Src.flatv Nm.len Nm.one (Vw.pick 10 rfl hr1.d) | exact Src.flatv Nm.len Nm.one (Vw.pick 11 rfl hr1.d) | exact Src.flatv Nm.len Nm.one (Vw.pick 12 rfl hr1.d) | exact Src.flatv Nm.len Nm.one (Vw.pick 13 rfl hr1.d) | exact Src.flatv Nm.len Nm.one (Vw.pick 0 rfl hr1.n) | exact Src.flatv Nm.len Nm.one (Vw.pick 1 rfl hr1.n) | exact Src.flatv Nm.len Nm.one (Vw.pick 2 rfl hr1.n) | exact Src.flatv Nm.len Nm.one (Vw.pick 3 rfl hr1.n) | exact Src.flatv Nm.len Nm.one (Vw.pick 4 rfl hr1.n) | exact Src.flatv Nm.len Nm.one (Vw.pick 5 rfl hr1.n) | exact Src.flatv Nm.len Nm.one (Vw.pick 6 rfl hr1.n) | exact Src.flatv Nm.len Nm.one (Vw.pick 7 rfl hr1.n) | exact Src.flatv Nm.len Nm.one (Vw.pick 8 rfl hr1.n) | exact Src.flatv Nm.len Nm.one (Vw.pick 9 rfl hr1.n) | exact Src.flatv Nm.len Nm.one (Vw.pick 10 rfl hr1.n) | exact Src.flatv Nm.len Nm.one (Vw.pick 11 rfl hr1.n) | exact Src.flatv Nm.len Nm.one (Vw.pick 12 rfl hr1.n) | exact Src.flatv Nm.len Nm.one (Vw.pick 13 rfl hr1.n) | exact Src.flatv Nm.len Nm.one (Vw.pick 0 rfl Vw.row) | exact Src.flatv Nm.len Nm.one (Vw.pick 1 rfl Vw.row) | exact Src.flatv Nm.len Nm.one (Vw.pick 2 rfl Vw.row) | exact Src.flatv Nm.len Nm.one (Vw.pick 3 rfl Vw.row) | exact Src.flatv Nm.len Nm.one (Vw.pick 4 rfl Vw.row) | exact Src.flatv Nm.len Nm.one (Vw.pick 5 rfl Vw.row) | exact Src.flatv Nm.len Nm.one (Vw.pick 6 rfl Vw.row) | exact Src.flatv Nm.len Nm.one (Vw.pick 7 rfl Vw.row) | exact Src.flatv Nm.len Nm.one (Vw.pick 8 rfl Vw.row) | exact Src.flatv Nm.len Nm.one (Vw.pick 9 rfl Vw.row) | exact Src.flatv Nm.len Nm.one (Vw.pick 10 rfl Vw.row) | exact Src.flatv Nm.len Nm.one (Vw.pick 11 rfl Vw.row) | exact Src.flatv Nm.len Nm.one (Vw.pick 12 rfl Vw.row) | exact Src.flatv Nm.len Nm.one (Vw.pick 13 rfl Vw.row)) (by first | omega | (simp only [List.length_append, List.length_cons, List.length_nil] at *; omega)) (by first | omega | (simp only [List.length_append, List.length_cons, List.length_nil] at *; omega))) rfl ?_
      rintro _ _ ⟨p50, c50, rfl, hn50, rfl⟩
      simp only [List.set_cons_zero, List.set_cons_succ, List.nil_append]
      refine ops_ro' rfl (ro_fieldAddr fa32_4 rfl) rfl ?_
      refine ops_eff0 rfl (eff_store 2 sc26 rfl rfl rfl rfl (Nat.le_of_ble_eq_true rfl) (warm_zero _)) rfl ?_
      rintro _ _ rfl
      refine ops_nil ?_
      refine Then_normal ?_
      refine wp_seq' ?_
      refine wp_seq' ?_
      obtain ⟨pd, cd, pn, cn, hp⟩ : ∃ pd cd pn cn, pd = p34 ∧ cd = c34 ∧ pn = p39 ∧ cn = c39 := ⟨_, _, _, _, rfl, rfl, rfl, rfl⟩
      obtain ⟨rfl, rfl, rfl, rfl⟩ := hp
      refine wp_sub' (L := [own b5 (.cells (Rp.cs ⟨r1.c, pd, cd, pn, cn⟩).toArray 32 (0, 0)), row 5 1 (.slice pd r1.c.d.length cd) r1.c.d.length (cel r1.c.d), row 46 8 (.slice pn r1.c.ns.length cn) r1.c.ns.length (ncs r1.c.ns), own b6 (.cells (Rp.cs ⟨r1.c, p45, c45, p50, c50⟩).toArray 32 (0, 0)), row 5 1 (.slice p45 r1.c.d.length c45) r1.c.d.length (cel r1.c.d), row 46 8 (.slice p50 r1.c.ns.length c50) r1.c.ns.length (ncs r1.c.ns), tab bt E, owns E, V]) (by repeat (first | exact SubH.nil _ | refine SubH.cons 0 rfl ?_ | refine SubH.cons 1 rfl ?_ | refine SubH.cons 2 rfl ?_ | refine SubH.cons 3 rfl ?_ | refine SubH.cons 4 rfl ?_ | refine SubH.cons 5 rfl ?_ | refine SubH.cons 6 rfl ?_ | refine SubH.cons 7 rfl ?_ | refine SubH.cons 8 rfl ?_ | refine SubH.cons 9 rfl ?_ | refine SubH.cons 10 rfl ?_ | refine SubH.cons 11 rfl ?_ | refine SubH.cons 12 rfl ?_ | refine SubH.cons 13 rfl ?_ | refine SubH.rown ?_)) ?_
      refine wp_region' ?_
      refine ops_ro' rfl (ro_move rfl) rfl ?_
      refine ops_ro' rfl (ro_move rfl) rfl ?_
      refine ops_ro' rfl (ro_add rfl rfl (wrap_inc (by omega))) rfl ?_
      refine ops_ro' rfl (ro_loadA ag32 rfl (RdN.of_pick 0 rfl (show RdN _ _ _ (Rp.cs ⟨r1.c, pd, cd, pn, cn⟩) from rdn_all)) rfl) rfl ?_
      refine ops_eff' rfl (eff_callM (Pre := [_, _]) Try.call16 rfl rfl (by repeat (first | exact Split.nil _ | apply Split.cons 0 rfl | apply Split.cons 1 rfl | apply Split.cons 2 rfl | apply Split.cons 3 rfl | apply Split.cons 4 rfl | apply Split.cons 5 rfl | apply Split.cons 6 rfl | apply Split.cons 7 rfl | apply Split.cons 8 rfl | apply Split.cons 9 rfl | apply Split.cons 10 rfl | apply Split.cons 11 rfl)) (done_fresh bt E hE hSh 7 _ rfl ((i + 1 : Nat) : Int) e he7 (by omega) (by omega) (by omega) ⟨r1.c, pd, cd, pn, cn⟩ _ ⟨(by first | exact (Vw.pick 0 rfl hr1.d) | exact (Vw.pick 1 rfl hr1.d) | exact (Vw.pick 2 rfl hr1.d) | exact (Vw.pick 3 rfl hr1.d) | exact (Vw.pick 4 rfl hr1.d) | exact (Vw.pick 5 rfl hr1.d) | exact (Vw.pick 6 rfl hr1.d) | exact (Vw.pick 7 rfl hr1.d) | exact (Vw.pick 8 rfl hr1.d) | exact (Vw.pick 9 rfl hr1.d) | exact (Vw.pick 10 rfl hr1.d) | exact (Vw.pick 11 rfl hr1.d) | exact (Vw.pick 12 rfl hr1.d) | exact (Vw.pick 13 rfl hr1.d) | exact (Vw.pick 0 rfl hr1.n) | exact (Vw.pick 1 rfl hr1.n) | exact (Vw.pick 2 rfl hr1.n) | exact (Vw.pick 3 rfl hr1.n) | exact (Vw.pick 4 rfl hr1.n) | exact (Vw.pick 5 rfl hr1.n) | exact (Vw.pick 6 rfl hr1.n) | exact (Vw.pick 7 rfl hr1.n) | exact (Vw.pick 8 rfl hr1.n) | exact (Vw.pick 9 rfl hr1.n) | exact (Vw.pick 10 rfl hr1.n) | exact (Vw.pick 11 rfl hr1.n) | exact (Vw.pick 12 rfl hr1.n) | exact (Vw.pick 13 rfl hr1.n) | exact Vw.pick 0 rfl Vw.row | exact Vw.pick 1 rfl Vw.row | exact Vw.pick 2 rfl Vw.row | exact Vw.pick 3 rfl Vw.row | exact Vw.pick 4 rfl Vw.row | exact Vw.pick 5 rfl Vw.row | exact Vw.pick 6 rfl Vw.row | exact Vw.pick 7 rfl Vw.row | exact Vw.pick 8 rfl Vw.row | exact Vw.pick 9 rfl Vw.row | exact Vw.pick 10 rfl Vw.row | exact Vw.pick 11 rfl Vw.row | exact Vw.pick 12 rfl Vw.row | exact Vw.pick 13 rfl Vw.row | exact Vw.nil _), (by first | exact (Vw.pick 0 rfl hr1.d) | exact (Vw.pick 1 rfl hr1.d) | exact (Vw.pick 2 rfl hr1.d) | exact (Vw.pick 3 rfl hr1.d) | exact (Vw.pick 4 rfl hr1.d) | exact (Vw.pick 5 rfl hr1.d) | exact (Vw.pick 6 rfl hr1.d) | exact (Vw.pick 7 rfl hr1.d) | exact (Vw.pick 8 rfl hr1.d) | exact (Vw.pick 9 rfl hr1.d) | exact (Vw.pick 10 rfl hr1.d) | exact (Vw.pick 11 rfl hr1.d) | exact (Vw.pick 12 rfl hr1.d) | exact (Vw.pick 13 rfl hr1.d) | exact (Vw.pick 0 rfl hr1.n) | exact (Vw.pick 1 rfl hr1.n) | exact (Vw.pick 2 rfl hr1.n) | exact (Vw.pick 3 rfl hr1.n) | exact (Vw.pick 4 rfl hr1.n) | exact (Vw.pick 5 rfl hr1.n) | exact (Vw.pick 6 rfl hr1.n) | exact (Vw.pick 7 rfl hr1.n) | exact (Vw.pick 8 rfl hr1.n) | exact (Vw.pick 9 rfl hr1.n) | exact (Vw.pick 10 rfl hr1.n) | exact (Vw.pick 11 rfl hr1.n) | exact (Vw.pick 12 rfl hr1.n) | exact (Vw.pick 13 rfl hr1.n) | exact Vw.pick 0 rfl Vw.row | exact Vw.pick 1 rfl Vw.row | exact Vw.pick 2 rfl Vw.row | exact Vw.pick 3 rfl Vw.row | exact Vw.pick 4 rfl Vw.row | exact Vw.pick 5 rfl Vw.row | exact Vw.pick 6 rfl Vw.row | exact Vw.pick 7 rfl Vw.row | exact Vw.pick 8 rfl Vw.row | exact Vw.pick 9 rfl Vw.row | exact Vw.pick 10 rfl Vw.row | exact Vw.pick 11 rfl Vw.row | exact Vw.pick 12 rfl Vw.row | exact Vw.pick 13 rfl Vw.row | exact Vw.nil _)⟩ (by show r1.c.d.length ≤ _; omega) (by show r1.c.ns.length ≤ _; omega))) rfl ?_
      rintro _ H' ⟨_, ⟨r', hr', rfl, rfl⟩, hH⟩
      simp only [List.cons_append, List.nil_append, List.eraseIdx_cons_zero, List.eraseIdx_cons_succ, List.set_cons_zero, List.set_cons_succ] at hH
      subst hH
      refine ops_ro' rfl (ro_neq rfl rfl (decide_eq_false (by omega))) rfl ?_
      refine ops_nil ?_
      refine Then_normal ?_
      refine wp_condF rfl ?_
      refine wp_skip' ?_
      refine Then_normal ?_
      refine wp_seq' ?_
      have hE7 := st_eq (c := 7) (e := ⟨((i + 1 : Nat) : Int), r'⟩) hE (by decide)
      have hSh2 : Short (E.set 7 ⟨((i + 1 : Nat) : Int), r'⟩) := hSh.set 7 _ (by show r'.c.d.length ≤ _; rw [hr']; show r1.c.d.length ≤ _; omega) (by show r'.c.ns.length ≤ _; rw [hr']; show r1.c.ns.length ≤ _; omega)
      have hrw2 : r'.c = r1.c := hr'
      refine wp_region' ?_
      refine ops_ro' rfl (ro_assign rfl) rfl ?_
      refine ops_nil ?_
      refine Then_normal ?_
      refine wp_block' ?_
      refine wp_loopK 16 (fun m Δ L => ∃ (k : Nat) (cc : Rc) (pd : Option Addr) (cd : Nat) (pn : Option Addr) (cn : Nat), (k + m = 2 ∧ cc.d.length ≤ 100 ∧ cc.ns.length ≤ 5) ∧ Δ = [(7, .int .i64 (k : Nat))] ∧ L = [own b5 (.cells (Rp.cs ⟨cc, pd, cd, pn, cn⟩).toArray 32 (0, 0)), row 5 1 (.slice pd cc.d.length cd) cc.d.length (cel cc.d), row 46 8 (.slice pn cc.ns.length cn) cc.ns.length (ncs cc.ns), own b6 (.cells (Rp.cs (⟨r1.c, p45, c45, p50, c50⟩ : Rp)).toArray 32 (0, 0)), Rp.rd (⟨r1.c, p45, c45, p50, c50⟩ : Rp), Rp.rn (⟨r1.c, p45, c45, p50, c50⟩ : Rp), tab bt (E.set 7 ⟨((i + 1 : Nat) : Int), r'⟩), owns (E.set 7 ⟨((i + 1 : Nat) : Int), r'⟩), V]) (m := 2) (Has.cons (k := 0) rfl (Has.cons (k := 3) rfl (Has.cons (k := 4) rfl (Has.cons (k := 5) rfl (Has.cons (k := 6) rfl (Has.nil _)))))) (kept ⟨0, r1.c, pd, cd, pn, cn, ⟨by omega, by omega, by omega⟩, rfl, rfl⟩ (by repeat (first | exact Has.nil _ | refine Has.cons rfl ?_)) (by repeat (first | exact Has.nil _ | refine Has.cons rfl ?_)) (by repeat (first | exact SubH.nil _ | refine SubH.cons 0 rfl ?_ | refine SubH.cons 1 rfl ?_ | refine SubH.cons 2 rfl ?_ | refine SubH.cons 3 rfl ?_ | refine SubH.cons 4 rfl ?_ | refine SubH.cons 5 rfl ?_ | refine SubH.cons 6 rfl ?_ | refine SubH.cons 7 rfl ?_ | refine SubH.cons 8 rfl ?_ | refine SubH.cons 9 rfl ?_ | refine SubH.cons 10 rfl ?_ | refine SubH.cons 11 rfl ?_ | refine SubH.cons 12 rfl ?_ | refine SubH.cons 13 rfl ?_ | refine SubH.rown ?_))) ?_
      rintro m2 Δ L ⟨k, cc, pd, cd, pn, cn, ⟨hk, hcd, hcn⟩, rfl, rfl⟩
      simp only [List.cons_append, List.nil_append]
      refine wp_seq' ?_
      refine wp_seq' ?_
      refine wp_region' ?_
      refine ops_ro' rfl (ro_move rfl) rfl ?_
      refine ops_ro' rfl (ro_lss rfl rfl rfl) rfl ?_
      refine ops_nil ?_
      refine Then_normal ?_
      refine wp_cond' rfl (fun hc59 => ?_) (fun hc59 => ?_)
      · replace hc59 := of_decide_eq_true hc59
        refine wp_skip' ?_
        refine Then_normal ?_
        refine wp_seq' ?_
        refine wp_block' ?_
        refine wp_seq' ?_
        refine wp_seq' ?_
        refine wp_region' ?_
        refine ops_ro' rfl (ro_assign rfl) rfl ?_
        refine ops_nil ?_
        refine Then_normal ?_
        refine wp_block' ?_
        refine wp_loopK 19 (fun m Δ L => ∃ (n : Nat) (d : List UInt8) (pd : Option Addr), (n + m = cc.d.length ∧ d.length = cc.d.length) ∧ Δ = [(8, .int .i64 (n : Nat))] ∧ L = [own b5 (.cells (Rp.cs ⟨cc, pd, cd, pn, cn⟩).toArray 32 (0, 0)), row 5 1 (.slice pd cc.d.length cd) cc.d.length (cel d), row 46 8 (.slice pn cc.ns.length cn) cc.ns.length (ncs cc.ns), own b6 (.cells (Rp.cs (⟨r1.c, p45, c45, p50, c50⟩ : Rp)).toArray 32 (0, 0)), Rp.rd (⟨r1.c, p45, c45, p50, c50⟩ : Rp), Rp.rn (⟨r1.c, p45, c45, p50, c50⟩ : Rp), tab bt (E.set 7 ⟨((i + 1 : Nat) : Int), r'⟩), owns (E.set 7 ⟨((i + 1 : Nat) : Int), r'⟩), V]) (m := cc.d.length) (Has.cons (k := 0) rfl (Has.cons (k := 3) rfl (Has.cons (k := 4) rfl (Has.cons (k := 5) rfl (Has.cons (k := 6) rfl (Has.cons (k := 7) rfl (Has.nil _))))))) (kept ⟨0, cc.d, pd, ⟨by omega, rfl⟩, rfl, rfl⟩ (by repeat (first | exact Has.nil _ | refine Has.cons rfl ?_)) (by repeat (first | exact Has.nil _ | refine Has.cons rfl ?_)) (by repeat (first | exact SubH.nil _ | refine SubH.cons 0 rfl ?_ | refine SubH.cons 1 rfl ?_ | refine SubH.cons 2 rfl ?_ | refine SubH.cons 3 rfl ?_ | refine SubH.cons 4 rfl ?_ | refine SubH.cons 5 rfl ?_ | refine SubH.cons 6 rfl ?_ | refine SubH.cons 7 rfl ?_ | refine SubH.cons 8 rfl ?_ | refine SubH.cons 9 rfl ?_ | refine SubH.cons 10 rfl ?_ | refine SubH.cons 11 rfl ?_ | refine SubH.cons 12 rfl ?_ | refine SubH.cons 13 rfl ?_ | refine SubH.rown ?_))) ?_
        rintro m3 Δ L ⟨n, d, pd, ⟨hn, hdl⟩, rfl, rfl⟩
        simp only [List.cons_append, List.nil_append]
        refine wp_seq' ?_
        refine wp_seq' ?_
        refine wp_region' ?_
        refine ops_ro' rfl (ro_move rfl) rfl ?_
        refine ops_ro' rfl (ro_fieldAddr fa32_3 rfl) rfl ?_
        refine ops_ro' rfl (ro_load sc25 rfl (Rd.pick 0 rfl (Rd.own rfl))) rfl ?_
        refine ops_ro' rfl (ro_sliceLen Try.underlying25 rfl) rfl ?_
        refine ops_ro' rfl (ro_lss rfl rfl rfl) rfl ?_
        refine ops_nil ?_
        refine Then_normal ?_
        refine wp_cond' rfl (fun hc66 => ?_) (fun hc66 => ?_)
        · replace hc66 := of_decide_eq_true hc66
          dsimp only at hc66
          replace hc66 : ((n : Nat) : Int) < ((cc.d.length : Nat) : Int) := hc66
          refine wp_know (fun w F s => row_ptr 1 rfl s (by omega)) ?_
          rintro ⟨bd, rfl⟩
          have hn' : n < d.length := by omega
          have hb := UInt8.toNat_lt d[n]
          refine wp_skip' ?_
          refine Then_normal ?_
          refine wp_seq' ?_
          refine wp_block' ?_
          refine wp_draw 9 (by kernel_rfl) (Split.all _) ?_
          refine any_ro' (i := 0) (by kernel_rfl) rfl rfl (ro_fieldAddr fa32_3 rfl) rfl (fun _ _ _ h => h) ?_
          refine any_ro' (i := 1) (by kernel_rfl) rfl rfl (ro_load sc25 rfl (Rd.pick 0 rfl (Rd.own rfl))) rfl (fun _ _ _ h => h) ?_
          refine any_ro' (i := 2) (by kernel_rfl) rfl rfl (ro_move rfl) rfl (fun _ _ _ h => h) ?_
          refine any_ro' (i := 3) (by kernel_rfl) rfl rfl (ro_fieldAddr fa32_3 rfl) rfl (fun _ _ _ h => h) ?_
          refine any_ro' (i := 4) (by kernel_rfl) rfl rfl (ro_load sc25 rfl (Rd.pick 0 rfl (Rd.own rfl))) rfl (fun _ _ _ h => h) ?_
          refine any_ro' (i := 5) (by kernel_rfl) rfl rfl (ro_move rfl) rfl (fun _ _ _ h => h) ?_
          refine any_ro' (i := 6) (by kernel_rfl) rfl rfl (ro_indexSlice sl25 rfl rfl rfl (by dsimp only; omega)) rfl (fun _ _ _ h => h) ?_
          refine any_ro' (i := 7) (by kernel_rfl) rfl rfl (ro_load sc5 rfl (Rd.pick 1 rfl (Rd.row (by rw [Nat.zero_add, Nat.mul_one]; exact cel_get hn')))) rfl (fun _ _ _ h => h) ?_
          refine any_ro' (i := 8) (by kernel_rfl) rfl rfl (ro_add rfl rfl (wrap_u8_mod _)) rfl (fun _ _ _ h => h) ?_
          refine any_unlock (m' := 11) (L' := []) (by kernel_rfl) unlock ?_
          simp only [List.cons_append, List.nil_append, List.append_nil]
          refine any_ro' (i := 9) (by kernel_rfl) rfl rfl (ro_indexSlice sl25 rfl rfl rfl (by dsimp only; omega)) rfl (fun _ _ _ h => h) ?_
          refine any_eff0 (i := 10) (by kernel_rfl) rfl rfl (eff_storeB 1 sc5 rfl rfl (by omega) (by omega) rfl rfl (by omega)) rfl ?_
          rintro _ _ rfl
          simp only [List.set_cons_zero, List.set_cons_succ]
          refine any_doneH (by kernel_rfl) ?_
          refine InBlock_normal ?_
          refine Then_normal ?_
          refine wp_region' ?_
          refine ops_ro' rfl (ro_move rfl) rfl ?_
          refine ops_ro' rfl (ro_add rfl rfl (wrap_inc (by omega))) rfl ?_
          refine ops_ro' rfl (ro_assign rfl) rfl ?_
          refine ops_nil ?_
          refine Then_normal ?_
          refine back (m3 - 1) (by omega) (kept ⟨n + 1, d.set n (UInt8.ofNat ((((d[n].toNat : Nat) : Int) + 1) % 256).toNat), some ⟨bd, 0, none⟩, ⟨by omega, by rw [List.length_set]; exact hdl⟩, rfl, rfl⟩ ?_ ?_ ?_)
          · exact (by repeat (first | exact Has.nil _ | refine Has.cons rfl ?_))
          · exact (by repeat (first | exact Has.nil _ | refine Has.cons rfl ?_))
          · exact SubH.refl _
        · replace hc66 := of_decide_eq_false hc66
          dsimp only at hc66
          refine wp_exit' ?_
          refine Then_exit ?_
          refine Then_exit ?_
          refine InBlock_here ?_
          refine Then_normal ?_
          refine wp_seq' ?_
          refine wp_seq' ?_
          refine wp_region' ?_
          refine ops_ro' rfl (ro_assign rfl) rfl ?_
          refine ops_nil ?_
          refine Then_normal ?_
          refine wp_block' ?_
          refine wp_loopK 23 (fun m Δ L => ∃ (n : Nat) (ns : List Nm) (d : List UInt8) (pd pn : Option Addr), (n + m = cc.ns.length ∧ ns.length = cc.ns.length) ∧ Δ = [(9, .int .i64 (n : Nat))] ∧ L = [own b5 (.cells (Rp.cs ⟨cc, pd, cd, pn, cn⟩).toArray 32 (0, 0)), row 5 1 (.slice pd cc.d.length cd) cc.d.length (cel d), row 46 8 (.slice pn cc.ns.length cn) cc.ns.length (ncs ns), own b6 (.cells (Rp.cs (⟨r1.c, p45, c45, p50, c50⟩ : Rp)).toArray 32 (0, 0)), Rp.rd (⟨r1.c, p45, c45, p50, c50⟩ : Rp), Rp.rn (⟨r1.c, p45, c45, p50, c50⟩ : Rp), tab bt (E.set 7 ⟨((i + 1 : Nat) : Int), r'⟩), owns (E.set 7 ⟨((i + 1 : Nat) : Int), r'⟩), V]) (m := cc.ns.length) (Has.cons (k := 0) rfl (Has.cons (k := 3) rfl (Has.cons (k := 4) rfl (Has.cons (k := 5) rfl (Has.cons (k := 6) rfl (Has.cons (k := 7) rfl (Has.nil _))))))) (kept ⟨0, cc.ns, d, pd, pn, ⟨by omega, rfl⟩, rfl, rfl⟩ (by repeat (first | exact Has.nil _ | refine Has.cons rfl ?_)) (by repeat (first | exact Has.nil _ | refine Has.cons rfl ?_)) (by repeat (first | exact SubH.nil _ | refine SubH.cons 0 rfl ?_ | refine SubH.cons 1 rfl ?_ | refine SubH.cons 2 rfl ?_ | refine SubH.cons 3 rfl ?_ | refine SubH.cons 4 rfl ?_ | refine SubH.cons 5 rfl ?_ | refine SubH.cons 6 rfl ?_ | refine SubH.cons 7 rfl ?_ | refine SubH.cons 8 rfl ?_ | refine SubH.cons 9 rfl ?_ | refine SubH.cons 10 rfl ?_ | refine SubH.cons 11 rfl ?_ | refine SubH.cons 12 rfl ?_ | refine SubH.cons 13 rfl ?_ | refine SubH.rown ?_))) ?_
          rintro m3 Δ L ⟨n, ns, d, pd, pn, ⟨hn, hdl⟩, rfl, rfl⟩
          simp only [List.cons_append, List.nil_append]
          refine wp_seq' ?_
          refine wp_seq' ?_
          refine wp_region' ?_
          refine ops_ro' rfl (ro_move rfl) rfl ?_
          refine ops_ro' rfl (ro_fieldAddr fa32_4 rfl) rfl ?_
          refine ops_ro' rfl (ro_load sc26 rfl (Rd.pick 0 rfl (Rd.own rfl))) rfl ?_
          refine ops_ro' rfl (ro_sliceLen Try.underlying26 rfl) rfl ?_
          refine ops_ro' rfl (ro_lss rfl rfl rfl) rfl ?_
          refine ops_nil ?_
          refine Then_normal ?_
          refine wp_cond' rfl (fun hc83 => ?_) (fun hc83 => ?_)
          · replace hc83 := of_decide_eq_true hc83
            dsimp only at hc83
            replace hc83 : ((n : Nat) : Int) < ((cc.ns.length : Nat) : Int) := hc83
            refine wp_know (fun w F s => row_ptr 2 rfl s (by omega)) ?_
            rintro ⟨bd, rfl⟩
            have hn' : n < ns.length := by omega
            refine wp_skip' ?_
            refine Then_normal ?_
            refine wp_seq' ?_
            refine wp_block' ?_
            refine wp_region' ?_
            refine ops_ro' rfl (ro_fieldAddr fa32_4 rfl) rfl ?_
            refine ops_ro' rfl (ro_load sc26 rfl (Rd.pick 0 rfl (Rd.own rfl))) rfl ?_
            refine ops_ro' rfl (ro_move rfl) rfl ?_
            refine ops_ro' rfl (ro_indexSlice sl26 rfl rfl rfl (by dsimp only; omega)) rfl ?_
            refine ops_ro' rfl (ro_fieldAddr fa46_0 rfl) rfl ?_
            refine ops_eff0 rfl (eff_storeF 2 Nm.len sc9 rfl rfl rfl rfl ⟨[116, 117, 114, 110, 101, 100], (ns[n]'hn').at'⟩ (List.getElem?_eq_getElem hn') (k := n) (j := 0) (by omega) (by decide) rfl) rfl ?_
            rintro _ _ rfl
            simp only [List.set_cons_zero, List.set_cons_succ]
            refine ops_nil ?_
            refine InBlock_normal ?_
            refine Then_normal ?_
            refine wp_region' ?_
            refine ops_ro' rfl (ro_move rfl) rfl ?_
            refine ops_ro' rfl (ro_add rfl rfl (wrap_inc (by omega))) rfl ?_
            refine ops_ro' rfl (ro_assign rfl) rfl ?_
            refine ops_nil ?_
            refine Then_normal ?_
            refine back (m3 - 1) (by omega) (kept ⟨n + 1, ns.set n ⟨[116, 117, 114, 110, 101, 100], (ns[n]'hn').at'⟩, d, pd, some ⟨bd, 0, none⟩, ⟨by omega, by rw [List.length_set]; exact hdl⟩, rfl, rfl⟩ ?_ ?_ ?_)
            · exact (by repeat (first | exact Has.nil _ | refine Has.cons rfl ?_))
            · exact (by repeat (first | exact Has.nil _ | refine Has.cons rfl ?_))
            · exact SubH.refl _
          · replace hc83 := of_decide_eq_false hc83
            dsimp only at hc83
            refine wp_exit' ?_
            refine Then_exit ?_
            refine Then_exit ?_
            refine InBlock_here ?_
            refine Then_normal ?_
            refine wp_seq' ?_
            refine wp_region' ?_
            refine ops_ro' rfl (ro_move rfl) rfl ?_
            refine ops_ro' rfl (ro_move rfl) rfl ?_
            refine ops_ro' rfl (ro_add rfl rfl (wrap_inc (by omega))) rfl ?_
            refine ops_eff' rfl (eff_call Try.call15 rfl rfl (by repeat (first | exact Split.nil _ | apply Split.cons 0 rfl | apply Split.cons 1 rfl | apply Split.cons 2 rfl | apply Split.cons 3 rfl | apply Split.cons 4 rfl | apply Split.cons 5 rfl | apply Split.cons 6 rfl | apply Split.cons 7 rfl | apply Split.cons 8 rfl | apply Split.cons 9 rfl | apply Split.cons 10 rfl | apply Split.cons 11 rfl)) (ask_again bt (E.set 7 ⟨((i + 1 : Nat) : Int), r'⟩) (by simp [hE]) hSh2 7 _ rfl ((i + 1 : Nat) : Int) ⟨((i + 1 : Nat) : Int), r'⟩ hE7 (by omega) (by omega) rfl)) rfl ?_
            rintro _ H' ⟨_, ⟨r2, hr2, rfl, rfl⟩, hH⟩
            simp only [List.cons_append, List.nil_append, List.eraseIdx_cons_zero, List.eraseIdx_cons_succ, List.set_cons_zero, List.set_cons_succ] at hH
            subst hH
            have hle1 : r'.c.d.length ≤ 100 := by rw [hr']; exact hd1
            have hle2 : r'.c.ns.length ≤ 5 := by rw [hr']; exact hn1
            refine ops_ro' rfl (ro_move rfl) rfl ?_
            refine ops_ro' rfl (ro_extract rfl rfl) rfl ?_
            refine ops_ro' rfl (ro_extract rfl rfl) rfl ?_
            refine ops_eff' rfl (eff_alloc z32) rfl ?_
            rintro _ _ ⟨b11, rfl, rfl⟩
            refine ops_ro' rfl (ro_assign rfl) rfl ?_
            refine ops_eff0 rfl (eff_storeA 0 ag32 rfl rfl rfl rfl rfl (Nat.le_of_ble_eq_true rfl) (warm_zero _)) rfl ?_
            rintro _ _ rfl
            refine ops_nil ?_
            refine Then_normal ?_
            refine wp_seq' ?_
            refine wp_seq' ?_
            refine wp_region' ?_
            refine ops_ro' rfl (ro_move rfl) rfl ?_
            refine ops_ro' rfl (ro_neq rfl rfl (decide_eq_false (by omega))) rfl ?_
            refine ops_ro' rfl (ro_move (v := .bool false) rfl) rfl ?_
            refine ops_ro' rfl (ro_loadA ag32 rfl (RdN.of_pick 0 rfl rdn_all) rfl) rfl ?_
            refine ops_ro' rfl (ro_loadA ag32 rfl (RdN.of_pick 8 rfl rdn_all) rfl) rfl ?_
            refine ops_eff' rfl (eff_callM (Pre := []) Try.call17 rfl rfl (Split.nil _) (kreply_same _ r2 ⟨r1.c, p45, c45, p50, c50⟩ ⟨(by first | exact (Vw.pick 0 rfl hr1.d) | exact (Vw.pick 1 rfl hr1.d) | exact (Vw.pick 2 rfl hr1.d) | exact (Vw.pick 3 rfl hr1.d) | exact (Vw.pick 4 rfl hr1.d) | exact (Vw.pick 5 rfl hr1.d) | exact (Vw.pick 6 rfl hr1.d) | exact (Vw.pick 7 rfl hr1.d) | exact (Vw.pick 8 rfl hr1.d) | exact (Vw.pick 9 rfl hr1.d) | exact (Vw.pick 10 rfl hr1.d) | exact (Vw.pick 11 rfl hr1.d) | exact (Vw.pick 12 rfl hr1.d) | exact (Vw.pick 13 rfl hr1.d) | exact (Vw.pick 0 rfl hr1.n) | exact (Vw.pick 1 rfl hr1.n) | exact (Vw.pick 2 rfl hr1.n) | exact (Vw.pick 3 rfl hr1.n) | exact (Vw.pick 4 rfl hr1.n) | exact (Vw.pick 5 rfl hr1.n) | exact (Vw.pick 6 rfl hr1.n) | exact (Vw.pick 7 rfl hr1.n) | exact (Vw.pick 8 rfl hr1.n) | exact (Vw.pick 9 rfl hr1.n) | exact (Vw.pick 10 rfl hr1.n) | exact (Vw.pick 11 rfl hr1.n) | exact (Vw.pick 12 rfl hr1.n) | exact (Vw.pick 13 rfl hr1.n) | exact Vw.pick 0 rfl Vw.row | exact Vw.pick 1 rfl Vw.row | exact Vw.pick 2 rfl Vw.row | exact Vw.pick 3 rfl Vw.row | exact Vw.pick 4 rfl Vw.row | exact Vw.pick 5 rfl Vw.row | exact Vw.pick 6 rfl Vw.row | exact Vw.pick 7 rfl Vw.row | exact Vw.pick 8 rfl Vw.row | exact Vw.pick 9 rfl Vw.row | exact Vw.pick 10 rfl Vw.row | exact Vw.pick 11 rfl Vw.row | exact Vw.pick 12 rfl Vw.row | exact Vw.pick 13 rfl Vw.row | exact Vw.nil _), (by first | exact (Vw.pick 0 rfl hr1.d) | exact (Vw.pick 1 rfl hr1.d) | exact (Vw.pick 2 rfl hr1.d) | exact (Vw.pick 3 rfl hr1.d) | exact (Vw.pick 4 rfl hr1.d) | exact (Vw.pick 5 rfl hr1.d) | exact (Vw.pick 6 rfl hr1.d) | exact (Vw.pick 7 rfl hr1.d) | exact (Vw.pick 8 rfl hr1.d) | exact (Vw.pick 9 rfl hr1.d) | exact (Vw.pick 10 rfl hr1.d) | exact (Vw.pick 11 rfl hr1.d) | exact (Vw.pick 12 rfl hr1.d) | exact (Vw.pick 13 rfl hr1.d) | exact (Vw.pick 0 rfl hr1.n) | exact (Vw.pick 1 rfl hr1.n) | exact (Vw.pick 2 rfl hr1.n) | exact (Vw.pick 3 rfl hr1.n) | exact (Vw.pick 4 rfl hr1.n) | exact (Vw.pick 5 rfl hr1.n) | exact (Vw.pick 6 rfl hr1.n) | exact (Vw.pick 7 rfl hr1.n) | exact (Vw.pick 8 rfl hr1.n) | exact (Vw.pick 9 rfl hr1.n) | exact (Vw.pick 10 rfl hr1.n) | exact (Vw.pick 11 rfl hr1.n) | exact (Vw.pick 12 rfl hr1.n) | exact (Vw.pick 13 rfl hr1.n) | exact Vw.pick 0 rfl Vw.row | exact Vw.pick 1 rfl Vw.row | exact Vw.pick 2 rfl Vw.row | exact Vw.pick 3 rfl Vw.row | exact Vw.pick 4 rfl Vw.row | exact Vw.pick 5 rfl Vw.row | exact Vw.pick 6 rfl Vw.row | exact Vw.pick 7 rfl Vw.row | exact Vw.pick 8 rfl Vw.row | exact Vw.pick 9 rfl Vw.row | exact Vw.pick 10 rfl Vw.row | exact Vw.pick 11 rfl Vw.row | exact Vw.pick 12 rfl Vw.row | exact Vw.pick 13 rfl Vw.row | exact Vw.nil _)⟩ ⟨(by first | exact (Vw.pick 0 rfl hr1.d) | exact (Vw.pick 1 rfl hr1.d) | exact (Vw.pick 2 rfl hr1.d) | exact (Vw.pick 3 rfl hr1.d) | exact (Vw.pick 4 rfl hr1.d) | exact (Vw.pick 5 rfl hr1.d) | exact (Vw.pick 6 rfl hr1.d) | exact (Vw.pick 7 rfl hr1.d) | exact (Vw.pick 8 rfl hr1.d) | exact (Vw.pick 9 rfl hr1.d) | exact (Vw.pick 10 rfl hr1.d) | exact (Vw.pick 11 rfl hr1.d) | exact (Vw.pick 12 rfl hr1.d) | exact (Vw.pick 13 rfl hr1.d) | exact (Vw.pick 0 rfl hr1.n) | exact (Vw.pick 1 rfl hr1.n) | exact (Vw.pick 2 rfl hr1.n) | exact (Vw.pick 3 rfl hr1.n) | exact (Vw.pick 4 rfl hr1.n) | exact (Vw.pick 5 rfl hr1.n) | exact (Vw.pick 6 rfl hr1.n) | exact (Vw.pick 7 rfl hr1.n) | exact (Vw.pick 8 rfl hr1.n) | exact (Vw.pick 9 rfl hr1.n) | exact (Vw.pick 10 rfl hr1.n) | exact (Vw.pick 11 rfl hr1.n) | exact (Vw.pick 12 rfl hr1.n) | exact (Vw.pick 13 rfl hr1.n) | exact Vw.pick 0 rfl Vw.row | exact Vw.pick 1 rfl Vw.row | exact Vw.pick 2 rfl Vw.row | exact Vw.pick 3 rfl Vw.row | exact Vw.pick 4 rfl Vw.row | exact Vw.pick 5 rfl Vw.row | exact Vw.pick 6 rfl Vw.row | exact Vw.pick 7 rfl Vw.row | exact Vw.pick 8 rfl Vw.row | exact Vw.pick 9 rfl Vw.row | exact Vw.pick 10 rfl Vw.row | exact Vw.pick 11 rfl Vw.row | exact Vw.pick 12 rfl Vw.row | exact Vw.pick 13 rfl Vw.row | exact Vw.nil _), (by first | exact (Vw.pick 0 rfl hr1.d) | exact (Vw.pick 1 rfl hr1.d) | exact (Vw.pick 2 rfl hr1.d) | exact (Vw.pick 3 rfl hr1.d) | exact (Vw.pick 4 rfl hr1.d) | exact (Vw.pick 5 rfl hr1.d) | exact (Vw.pick 6 rfl hr1.d) | exact (Vw.pick 7 rfl hr1.d) | exact (Vw.pick 8 rfl hr1.d) | exact (Vw.pick 9 rfl hr1.d) | exact (Vw.pick 10 rfl hr1.d) | exact (Vw.pick 11 rfl hr1.d) | exact (Vw.pick 12 rfl hr1.d) | exact (Vw.pick 13 rfl hr1.d) | exact (Vw.pick 0 rfl hr1.n) | exact (Vw.pick 1 rfl hr1.n) | exact (Vw.pick 2 rfl hr1.n) | exact (Vw.pick 3 rfl hr1.n) | exact (Vw.pick 4 rfl hr1.n) | exact (Vw.pick 5 rfl hr1.n) | exact (Vw.pick 6 rfl hr1.n) | exact (Vw.pick 7 rfl hr1.n) | exact (Vw.pick 8 rfl hr1.n) | exact (Vw.pick 9 rfl hr1.n) | exact (Vw.pick 10 rfl hr1.n) | exact (Vw.pick 11 rfl hr1.n) | exact (Vw.pick 12 rfl hr1.n) | exact (Vw.pick 13 rfl hr1.n) | exact Vw.pick 0 rfl Vw.row | exact Vw.pick 1 rfl Vw.row | exact Vw.pick 2 rfl Vw.row | exact Vw.pick 3 rfl Vw.row | exact Vw.pick 4 rfl Vw.row | exact Vw.pick 5 rfl Vw.row | exact Vw.pick 6 rfl Vw.row | exact Vw.pick 7 rfl Vw.row | exact Vw.pick 8 rfl Vw.row | exact Vw.pick 9 rfl Vw.row | exact Vw.pick 10 rfl Vw.row | exact Vw.pick 11 rfl Vw.row | exact Vw.pick 12 rfl Vw.row | exact Vw.pick 13 rfl Vw.row | exact Vw.nil _)⟩ (hr2.trans hrw2) (by rw [hr2]; show r'.c.ns.length ≤ _; omega))) rfl ?_
            rintro _ H' ⟨_, ⟨rfl, rfl⟩, hH⟩
            simp only [List.cons_append, List.nil_append, List.eraseIdx_cons_zero, List.eraseIdx_cons_succ, List.set_cons_zero, List.set_cons_succ] at hH
            subst hH
            refine ops_ro' rfl (ro_not rfl rfl) rfl ?_
            refine ops_ro' rfl (ro_pick rfl rfl) rfl ?_
            refine ops_nil ?_
            refine Then_normal ?_
            refine wp_condF rfl ?_
            refine wp_skip' ?_
            refine Then_normal ?_
            refine wp_region' ?_
            refine ops_ro' rfl (ro_loadA ag32 rfl (RdN.of_pick 0 rfl rdn_all) rfl) rfl ?_
            refine ops_eff0 rfl (eff_storeA 5 ag32 rfl rfl rfl rfl rfl (Nat.le_of_ble_eq_true rfl) (warm_zero _)) rfl ?_
            rintro _ _ rfl
            refine ops_nil ?_
            refine InBlock_normal ?_
            refine Then_normal ?_
            refine wp_region' ?_
            refine ops_ro' rfl (ro_move rfl) rfl ?_
            refine ops_ro' rfl (ro_add rfl rfl (wrap_inc (by omega))) rfl ?_
            refine ops_ro' rfl (ro_assign rfl) rfl ?_
            refine ops_nil ?_
            refine Then_normal ?_
            refine back (m2 - 1) (by omega) (kept ⟨k + 1, r2.c, r2.pd, r2.cd, r2.pn, r2.cn, ⟨by omega, by rw [hr2]; exact hle1, by rw [hr2]; exact hle2⟩, rfl, rfl⟩ ?_ ?_ ?_)
            · exact (by repeat (first | exact Has.nil _ | refine Has.cons rfl ?_))
            · exact (by repeat (first | exact Has.nil _ | refine Has.cons rfl ?_))
            · exact (SubH.cons 5 rfl (SubH.cons 1 rfl (SubH.cons 1 rfl (SubH.cons 5 rfl (SubH.cons 5 rfl (SubH.cons 5 rfl (SubH.cons 1 rfl (SubH.cons 1 rfl (SubH.cons 3 rfl (SubH.nil _))))))))))
      · replace hc59 := of_decide_eq_false hc59
        refine wp_exit' ?_
        refine Then_exit ?_
        refine Then_exit ?_
        refine InBlock_here ?_
        refine InBlock_normal ?_
        refine Then_normal ?_
        refine wp_region' ?_
        refine ops_ro' rfl (ro_move rfl) rfl ?_
        refine ops_ro' rfl (ro_add rfl rfl (wrap_inc (by omega))) rfl ?_
        refine ops_ro' rfl (ro_assign rfl) rfl ?_
        refine ops_nil ?_
        refine Then_normal ?_
        refine back (m - 1) (by omega) (kept ⟨i + 1, _, ⟨((i + 1 : Nat) : Int), r'⟩, ⟨by omega, by omega, by simp [hE], hSh2, hE7, rfl⟩, rfl, rfl⟩ ?_ ?_ ?_)
        · exact (by repeat (first | exact Has.nil _ | refine Has.cons rfl ?_))
        · exact (by repeat (first | exact Has.nil _ | refine Has.cons rfl ?_))
        · exact (SubH.cons 6 rfl (SubH.cons 6 rfl (SubH.cons 6 rfl (SubH.nil _))))
    · replace hc22 := of_decide_eq_false hc22
      refine wp_exit' ?_
      refine Then_exit ?_
      refine Then_exit ?_
      refine InBlock_here ?_
      refine Then_normal ?_
      refine wp_seq' ?_
      refine wp_region' ?_
      refine ops_eff' rfl (eff_call Try.call19 rfl rfl (by repeat (first | exact Split.nil _ | apply Split.cons 0 rfl | apply Split.cons 1 rfl | apply Split.cons 2 rfl | apply Split.cons 3 rfl | apply Split.cons 4 rfl | apply Split.cons 5 rfl | apply Split.cons 6 rfl | apply Split.cons 7 rfl | apply Split.cons 8 rfl | apply Split.cons 9 rfl | apply Split.cons 10 rfl | apply Split.cons 11 rfl)) (known21_spec)) rfl ?_
      rintro _ H' ⟨_, ⟨rfl, rfl⟩, hH⟩
      simp only [List.cons_append, List.nil_append, List.eraseIdx_cons_zero, List.eraseIdx_cons_succ, List.set_cons_zero, List.set_cons_succ] at hH
      subst hH
      refine ops_ro' rfl (ro_assign rfl) rfl ?_
      refine ops_nil ?_
      refine Then_normal ?_
      refine wp_ret' ?_
      refine' doneS_ret (res1 rfl rfl) ?_ ?_
      rotate_left 1
      exact ⟨rfl, rfl⟩
      exact (SubH.cons 2 rfl (SubH.nil _))
  · replace hg19 := of_decide_eq_false hg19
    refine ops_skip' rfl rfl ?_
    refine ops_skip' rfl rfl ?_
    refine ops_ro' rfl (ro_pick rfl rfl) rfl ?_
    refine ops_nil ?_
    refine Then_normal ?_
    refine wp_condF rfl ?_
    refine wp_exit' ?_
    refine Then_exit ?_
    refine Then_exit ?_
    refine InBlock_here ?_
    refine Then_normal ?_
    refine wp_seq' ?_
    refine wp_region' ?_
    refine ops_eff' rfl (eff_call Try.call19 rfl rfl (by repeat (first | exact Split.nil _ | apply Split.cons 0 rfl | apply Split.cons 1 rfl | apply Split.cons 2 rfl | apply Split.cons 3 rfl | apply Split.cons 4 rfl | apply Split.cons 5 rfl | apply Split.cons 6 rfl | apply Split.cons 7 rfl | apply Split.cons 8 rfl | apply Split.cons 9 rfl | apply Split.cons 10 rfl | apply Split.cons 11 rfl)) (known21_spec)) rfl ?_
    rintro _ H' ⟨_, ⟨rfl, rfl⟩, hH⟩
    simp only [List.cons_append, List.nil_append, List.eraseIdx_cons_zero, List.eraseIdx_cons_succ, List.set_cons_zero, List.set_cons_succ] at hH
    subst hH
    refine ops_ro' rfl (ro_assign rfl) rfl ?_
    refine ops_nil ?_
    refine Then_normal ?_
    refine wp_ret' ?_
    refine' doneS_ret (res1 rfl rfl) ?_ ?_
    rotate_left 1
    exact ⟨rfl, rfl⟩
    exact (SubH.cons 2 rfl (SubH.nil _))

end Go.Proofs.Ytbiohhfibkolgaa
