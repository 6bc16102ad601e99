/-
  Done and Last of the table; replies cut short.
-/
import Derived.Test.YtbiohhfibkolgaaNmEq
import Derived.Test.YtbiohhfibkolgaaSxStr
namespace Go.Proofs.Ytbiohhfibkolgaa
open Go.Sx
set_option linter.unusedVariables false
set_option linter.unusedSimpArgs false
set_option maxRecDepth 100000
set_option maxHeartbeats 4000000

theorem done_spec' (bt : Nat) (E : List En) (hE : E.length = 16) (hl : Short E) (client seq : Int) (r : Rp) (W : HProp) (hV : r.In W) (hd : r.c.d.length ≤ 140737488355328) (hn : r.c.ns.length ≤ 2513169434916) :
    Tri Try.prog 16 [.pointer (some ⟨bt, 0, none⟩), .int .i64 client, .int .i64 seq, r.v] [tab bt E, owns E, W] (fun v H' => ∃ K, (∃ how r0, Told E client seq how r0 ∧ ((how ≠ 1 ∧ v = .int .i64 1 ∧ K = [tab bt E, owns E]) ∨
      (∃ (c : Nat) (r' : Rp), client = (c : Int) ∧ how = 1 ∧ c < 16 ∧ r'.c = r.c ∧ v = .int .i64 0 ∧ K = [owns (E.set c ⟨seq, r'⟩), tab bt (E.set c ⟨seq, r'⟩)]))) ∧ H' = K ++ [W]) := by
  refine tri_of_wpS Try.func16 rfl Try.ntmps16 (by simp) ?_
  refine wp_seq' ?_
  refine wp_region' ?_
  refine ops_eff' rfl (eff_box rfl) rfl ?_
  rintro _ _ ⟨b7, rfl, rfl⟩
  refine ops_ro' rfl (ro_assign rfl) rfl ?_
  refine ops_nil ?_
  refine Then_normal ?_
  refine wp_seq' ?_
  refine wp_seq' ?_
  refine wp_region' ?_
  refine ops_ro' rfl (ro_move rfl) rfl ?_
  refine ops_ro' rfl (ro_move rfl) rfl ?_
  refine ops_ro' rfl (ro_move rfl) rfl ?_
  refine ops_eff' rfl (eff_call Try.call15 rfl rfl (by repeat (first | exact Split.nil _ | apply Split.cons 0 rfl | apply Split.cons 1 rfl | apply Split.cons 2 rfl | apply Split.cons 3 rfl | apply Split.cons 4 rfl | apply Split.cons 5 rfl | apply Split.cons 6 rfl | apply Split.cons 7 rfl | apply Split.cons 8 rfl | apply Split.cons 9 rfl | apply Split.cons 10 rfl | apply Split.cons 11 rfl)) (ask_spec bt E hE hl client seq)) rfl ?_
  rintro _ H' ⟨_, ⟨how, r0, rfl, hT, rfl⟩, hH⟩
  simp only [List.cons_append, List.nil_append, List.eraseIdx_cons_zero, List.eraseIdx_cons_succ, List.set_cons_zero, List.set_cons_succ] at hH
  subst hH
  refine ops_ro' rfl (ro_move rfl) rfl ?_
  refine ops_ro' rfl (ro_extract rfl rfl) rfl ?_
  refine ops_ro' rfl (ro_extract rfl rfl) rfl ?_
  refine ops_eff' rfl (eff_alloc z32) rfl ?_
  rintro _ _ ⟨b10, rfl, rfl⟩
  refine ops_ro' rfl (ro_assign rfl) rfl ?_
  refine ops_eff0 rfl (eff_storeA 0 ag32 rfl rfl rfl rfl rfl (Nat.le_of_ble_eq_true rfl) (warm_zero _)) rfl ?_
  rintro _ _ rfl
  refine ops_nil ?_
  refine Then_normal ?_
  refine wp_seq' ?_
  refine wp_region' ?_
  refine ops_ro' rfl (ro_move rfl) rfl ?_
  refine ops_ro' rfl (ro_neq rfl rfl rfl) rfl ?_
  refine ops_nil ?_
  refine Then_normal ?_
  refine wp_cond' rfl (fun hc19 => ?_) (fun hc19 => ?_)
  · replace hc19 := of_decide_eq_true hc19
    refine wp_seq' ?_
    refine wp_region' ?_
    refine ops_ro' rfl (ro_assign rfl) rfl ?_
    refine ops_nil ?_
    refine Then_normal ?_
    refine wp_ret' ?_
    refine Then_ret ?_
    refine' doneS_ret (res1 rfl rfl) ?_ ?_
    rotate_left 1
    exact ⟨_, ⟨how, r0, hT, .inl ⟨by omega, rfl, rfl⟩⟩, rfl⟩
    exact (SubH.cons 3 rfl (SubH.cons 3 rfl (SubH.cons 4 rfl (SubH.nil _))))
  · replace hc19 := of_decide_eq_false hc19
    obtain ⟨c, e, rfl, hc, rfl, hrest⟩ : ∃ (c : Nat) (e : En), client = (c : Int) ∧ E[c]? = some e ∧ how = 1 ∧ True := by
      rcases hT with ⟨h, _⟩ | ⟨c, e, h1, h2, h3⟩
      · omega
      · exact ⟨c, e, h1, h2, by omega, trivial⟩
    have hcl : c < E.length := (List.getElem?_eq_some_iff.1 hc).1
    refine wp_skip' ?_
    refine Then_normal ?_
    refine wp_seq' ?_
    refine wp_sub' (L := [own b7 (.cells r.cs.toArray 32 (0, 0)), tab bt E, owns E, W]) (by repeat (first | exact SubH.nil _ | refine SubH.cons 0 rfl ?_ | refine SubH.cons 1 rfl ?_ | refine SubH.cons 2 rfl ?_ | refine SubH.cons 3 rfl ?_ | refine SubH.cons 4 rfl ?_ | refine SubH.cons 5 rfl ?_ | refine SubH.cons 6 rfl ?_ | refine SubH.cons 7 rfl ?_ | refine SubH.cons 8 rfl ?_ | refine SubH.cons 9 rfl ?_ | refine SubH.cons 10 rfl ?_ | refine SubH.cons 11 rfl ?_ | refine SubH.cons 12 rfl ?_ | refine SubH.cons 13 rfl ?_ | refine SubH.rown ?_)) ?_
    refine wp_draw 10 (by kernel_rfl) (Split.cons 0 rfl (Split.nil _)) ?_
    refine any_ro' (i := 0) (by kernel_rfl) rfl rfl (ro_move rfl) rfl (fun _ _ _ h => h) ?_
    refine any_ro' (i := 1) (by kernel_rfl) rfl rfl (ro_move rfl) rfl (fun _ _ _ h => h) ?_
    refine any_ro' (i := 2) (by kernel_rfl) rfl rfl (ro_move rfl) rfl (fun _ _ _ h => h) ?_
    refine any_ro' (i := 3) (by kernel_rfl) rfl rfl (ro_loadA ag32 rfl (RdN.of_pick 0 rfl rdn_all) rfl) rfl (fun _ _ _ h => h) ?_
    refine any_ro' (i := 6) (by kernel_rfl) rfl rfl (ro_nilCheck rfl) rfl (fun _ _ _ h => h) ?_
    refine any_ro' (i := 7) (by kernel_rfl) rfl rfl (ro_fieldAddr fa96_0 rfl) rfl (fun _ _ _ h => h) ?_
    refine any_eff' (i := 4) (by kernel_rfl) rfl rfl (eff_callM (Pre := []) Try.call50 rfl rfl (Split.nil _) (copied_spec _ r ⟨Vw.pick 2 rfl hV.d, Vw.pick 2 rfl hV.n⟩ hd hn)) rfl ?_
    rintro _ H' ⟨_, ⟨r', hr, rfl, rfl⟩, hH⟩
    simp only [List.cons_append, List.nil_append, List.eraseIdx_cons_zero, List.eraseIdx_cons_succ, List.set_cons_zero, List.set_cons_succ] at hH
    subst hH
    refine any_ro' (i := 5) (by kernel_rfl) rfl rfl (ro_build rfl (bld_struct (cs := En.cs ⟨seq, r'⟩) st93 rfl)) rfl (fun _ _ _ h => h) ?_
    refine any_ro' (i := 8) (by kernel_rfl) rfl rfl (ro_indexArr Try.underlying94 (fun w => Try.sizeOf93 w) rfl rfl rfl (by omega)) rfl (fun _ _ _ h => h) ?_
    refine any_eff0 (i := 9) (by kernel_rfl) rfl rfl (eff_storeA 2 ag93 rfl rfl rfl rfl rfl (by rw [flat_len En.len]; show _ + 13 ≤ _; omega) (warm_zero _)) rfl ?_
    rintro _ _ rfl
    refine any_done (by kernel_rfl) ?_
    refine Then_normal ?_
    refine wp_seq' ?_
    rw [show over (flat En.cs E) (0 + 0 + c * 13) (En.cs ⟨seq, r'⟩) = tcs (E.set c ⟨seq, r'⟩) by rw [show 0 + 0 + c * 13 = c * 13 by omega]; exact flat_over En.len _ hcl]
    refine wp_sub' (L := [r'.rd, r'.rn, owns E, tab bt (E.set c ⟨seq, r'⟩), W]) (by repeat (first | exact SubH.nil _ | refine SubH.cons 0 rfl ?_ | refine SubH.cons 1 rfl ?_ | refine SubH.cons 2 rfl ?_ | refine SubH.cons 3 rfl ?_ | refine SubH.cons 4 rfl ?_ | refine SubH.cons 5 rfl ?_ | refine SubH.cons 6 rfl ?_ | refine SubH.cons 7 rfl ?_ | refine SubH.cons 8 rfl ?_ | refine SubH.cons 9 rfl ?_ | refine SubH.cons 10 rfl ?_ | refine SubH.cons 11 rfl ?_ | refine SubH.cons 12 rfl ?_ | refine SubH.cons 13 rfl ?_ | refine SubH.rown ?_)) ?_
    refine wp_sub' (own_set (e' := ⟨seq, r'⟩) hc _) ?_
    refine wp_region' ?_
    refine ops_ro' rfl (ro_assign rfl) rfl ?_
    refine ops_nil ?_
    refine Then_normal ?_
    refine wp_ret' ?_
    refine' doneS_ret (res1 rfl rfl) ?_ ?_
    rotate_left 1
    exact ⟨_, ⟨1, r0, hT, .inr ⟨c, r', rfl, rfl, by omega, hr, rfl, rfl⟩⟩, rfl⟩
    exact SubH.refl _


def lastOf (E : List En) (client : Int) : Int := if 0 ≤ client then (match E[client.toNat]? with | some e => e.seq | none => 0) else 0
theorem lastOf_in {E : List En} {c : Nat} {e : En} (hc : E[c]? = some e) (hE : E.length = 16) : lastOf E (c : Int) = e.seq := by
  unfold lastOf; rw [if_pos (by omega), Int.toNat_natCast, hc]
theorem lastOf_out (E : List En) (hE : E.length = 16) {client : Int} (h : client < 0 ∨ 16 ≤ client) : lastOf E client = 0 := by
  unfold lastOf
  split
  · rw [List.getElem?_eq_none (by omega)]
  · rfl
theorem last_spec (bt : Nat) (E : List En) (hE : E.length = 16) (client : Int) : Tri Try.prog 18 [.pointer (some ⟨bt, 0, none⟩), .int .i64 client] [tab bt E] (fun v H' => v = .int .i64 (lastOf E client) ∧ H' = [tab bt E]) := by
  refine tri_of_wpS Try.func18 rfl Try.ntmps18 (by simp) ?_
  refine wp_seq' ?_
  refine wp_region' ?_
  refine ops_ro' rfl (ro_assign rfl) rfl ?_
  refine ops_nil ?_
  refine Then_normal ?_
  refine wp_seq' ?_
  refine wp_seq' ?_
  refine wp_region' ?_
  refine ops_ro' rfl (ro_move rfl) rfl ?_
  refine ops_ro' rfl (ro_lss rfl rfl rfl) rfl ?_
  refine ops_split rfl rfl rfl (fun hg7 => ?_) (fun hg7 => ?_)
  · replace hg7 := of_decide_eq_true hg7
    refine ops_skip' rfl rfl ?_
    refine ops_skip' rfl rfl ?_
    refine ops_ro' rfl (ro_pick rfl rfl) rfl ?_
    refine ops_nil ?_
    refine Then_normal ?_
    refine wp_condT rfl ?_
    refine wp_seq' ?_
    refine wp_region' ?_
    refine ops_ro' rfl (ro_assign rfl) rfl ?_
    refine ops_nil ?_
    refine Then_normal ?_
    refine wp_ret' ?_
    refine Then_ret ?_
    refine' doneS_ret (res1 rfl rfl) ?_ ?_
    rotate_left 1
    exact ⟨by rw [lastOf_out E hE (client := client) (by omega)], rfl⟩
    exact SubH.refl _
  · replace hg7 := of_decide_eq_false hg7
    refine ops_ro' rfl (ro_move rfl) rfl ?_
    refine ops_ro' rfl (ro_geq rfl rfl rfl) rfl ?_
    refine ops_ro' rfl (ro_pick rfl rfl) rfl ?_
    refine ops_nil ?_
    refine Then_normal ?_
    refine wp_cond' rfl (fun hc10 => ?_) (fun hc10 => ?_)
    · replace hc10 := of_decide_eq_true hc10
      refine wp_seq' ?_
      refine wp_region' ?_
      refine ops_ro' rfl (ro_assign rfl) rfl ?_
      refine ops_nil ?_
      refine Then_normal ?_
      refine wp_ret' ?_
      refine Then_ret ?_
      refine' doneS_ret (res1 rfl rfl) ?_ ?_
      rotate_left 1
      exact ⟨by rw [lastOf_out E hE (client := client) (by omega)], rfl⟩
      exact SubH.refl _
    · replace hc10 := of_decide_eq_false hc10
      obtain ⟨c, rfl⟩ := Int.eq_ofNat_of_zero_le (show 0 ≤ client by omega)
      have hcl : c < E.length := by omega
      obtain ⟨e, hc⟩ : ∃ e, E[c]? = some e := ⟨_, List.getElem?_eq_getElem hcl⟩
      refine wp_skip' ?_
      refine Then_normal ?_
      refine wp_seq' ?_
      refine wp_region' ?_
      refine ops_ro' rfl (ro_move rfl) rfl ?_
      refine ops_ro' rfl (ro_move rfl) rfl ?_
      refine ops_ro' rfl (ro_nilCheck rfl) rfl ?_
      refine ops_ro' rfl (ro_fieldAddr fa96_0 rfl) rfl ?_
      refine ops_ro' rfl (ro_indexArr Try.underlying94 (fun w => Try.sizeOf93 w) rfl rfl rfl (by omega)) rfl ?_
      refine ops_ro' rfl (ro_fieldAddr fa93_0 rfl) rfl ?_
      refine ops_ro' rfl (ro_load sc3 rfl (Rd.pick 0 rfl (Rd.of_n (j := 0) (tab_rd hc) (by omega) rfl))) rfl ?_
      refine ops_ro' rfl (ro_assign rfl) rfl ?_
      refine ops_nil ?_
      refine Then_normal ?_
      refine wp_ret' ?_
      refine' doneS_ret (res1 rfl rfl) ?_ ?_
      rotate_left 1
      exact ⟨by rw [lastOf_in hc hE], rfl⟩
      exact SubH.refl _
theorem headL (l : List UInt8) (n : Nat) : Tri Try.prog 21 [.string (str l), .int .i64 n] [] (fun v H' => v = .string (str (l.take n)) ∧ H' = []) := by
  refine tri_of_wpS Try.func21 rfl Try.ntmps21 (by simp) ?_
  refine wp_seq' ?_
  refine wp_region' ?_
  refine ops_ro' rfl (ro_assign rfl) rfl ?_
  refine ops_nil ?_
  refine Then_normal ?_
  refine wp_seq' ?_
  refine wp_seq' ?_
  refine wp_region' ?_
  refine ops_ro' rfl (ro_move rfl) rfl ?_
  refine ops_ro' rfl (ro_lenS (t' := 0) Try.underlying9 rfl) rfl ?_
  refine ops_ro' rfl (ro_move rfl) rfl ?_
  refine ops_ro' rfl (ro_gtr rfl rfl rfl) rfl ?_
  refine ops_nil ?_
  refine Then_normal ?_
  refine wp_cond' rfl (fun hc8 => ?_) (fun hc8 => ?_)
  · replace hc8 := of_decide_eq_true hc8
    refine wp_seq' ?_
    refine wp_region' ?_
    refine ops_ro' rfl (ro_move rfl) rfl ?_
    refine ops_ro' rfl (ro_move rfl) rfl ?_
    refine ops_ro' rfl (ro_sliceS Try.underlying9 rfl rfl (bnd_of rfl rfl) (by omega) (by omega)) rfl ?_
    refine ops_ro' rfl (ro_assign rfl) rfl ?_
    refine ops_nil ?_
    refine Then_normal ?_
    refine wp_ret' ?_
    refine Then_ret ?_
    refine' doneS_ret (res1 rfl rfl) ?_ ?_
    rotate_left 1
    exact ⟨by simp, rfl⟩
    exact SubH.refl _
  · replace hc8 := of_decide_eq_false hc8
    refine wp_skip' ?_
    refine Then_normal ?_
    refine wp_seq' ?_
    refine wp_region' ?_
    refine ops_ro' rfl (ro_move rfl) rfl ?_
    refine ops_ro' rfl (ro_assign rfl) rfl ?_
    refine ops_nil ?_
    refine Then_normal ?_
    refine wp_ret' ?_
    refine' doneS_ret (res1 rfl rfl) ?_ ?_
    rotate_left 1
    exact ⟨by rw [List.take_of_length_le (by omega)], rfl⟩
    exact SubH.refl _
theorem cutL (V : HProp) (p : Option Addr) (c : Nat) (l : List UInt8) (n : Nat) (hV : Vw V (.slice p l.length c) l.length (cel l)) (hc : l.length ≤ c) :
    Tri Try.prog 52 [.slice p l.length c, .int .i64 n] [V] (fun v H' => ∃ K, (∃ p' c', v = .slice p' (l.take n).length c' ∧ Vw V (.slice p' (l.take n).length c') (l.take n).length (cel (l.take n)) ∧ (l.take n).length ≤ c' ∧ K = []) ∧ H' = K ++ [V]) := by
  refine tri_of_wpS Try.func52 rfl Try.ntmps52 (by simp) ?_
  refine wp_seq' ?_
  refine wp_region' ?_
  refine ops_ro' rfl (ro_assign rfl) rfl ?_
  refine ops_nil ?_
  refine Then_normal ?_
  refine wp_seq' ?_
  refine wp_seq' ?_
  refine wp_region' ?_
  refine ops_ro' rfl (ro_move rfl) rfl ?_
  refine ops_ro' rfl (ro_sliceLen Try.underlying25 rfl) rfl ?_
  refine ops_ro' rfl (ro_move rfl) rfl ?_
  refine ops_ro' rfl (ro_gtr rfl rfl rfl) rfl ?_
  refine ops_nil ?_
  refine Then_normal ?_
  refine wp_cond' rfl (fun hc8 => ?_) (fun hc8 => ?_)
  · replace hc8 := of_decide_eq_true hc8
    refine wp_seq' ?_
    refine wp_region' ?_
    refine ops_ro' rfl (ro_move rfl) rfl ?_
    refine ops_ro' rfl (ro_move rfl) rfl ?_
    refine ops_eff' rfl (eff_sliceB 0 rfl sl25 rfl (hV) rfl (bnd_of rfl rfl) (by omega) (by omega) hc) rfl ?_
    rintro _ _ ⟨p11, rfl, hv11, hn11, rfl⟩
    refine ops_ro' rfl (ro_assign rfl) rfl ?_
    refine ops_nil ?_
    refine Then_normal ?_
    refine wp_ret' ?_
    refine Then_ret ?_
    refine' doneS_ret (res1 rfl rfl) ?_ ?_
    rotate_left 1
    exact ⟨_, ⟨p11, c, rfl, by simpa [St_cons, St_nil, star_emp] using hv11, by simp; omega, rfl⟩, rfl⟩
    exact SubH.refl _
  · replace hc8 := of_decide_eq_false hc8
    refine wp_skip' ?_
    refine Then_normal ?_
    refine wp_seq' ?_
    refine wp_region' ?_
    refine ops_ro' rfl (ro_move rfl) rfl ?_
    refine ops_ro' rfl (ro_assign rfl) rfl ?_
    refine ops_nil ?_
    refine Then_normal ?_
    refine wp_ret' ?_
    refine' doneS_ret (res1 rfl rfl) ?_ ?_
    rotate_left 1
    exact ⟨_, ⟨p, c, by rw [List.take_of_length_le (by omega)], by rw [List.take_of_length_le (by omega)]; exact hV, by rw [List.take_of_length_le (by omega)]; exact hc, rfl⟩, rfl⟩
    exact SubH.refl _

end Go.Proofs.Ytbiohhfibkolgaa
