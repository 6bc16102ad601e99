/-
  The walk of AttrTells.
-/
import Derived.Test.YtbiohhfibkolgaaSame14
import Derived.Test.YtbiohhfibkolgaaRef14R
import Derived.Test.YtbiohhfibkolgaaSxPut
namespace Go.Proofs.Ytbiohhfibkolgaa
open Go.Sx
set_option linter.unusedVariables false
set_option linter.unusedSimpArgs false
set_option maxRecDepth 100000

theorem same_at (V : HProp) (p : Option Addr) (n c : Nat) (l : List UInt8) (hn : l.length = n) (hV : Vw V (.slice p n c) n (cel l)) (hcap : n ≤ c) (hl : n ≤ 140737488355328) :
    Tri Try.prog 42 [.slice p n c] [V] (fun v H' => v = .bool true ∧ H' = [V]) := by
  subst hn; exact same_spec V p c l hV hcap hl
theorem cel_set (l : List UInt8) (k : Nat) (d : UInt8) : (cel l).set k (byteV d) = cel (l.set k d) := by simp [cel, List.map_set]
theorem row_cap {H : List HProp} (i : Nat) {e : TypeId} {size n c : Nat} {p : Option Addr} {xs : List Value} (hi : H[i]? = some (row e size (.slice p n c) n xs)) {w : World} {F : HProp} (s : sat w (star (St H) F)) : n ≤ c := by
  rcases (row_shape i hi s).2 with ⟨h1, h2, _⟩ | ⟨b, cap, h1, h2, _⟩
  · omega
  · injection h1 with _ _ h3; omega
theorem row_ptr {H : List HProp} (i : Nat) {e : TypeId} {size n c : Nat} {p : Option Addr} {xs : List Value} (hi : H[i]? = some (row e size (.slice p n c) n xs)) {w : World} {F : HProp} (s : sat w (star (St H) F)) : n ≠ 0 → ∃ b, p = some ⟨b, 0, none⟩ := fun h0 => by
  rcases (row_shape i hi s).2 with ⟨h1, h2, _⟩ | ⟨b, cap, h1, h2, _⟩
  · omega
  · injection h1 with h3 _ _; exact ⟨b, h3⟩
theorem vw_ptr {L : HProp} {n c : Nat} {q : Option Addr} {xs : List Value} (h : Vw L (.slice q n c) n xs) {w : World} {R : HProp} (s : sat w (star L R)) (h0 : n ≠ 0) : ∃ b o, q = some ⟨b, o, none⟩ := by
  rcases h w R s with ⟨_, h2, _⟩ | ⟨b, o, cap, h1, _⟩
  · omega
  · injection h1 with h1 _ _; exact ⟨b, o, h1⟩
def xr (c : UInt8) (t : Nat) : UInt8 := UInt8.ofNat (BitVec.ofInt IntKind.u8.bits (c.toNat : Int) ^^^ BitVec.ofInt IntKind.u8.bits (t : Int)).toNat
theorem xor8 (c : UInt8) (t : Nat) : bits .xor .u8 (c.toNat : Int) (t : Int) = ((xr c t).toNat : Int) := conv8 _
theorem attrTells_run (V : HProp) (q : Option Addr) (cq : Nat) (l : List UInt8) (x y : At) (hx : x.Ok) (hy : y.Ok) (pos : Int) (t : Nat) (ht : t < 256) (hV : Vw V (.slice q l.length cq) l.length (cel l)) (hcq : l.length ≤ cq) (hl : l.length ≤ 140737488351232) :
    Tri Try.prog 9 [x.v, y.v, .slice q l.length cq, .int .i64 pos, .int .u8 t] [V] (fun v H' => v = .bool true ∧ V ∈ H') := by
  refine tri_of_wp Try.func9 rfl Try.ntmps9 (by simp) ?_
  refine wp_seq' ?_
  refine wp_region' ?_
  refine ops_eff' rfl (eff_box rfl) rfl ?_
  rintro _ _ ⟨b5, rfl, rfl⟩
  refine ops_eff' rfl (eff_box rfl) rfl ?_
  rintro _ _ ⟨b6, rfl, rfl⟩
  refine ops_ro' rfl (ro_assign rfl) rfl ?_
  refine ops_nil ?_
  repeat (first | refine InBlock_normal ?_ | refine NoGoto_normal ?_ | refine Jump_normal ?_)
  refine Then_normal ?_
  refine wp_cut (fun Γ H => ∃ q' c' l', l'.length ≤ 100 ∧ l'.length ≤ c' ∧ Vw V (.slice q' l'.length c') l'.length (cel l') ∧ Has Γ [(2, .slice q' l'.length c'), (3, .int .i64 pos), (4, .int .u8 t), (5, .pointer (some ⟨b5, 0, none⟩)), (6, .pointer (some ⟨b6, 0, none⟩))] ∧ H = [own b6 (.cells y.cs.toArray 30 (0, 0)), own b5 (.cells x.cs.toArray 30 (0, 0)), V]) ?_ ?_
  · refine wp_seq' ?_
    refine wp_region' ?_
    refine ops_ro' rfl (ro_move rfl) rfl ?_
    refine ops_ro' rfl (ro_sliceLen Try.underlying25 rfl) rfl ?_
    refine ops_ro' rfl (ro_gtr rfl rfl rfl) rfl ?_
    refine ops_nil ?_
    repeat (first | refine InBlock_normal ?_ | refine NoGoto_normal ?_ | refine Jump_normal ?_)
    refine Then_normal ?_
    refine wp_cond' rfl (fun hc0 => ?_) (fun hc0 => ?_)
    · try replace hc0 := of_decide_eq_true hc0
      refine wp_know (fun w F s => vw_ptr (Vw.pick (H := [_, _, V]) 2 rfl hV) s (by omega)) ?_
      rintro ⟨bb, o, rfl⟩
      have hl100 : (l.take 100).length = 100 := by rw [List.length_take]; omega
      refine wp_region' ?_
      refine ops_ro' rfl (ro_move rfl) rfl ?_
      refine ops_ro' rfl (ro_slice (l := 0) (h := 100) sl25 rfl rfl (bnd_of rfl rfl) (by omega) (by omega)) rfl ?_
      refine ops_ro' rfl (ro_assign rfl) rfl ?_
      refine ops_nil ?_
      repeat (first | refine InBlock_normal ?_ | refine NoGoto_normal ?_ | refine Jump_normal ?_)
      refine Then_normal ?_
      refine ⟨some (if cq = 0 then ⟨bb, o, none⟩ else ⟨bb, o + 0 * 1, none⟩), cq - 0, l.take 100, by omega, ?_, ?_, (Has.cons ?_ (Has.cons rfl (Has.cons rfl (Has.cons rfl (Has.cons rfl (Has.nil _)))))), rfl⟩
      · rw [hl100]; exact (show 100 ≤ cq - 0 by omega)
      · rw [hl100, cel_take]; exact Vw.resl (vw_rdn hV) (Nat.zero_le 100) (show 100 ≤ l.length by omega) hcq (by simp [cel_length])
      · rw [hl100]; rfl
    · try replace hc0 := of_decide_eq_false hc0
      refine wp_skip' ?_
      repeat (first | refine InBlock_normal ?_ | refine NoGoto_normal ?_ | refine Jump_normal ?_)
      refine Then_normal ?_
      exact ⟨q, cq, l, by omega, hcq, hV, (Has.cons rfl (Has.cons rfl (Has.cons rfl (Has.cons rfl (Has.cons rfl (Has.nil _)))))), rfl⟩
  rintro Γ H ⟨q', c', l', h100, hc', hV', hΓ, rfl⟩
  refine wp_has hΓ ?_
  refine wp_seq' ?_
  refine wp_region' ?_
  refine ops_ro' rfl (ro_loadA ag30 rfl (by first | exact RdN.of_pick 0 rfl rdn_all | exact RdN.of_pick 1 rfl rdn_all | exact RdN.of_pick 2 rfl rdn_all | exact RdN.of_pick 3 rfl rdn_all | exact RdN.of_pick 4 rfl rdn_all | exact RdN.of_pick 5 rfl rdn_all | exact RdN.of_pick 6 rfl rdn_all | exact RdN.of_pick 7 rfl rdn_all) rfl) rfl ?_
  refine ops_eff' rfl (eff_call Try.call40 rfl rfl (Split.nil _) (qput_spec x hx)) rfl ?_
  rintro _ H' ⟨_, ⟨A, ⟨p, c, rfl, rfl⟩, rfl⟩, hH⟩
  simp only [List.cons_append, List.nil_append, List.eraseIdx_cons_zero, List.eraseIdx_cons_succ, List.set_cons_zero, List.set_cons_succ] at hH
  subst hH
  refine ops_know (fun w F s => And.intro (row_cap 0 rfl s) (row_ptr 0 rfl s)) ?_
  rintro ⟨hcx, hpx⟩
  have hle := x.enc_le
  have hned := enc_need x
  have hge : 4 ≤ x.enc.length := by rw [hned]; unfold At.need; omega
  obtain ⟨bx, rfl⟩ := hpx (by omega)
  refine ops_ro' rfl (ro_assign rfl) rfl ?_
  refine ops_nil ?_
  repeat (first | refine InBlock_normal ?_ | refine NoGoto_normal ?_ | refine Jump_normal ?_)
  refine Then_normal ?_
  refine wp_seq' ?_
  refine wp_seq' ?_
  refine wp_draw 6 (by kernel_rfl) (Split.cons 0 rfl (Split.cons 0 rfl (Split.cons 0 rfl (Split.nil _)))) ?_
  refine any_ro' (i := 0) (by kernel_rfl) rfl rfl (ro_loadA ag30 rfl (by first | exact RdN.of_pick 0 rfl rdn_all | exact RdN.of_pick 1 rfl rdn_all | exact RdN.of_pick 2 rfl rdn_all | exact RdN.of_pick 3 rfl rdn_all | exact RdN.of_pick 4 rfl rdn_all | exact RdN.of_pick 5 rfl rdn_all | exact RdN.of_pick 6 rfl rdn_all | exact RdN.of_pick 7 rfl rdn_all) rfl) rfl (fun _ _ _ h => h) ?_
  refine any_ro' (i := 3) (by kernel_rfl) rfl rfl (ro_move rfl) rfl (fun _ _ _ h => h) ?_
  refine any_ro' (i := 4) (by kernel_rfl) rfl rfl (ro_toStr Try.underlying25 Try.underlying5 Try.underlying9 rfl (by first | exact Vw.pick 0 rfl Vw.row | exact Vw.pick 1 rfl Vw.row | exact Vw.pick 2 rfl Vw.row | exact Vw.pick 3 rfl Vw.row | exact Vw.pick 4 rfl Vw.row | exact Vw.pick 5 rfl Vw.row | exact Vw.pick 6 rfl Vw.row | exact Vw.pick 7 rfl Vw.row) rfl) rfl (fun _ _ _ h => h) ?_
  refine any_eff' (i := 1) (by kernel_rfl) rfl rfl (eff_call Try.call35 rfl rfl (Split.nil _) (aput14_spec x hx)) rfl ?_
  rintro _ H' ⟨_, ⟨A, ⟨p, c2, rfl, rfl⟩, rfl⟩, hH⟩
  simp only [List.cons_append, List.nil_append, List.eraseIdx_cons_zero, List.eraseIdx_cons_succ, List.set_cons_zero, List.set_cons_succ] at hH
  subst hH
  refine any_eff' (i := 2) (by kernel_rfl) rfl rfl (eff_ro (ro_toStr Try.underlying25 Try.underlying5 Try.underlying9 rfl (Vw.pick 0 rfl Vw.row) rfl)) rfl ?_
  rintro _ _ ⟨rfl, rfl⟩
  refine any_ro' (i := 5) (by kernel_rfl) rfl rfl (ro_strNeq rfl rfl (decide_eq_false (by simp))) rfl (fun _ _ _ h => h) ?_
  refine any_unlock (m' := 32) (by kernel_rfl) (relock (Split.cons 1 rfl (Split.cons 1 rfl (Split.nil _)))) ?_
  refine any_ro' (i := 6) (by kernel_rfl) rfl rfl (ro_move rfl) rfl (fun _ _ _ h => h) ?_
  refine any_ro' (i := 7) (by kernel_rfl) rfl rfl (ro_loadA ag30 rfl (by first | exact RdN.of_pick 0 rfl rdn_all | exact RdN.of_pick 1 rfl rdn_all | exact RdN.of_pick 2 rfl rdn_all | exact RdN.of_pick 3 rfl rdn_all | exact RdN.of_pick 4 rfl rdn_all | exact RdN.of_pick 5 rfl rdn_all | exact RdN.of_pick 6 rfl rdn_all | exact RdN.of_pick 7 rfl rdn_all) rfl) rfl (fun _ _ _ h => h) ?_
  refine any_ro' (i := 9) (by kernel_rfl) rfl rfl (ro_loadA ag30 rfl (by first | exact RdN.of_pick 0 rfl rdn_all | exact RdN.of_pick 1 rfl rdn_all | exact RdN.of_pick 2 rfl rdn_all | exact RdN.of_pick 3 rfl rdn_all | exact RdN.of_pick 4 rfl rdn_all | exact RdN.of_pick 5 rfl rdn_all | exact RdN.of_pick 6 rfl rdn_all | exact RdN.of_pick 7 rfl rdn_all) rfl) rfl (fun _ _ _ h => h) ?_
  refine any_eff' (i := 8) (by kernel_rfl) rfl rfl (eff_call Try.call32 rfl rfl (Split.nil _) (right_of hx rfl)) rfl ?_
  rintro _ H' ⟨_, ⟨rfl, rfl⟩, hH⟩
  simp only [List.cons_append, List.nil_append, List.eraseIdx_cons_zero, List.eraseIdx_cons_succ, List.set_cons_zero, List.set_cons_succ] at hH
  subst hH
  refine any_eff' (i := 10) (by kernel_rfl) rfl rfl (eff_call Try.call41 rfl rfl (Split.nil _) (qright_of hx rfl)) rfl ?_
  rintro _ H' ⟨_, ⟨rfl, rfl⟩, hH⟩
  simp only [List.cons_append, List.nil_append, List.eraseIdx_cons_zero, List.eraseIdx_cons_succ, List.set_cons_zero, List.set_cons_succ] at hH
  subst hH
  refine any_ro' (i := 11) (by kernel_rfl) rfl rfl (ro_neq_bool Try.underlying4 rfl rfl (c := false) (by simp)) rfl (fun _ _ _ h => h) ?_
  refine any_ro' (i := 12) (by kernel_rfl) rfl rfl (ro_pick rfl rfl) rfl (fun _ _ _ h => h) ?_
  refine any_ro' (i := 13) (by kernel_rfl) rfl rfl (ro_move rfl) rfl (fun _ _ _ h => h) ?_
  refine any_ro' (i := 14) (by kernel_rfl) rfl rfl (ro_loadA ag30 rfl (by first | exact RdN.of_pick 0 rfl rdn_all | exact RdN.of_pick 1 rfl rdn_all | exact RdN.of_pick 2 rfl rdn_all | exact RdN.of_pick 3 rfl rdn_all | exact RdN.of_pick 4 rfl rdn_all | exact RdN.of_pick 5 rfl rdn_all | exact RdN.of_pick 6 rfl rdn_all | exact RdN.of_pick 7 rfl rdn_all) rfl) rfl (fun _ _ _ h => h) ?_
  refine any_ro' (i := 15) (by kernel_rfl) rfl rfl (ro_loadA ag30 rfl (by first | exact RdN.of_pick 0 rfl rdn_all | exact RdN.of_pick 1 rfl rdn_all | exact RdN.of_pick 2 rfl rdn_all | exact RdN.of_pick 3 rfl rdn_all | exact RdN.of_pick 4 rfl rdn_all | exact RdN.of_pick 5 rfl rdn_all | exact RdN.of_pick 6 rfl rdn_all | exact RdN.of_pick 7 rfl rdn_all) rfl) rfl (fun _ _ _ h => h) ?_
  refine any_ro' (i := 17) (by kernel_rfl) rfl rfl (ro_loadA ag30 rfl (by first | exact RdN.of_pick 0 rfl rdn_all | exact RdN.of_pick 1 rfl rdn_all | exact RdN.of_pick 2 rfl rdn_all | exact RdN.of_pick 3 rfl rdn_all | exact RdN.of_pick 4 rfl rdn_all | exact RdN.of_pick 5 rfl rdn_all | exact RdN.of_pick 6 rfl rdn_all | exact RdN.of_pick 7 rfl rdn_all) rfl) rfl (fun _ _ _ h => h) ?_
  refine any_ro' (i := 18) (by kernel_rfl) rfl rfl (ro_loadA ag30 rfl (by first | exact RdN.of_pick 0 rfl rdn_all | exact RdN.of_pick 1 rfl rdn_all | exact RdN.of_pick 2 rfl rdn_all | exact RdN.of_pick 3 rfl rdn_all | exact RdN.of_pick 4 rfl rdn_all | exact RdN.of_pick 5 rfl rdn_all | exact RdN.of_pick 6 rfl rdn_all | exact RdN.of_pick 7 rfl rdn_all) rfl) rfl (fun _ _ _ h => h) ?_
  refine any_eff' (i := 16) (by kernel_rfl) rfl rfl (eff_call Try.call37 rfl rfl (Split.nil _) (merge_spec _ _ hx hy)) rfl ?_
  rintro _ H' ⟨_, ⟨rfl, rfl⟩, hH⟩
  simp only [List.cons_append, List.nil_append, List.eraseIdx_cons_zero, List.eraseIdx_cons_succ, List.set_cons_zero, List.set_cons_succ] at hH
  subst hH
  refine any_eff' (i := 19) (by kernel_rfl) rfl rfl (eff_call Try.call39 rfl rfl (Split.nil _) (qmerge_spec _ _ hx hy)) rfl ?_
  rintro _ H' ⟨_, ⟨rfl, rfl⟩, hH⟩
  simp only [List.cons_append, List.nil_append, List.eraseIdx_cons_zero, List.eraseIdx_cons_succ, List.set_cons_zero, List.set_cons_succ] at hH
  subst hH
  refine any_ro' (i := 20) (by kernel_rfl) rfl rfl (ro_attrNe rfl rfl (c := false) (by simp)) rfl (fun _ _ _ h => h) ?_
  refine any_ro' (i := 21) (by kernel_rfl) rfl rfl (ro_pick rfl rfl) rfl (fun _ _ _ h => h) ?_
  refine any_ro' (i := 22) (by kernel_rfl) rfl rfl (ro_move rfl) rfl (fun _ _ _ h => h) ?_
  refine any_ro' (i := 23) (by kernel_rfl) rfl rfl (ro_move rfl) rfl (fun _ _ _ h => h) ?_
  refine any_eff' (i := 24) (by kernel_rfl) rfl rfl (eff_call Try.call42 rfl rfl (Split.cons 0 rfl (Split.nil _)) (same_at _ _ _ _ x.enc rfl Vw.row hcx (by omega))) rfl ?_
  rintro _ H' ⟨_, ⟨rfl, rfl⟩, hH⟩
  simp only [List.cons_append, List.nil_append, List.eraseIdx_cons_zero, List.eraseIdx_cons_succ, List.set_cons_zero, List.set_cons_succ] at hH
  subst hH
  refine any_ro' (i := 25) (by kernel_rfl) rfl rfl (ro_not rfl rfl) rfl (fun _ _ _ h => h) ?_
  refine any_ro' (i := 26) (by kernel_rfl) rfl rfl (ro_pick rfl rfl) rfl (fun _ _ _ h => h) ?_
  refine any_ro' (i := 27) (by kernel_rfl) rfl rfl (ro_move rfl) rfl (fun _ _ _ h => h) ?_
  refine any_ro' (i := 28) (by kernel_rfl) rfl rfl (ro_move rfl) rfl (fun _ _ _ h => h) ?_
  refine any_eff' (i := 29) (by kernel_rfl) rfl rfl (eff_call Try.call42 rfl rfl (Split.cons 2 rfl (Split.nil _)) (same_at _ _ _ _ l' rfl hV' hc' (by omega))) rfl ?_
  rintro _ H' ⟨_, ⟨rfl, rfl⟩, hH⟩
  simp only [List.cons_append, List.nil_append, List.eraseIdx_cons_zero, List.eraseIdx_cons_succ, List.set_cons_zero, List.set_cons_succ] at hH
  subst hH
  refine any_ro' (i := 30) (by kernel_rfl) rfl rfl (ro_not rfl rfl) rfl (fun _ _ _ h => h) ?_
  refine any_ro' (i := 31) (by kernel_rfl) rfl rfl (ro_pick rfl rfl) rfl (fun _ _ _ h => h) ?_
  refine any_done (by kernel_rfl) ?_
  repeat (first | refine InBlock_normal ?_ | refine NoGoto_normal ?_ | refine Jump_normal ?_)
  refine Then_normal ?_
  refine wp_condF rfl ?_
  refine wp_skip' ?_
  repeat (first | refine InBlock_normal ?_ | refine NoGoto_normal ?_ | refine Jump_normal ?_)
  refine Then_normal ?_
  refine wp_seq' ?_
  refine wp_region' ?_
  refine ops_ro' rfl (ro_move rfl) rfl ?_
  refine ops_ro' rfl (ro_move rfl) rfl ?_
  refine ops_ro' rfl (ro_move rfl) rfl ?_
  refine ops_ro' rfl (ro_sliceLen Try.underlying25 rfl) rfl ?_
  refine ops_ro' rfl (ro_sub rfl rfl (by first | exact wrap_i64_in (by omega) (by omega) | rfl)) rfl ?_
  refine ops_eff' rfl (eff_call Try.call44 rfl rfl (Split.nil _) (within_spec pos 0 _ (by omega) (by omega) (by omega))) rfl ?_
  rintro _ H' ⟨_, ⟨rfl, rfl⟩, hH⟩
  simp only [List.cons_append, List.nil_append, List.eraseIdx_cons_zero, List.eraseIdx_cons_succ, List.set_cons_zero, List.set_cons_succ] at hH
  subst hH
  obtain ⟨k, hk⟩ : ∃ k : Nat, (0 : Int) + pos % (((x.enc.length : Nat) : Int) - 1 - 0 + 1) = (k : Int) := ⟨(pos % (((x.enc.length : Nat) : Int) - 1 - 0 + 1)).toNat, by have := Int.emod_nonneg pos (show ((x.enc.length : Nat) : Int) - 1 - 0 + 1 ≠ 0 by omega); omega⟩
  have hkl : k < x.enc.length := by have := Int.emod_lt_of_pos pos (show (0 : Int) < ((x.enc.length : Nat) : Int) - 1 - 0 + 1 by omega); omega
  rw [hk]
  refine ops_ro' rfl (ro_indexSlice sl25 rfl rfl rfl (by omega)) rfl ?_
  refine ops_ro' rfl (ro_load sc5 rfl (Rd.pick 3 rfl (Rd.row (by simpa using cel_get hkl)))) rfl ?_
  refine ops_ro' rfl (ro_move rfl) rfl ?_
  refine ops_ro' rfl (ro_xor rfl rfl (xor8 x.enc[k] t)) rfl ?_
  refine ops_ro' rfl (ro_indexSlice sl25 rfl rfl rfl (by omega)) rfl ?_
  refine ops_eff0 rfl (eff_storeRow 3 sc5 rfl rfl rfl rfl (by simp [cel_length]; omega)) rfl ?_
  rintro _ _ rfl
  refine ops_nil ?_
  repeat (first | refine InBlock_normal ?_ | refine NoGoto_normal ?_ | refine Jump_normal ?_)
  refine Then_normal ?_
  refine wp_seq' ?_
  refine wp_region' ?_
  refine ops_ro' rfl (ro_move rfl) rfl ?_
  refine ops_eff' rfl (eff_call Try.call42 rfl rfl (Split.cons 3 rfl (Split.nil _)) (same_at _ _ _ _ (x.enc.set k (xr x.enc[k] t)) (by simp) (by rw [← cel_set, show 0 + k * 1 = k by omega]; exact Vw.row) hcx (by omega))) rfl ?_
  rintro _ H' ⟨_, ⟨rfl, rfl⟩, hH⟩
  simp only [List.cons_append, List.nil_append, List.eraseIdx_cons_zero, List.eraseIdx_cons_succ, List.set_cons_zero, List.set_cons_succ] at hH
  subst hH
  refine ops_ro' rfl (ro_move rfl) rfl ?_
  refine ops_ro' rfl (ro_move rfl) rfl ?_
  refine ops_ro' rfl (ro_move rfl) rfl ?_
  refine ops_eff' rfl (eff_append (src := .slice q' l'.length c') (m := l'.length) (news := cel l') 0 sl25 (.inl ⟨_, Try.underlying25⟩) rfl rfl rfl (Src.of_vw (Vw.pick 2 rfl hV') (by simp [cel_length]) (cel_one l')) (by omega) (by simp only [maxLen]; omega)) rfl ?_
  rintro _ H' ⟨A, ⟨p1, c1, rfl, hp1, rfl⟩, hH⟩
  simp only [List.cons_append, List.nil_append, List.eraseIdx_cons_zero, List.eraseIdx_cons_succ, List.set_cons_zero, List.set_cons_succ] at hH
  subst hH
  refine ops_know (fun w F s => row_cap 0 rfl s) ?_
  intro hc1
  refine ops_eff' rfl (eff_call Try.call42 rfl rfl (Split.cons 0 rfl (Split.nil _)) (same_at _ _ _ _ (x.enc.set k (xr x.enc[k] t) ++ l') (by simp) (by rw [cel_append, ← cel_set, show 0 + k * 1 = k by omega]; exact Vw.row) hc1 (by omega))) rfl ?_
  rintro _ H' ⟨_, ⟨rfl, rfl⟩, hH⟩
  simp only [List.cons_append, List.nil_append, List.eraseIdx_cons_zero, List.eraseIdx_cons_succ, List.set_cons_zero, List.set_cons_succ] at hH
  subst hH
  refine ops_ro' rfl (ro_pick rfl rfl) rfl ?_
  refine ops_ro' rfl (ro_move rfl) rfl ?_
  refine ops_eff' rfl (eff_call Try.call33 rfl rfl (Split.nil _) (known_spec)) rfl ?_
  rintro _ H' ⟨_, ⟨rfl, rfl⟩, hH⟩
  simp only [List.cons_append, List.nil_append, List.eraseIdx_cons_zero, List.eraseIdx_cons_succ, List.set_cons_zero, List.set_cons_succ] at hH
  subst hH
  refine ops_ro' rfl (ro_pick rfl rfl) rfl ?_
  refine ops_ro' rfl (ro_assign rfl) rfl ?_
  refine ops_nil ?_
  repeat (first | refine InBlock_normal ?_ | refine NoGoto_normal ?_ | refine Jump_normal ?_)
  refine Then_normal ?_
  refine wp_ret' ?_
  repeat (first | refine Then_ret ?_ | refine InBlock_ret ?_ | refine NoGoto_ret ?_ | refine Jump_ret ?_)
  refine done_ret (res1 rfl rfl) ?_
  exact ⟨rfl, by simp⟩

end Go.Proofs.Ytbiohhfibkolgaa
