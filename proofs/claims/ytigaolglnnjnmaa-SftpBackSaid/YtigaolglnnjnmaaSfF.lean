/-
  Package sftp: replies written.
-/
import Derived.Test.YtigaolglnnjnmaaSfA
import Derived.Test.YtigaolglnnjnmaaSxSub
namespace Go.Proofs.Ytigaolglnnjnmaa
open Go.Sx
set_option linter.unusedVariables false
set_option linter.unusedSimpArgs false
set_option maxRecDepth 100000
set_option maxHeartbeats 4000000

structure Nm where
  n : List UInt8
  at' : At
deriving DecidableEq
def Nm.cs (x : Nm) : List Value := [.string (str x.n), .int .u32 x.at'.f, .int .u64 x.at'.s, .int .u32 x.at'.u, .int .u32 x.at'.g, .int .u32 x.at'.m, .int .u32 x.at'.a, .int .u32 x.at'.t]
theorem Nm.len (x : Nm) : x.cs.length = 8 := rfl
theorem Nm.one (x : Nm) : ∀ v ∈ x.cs, v.oneCell' = true := fun v hv => by
  simp only [Nm.cs, List.mem_cons, List.not_mem_nil, or_false] at hv
  rcases hv with rfl | rfl | rfl | rfl | rfl | rfl | rfl | rfl <;> rfl
/-- a reply: what it holds -/
structure Pc where
  k : Int
  s : Int
  h : List UInt8
  d : List UInt8
  ns : List Nm
  at' : At
deriving DecidableEq
def Pc.zero : Pc := ⟨0, 0, [], [], [], At.zero⟩
def Pc.cs (c : Pc) (dp : Option Addr) (dn : Nat) (np : Option Addr) (nn : Nat) : List Value := [.int .i64 c.k, .int .i64 c.s, .string (str c.h), .slice dp c.d.length dn, .slice np c.ns.length nn, .int .u32 c.at'.f, .int .u64 c.at'.s, .int .u32 c.at'.u, .int .u32 c.at'.g, .int .u32 c.at'.m, .int .u32 c.at'.a, .int .u32 c.at'.t]
abbrev Pc.v (c : Pc) (dp : Option Addr) (dn : Nat) (np : Option Addr) (nn : Nat) : Value := .agg (c.cs dp dn np nn).toArray
def namesE (l : List Nm) : Int := if ∃ x ∈ l, x.at'.right = false then 12 else if ∃ x ∈ l, 256 < x.n.length then 3 else if 100 < l.length then 4 else 0
def Lg (l : List Nm) (w : Int) : Prop := (w = 3 ∧ ∃ x ∈ l, 256 < x.n.length) ∨ (w = 0 ∧ ∀ x ∈ l, x.n.length ≤ 256)
def Rt (l : List Nm) : Prop := ∀ x ∈ l, x.at'.right = true
theorem Lg.nil : Lg [] 0 := .inr ⟨rfl, fun x hx => by cases hx⟩
theorem Lg.long {l : List Nm} {w : Int} {i : Nat} (hi : i < l.length) (h : 256 < l[i].n.length) : Lg (l.take (i + 1)) 3 := by
  rw [List.take_succ_eq_append_getElem hi]; exact .inl ⟨rfl, l[i], List.mem_append_right _ (List.mem_singleton.2 rfl), h⟩
theorem Lg.short {l : List Nm} {w : Int} {i : Nat} (hi : i < l.length) (hw : Lg (l.take i) w) (h : ¬ 256 < l[i].n.length) : Lg (l.take (i + 1)) w := by
  rw [List.take_succ_eq_append_getElem hi]
  rcases hw with ⟨h1, x, hx, h2⟩ | ⟨h1, h2⟩
  · exact .inl ⟨h1, x, List.mem_append_left _ hx, h2⟩
  · refine .inr ⟨h1, fun x hx => ?_⟩
    rcases List.mem_append.1 hx with hx | hx
    · exact h2 x hx
    · rw [List.mem_singleton.1 hx]; omega
theorem Rt.snoc {l : List Nm} {i : Nat} (hi : i < l.length) (hw : Rt (l.take i)) (h : l[i].at'.right = true) : Rt (l.take (i + 1)) := by
  rw [List.take_succ_eq_append_getElem hi]
  intro x hx
  rcases List.mem_append.1 hx with hx | hx
  · exact hw x hx
  · rw [List.mem_singleton.1 hx]; exact h
theorem namesE_bad {l : List Nm} {i : Nat} (hi : i < l.length) (h : l[i].at'.right = false) : namesE l = 12 := by unfold namesE; rw [if_pos ⟨l[i], List.getElem_mem hi, h⟩]
theorem namesE_good {l : List Nm} {w : Int} (hr : Rt l) (hw : Lg l w) : namesE l = if w = 0 ∧ 100 < l.length then 4 else w := by
  unfold namesE
  rw [if_neg (by rintro ⟨x, hx, h⟩; rw [hr x hx] at h; cases h)]
  rcases hw with ⟨rfl, h⟩ | ⟨rfl, h⟩
  · rw [if_pos h, if_neg (by rintro ⟨h1, _⟩; omega)]
  · rw [if_neg (by rintro ⟨x, hx, h1⟩; have := h x hx; omega)]
    by_cases h2 : 100 < l.length
    · rw [if_pos h2, if_pos ⟨rfl, h2⟩]
    · rw [if_neg h2, if_neg (by rintro ⟨_, h3⟩; exact h2 h3)]
theorem namesE_zero {l : List Nm} (h : namesE l = 0) : l.length ≤ 100 ∧ (∀ x ∈ l, x.n.length ≤ 256) ∧ Rt l := by
  unfold namesE at h
  split at h
  · cases h
  split at h
  · cases h
  split at h
  · cases h
  rename_i h1 h2 h3
  refine ⟨by omega, fun x hx => Classical.byContradiction fun hn => h2 ⟨x, hx, by omega⟩, fun x hx => ?_⟩
  cases hr : x.at'.right with
  | true => rfl
  | false => exact absurd ⟨x, hx, hr⟩ h1


theorem sfNames_spec (V : HProp) (q : Option Addr) (cq : Nat) (l : List Nm) (hV : Vw V (.slice q l.length cq) l.length (flat Nm.cs l)) (hO : ∀ x ∈ l, x.at'.Ok) (hl : l.length ≤ 9223372036854775807) : Tri Try.prog 102 [.slice q l.length cq] [V] (fun v H' => ∃ K, (v = .int .i64 (namesE l) ∧ K = []) ∧ H' = K ++ [V]) := by
  refine tri_of_wpS Try.func102 rfl Try.ntmps102 (by simp) ?_
  refine wp_seq' ?_
  refine wp_region' ?_
  refine ops_ro' rfl (ro_assign rfl) rfl ?_
  refine ops_nil ?_
  refine Then_normal ?_
  refine wp_seq' ?_
  refine wp_region' ?_
  refine ops_ro' rfl (ro_assign rfl) rfl ?_
  refine ops_nil ?_
  refine Then_normal ?_
  refine wp_seq' ?_
  refine wp_seq' ?_
  refine wp_region' ?_
  refine ops_ro' rfl (ro_move rfl) rfl ?_
  refine ops_ro' rfl (ro_sliceLen Try.underlying64 rfl) rfl ?_
  refine ops_ro' rfl (ro_move rfl) rfl ?_
  refine ops_nil ?_
  refine Then_normal ?_
  refine wp_block' ?_
  refine wp_loopK 3 (fun m Δ LL => ∃ (i : Nat) (w : Int), (i + m = l.length ∧ Rt (l.take i) ∧ Lg (l.take i) w) ∧ Δ = [(3, .int .i64 w), (8, .int .i64 (i : Nat))] ∧ LL = [V]) (m := l.length) (Has.cons (k := 0) rfl (Has.cons (k := 6) rfl (Has.cons (k := 7) rfl (Has.nil _)))) (kept ⟨0, 0, ⟨by omega, fun x hx => (by simp at hx), Lg.nil⟩, rfl, rfl⟩ (by repeat (first | exact Has.nil _ | refine Has.cons rfl ?_)) (by repeat (first | exact Has.nil _ | refine Has.cons rfl ?_)) (by repeat (first | exact SubH.nil _ | refine SubH.cons 0 rfl ?_ | refine SubH.cons 1 rfl ?_ | refine SubH.cons 2 rfl ?_ | refine SubH.cons 3 rfl ?_ | refine SubH.cons 4 rfl ?_ | refine SubH.cons 5 rfl ?_ | refine SubH.cons 6 rfl ?_ | refine SubH.cons 7 rfl ?_ | refine SubH.cons 8 rfl ?_ | refine SubH.cons 9 rfl ?_ | refine SubH.cons 10 rfl ?_ | refine SubH.cons 11 rfl ?_ | refine SubH.cons 12 rfl ?_ | refine SubH.cons 13 rfl ?_ | refine SubH.rown ?_))) ?_
  rintro m Δ LL ⟨i, w, ⟨hm, hrt, hlg⟩, rfl, rfl⟩
  simp only [List.cons_append, List.nil_append]
  refine wp_seq' ?_
  refine wp_region' ?_
  refine ops_ro' rfl (ro_lss rfl rfl rfl) rfl ?_
  refine ops_nil ?_
  refine Then_normal ?_
  refine wp_seq' ?_
  refine wp_cond' rfl (fun hc9 => ?_) (fun hc9 => ?_)
  · replace hc9 := of_decide_eq_true hc9
    refine wp_skip' ?_
    refine Then_normal ?_
    refine wp_seq' ?_
    refine wp_block' ?_
    refine wp_seq' ?_
    have hi : i < l.length := by omega
    refine wp_know (fun w F s => vw_ptr (Vw.pick (H := [V]) 0 rfl hV) s (by omega)) ?_
    rintro ⟨b0, o0, rfl⟩
    refine wp_region' ?_
    refine ops_ro' rfl (ro_indexSlice sl64 rfl rfl rfl (by omega)) rfl ?_
    refine ops_ro' rfl (ro_loadA ag120 rfl (RdN.of_pick 0 rfl ((RdN.elem (vw_rdn hV) Nm.len (List.getElem?_eq_getElem hi)))) rfl) rfl ?_
    refine ops_eff' rfl (eff_alloc z120) rfl ?_
    rintro _ _ ⟨b5, rfl, rfl⟩
    refine ops_eff0 rfl (eff_storeA 0 ag120 rfl rfl rfl rfl rfl (Nat.le_of_ble_eq_true rfl) (warm_zero _)) rfl ?_
    rintro _ _ rfl
    refine ops_nil ?_
    refine Then_normal ?_
    refine wp_seq' ?_
    refine wp_seq' ?_
    refine wp_region' ?_
    refine ops_ro' rfl (ro_fieldAddr fa120_1 rfl) rfl ?_
    refine ops_ro' rfl (ro_loadA ag54 rfl (RdN.of_pick 0 rfl (rdn_sub 7)) rfl) rfl ?_
    refine ops_eff' rfl (eff_call Try.call66 rfl rfl (by repeat (first | exact Split.nil _ | apply Split.cons 0 rfl | apply Split.cons 1 rfl | apply Split.cons 2 rfl | apply Split.cons 3 rfl | apply Split.cons 4 rfl | apply Split.cons 5 rfl | apply Split.cons 6 rfl | apply Split.cons 7 rfl | apply Split.cons 8 rfl | apply Split.cons 9 rfl | apply Split.cons 10 rfl | apply Split.cons 11 rfl)) (right_spec l[i].at' (hO _ (List.getElem_mem hi)))) rfl ?_
    rintro _ H' ⟨_, ⟨rfl, rfl⟩, hH⟩
    simp only [List.cons_append, List.nil_append, List.eraseIdx_cons_zero, List.eraseIdx_cons_succ, List.set_cons_zero, List.set_cons_succ] at hH
    subst hH
    refine ops_ro' rfl (ro_not rfl rfl) rfl ?_
    refine ops_nil ?_
    refine Then_normal ?_
    refine wp_cond' rfl (fun hc15 => ?_) (fun hc15 => ?_)
    · simp only [Bool.and_eq_true, decide_eq_true_eq, Bool.not_eq_true', decide_eq_false_iff_not, bne_iff_ne, ne_eq] at hc15
      refine wp_seq' ?_
      refine wp_region' ?_
      refine ops_ro' rfl (ro_assign rfl) rfl ?_
      refine ops_nil ?_
      refine Then_normal ?_
      refine wp_ret' ?_
      refine Then_ret ?_
      refine InBlock_ret ?_
      refine Then_ret ?_
      refine Then_ret ?_
      refine InBlock_ret ?_
      refine Then_ret ?_
      refine' doneS_ret (res1 rfl rfl) ?_ ?_
      rotate_left 1
      exact ⟨_, ⟨by rw [namesE_bad hi (by simp_all)], rfl⟩, rfl⟩
      exact (SubH.cons 1 rfl (SubH.nil _))
    · simp only [Bool.and_eq_false_iff, decide_eq_false_iff_not, Bool.not_eq_false', decide_eq_true_eq] at hc15
      refine wp_skip' ?_
      refine Then_normal ?_
      refine wp_seq' ?_
      refine wp_region' ?_
      refine ops_ro' rfl (ro_fieldAddr fa120_0 rfl) rfl ?_
      refine ops_ro' rfl (ro_load sc9 rfl (Rd.pick 0 rfl (Rd.own rfl))) rfl ?_
      refine ops_ro' rfl (ro_lenS (t' := 0) Try.underlying9 rfl) rfl ?_
      refine ops_ro' rfl (ro_gtr rfl rfl rfl) rfl ?_
      refine ops_nil ?_
      refine Then_normal ?_
      refine wp_cond' rfl (fun hc19 => ?_) (fun hc19 => ?_)
      · replace hc19 := of_decide_eq_true hc19
        refine wp_region' ?_
        refine ops_ro' rfl (ro_assign rfl) rfl ?_
        refine ops_nil ?_
        refine InBlock_normal ?_
        refine Then_normal ?_
        refine wp_region' ?_
        refine ops_ro' rfl (ro_add rfl rfl (wrap_inc (by omega))) rfl ?_
        refine ops_ro' rfl (ro_move rfl) rfl ?_
        refine ops_nil ?_
        refine Then_normal ?_
        refine back (m - 1) (by omega) (kept ⟨i + 1, 3, ⟨by omega, Rt.snoc hi hrt (by assumption), Lg.long (w := w) hi (by omega)⟩, rfl, rfl⟩ ?_ ?_ ?_)
        · exact (by repeat (first | exact Has.nil _ | refine Has.cons rfl ?_))
        · exact (by repeat (first | exact Has.nil _ | refine Has.cons rfl ?_))
        · exact (SubH.cons 1 rfl (SubH.nil _))
      · replace hc19 := of_decide_eq_false hc19
        refine wp_skip' ?_
        refine InBlock_normal ?_
        refine Then_normal ?_
        refine wp_region' ?_
        refine ops_ro' rfl (ro_add rfl rfl (wrap_inc (by omega))) rfl ?_
        refine ops_ro' rfl (ro_move rfl) rfl ?_
        refine ops_nil ?_
        refine Then_normal ?_
        refine back (m - 1) (by omega) (kept ⟨i + 1, w, ⟨by omega, Rt.snoc hi hrt (by assumption), Lg.short hi hlg (by omega)⟩, rfl, rfl⟩ ?_ ?_ ?_)
        · exact (by repeat (first | exact Has.nil _ | refine Has.cons rfl ?_))
        · exact (by repeat (first | exact Has.nil _ | refine Has.cons rfl ?_))
        · exact (SubH.cons 1 rfl (SubH.nil _))
  · replace hc9 := of_decide_eq_false hc9
    refine wp_exit' ?_
    refine Then_exit ?_
    refine Then_exit ?_
    refine InBlock_here ?_
    refine Then_normal ?_
    refine wp_seq' ?_
    refine wp_seq' ?_
    refine wp_region' ?_
    refine ops_ro' rfl (ro_move rfl) rfl ?_
    refine ops_ro' rfl (ro_eql rfl rfl rfl) rfl ?_
    refine ops_split rfl rfl rfl (fun hg23 => ?_) (fun hg23 => ?_)
    · replace hg23 := of_decide_eq_true hg23
      refine ops_ro' rfl (ro_move rfl) rfl ?_
      refine ops_ro' rfl (ro_sliceLen Try.underlying64 rfl) rfl ?_
      refine ops_ro' rfl (ro_gtr rfl rfl rfl) rfl ?_
      refine ops_ro' rfl (ro_pick rfl rfl) rfl ?_
      refine ops_nil ?_
      refine Then_normal ?_
      refine wp_cond' rfl (fun hc27 => ?_) (fun hc27 => ?_)
      · replace hc27 := of_decide_eq_true hc27
        refine wp_region' ?_
        refine ops_ro' rfl (ro_assign rfl) rfl ?_
        refine ops_nil ?_
        refine Then_normal ?_
        refine wp_seq' ?_
        refine wp_region' ?_
        refine ops_ro' rfl (ro_move rfl) rfl ?_
        refine ops_ro' rfl (ro_assign rfl) rfl ?_
        refine ops_nil ?_
        refine Then_normal ?_
        refine wp_ret' ?_
        rw [List.take_of_length_le (by omega)] at hrt hlg
        refine' doneS_ret (res1 rfl rfl) ?_ ?_
        rotate_left 1
        exact ⟨_, ⟨by rw [namesE_good hrt hlg, if_pos ⟨by omega, by omega⟩], rfl⟩, rfl⟩
        exact SubH.refl _
      · replace hc27 := of_decide_eq_false hc27
        refine wp_skip' ?_
        refine Then_normal ?_
        refine wp_seq' ?_
        refine wp_region' ?_
        refine ops_ro' rfl (ro_move rfl) rfl ?_
        refine ops_ro' rfl (ro_assign rfl) rfl ?_
        refine ops_nil ?_
        refine Then_normal ?_
        refine wp_ret' ?_
        rw [List.take_of_length_le (by omega)] at hrt hlg
        refine' doneS_ret (res1 rfl rfl) ?_ ?_
        rotate_left 1
        exact ⟨_, ⟨by rw [namesE_good hrt hlg, if_neg (by rintro ⟨h1, h2⟩; omega)], rfl⟩, rfl⟩
        exact SubH.refl _
    · replace hg23 := of_decide_eq_false hg23
      refine ops_skip' rfl rfl ?_
      refine ops_skip' rfl rfl ?_
      refine ops_skip' rfl rfl ?_
      refine ops_ro' rfl (ro_pick rfl rfl) rfl ?_
      refine ops_nil ?_
      refine Then_normal ?_
      refine wp_condF rfl ?_
      refine wp_skip' ?_
      refine Then_normal ?_
      refine wp_seq' ?_
      refine wp_region' ?_
      refine ops_ro' rfl (ro_move rfl) rfl ?_
      refine ops_ro' rfl (ro_assign rfl) rfl ?_
      refine ops_nil ?_
      refine Then_normal ?_
      refine wp_ret' ?_
      rw [List.take_of_length_le (by omega)] at hrt hlg
      refine' doneS_ret (res1 rfl rfl) ?_ ?_
      rotate_left 1
      exact ⟨_, ⟨by rw [namesE_good hrt hlg, if_neg (by rintro ⟨h1, h2⟩; omega)], rfl⟩, rfl⟩
      exact SubH.refl _
def fineE (c : Pc) : Int := if c.k = 1 then (if c.s < 0 ∨ 2147483647 < c.s then 12 else 0) else if c.k = 2 then (if 256 < c.h.length then 3 else 0) else if c.k = 3 then (if 32768 < c.d.length then 3 else 0) else if c.k = 4 then namesE c.ns else if c.k = 5 then (if c.at'.right = true then 0 else 12) else 23
structure Pc.Ok (V : HProp) (c : Pc) (dp : Option Addr) (dn : Nat) (np : Option Addr) (nn : Nat) : Prop where
  k : -9223372036854775808 ≤ c.k ∧ c.k ≤ 9223372036854775807
  s : -9223372036854775808 ≤ c.s ∧ c.s ≤ 9223372036854775807
  d : Vw V (.slice dp c.d.length dn) c.d.length (cel c.d)
  n : Vw V (.slice np c.ns.length nn) c.ns.length (flat Nm.cs c.ns)
  nl : c.ns.length ≤ 9223372036854775807
  no : ∀ x ∈ c.ns, x.at'.Ok
  at' : c.at'.Ok


theorem sfFine_spec (V : HProp) (c : Pc) (dp : Option Addr) (dn : Nat) (np : Option Addr) (nn : Nat) (hk : c.Ok V dp dn np nn) : Tri Try.prog 76 [c.v dp dn np nn] [V] (fun v H' => ∃ K, (v = .int .i64 (fineE c) ∧ K = []) ∧ H' = K ++ [V]) := by
  refine tri_of_wpS Try.func76 rfl Try.ntmps76 (by simp) ?_
  refine wp_seq' ?_
  refine wp_region' ?_
  refine ops_eff' rfl (eff_box rfl) rfl ?_
  rintro _ _ ⟨b1, rfl, rfl⟩
  refine ops_ro' rfl (ro_assign rfl) rfl ?_
  refine ops_nil ?_
  refine Then_normal ?_
  refine wp_seq' ?_
  refine wp_seq' ?_
  refine wp_region' ?_
  refine ops_ro' rfl (ro_fieldAddr fa66_0 rfl) rfl ?_
  refine ops_ro' rfl (ro_load sc3 rfl (Rd.pick 0 rfl (Rd.own rfl))) rfl ?_
  refine ops_nil ?_
  refine Then_normal ?_
  refine wp_block' ?_
  refine wp_seq' ?_
  refine wp_region' ?_
  refine ops_ro' rfl (ro_eql rfl rfl rfl) rfl ?_
  refine ops_ro' rfl (ro_assign rfl) rfl ?_
  refine ops_nil ?_
  refine Then_normal ?_
  refine wp_cond' rfl (fun hc5 => ?_) (fun hc5 => ?_)
  · replace hc5 := of_decide_eq_true hc5
    refine wp_seq' ?_
    refine wp_region' ?_
    refine ops_ro' rfl (ro_fieldAddr fa66_1 rfl) rfl ?_
    refine ops_ro' rfl (ro_load sc3 rfl (Rd.pick 0 rfl (Rd.own rfl))) rfl ?_
    refine ops_ro' rfl (ro_lss rfl rfl rfl) rfl ?_
    refine ops_split rfl rfl rfl (fun hg10 => ?_) (fun hg10 => ?_)
    · replace hg10 := of_decide_eq_true hg10
      refine ops_skip' rfl rfl ?_
      refine ops_skip' rfl rfl ?_
      refine ops_skip' rfl rfl ?_
      refine ops_ro' rfl (ro_pick rfl rfl) rfl ?_
      refine ops_nil ?_
      refine Then_normal ?_
      refine wp_condT rfl ?_
      refine wp_seq' ?_
      refine wp_region' ?_
      refine ops_ro' rfl (ro_assign rfl) rfl ?_
      refine ops_nil ?_
      refine Then_normal ?_
      refine wp_ret' ?_
      refine InBlock_ret ?_
      refine Then_ret ?_
      refine' doneS_ret (res1 rfl rfl) ?_ ?_
      rotate_left 1
      have HX : fineE c = 12 := by unfold fineE; rw [if_pos (by omega), if_pos (by first | exact .inl (by omega) | exact .inr (by omega))]
      rw [HX]
      exact ⟨_, ⟨rfl, rfl⟩, rfl⟩
      exact (SubH.cons 1 rfl (SubH.nil _))
    · replace hg10 := of_decide_eq_false hg10
      refine ops_ro' rfl (ro_fieldAddr fa66_1 rfl) rfl ?_
      refine ops_ro' rfl (ro_load sc3 rfl (Rd.pick 0 rfl (Rd.own rfl))) rfl ?_
      refine ops_ro' rfl (ro_gtr rfl rfl rfl) rfl ?_
      refine ops_ro' rfl (ro_pick rfl rfl) rfl ?_
      refine ops_nil ?_
      refine Then_normal ?_
      refine wp_cond' rfl (fun hc14 => ?_) (fun hc14 => ?_)
      · replace hc14 := of_decide_eq_true hc14
        refine wp_seq' ?_
        refine wp_region' ?_
        refine ops_ro' rfl (ro_assign rfl) rfl ?_
        refine ops_nil ?_
        refine Then_normal ?_
        refine wp_ret' ?_
        refine InBlock_ret ?_
        refine Then_ret ?_
        refine' doneS_ret (res1 rfl rfl) ?_ ?_
        rotate_left 1
        have HX : fineE c = 12 := by unfold fineE; rw [if_pos (by omega), if_pos (by first | exact .inl (by omega) | exact .inr (by omega))]
        rw [HX]
        exact ⟨_, ⟨rfl, rfl⟩, rfl⟩
        exact (SubH.cons 1 rfl (SubH.nil _))
      · replace hc14 := of_decide_eq_false hc14
        refine wp_skip' ?_
        refine InBlock_normal ?_
        refine Then_normal ?_
        refine wp_seq' ?_
        refine wp_region' ?_
        refine ops_ro' rfl (ro_assign rfl) rfl ?_
        refine ops_nil ?_
        refine Then_normal ?_
        refine wp_ret' ?_
        refine' doneS_ret (res1 rfl rfl) ?_ ?_
        rotate_left 1
        have HX : fineE c = 0 := by
          unfold fineE
          rw [if_pos (by omega), if_neg (by omega)]
        rw [HX]
        exact ⟨_, ⟨rfl, rfl⟩, rfl⟩
        exact (SubH.cons 1 rfl (SubH.nil _))
  · replace hc5 := of_decide_eq_false hc5
    refine wp_seq' ?_
    refine wp_region' ?_
    refine ops_ro' rfl (ro_eql rfl rfl rfl) rfl ?_
    refine ops_ro' rfl (ro_assign rfl) rfl ?_
    refine ops_nil ?_
    refine Then_normal ?_
    refine wp_cond' rfl (fun hc15 => ?_) (fun hc15 => ?_)
    · replace hc15 := of_decide_eq_true hc15
      refine wp_seq' ?_
      refine wp_region' ?_
      refine ops_ro' rfl (ro_fieldAddr fa66_2 rfl) rfl ?_
      refine ops_ro' rfl (ro_load sc9 rfl (Rd.pick 0 rfl (Rd.own rfl))) rfl ?_
      refine ops_ro' rfl (ro_lenS (t' := 0) Try.underlying9 rfl) rfl ?_
      refine ops_ro' rfl (ro_gtr rfl rfl rfl) rfl ?_
      refine ops_nil ?_
      refine Then_normal ?_
      refine wp_cond' rfl (fun hc20 => ?_) (fun hc20 => ?_)
      · replace hc20 := of_decide_eq_true hc20
        refine wp_seq' ?_
        refine wp_region' ?_
        refine ops_ro' rfl (ro_assign rfl) rfl ?_
        refine ops_nil ?_
        refine Then_normal ?_
        refine wp_ret' ?_
        refine InBlock_ret ?_
        refine Then_ret ?_
        refine' doneS_ret (res1 rfl rfl) ?_ ?_
        rotate_left 1
        have HX : fineE c = 3 := by unfold fineE; rw [if_neg (by omega)]; rw [if_pos (by omega), if_pos (by omega)]
        rw [HX]
        exact ⟨_, ⟨rfl, rfl⟩, rfl⟩
        exact (SubH.cons 1 rfl (SubH.nil _))
      · replace hc20 := of_decide_eq_false hc20
        refine wp_skip' ?_
        refine InBlock_normal ?_
        refine Then_normal ?_
        refine wp_seq' ?_
        refine wp_region' ?_
        refine ops_ro' rfl (ro_assign rfl) rfl ?_
        refine ops_nil ?_
        refine Then_normal ?_
        refine wp_ret' ?_
        refine' doneS_ret (res1 rfl rfl) ?_ ?_
        rotate_left 1
        have HX : fineE c = 0 := by
          unfold fineE
          rw [if_neg (by omega)]
          rw [if_pos (by omega), if_neg (by omega)]
        rw [HX]
        exact ⟨_, ⟨rfl, rfl⟩, rfl⟩
        exact (SubH.cons 1 rfl (SubH.nil _))
    · replace hc15 := of_decide_eq_false hc15
      refine wp_seq' ?_
      refine wp_region' ?_
      refine ops_ro' rfl (ro_eql rfl rfl rfl) rfl ?_
      refine ops_ro' rfl (ro_assign rfl) rfl ?_
      refine ops_nil ?_
      refine Then_normal ?_
      refine wp_cond' rfl (fun hc21 => ?_) (fun hc21 => ?_)
      · replace hc21 := of_decide_eq_true hc21
        refine wp_seq' ?_
        refine wp_region' ?_
        refine ops_ro' rfl (ro_fieldAddr fa66_3 rfl) rfl ?_
        refine ops_ro' rfl (ro_load sc32 rfl (Rd.pick 0 rfl (Rd.own rfl))) rfl ?_
        refine ops_ro' rfl (ro_sliceLen Try.underlying32 rfl) rfl ?_
        refine ops_ro' rfl (ro_gtr rfl rfl rfl) rfl ?_
        refine ops_nil ?_
        refine Then_normal ?_
        refine wp_cond' rfl (fun hc26 => ?_) (fun hc26 => ?_)
        · replace hc26 := of_decide_eq_true hc26
          refine wp_seq' ?_
          refine wp_region' ?_
          refine ops_ro' rfl (ro_assign rfl) rfl ?_
          refine ops_nil ?_
          refine Then_normal ?_
          refine wp_ret' ?_
          refine InBlock_ret ?_
          refine Then_ret ?_
          refine' doneS_ret (res1 rfl rfl) ?_ ?_
          rotate_left 1
          have HX : fineE c = 3 := by unfold fineE; rw [if_neg (by omega)]; rw [if_neg (by omega)]; rw [if_pos (by omega), if_pos (by omega)]
          rw [HX]
          exact ⟨_, ⟨rfl, rfl⟩, rfl⟩
          exact (SubH.cons 1 rfl (SubH.nil _))
        · replace hc26 := of_decide_eq_false hc26
          refine wp_skip' ?_
          refine InBlock_normal ?_
          refine Then_normal ?_
          refine wp_seq' ?_
          refine wp_region' ?_
          refine ops_ro' rfl (ro_assign rfl) rfl ?_
          refine ops_nil ?_
          refine Then_normal ?_
          refine wp_ret' ?_
          refine' doneS_ret (res1 rfl rfl) ?_ ?_
          rotate_left 1
          have HX : fineE c = 0 := by
            unfold fineE
            rw [if_neg (by omega)]
            rw [if_neg (by omega)]
            rw [if_pos (by omega), if_neg (by omega)]
          rw [HX]
          exact ⟨_, ⟨rfl, rfl⟩, rfl⟩
          exact (SubH.cons 1 rfl (SubH.nil _))
      · replace hc21 := of_decide_eq_false hc21
        refine wp_seq' ?_
        refine wp_region' ?_
        refine ops_ro' rfl (ro_eql rfl rfl rfl) rfl ?_
        refine ops_ro' rfl (ro_assign rfl) rfl ?_
        refine ops_nil ?_
        refine Then_normal ?_
        refine wp_cond' rfl (fun hc27 => ?_) (fun hc27 => ?_)
        · replace hc27 := of_decide_eq_true hc27
          refine wp_seq' ?_
          refine wp_region' ?_
          refine ops_ro' rfl (ro_fieldAddr fa66_4 rfl) rfl ?_
          refine ops_ro' rfl (ro_load sc64 rfl (Rd.pick 0 rfl (Rd.own rfl))) rfl ?_
          refine ops_eff' rfl (eff_callM (Pre := []) Try.call102 rfl rfl (Split.nil _) (sfNames_spec _ np nn c.ns (Vw.pick 1 rfl hk.n) hk.no hk.nl)) rfl ?_
          rintro _ H' ⟨_, ⟨rfl, rfl⟩, hH⟩
          simp only [List.cons_append, List.nil_append, List.eraseIdx_cons_zero, List.eraseIdx_cons_succ, List.set_cons_zero, List.set_cons_succ] at hH
          subst hH
          refine ops_ro' rfl (ro_assign rfl) rfl ?_
          refine ops_nil ?_
          refine Then_normal ?_
          refine wp_ret' ?_
          refine InBlock_ret ?_
          refine Then_ret ?_
          refine' doneS_ret (res1 rfl rfl) ?_ ?_
          rotate_left 1
          have HX : fineE c = namesE c.ns := by unfold fineE; rw [if_neg (by omega)]; rw [if_neg (by omega)]; rw [if_neg (by omega)]; rw [if_pos (by omega)]
          rw [HX]
          exact ⟨_, ⟨rfl, rfl⟩, rfl⟩
          exact (SubH.cons 1 rfl (SubH.nil _))
        · replace hc27 := of_decide_eq_false hc27
          refine wp_seq' ?_
          refine wp_region' ?_
          refine ops_ro' rfl (ro_eql rfl rfl rfl) rfl ?_
          refine ops_ro' rfl (ro_assign rfl) rfl ?_
          refine ops_nil ?_
          refine Then_normal ?_
          refine wp_cond' rfl (fun hc32 => ?_) (fun hc32 => ?_)
          · replace hc32 := of_decide_eq_true hc32
            refine wp_seq' ?_
            refine wp_region' ?_
            refine ops_ro' rfl (ro_fieldAddr fa66_5 rfl) rfl ?_
            refine ops_ro' rfl (ro_loadA ag54 rfl (RdN.of_pick 0 rfl (rdn_sub 7)) rfl) rfl ?_
            refine ops_eff' rfl (eff_call Try.call66 rfl rfl (by repeat (first | exact Split.nil _ | apply Split.cons 0 rfl | apply Split.cons 1 rfl | apply Split.cons 2 rfl | apply Split.cons 3 rfl | apply Split.cons 4 rfl | apply Split.cons 5 rfl | apply Split.cons 6 rfl | apply Split.cons 7 rfl | apply Split.cons 8 rfl | apply Split.cons 9 rfl | apply Split.cons 10 rfl | apply Split.cons 11 rfl)) (right_spec c.at' hk.at')) rfl ?_
            rintro _ H' ⟨_, ⟨rfl, rfl⟩, hH⟩
            simp only [List.cons_append, List.nil_append, List.eraseIdx_cons_zero, List.eraseIdx_cons_succ, List.set_cons_zero, List.set_cons_succ] at hH
            subst hH
            refine ops_ro' rfl (ro_not rfl rfl) rfl ?_
            refine ops_nil ?_
            refine Then_normal ?_
            refine wp_cond' rfl (fun hc37 => ?_) (fun hc37 => ?_)
            · simp only [Bool.and_eq_true, decide_eq_true_eq, Bool.not_eq_true', decide_eq_false_iff_not, bne_iff_ne, ne_eq] at hc37
              refine wp_seq' ?_
              refine wp_region' ?_
              refine ops_ro' rfl (ro_assign rfl) rfl ?_
              refine ops_nil ?_
              refine Then_normal ?_
              refine wp_ret' ?_
              refine InBlock_ret ?_
              refine Then_ret ?_
              refine' doneS_ret (res1 rfl rfl) ?_ ?_
              rotate_left 1
              have HX : fineE c = 12 := by unfold fineE; rw [if_neg (by omega)]; rw [if_neg (by omega)]; rw [if_neg (by omega)]; rw [if_neg (by omega)]; rw [if_pos (by omega), if_neg (by simp_all)]
              rw [HX]
              exact ⟨_, ⟨rfl, rfl⟩, rfl⟩
              exact (SubH.cons 1 rfl (SubH.nil _))
            · simp only [Bool.and_eq_false_iff, decide_eq_false_iff_not, Bool.not_eq_false', decide_eq_true_eq] at hc37
              refine wp_skip' ?_
              refine InBlock_normal ?_
              refine Then_normal ?_
              refine wp_seq' ?_
              refine wp_region' ?_
              refine ops_ro' rfl (ro_assign rfl) rfl ?_
              refine ops_nil ?_
              refine Then_normal ?_
              refine wp_ret' ?_
              refine' doneS_ret (res1 rfl rfl) ?_ ?_
              rotate_left 1
              have HX : fineE c = 0 := by
                unfold fineE
                rw [if_neg (by omega)]
                rw [if_neg (by omega)]
                rw [if_neg (by omega)]
                rw [if_neg (by omega)]
                rw [if_pos (by omega), if_pos (by simp_all)]
              rw [HX]
              exact ⟨_, ⟨rfl, rfl⟩, rfl⟩
              exact (SubH.cons 1 rfl (SubH.nil _))
          · replace hc32 := of_decide_eq_false hc32
            refine wp_seq' ?_
            refine wp_region' ?_
            refine ops_ro' rfl (ro_assign rfl) rfl ?_
            refine ops_nil ?_
            refine Then_normal ?_
            refine wp_ret' ?_
            refine InBlock_ret ?_
            refine Then_ret ?_
            refine' doneS_ret (res1 rfl rfl) ?_ ?_
            rotate_left 1
            have HX : fineE c = 23 := by unfold fineE; rw [if_neg (by omega)]; rw [if_neg (by omega)]; rw [if_neg (by omega)]; rw [if_neg (by omega)]; rw [if_neg (by omega)]
            rw [HX]
            exact ⟨_, ⟨rfl, rfl⟩, rfl⟩
            exact (SubH.cons 1 rfl (SubH.nil _))
def nmE (x : Nm) : List UInt8 := txB x.n ++ txB x.n ++ x.at'.enc
def repBody (c : Pc) : List UInt8 := if c.k = 1 then be c.s.toNat 4 ++ be 0 4 ++ be 0 4 else if c.k = 2 then txB c.h else if c.k = 3 then txB c.d else if c.k = 4 then be c.ns.length 4 ++ c.ns.flatMap nmE else c.at'.enc
/-- a reply's bytes -/
def repB (id : Nat) (c : Pc) : List UInt8 := b8 (100 + c.k) :: be id 4 ++ repBody c
def encP (id : Nat) (c : Pc) : List UInt8 := if fineE c = 0 then repB id c else []


theorem fine_k {c : Pc} (h : fineE c = 0) : 1 ≤ c.k ∧ c.k ≤ 5 := by
  unfold fineE at h
  by_cases h1 : c.k = 1
  · omega
  by_cases h2 : c.k = 2
  · omega
  by_cases h3 : c.k = 3
  · omega
  by_cases h4 : c.k = 4
  · omega
  by_cases h5 : c.k = 5
  · omega
  rw [if_neg h1, if_neg h2, if_neg h3, if_neg h4, if_neg h5] at h; cases h
theorem nm_snoc {l : List Nm} {i : Nat} (hi : i < l.length) : (l.take (i + 1)).flatMap nmE = (l.take i).flatMap nmE ++ nmE l[i] := by
  rw [List.take_succ_eq_append_getElem hi, List.flatMap_append]; simp
theorem Pc.Ok.mono {V W : HProp} {c : Pc} {dp : Option Addr} {dn : Nat} {np : Option Addr} {nn : Nat} (h : c.Ok V dp dn np nn) (h1 : Vw W (.slice dp c.d.length dn) c.d.length (cel c.d)) (h2 : Vw W (.slice np c.ns.length nn) c.ns.length (flat Nm.cs c.ns)) : c.Ok W dp dn np nn := ⟨h.k, h.s, h1, h2, h.nl, h.no, h.at'⟩
theorem sfEncP_spec (V : HProp) (id : Nat) (hid : id < 4294967296) (c : Pc) (dp : Option Addr) (dn : Nat) (np : Option Addr) (nn : Nat) (hk : c.Ok V dp dn np nn) : Tri Try.prog 39 [.int .u32 (id : Int), c.v dp dn np nn] [V]
    (fun v H' => ∃ K, (∃ p n, v = .tuple #[.slice p (encP id c).length n, .int .i64 (fineE c)] ∧ K = [row 5 1 (.slice p (encP id c).length n) (encP id c).length (cel (encP id c))]) ∧ H' = K ++ [V]) := by
  refine tri_of_wpS Try.func39 rfl Try.ntmps39 (by simp) ?_
  refine wp_seq' ?_
  refine wp_region' ?_
  refine ops_eff' rfl (eff_box rfl) rfl ?_
  rintro _ _ ⟨b3, rfl, rfl⟩
  refine ops_ro' rfl (ro_assign rfl) rfl ?_
  refine ops_ro' rfl (ro_assign rfl) rfl ?_
  refine ops_nil ?_
  refine Then_normal ?_
  refine wp_seq' ?_
  refine wp_seq' ?_
  refine wp_region' ?_
  refine ops_ro' rfl (ro_loadA ag66 rfl (RdN.of_pick 0 rfl rdn_all) rfl) rfl ?_
  refine ops_eff' rfl (eff_callM (Pre := []) Try.call76 rfl rfl (Split.nil _) (sfFine_spec _ c dp dn np nn (hk.mono (Vw.pick 1 rfl hk.d) (Vw.pick 1 rfl hk.n)))) rfl ?_
  rintro _ H' ⟨_, ⟨rfl, rfl⟩, hH⟩
  simp only [List.cons_append, List.nil_append, List.eraseIdx_cons_zero, List.eraseIdx_cons_succ, List.set_cons_zero, List.set_cons_succ] at hH
  subst hH
  refine ops_ro' rfl (ro_assign rfl) rfl ?_
  refine ops_nil ?_
  refine Then_normal ?_
  refine wp_seq' ?_
  refine wp_region' ?_
  refine ops_ro' rfl (ro_move rfl) rfl ?_
  refine ops_ro' rfl (ro_neq rfl rfl rfl) rfl ?_
  refine ops_nil ?_
  refine Then_normal ?_
  refine wp_cond' rfl (fun hc13 => ?_) (fun hc13 => ?_)
  · replace hc13 := of_decide_eq_true hc13
    refine wp_seq' ?_
    refine wp_region' ?_
    refine ops_ro' rfl (ro_move rfl) rfl ?_
    refine ops_ro' rfl (ro_assign rfl) rfl ?_
    refine ops_ro' rfl (ro_assign rfl) rfl ?_
    refine ops_nil ?_
    refine Then_normal ?_
    refine wp_ret' ?_
    refine Then_ret ?_
    refine' doneS_ret (res2 rfl rfl rfl) ?_ ?_
    rotate_left 1
    have HB : encP id c = [] := by unfold encP; rw [if_neg (by omega)]
    rw [HB]
    exact ⟨_, ⟨none, 0, rfl, rfl⟩, rfl⟩
    exact (SubH.rown (SubH.cons 1 rfl (SubH.nil _)))
  · replace hc13 := of_decide_eq_false hc13
    refine wp_skip' ?_
    refine Then_normal ?_
    refine wp_seq' ?_
    have hz0 : fineE c = 0 := by omega
    have hz := hz0
    unfold fineE at hz
    refine wp_region' ?_
    refine ops_eff' rfl (eff_call Try.call48 rfl rfl (by repeat (first | exact Split.nil _ | apply Split.cons 0 rfl | apply Split.cons 1 rfl | apply Split.cons 2 rfl | apply Split.cons 3 rfl | apply Split.cons 4 rfl | apply Split.cons 5 rfl | apply Split.cons 6 rfl | apply Split.cons 7 rfl | apply Split.cons 8 rfl | apply Split.cons 9 rfl | apply Split.cons 10 rfl | apply Split.cons 11 rfl)) (newWriter_spec)) rfl ?_
    rintro _ H' ⟨_, ⟨pw, rfl, rfl⟩, hH⟩
    simp only [List.cons_append, List.nil_append, List.eraseIdx_cons_zero, List.eraseIdx_cons_succ, List.set_cons_zero, List.set_cons_succ] at hH
    subst hH
    refine ops_ro' rfl (ro_assign rfl) rfl ?_
    refine ops_nil ?_
    refine Then_normal ?_
    refine wp_seq' ?_
    refine wp_region' ?_
    refine ops_ro' rfl (ro_move rfl) rfl ?_
    refine ops_ro' rfl (ro_fieldAddr fa66_0 rfl) rfl ?_
    refine ops_ro' rfl (ro_load sc3 rfl (Rd.pick 2 rfl (Rd.own rfl))) rfl ?_
    refine ops_ro' rfl (ro_add rfl rfl (wrap_i64_in (by have := fine_k hz0; omega) (by have := fine_k hz0; omega))) rfl ?_
    refine ops_eff' rfl (eff_call Try.call49 rfl rfl (by repeat (first | exact Split.nil _ | apply Split.cons 0 rfl | apply Split.cons 1 rfl | apply Split.cons 2 rfl | apply Split.cons 3 rfl | apply Split.cons 4 rfl | apply Split.cons 5 rfl | apply Split.cons 6 rfl | apply Split.cons 7 rfl | apply Split.cons 8 rfl | apply Split.cons 9 rfl | apply Split.cons 10 rfl | apply Split.cons 11 rfl)) (byte_spec pw none 0 [] (100 + c.k) (by decide))) rfl ?_
    rintro _ H' ⟨_, ⟨p20, c20, rfl, rfl⟩, hH⟩
    simp only [List.cons_append, List.nil_append, List.eraseIdx_cons_zero, List.eraseIdx_cons_succ, List.set_cons_zero, List.set_cons_succ] at hH
    subst hH
    refine ops_nil ?_
    refine Then_normal ?_
    refine wp_seq' ?_
    refine wp_region' ?_
    refine ops_ro' rfl (ro_move rfl) rfl ?_
    refine ops_ro' rfl (ro_move rfl) rfl ?_
    refine ops_eff' rfl (eff_call Try.call50 rfl rfl (by repeat (first | exact Split.nil _ | apply Split.cons 0 rfl | apply Split.cons 1 rfl | apply Split.cons 2 rfl | apply Split.cons 3 rfl | apply Split.cons 4 rfl | apply Split.cons 5 rfl | apply Split.cons 6 rfl | apply Split.cons 7 rfl | apply Split.cons 8 rfl | apply Split.cons 9 rfl | apply Split.cons 10 rfl | apply Split.cons 11 rfl)) (u32_at pw p20 c20 [b8 (100 + c.k)] id _ rfl hid (by simp))) rfl ?_
    rintro _ H' ⟨_, ⟨p0, c0, rfl, rfl⟩, hH⟩
    simp only [List.cons_append, List.nil_append, List.eraseIdx_cons_zero, List.eraseIdx_cons_succ, List.set_cons_zero, List.set_cons_succ] at hH
    subst hH
    obtain ⟨l0, hl0⟩ : ∃ z, z = b8 (100 + c.k) :: be id 4 := ⟨_, rfl⟩
    rw [← hl0]
    have n0 : l0.length ≤ 5 := by rw [hl0, List.length_cons, be_length]; omega
    refine ops_nil ?_
    refine Then_normal ?_
    refine wp_cutK 1026 (fun Δ LL => ∃ (p2 : Option Addr) (c2 : Nat) (l2 : List UInt8), (l2 = repB id c ∧ l2.length ≤ 100000) ∧ Δ = [] ∧ LL = [own b3 (.cells (c.cs dp dn np nn).toArray 66 (0, 0)), own pw (.cells [Value.slice p2 l2.length c2].toArray 137 (0, 0)), row 5 1 (.slice p2 l2.length c2) l2.length (cel l2), V]) (Has.cons (k := 7) rfl (Has.nil _)) ?_ ?_
    · refine wp_seq' ?_
      refine wp_region' ?_
      refine ops_ro' rfl (ro_fieldAddr fa66_0 rfl) rfl ?_
      refine ops_ro' rfl (ro_load sc3 rfl (Rd.pick 2 rfl (Rd.own rfl))) rfl ?_
      refine ops_nil ?_
      refine Then_normal ?_
      refine wp_block' ?_
      refine wp_seq' ?_
      refine wp_region' ?_
      refine ops_ro' rfl (ro_eql rfl rfl rfl) rfl ?_
      refine ops_ro' rfl (ro_assign rfl) rfl ?_
      refine ops_nil ?_
      refine Then_normal ?_
      refine wp_cond' rfl (fun hc30 => ?_) (fun hc30 => ?_)
      · replace hc30 := of_decide_eq_true hc30
        refine wp_seq' ?_
        rw [if_pos (by omega)] at hz
        have hs : 0 ≤ c.s ∧ c.s ≤ 2147483647 := by split at hz; cases hz; omega
        refine wp_region' ?_
        refine ops_ro' rfl (ro_move rfl) rfl ?_
        refine ops_ro' rfl (ro_fieldAddr fa66_1 rfl) rfl ?_
        refine ops_ro' rfl (ro_load sc3 rfl (Rd.pick 2 rfl (Rd.own rfl))) rfl ?_
        refine ops_ro' rfl (ro_conv Try.underlying3 Try.underlying40 rfl (wrap_u32_in (by omega) (by omega))) rfl ?_
        refine ops_eff' rfl (eff_call Try.call50 rfl rfl (by repeat (first | exact Split.nil _ | apply Split.cons 0 rfl | apply Split.cons 1 rfl | apply Split.cons 2 rfl | apply Split.cons 3 rfl | apply Split.cons 4 rfl | apply Split.cons 5 rfl | apply Split.cons 6 rfl | apply Split.cons 7 rfl | apply Split.cons 8 rfl | apply Split.cons 9 rfl | apply Split.cons 10 rfl | apply Split.cons 11 rfl)) (u32_at pw p0 c0 l0 c.s.toNat _ (Int.toNat_of_nonneg hs.1).symm (by omega) (by omega))) rfl ?_
        rintro _ H' ⟨_, ⟨p36, c36, rfl, rfl⟩, hH⟩
        simp only [List.cons_append, List.nil_append, List.eraseIdx_cons_zero, List.eraseIdx_cons_succ, List.set_cons_zero, List.set_cons_succ] at hH
        subst hH
        obtain ⟨z36, hz36⟩ : ∃ z, z = l0 ++ be c.s.toNat 4 := ⟨_, rfl⟩
        rw [← hz36]
        have hzl36 : z36.length ≤ 9 := by rw [hz36]; simp only [List.length_append, be_length, List.length_nil]; omega
        refine ops_nil ?_
        refine Then_normal ?_
        refine wp_seq' ?_
        refine wp_region' ?_
        refine ops_ro' rfl (ro_move rfl) rfl ?_
        refine ops_eff' rfl (eff_call Try.call51 rfl rfl (by repeat (first | exact Split.nil _ | apply Split.cons 0 rfl | apply Split.cons 1 rfl | apply Split.cons 2 rfl | apply Split.cons 3 rfl | apply Split.cons 4 rfl | apply Split.cons 5 rfl | apply Split.cons 6 rfl | apply Split.cons 7 rfl | apply Split.cons 8 rfl | apply Split.cons 9 rfl | apply Split.cons 10 rfl | apply Split.cons 11 rfl)) (text_at pw p36 c36 z36 [] (by simp; omega))) rfl ?_
        rintro _ H' ⟨_, ⟨p38, c38, rfl, rfl⟩, hH⟩
        simp only [List.cons_append, List.nil_append, List.eraseIdx_cons_zero, List.eraseIdx_cons_succ, List.set_cons_zero, List.set_cons_succ] at hH
        subst hH
        obtain ⟨z38, hz38⟩ : ∃ z, z = z36 ++ be ([] : List UInt8).length 4 ++ [] := ⟨_, rfl⟩
        rw [← hz38]
        have hzl38 : z38.length ≤ 13 := by rw [hz38]; simp only [List.length_append, be_length, List.length_nil]; omega
        refine ops_nil ?_
        refine Then_normal ?_
        refine wp_region' ?_
        refine ops_ro' rfl (ro_move rfl) rfl ?_
        refine ops_eff' rfl (eff_call Try.call51 rfl rfl (by repeat (first | exact Split.nil _ | apply Split.cons 0 rfl | apply Split.cons 1 rfl | apply Split.cons 2 rfl | apply Split.cons 3 rfl | apply Split.cons 4 rfl | apply Split.cons 5 rfl | apply Split.cons 6 rfl | apply Split.cons 7 rfl | apply Split.cons 8 rfl | apply Split.cons 9 rfl | apply Split.cons 10 rfl | apply Split.cons 11 rfl)) (text_at pw p38 c38 z38 [] (by simp; omega))) rfl ?_
        rintro _ H' ⟨_, ⟨p40, c40, rfl, rfl⟩, hH⟩
        simp only [List.cons_append, List.nil_append, List.eraseIdx_cons_zero, List.eraseIdx_cons_succ, List.set_cons_zero, List.set_cons_succ] at hH
        subst hH
        obtain ⟨z40, hz40⟩ : ∃ z, z = z38 ++ be ([] : List UInt8).length 4 ++ [] := ⟨_, rfl⟩
        rw [← hz40]
        have hzl40 : z40.length ≤ 17 := by rw [hz40]; simp only [List.length_append, be_length, List.length_nil]; omega
        refine ops_nil ?_
        refine InBlock_normal ?_
        refine Then_normal ?_
        refine over_cut (kept ⟨p40, c40, z40, ⟨by rw [hz40, hz38, hz36, hl0]; unfold repB repBody; rw [if_pos (by omega)]; simp, by omega⟩, rfl, rfl⟩ ?_ ?_ ?_)
        · exact (by repeat (first | exact Has.nil _ | refine Has.cons rfl ?_))
        · exact (by repeat (first | exact Has.nil _ | refine Has.cons rfl ?_))
        · exact (SubH.cons 2 rfl (SubH.cons 0 rfl (SubH.cons 0 rfl (SubH.cons 0 rfl (SubH.nil _)))))
      · replace hc30 := of_decide_eq_false hc30
        refine wp_seq' ?_
        refine wp_region' ?_
        refine ops_ro' rfl (ro_eql rfl rfl rfl) rfl ?_
        refine ops_ro' rfl (ro_assign rfl) rfl ?_
        refine ops_nil ?_
        refine Then_normal ?_
        refine wp_cond' rfl (fun hc41 => ?_) (fun hc41 => ?_)
        · replace hc41 := of_decide_eq_true hc41
          rw [if_neg (by omega), if_pos (by omega)] at hz
          have hs : c.h.length ≤ 256 := by split at hz; cases hz; omega
          refine wp_region' ?_
          refine ops_ro' rfl (ro_move rfl) rfl ?_
          refine ops_ro' rfl (ro_fieldAddr fa66_2 rfl) rfl ?_
          refine ops_ro' rfl (ro_load sc9 rfl (Rd.pick 2 rfl (Rd.own rfl))) rfl ?_
          refine ops_eff' rfl (eff_call Try.call51 rfl rfl (by repeat (first | exact Split.nil _ | apply Split.cons 0 rfl | apply Split.cons 1 rfl | apply Split.cons 2 rfl | apply Split.cons 3 rfl | apply Split.cons 4 rfl | apply Split.cons 5 rfl | apply Split.cons 6 rfl | apply Split.cons 7 rfl | apply Split.cons 8 rfl | apply Split.cons 9 rfl | apply Split.cons 10 rfl | apply Split.cons 11 rfl)) (text_at pw p0 c0 l0 c.h (by omega))) rfl ?_
          rintro _ H' ⟨_, ⟨p46, c46, rfl, rfl⟩, hH⟩
          simp only [List.cons_append, List.nil_append, List.eraseIdx_cons_zero, List.eraseIdx_cons_succ, List.set_cons_zero, List.set_cons_succ] at hH
          subst hH
          obtain ⟨z46, hz46⟩ : ∃ z, z = l0 ++ be c.h.length 4 ++ c.h := ⟨_, rfl⟩
          rw [← hz46]
          have hzl46 : z46.length ≤ 300 := by rw [hz46]; simp only [List.length_append, be_length, List.length_nil]; omega
          refine ops_nil ?_
          refine InBlock_normal ?_
          refine Then_normal ?_
          refine over_cut (kept ⟨p46, c46, z46, ⟨by rw [hz46, hl0]; unfold repB repBody; rw [if_neg (by omega), if_pos (by omega)]; simp [txB], by omega⟩, rfl, rfl⟩ ?_ ?_ ?_)
          · exact (by repeat (first | exact Has.nil _ | refine Has.cons rfl ?_))
          · exact (by repeat (first | exact Has.nil _ | refine Has.cons rfl ?_))
          · exact (SubH.cons 2 rfl (SubH.cons 0 rfl (SubH.cons 0 rfl (SubH.cons 0 rfl (SubH.nil _)))))
        · replace hc41 := of_decide_eq_false hc41
          refine wp_seq' ?_
          refine wp_region' ?_
          refine ops_ro' rfl (ro_eql rfl rfl rfl) rfl ?_
          refine ops_ro' rfl (ro_assign rfl) rfl ?_
          refine ops_nil ?_
          refine Then_normal ?_
          refine wp_cond' rfl (fun hc47 => ?_) (fun hc47 => ?_)
          · replace hc47 := of_decide_eq_true hc47
            rw [if_neg (by omega), if_neg (by omega), if_pos (by omega)] at hz
            have hs : c.d.length ≤ 32768 := by split at hz; cases hz; omega
            refine wp_region' ?_
            refine ops_ro' rfl (ro_move rfl) rfl ?_
            refine ops_ro' rfl (ro_fieldAddr fa66_3 rfl) rfl ?_
            refine ops_ro' rfl (ro_load sc32 rfl (Rd.pick 2 rfl (Rd.own rfl))) rfl ?_
            refine ops_ro' rfl (ro_toStr Try.underlying32 Try.underlying5 Try.underlying9 rfl (Vw.pick 3 rfl hk.d) rfl) rfl ?_
            refine ops_eff' rfl (eff_call Try.call51 rfl rfl (by repeat (first | exact Split.nil _ | apply Split.cons 0 rfl | apply Split.cons 1 rfl | apply Split.cons 2 rfl | apply Split.cons 3 rfl | apply Split.cons 4 rfl | apply Split.cons 5 rfl | apply Split.cons 6 rfl | apply Split.cons 7 rfl | apply Split.cons 8 rfl | apply Split.cons 9 rfl | apply Split.cons 10 rfl | apply Split.cons 11 rfl)) (text_at pw p0 c0 l0 c.d (by omega))) rfl ?_
            rintro _ H' ⟨_, ⟨p53, c53, rfl, rfl⟩, hH⟩
            simp only [List.cons_append, List.nil_append, List.eraseIdx_cons_zero, List.eraseIdx_cons_succ, List.set_cons_zero, List.set_cons_succ] at hH
            subst hH
            obtain ⟨z53, hz53⟩ : ∃ z, z = l0 ++ be c.d.length 4 ++ c.d := ⟨_, rfl⟩
            rw [← hz53]
            have hzl53 : z53.length ≤ 32800 := by rw [hz53]; simp only [List.length_append, be_length, List.length_nil]; omega
            refine ops_nil ?_
            refine InBlock_normal ?_
            refine Then_normal ?_
            refine over_cut (kept ⟨p53, c53, z53, ⟨by rw [hz53, hl0]; unfold repB repBody; rw [if_neg (by omega), if_neg (by omega), if_pos (by omega)]; simp [txB], by omega⟩, rfl, rfl⟩ ?_ ?_ ?_)
            · exact (by repeat (first | exact Has.nil _ | refine Has.cons rfl ?_))
            · exact (by repeat (first | exact Has.nil _ | refine Has.cons rfl ?_))
            · exact (SubH.cons 2 rfl (SubH.cons 0 rfl (SubH.cons 0 rfl (SubH.cons 0 rfl (SubH.nil _)))))
          · replace hc47 := of_decide_eq_false hc47
            refine wp_seq' ?_
            refine wp_region' ?_
            refine ops_ro' rfl (ro_eql rfl rfl rfl) rfl ?_
            refine ops_ro' rfl (ro_assign rfl) rfl ?_
            refine ops_nil ?_
            refine Then_normal ?_
            refine wp_cond' rfl (fun hc54 => ?_) (fun hc54 => ?_)
            · replace hc54 := of_decide_eq_true hc54
              refine wp_seq' ?_
              rw [if_neg (by omega), if_neg (by omega), if_neg (by omega), if_pos (by omega)] at hz
              obtain ⟨hnl, hns, -⟩ := namesE_zero hz
              refine wp_region' ?_
              refine ops_ro' rfl (ro_move rfl) rfl ?_
              refine ops_ro' rfl (ro_fieldAddr fa66_4 rfl) rfl ?_
              refine ops_ro' rfl (ro_load sc64 rfl (Rd.pick 2 rfl (Rd.own rfl))) rfl ?_
              refine ops_ro' rfl (ro_sliceLen Try.underlying64 rfl) rfl ?_
              refine ops_ro' rfl (ro_conv Try.underlying3 Try.underlying40 rfl (wrap_u32_in (by omega) (by omega))) rfl ?_
              refine ops_eff' rfl (eff_call Try.call50 rfl rfl (by repeat (first | exact Split.nil _ | apply Split.cons 0 rfl | apply Split.cons 1 rfl | apply Split.cons 2 rfl | apply Split.cons 3 rfl | apply Split.cons 4 rfl | apply Split.cons 5 rfl | apply Split.cons 6 rfl | apply Split.cons 7 rfl | apply Split.cons 8 rfl | apply Split.cons 9 rfl | apply Split.cons 10 rfl | apply Split.cons 11 rfl)) (u32_at pw p0 c0 l0 c.ns.length _ rfl (by omega) (by omega))) rfl ?_
              rintro _ H' ⟨_, ⟨p61, c61, rfl, rfl⟩, hH⟩
              simp only [List.cons_append, List.nil_append, List.eraseIdx_cons_zero, List.eraseIdx_cons_succ, List.set_cons_zero, List.set_cons_succ] at hH
              subst hH
              obtain ⟨z61, hz61⟩ : ∃ z, z = l0 ++ be c.ns.length 4 := ⟨_, rfl⟩
              rw [← hz61]
              have hzl61 : z61.length ≤ 9 := by rw [hz61]; simp only [List.length_append, be_length, List.length_nil]; omega
              refine ops_nil ?_
              refine Then_normal ?_
              refine wp_seq' ?_
              refine wp_region' ?_
              refine ops_ro' rfl (ro_fieldAddr fa66_4 rfl) rfl ?_
              refine ops_ro' rfl (ro_load sc64 rfl (Rd.pick 2 rfl (Rd.own rfl))) rfl ?_
              refine ops_ro' rfl (ro_sliceLen Try.underlying64 rfl) rfl ?_
              refine ops_ro' rfl (ro_move rfl) rfl ?_
              refine ops_nil ?_
              refine Then_normal ?_
              refine wp_block' ?_
              refine wp_loopK 20 (fun m Δ LL => ∃ (i : Nat) (p1 : Option Addr) (c1 : Nat) (l1 : List UInt8), (i + m = c.ns.length ∧ l1 = z61 ++ (c.ns.take i).flatMap nmE ∧ l1.length ≤ 9 + 600 * i) ∧ Δ = [(65, .int .i64 (i : Nat))] ∧ LL = [own b3 (.cells (c.cs dp dn np nn).toArray 66 (0, 0)), own pw (.cells [Value.slice p1 l1.length c1].toArray 137 (0, 0)), row 5 1 (.slice p1 l1.length c1) l1.length (cel l1), V]) (m := c.ns.length) (Has.cons (k := 7) rfl (Has.cons (k := 63) rfl (Has.cons (k := 64) rfl (Has.nil _)))) (kept ⟨0, p61, c61, z61, ⟨by omega, by simp, by omega⟩, rfl, rfl⟩ (by repeat (first | exact Has.nil _ | refine Has.cons rfl ?_)) (by repeat (first | exact Has.nil _ | refine Has.cons rfl ?_)) (by repeat (first | exact SubH.nil _ | refine SubH.cons 0 rfl ?_ | refine SubH.cons 1 rfl ?_ | refine SubH.cons 2 rfl ?_ | refine SubH.cons 3 rfl ?_ | refine SubH.cons 4 rfl ?_ | refine SubH.cons 5 rfl ?_ | refine SubH.cons 6 rfl ?_ | refine SubH.cons 7 rfl ?_ | refine SubH.cons 8 rfl ?_ | refine SubH.cons 9 rfl ?_ | refine SubH.cons 10 rfl ?_ | refine SubH.cons 11 rfl ?_ | refine SubH.cons 12 rfl ?_ | refine SubH.cons 13 rfl ?_ | refine SubH.rown ?_))) ?_
              rintro m Δ LL ⟨i, p1, c1, l1, ⟨hm, e1, n1⟩, rfl, rfl⟩
              simp only [List.cons_append, List.nil_append]
              refine wp_seq' ?_
              refine wp_region' ?_
              refine ops_ro' rfl (ro_lss rfl rfl rfl) rfl ?_
              refine ops_nil ?_
              refine Then_normal ?_
              refine wp_seq' ?_
              refine wp_cond' rfl (fun hc66 => ?_) (fun hc66 => ?_)
              · replace hc66 := of_decide_eq_true hc66
                refine wp_skip' ?_
                refine Then_normal ?_
                refine wp_seq' ?_
                refine wp_block' ?_
                refine wp_seq' ?_
                have hi : i < c.ns.length := by omega
                have hn1 := hns _ (List.getElem_mem hi)
                have hao := hk.no _ (List.getElem_mem hi)
                have hel := At.enc_le2 c.ns[i].at'
                refine wp_know (fun w F s => vw_ptr (Vw.pick (H := [_, _, _, V]) 3 rfl hk.n) s (by omega)) ?_
                rintro ⟨b0, o0, rfl⟩
                have hkn := hk.n
                refine wp_region' ?_
                skip
                refine ops_ro' rfl (ro_indexSlice sl64 rfl rfl rfl (by omega)) rfl ?_
                refine ops_ro' rfl (ro_loadA ag120 rfl (RdN.of_pick 3 rfl ((RdN.elem (vw_rdn hkn) Nm.len (List.getElem?_eq_getElem hi)))) rfl) rfl ?_
                refine ops_eff' rfl (eff_alloc z120) rfl ?_
                rintro _ _ ⟨b9, rfl, rfl⟩
                refine ops_eff0 rfl (eff_storeA 0 ag120 rfl rfl rfl rfl rfl (Nat.le_of_ble_eq_true rfl) (warm_zero _)) rfl ?_
                rintro _ _ rfl
                refine ops_nil ?_
                refine Then_normal ?_
                refine wp_seq' ?_
                refine wp_region' ?_
                refine ops_ro' rfl (ro_move rfl) rfl ?_
                refine ops_ro' rfl (ro_fieldAddr fa120_0 rfl) rfl ?_
                refine ops_ro' rfl (ro_load sc9 rfl (Rd.pick 0 rfl (Rd.own rfl))) rfl ?_
                refine ops_eff' rfl (eff_call Try.call51 rfl rfl (by repeat (first | exact Split.nil _ | apply Split.cons 0 rfl | apply Split.cons 1 rfl | apply Split.cons 2 rfl | apply Split.cons 3 rfl | apply Split.cons 4 rfl | apply Split.cons 5 rfl | apply Split.cons 6 rfl | apply Split.cons 7 rfl | apply Split.cons 8 rfl | apply Split.cons 9 rfl | apply Split.cons 10 rfl | apply Split.cons 11 rfl)) (text_at pw p1 c1 l1 c.ns[i].n (by omega))) rfl ?_
                rintro _ H' ⟨_, ⟨p72, c72, rfl, rfl⟩, hH⟩
                simp only [List.cons_append, List.nil_append, List.eraseIdx_cons_zero, List.eraseIdx_cons_succ, List.set_cons_zero, List.set_cons_succ] at hH
                subst hH
                obtain ⟨z72, hz72⟩ : ∃ z, z = l1 ++ be c.ns[i].n.length 4 ++ c.ns[i].n := ⟨_, rfl⟩
                rw [← hz72]
                have hzl72 : z72.length ≤ 9 + 600 * i + 260 := by rw [hz72]; simp only [List.length_append, be_length, List.length_nil]; omega
                refine ops_nil ?_
                refine Then_normal ?_
                refine wp_seq' ?_
                refine wp_region' ?_
                refine ops_ro' rfl (ro_move rfl) rfl ?_
                refine ops_ro' rfl (ro_fieldAddr fa120_0 rfl) rfl ?_
                refine ops_ro' rfl (ro_load sc9 rfl (Rd.pick 2 rfl (Rd.own rfl))) rfl ?_
                refine ops_eff' rfl (eff_call Try.call51 rfl rfl (by repeat (first | exact Split.nil _ | apply Split.cons 0 rfl | apply Split.cons 1 rfl | apply Split.cons 2 rfl | apply Split.cons 3 rfl | apply Split.cons 4 rfl | apply Split.cons 5 rfl | apply Split.cons 6 rfl | apply Split.cons 7 rfl | apply Split.cons 8 rfl | apply Split.cons 9 rfl | apply Split.cons 10 rfl | apply Split.cons 11 rfl)) (text_at pw p72 c72 z72 c.ns[i].n (by omega))) rfl ?_
                rintro _ H' ⟨_, ⟨p76, c76, rfl, rfl⟩, hH⟩
                simp only [List.cons_append, List.nil_append, List.eraseIdx_cons_zero, List.eraseIdx_cons_succ, List.set_cons_zero, List.set_cons_succ] at hH
                subst hH
                obtain ⟨z76, hz76⟩ : ∃ z, z = z72 ++ be c.ns[i].n.length 4 ++ c.ns[i].n := ⟨_, rfl⟩
                rw [← hz76]
                have hzl76 : z76.length ≤ 9 + 600 * i + 520 := by rw [hz76]; simp only [List.length_append, be_length, List.length_nil]; omega
                refine ops_nil ?_
                refine Then_normal ?_
                refine wp_region' ?_
                refine ops_ro' rfl (ro_move rfl) rfl ?_
                refine ops_ro' rfl (ro_fieldAddr fa120_1 rfl) rfl ?_
                refine ops_ro' rfl (ro_loadA ag54 rfl (RdN.of_pick 2 rfl (rdn_sub 7)) rfl) rfl ?_
                refine ops_eff' rfl (eff_call Try.call68 rfl rfl (by repeat (first | exact Split.nil _ | apply Split.cons 0 rfl | apply Split.cons 1 rfl | apply Split.cons 2 rfl | apply Split.cons 3 rfl | apply Split.cons 4 rfl | apply Split.cons 5 rfl | apply Split.cons 6 rfl | apply Split.cons 7 rfl | apply Split.cons 8 rfl | apply Split.cons 9 rfl | apply Split.cons 10 rfl | apply Split.cons 11 rfl)) (aput_spec pw p76 c76 z76 c.ns[i].at' hao (by omega))) rfl ?_
                rintro _ H' ⟨_, ⟨p80, c80, rfl, rfl⟩, hH⟩
                simp only [List.cons_append, List.nil_append, List.eraseIdx_cons_zero, List.eraseIdx_cons_succ, List.set_cons_zero, List.set_cons_succ] at hH
                subst hH
                obtain ⟨z80, hz80⟩ : ∃ z, z = z76 ++ c.ns[i].at'.enc := ⟨_, rfl⟩
                rw [← hz80]
                have hzl80 : z80.length ≤ 9 + 600 * i + 560 := by rw [hz80]; simp only [List.length_append, be_length, List.length_nil]; omega
                refine ops_nil ?_
                refine InBlock_normal ?_
                refine Then_normal ?_
                refine wp_region' ?_
                refine ops_ro' rfl (ro_add rfl rfl (wrap_inc (by omega))) rfl ?_
                refine ops_ro' rfl (ro_move rfl) rfl ?_
                refine ops_nil ?_
                refine Then_normal ?_
                refine back (m - 1) (by omega) (kept ⟨i + 1, p80, c80, z80, ⟨by omega, by rw [hz80, hz76, hz72, e1, nm_snoc hi]; simp only [nmE, txB, List.append_assoc], by omega⟩, rfl, rfl⟩ ?_ ?_ ?_)
                · exact (by repeat (first | exact Has.nil _ | refine Has.cons rfl ?_))
                · exact (by repeat (first | exact Has.nil _ | refine Has.cons rfl ?_))
                · exact (SubH.cons 3 rfl (SubH.cons 0 rfl (SubH.cons 0 rfl (SubH.cons 1 rfl (SubH.nil _)))))
              · replace hc66 := of_decide_eq_false hc66
                refine wp_exit' ?_
                refine Then_exit ?_
                refine Then_exit ?_
                refine InBlock_here ?_
                refine InBlock_normal ?_
                refine Then_normal ?_
                refine over_cut (kept ⟨p1, c1, l1, ⟨by rw [e1, hz61, hl0, List.take_of_length_le (by omega)]; unfold repB repBody; rw [if_neg (by omega), if_neg (by omega), if_neg (by omega), if_pos (by omega)]; simp, by omega⟩, rfl, rfl⟩ ?_ ?_ ?_)
                · exact (by repeat (first | exact Has.nil _ | refine Has.cons rfl ?_))
                · exact (by repeat (first | exact Has.nil _ | refine Has.cons rfl ?_))
                · exact SubH.refl _
            · replace hc54 := of_decide_eq_false hc54
              refine wp_region' ?_
              refine ops_ro' rfl (ro_move rfl) rfl ?_
              refine ops_ro' rfl (ro_fieldAddr fa66_5 rfl) rfl ?_
              refine ops_ro' rfl (ro_loadA ag54 rfl (RdN.of_pick 2 rfl (rdn_sub 7)) rfl) rfl ?_
              refine ops_eff' rfl (eff_call Try.call68 rfl rfl (by repeat (first | exact Split.nil _ | apply Split.cons 0 rfl | apply Split.cons 1 rfl | apply Split.cons 2 rfl | apply Split.cons 3 rfl | apply Split.cons 4 rfl | apply Split.cons 5 rfl | apply Split.cons 6 rfl | apply Split.cons 7 rfl | apply Split.cons 8 rfl | apply Split.cons 9 rfl | apply Split.cons 10 rfl | apply Split.cons 11 rfl)) (aput_spec pw p0 c0 l0 c.at' hk.at' (by omega))) rfl ?_
              rintro _ H' ⟨_, ⟨p29, c29, rfl, rfl⟩, hH⟩
              simp only [List.cons_append, List.nil_append, List.eraseIdx_cons_zero, List.eraseIdx_cons_succ, List.set_cons_zero, List.set_cons_succ] at hH
              subst hH
              obtain ⟨z29, hz29⟩ : ∃ z, z = l0 ++ c.at'.enc := ⟨_, rfl⟩
              rw [← hz29]
              have hzl29 : z29.length ≤ 100 := by rw [hz29]; simp only [List.length_append, be_length, List.length_nil]; have := At.enc_le2 c.at'; omega
              refine ops_nil ?_
              refine InBlock_normal ?_
              refine Then_normal ?_
              refine over_cut (kept ⟨p29, c29, z29, ⟨by rw [hz29, hl0]; unfold repB repBody; rw [if_neg (by omega), if_neg (by omega), if_neg (by omega), if_neg (by omega)], by omega⟩, rfl, rfl⟩ ?_ ?_ ?_)
              · exact (by repeat (first | exact Has.nil _ | refine Has.cons rfl ?_))
              · exact (by repeat (first | exact Has.nil _ | refine Has.cons rfl ?_))
              · exact (SubH.cons 2 rfl (SubH.cons 0 rfl (SubH.cons 0 rfl (SubH.cons 0 rfl (SubH.nil _)))))
    · rintro Δ LL ⟨p2, c2, l2, ⟨e2, n2⟩, rfl, rfl⟩
      simp only [List.cons_append, List.nil_append]
      refine wp_seq' ?_
      refine wp_region' ?_
      refine ops_ro' rfl (ro_move rfl) rfl ?_
      refine ops_eff' rfl (eff_call Try.call52 rfl rfl (by repeat (first | exact Split.nil _ | apply Split.cons 0 rfl | apply Split.cons 1 rfl | apply Split.cons 2 rfl | apply Split.cons 3 rfl | apply Split.cons 4 rfl | apply Split.cons 5 rfl | apply Split.cons 6 rfl | apply Split.cons 7 rfl | apply Split.cons 8 rfl | apply Split.cons 9 rfl | apply Split.cons 10 rfl | apply Split.cons 11 rfl)) (done_spec pw p2 c2 l2 (by omega))) rfl ?_
      rintro _ H' ⟨_, ⟨p83, c83, rfl, _, rfl⟩, hH⟩
      simp only [List.cons_append, List.nil_append, List.eraseIdx_cons_zero, List.eraseIdx_cons_succ, List.set_cons_zero, List.set_cons_succ] at hH
      subst hH
      refine ops_ro' rfl (ro_assign rfl) rfl ?_
      refine ops_ro' rfl (ro_assign rfl) rfl ?_
      refine ops_nil ?_
      refine Then_normal ?_
      refine wp_ret' ?_
      refine' doneS_ret (res2 rfl rfl rfl) ?_ ?_
      rotate_left 1
      have HB : encP id c = l2 := by unfold encP; rw [if_pos hz0]; exact e2.symm
      rw [hz0, HB]
      exact ⟨_, ⟨p83, c83, rfl, rfl⟩, rfl⟩
      exact (SubH.cons 0 rfl (SubH.cons 3 rfl (SubH.nil _)))

end Go.Proofs.Ytigaolglnnjnmaa
