/-
  Replies: what they tell, the slices they tell it by; copies.
-/
import Derived.Test.YtbiohhfibkolgaaSxApp
import Derived.Test.YtbiohhfibkolgaaPAttr
import Derived.Test.YtbiohhfibkolgaaAttrBack
import Derived.Test.YtbiohhfibkolgaaWire2
namespace Go.Proofs.Ytbiohhfibkolgaa
open Go.Sx
set_option linter.unusedVariables false
set_option linter.unusedSimpArgs false
set_option maxRecDepth 100000
set_option maxHeartbeats 4000000

/-- a name of a directory -/
structure Nm where
  n : List UInt8
  at' : At
  deriving DecidableEq
def Nm.cs (x : Nm) : List Value := .string (str x.n) :: x.at'.cs
theorem Nm.len (x : Nm) : x.cs.length = 8 := rfl
theorem Nm.one (x : Nm) : ∀ v ∈ x.cs, v.oneCell' = true := by intro v hv; simp [Nm.cs, At.cs] at hv; rcases hv with h | h | h | h | h | h | h | h <;> subst h <;> rfl
abbrev ncs (l : List Nm) : List Value := flat Nm.cs l
theorem ncs_len (l : List Nm) : (ncs l).length = l.length * 8 := flat_len Nm.len l
/-- what a reply tells -/
structure Rc where
  kind : Int
  status : Int
  h : List UInt8
  d : List UInt8
  ns : List Nm
  at' : At
def Rc.zero : Rc := ⟨0, 0, [], [], [], At.zero⟩
/-- the same, and its slices -/
structure Rp where
  c : Rc
  pd : Option Addr
  cd : Nat
  pn : Option Addr
  cn : Nat
abbrev Rp.vd (r : Rp) : Value := .slice r.pd r.c.d.length r.cd
abbrev Rp.vn (r : Rp) : Value := .slice r.pn r.c.ns.length r.cn
def Rp.cs (r : Rp) : List Value := [.int .i64 r.c.kind, .int .i64 r.c.status, .string (str r.c.h), r.vd, r.vn, .int .u32 r.c.at'.f, .int .u64 r.c.at'.s, .int .u32 r.c.at'.u, .int .u32 r.c.at'.g, .int .u32 r.c.at'.m, .int .u32 r.c.at'.a, .int .u32 r.c.at'.t]
abbrev Rp.v (r : Rp) : Value := .agg r.cs.toArray
def Rp.zero : Rp := ⟨Rc.zero, none, 0, none, 0⟩
abbrev Rp.rd (r : Rp) : HProp := row 5 1 r.vd r.c.d.length (cel r.c.d)
abbrev Rp.rn (r : Rp) : HProp := row 46 8 r.vn r.c.ns.length (ncs r.c.ns)
/-- its slices can be read -/
structure Rp.In (V : HProp) (r : Rp) : Prop where
  d : Vw V r.vd r.c.d.length (cel r.c.d)
  n : Vw V r.vn r.c.ns.length (ncs r.c.ns)
theorem Rp.zero_in (V : HProp) : Rp.zero.In V := ⟨Vw.nil V, Vw.nil V⟩
theorem rp_at {b o : Nat} {L : HProp} (r : Rp) (h : RdN L b o r.cs) : RdN L b (o + 5) r.c.at'.cs := h.sub fun j u hj => by
  have e : r.cs = [.int .i64 r.c.kind, .int .i64 r.c.status, .string (str r.c.h), r.vd, r.vn] ++ r.c.at'.cs := rfl
  rw [e, List.getElem?_append_right (by simp), show 5 + j - [Value.int .i64 r.c.kind, .int .i64 r.c.status, .string (str r.c.h), r.vd, r.vn].length = j by simp]; exact hj


theorem cloneB_some (V : HProp) (a : Addr) (m c : Nat) (xs : List Value) (hV : Vw V (.slice (some a) m c) m xs) (hl : xs.length = m * 1) (hone : ∀ v ∈ xs, v.oneCell' = true) (hm : m ≤ 140737488355328) :
    Tri Try.prog 54 [.slice (some a) m c] [V] (fun r H' => ∃ p' c', r = .slice p' m c' ∧ H' = [row 5 1 (.slice p' m c') m xs, V]) := by
  refine tri_of_wpS Try.func54 rfl Try.ntmps54 (by simp) ?_
  refine wp_seq' ?_
  refine wp_region' ?_
  refine ops_ro' rfl (ro_assign rfl) rfl ?_
  refine ops_nil ?_
  refine Then_normal ?_
  refine wp_seq' ?_
  refine wp_seq' ?_
  refine wp_region' ?_
  refine ops_ro' rfl (ro_move rfl) rfl ?_
  refine ops_ro' rfl (ro_sliceEqlNil Try.underlying25 rfl rfl rfl) rfl ?_
  refine ops_nil ?_
  refine Then_normal ?_
  refine wp_condF rfl ?_
  refine wp_skip' ?_
  refine Then_normal ?_
  refine wp_seq' ?_
  refine wp_region' ?_
  refine ops_eff' rfl (eff_lit sl25 rfl (sbld (cs := []) [] sl25 (by decide) (by kernel_rfl) rfl) rfl (by decide)) rfl ?_
  rintro _ _ ⟨b5, rfl, rfl⟩
  refine ops_ro' rfl (ro_move rfl) rfl ?_
  refine ops_eff' rfl (eff_append 0 sl25 (.inl ⟨5, Try.underlying25⟩) rfl rfl rfl (Src.of_vw (Vw.pick 0 rfl hV) hl hone) (by omega) (by simp only [maxLen]; omega)) rfl ?_
  rintro _ _ ⟨_, ⟨p', c', rfl, -, rfl⟩, rfl⟩
  simp only [Nat.zero_add, List.nil_append, List.set_cons_zero]
  refine ops_ro' rfl (ro_assign rfl) rfl ?_
  refine ops_nil ?_
  refine Then_normal ?_
  refine wp_ret' ?_
  refine' doneS_ret (res1 rfl rfl) ?_ ?_
  rotate_left 1
  exact ⟨p', c', rfl, rfl⟩
  exact SubH.refl _
theorem cloneB_nil (V : HProp) :
    Tri Try.prog 54 [.slice none 0 0] [V] (fun r H' => ∃ p' c', r = .slice p' 0 c' ∧ H' = [row 5 1 (.slice p' 0 c') 0 [], V]) := by
  refine tri_of_wpS Try.func54 rfl Try.ntmps54 (by simp) ?_
  refine wp_seq' ?_
  refine wp_region' ?_
  refine ops_ro' rfl (ro_assign rfl) rfl ?_
  refine ops_nil ?_
  refine Then_normal ?_
  refine wp_seq' ?_
  refine wp_seq' ?_
  refine wp_region' ?_
  refine ops_ro' rfl (ro_move rfl) rfl ?_
  refine ops_ro' rfl (ro_sliceEqlNil Try.underlying25 rfl rfl rfl) rfl ?_
  refine ops_nil ?_
  refine Then_normal ?_
  refine wp_condT rfl ?_
  refine wp_seq' ?_
  refine wp_heap (fun w F => nil_row 5 1 w F) ?_
  refine wp_region' ?_
  refine ops_ro' rfl (ro_assign rfl) rfl ?_
  refine ops_nil ?_
  refine Then_normal ?_
  refine wp_ret' ?_
  refine Then_ret ?_
  refine' doneS_ret (res1 rfl rfl) ?_ ?_
  rotate_left 1
  exact ⟨none, 0, rfl, rfl⟩
  exact SubH.refl _
theorem cloneB (V : HProp) (p : Option Addr) (m c : Nat) (xs : List Value) (hV : Vw V (.slice p m c) m xs) (hl : xs.length = m * 1) (hone : ∀ v ∈ xs, v.oneCell' = true) (hm : m ≤ 140737488355328) :
    Tri Try.prog 54 [.slice p m c] [V] (fun r H' => ∃ p' c', r = .slice p' m c' ∧ H' = [row 5 1 (.slice p' m c') m xs, V]) := by
  cases p with
  | some a => exact cloneB_some V a m c xs hV hl hone hm
  | none =>
    refine tri_know (p := m = 0 ∧ c = 0 ∧ xs = []) (fun w F s => hV.len_nil (by simpa [St_cons, St_nil, star_emp] using s)) ?_
    rintro ⟨rfl, rfl, rfl⟩; exact cloneB_nil V


theorem cloneN_some (V : HProp) (a : Addr) (m c : Nat) (xs : List Value) (hV : Vw V (.slice (some a) m c) m xs) (hl : xs.length = m * 8) (hone : ∀ v ∈ xs, v.oneCell' = true) (hm : m ≤ 2513169434916) :
    Tri Try.prog 78 [.slice (some a) m c] [V] (fun r H' => ∃ p' c', r = .slice p' m c' ∧ H' = [row 46 8 (.slice p' m c') m xs, V]) := by
  refine tri_of_wpS Try.func78 rfl Try.ntmps78 (by simp) ?_
  refine wp_seq' ?_
  refine wp_region' ?_
  refine ops_ro' rfl (ro_assign rfl) rfl ?_
  refine ops_nil ?_
  refine Then_normal ?_
  refine wp_seq' ?_
  refine wp_seq' ?_
  refine wp_region' ?_
  refine ops_ro' rfl (ro_move rfl) rfl ?_
  refine ops_ro' rfl (ro_sliceEqlNil Try.underlying26 rfl rfl rfl) rfl ?_
  refine ops_nil ?_
  refine Then_normal ?_
  refine wp_condF rfl ?_
  refine wp_skip' ?_
  refine Then_normal ?_
  refine wp_seq' ?_
  refine wp_region' ?_
  refine ops_eff' rfl (eff_lit sl26 rfl (sbld (cs := []) [] sl26 (by decide) (by kernel_rfl) rfl) rfl (by decide)) rfl ?_
  rintro _ _ ⟨b5, rfl, rfl⟩
  refine ops_ro' rfl (ro_move rfl) rfl ?_
  refine ops_eff' rfl (eff_append 0 sl26 (.inl ⟨46, Try.underlying26⟩) rfl rfl rfl (Src.of_vw (Vw.pick 0 rfl hV) hl hone) (by omega) (by simp only [maxLen]; omega)) rfl ?_
  rintro _ _ ⟨_, ⟨p', c', rfl, -, rfl⟩, rfl⟩
  simp only [Nat.zero_add, List.nil_append, List.set_cons_zero]
  refine ops_ro' rfl (ro_assign rfl) rfl ?_
  refine ops_nil ?_
  refine Then_normal ?_
  refine wp_ret' ?_
  refine' doneS_ret (res1 rfl rfl) ?_ ?_
  rotate_left 1
  exact ⟨p', c', rfl, rfl⟩
  exact SubH.refl _
theorem cloneN_nil (V : HProp) :
    Tri Try.prog 78 [.slice none 0 0] [V] (fun r H' => ∃ p' c', r = .slice p' 0 c' ∧ H' = [row 46 8 (.slice p' 0 c') 0 [], V]) := by
  refine tri_of_wpS Try.func78 rfl Try.ntmps78 (by simp) ?_
  refine wp_seq' ?_
  refine wp_region' ?_
  refine ops_ro' rfl (ro_assign rfl) rfl ?_
  refine ops_nil ?_
  refine Then_normal ?_
  refine wp_seq' ?_
  refine wp_seq' ?_
  refine wp_region' ?_
  refine ops_ro' rfl (ro_move rfl) rfl ?_
  refine ops_ro' rfl (ro_sliceEqlNil Try.underlying26 rfl rfl rfl) rfl ?_
  refine ops_nil ?_
  refine Then_normal ?_
  refine wp_condT rfl ?_
  refine wp_seq' ?_
  refine wp_heap (fun w F => nil_row 46 8 w F) ?_
  refine wp_region' ?_
  refine ops_ro' rfl (ro_assign rfl) rfl ?_
  refine ops_nil ?_
  refine Then_normal ?_
  refine wp_ret' ?_
  refine Then_ret ?_
  refine' doneS_ret (res1 rfl rfl) ?_ ?_
  rotate_left 1
  exact ⟨none, 0, rfl, rfl⟩
  exact SubH.refl _
theorem cloneN (V : HProp) (p : Option Addr) (m c : Nat) (xs : List Value) (hV : Vw V (.slice p m c) m xs) (hl : xs.length = m * 8) (hone : ∀ v ∈ xs, v.oneCell' = true) (hm : m ≤ 2513169434916) :
    Tri Try.prog 78 [.slice p m c] [V] (fun r H' => ∃ p' c', r = .slice p' m c' ∧ H' = [row 46 8 (.slice p' m c') m xs, V]) := by
  cases p with
  | some a => exact cloneN_some V a m c xs hV hl hone hm
  | none =>
    refine tri_know (p := m = 0 ∧ c = 0 ∧ xs = []) (fun w F s => hV.len_nil (by simpa [St_cons, St_nil, star_emp] using s)) ?_
    rintro ⟨rfl, rfl, rfl⟩; exact cloneN_nil V

end Go.Proofs.Ytbiohhfibkolgaa
