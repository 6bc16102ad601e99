/-
  A tree is read.
-/
import Derived.Test.YtbbmhppkhcodfaaTrF
import Derived.Test.YtbbmhppkhcodfaaWire
namespace Go.Proofs.Ytbbmhppkhcodfaa
open Go.Sx
set_option linter.unusedVariables false
set_option linter.unusedSimpArgs false
set_option maxRecDepth 100000
set_option maxHeartbeats 4000000

def byId (ns : List Nd) (k : Int) : Option Nd := ns.find? (fun x => decide ((x.id : Int) = k))
theorem mget_ns (ns : List Nd) (k : Int) : mget (ns.map Nd.me) k (.pointer none) = ptrO (byId ns k) := by
  unfold mget byId
  rw [List.find?_map]
  have e : ((fun x : Me => x.k == k) ∘ Nd.me) = fun x : Nd => decide ((x.id : Int) = k) := by
    funext x; show ((x.id : Int) == k) = _
    by_cases h : (x.id : Int) = k
    · rw [decide_eq_true h]; simpa using h
    · rw [decide_eq_false h]; simpa using h
  rw [e]
  cases ns.find? fun x => decide ((x.id : Int) = k) <;> rfl
theorem byId_some {ns : List Nd} {k : Int} {x : Nd} (h : byId ns k = some x) : x ∈ ns ∧ (x.id : Int) = k := ⟨List.mem_of_find?_eq_some h, by simpa using List.find?_some h⟩
theorem fnd_mem {ns : List Nd} : ∀ {p : List (List UInt8)} {r x : Nd}, r ∈ ns → fnd ns r p = some x → x ∈ ns
  | [], r, x, hr, h => by injection h with h; rw [← h]; exact hr
  | s :: p, r, x, hr, h => by
    unfold fnd at h
    cases hk : kid ns r.id s with
    | none => rw [hk] at h; cases h
    | some y => rw [hk] at h; exact fnd_mem (kid_some hk).1 h
def lookO : Option Nd → Int × Int
  | some x => (x.id, 0)
  | none => (0, 22)
theorem look_spec {V : HProp} {t : Tr} (hT : Tv V t) {r : Nd} (hW : Wf t r) (q : Option Addr) (cq : Nat) (p : List (List UInt8)) (hV : Vw V (.slice q p.length cq) p.length (txs p)) (hl : p.length ≤ 100000) : Tri Try.prog 23 [t.v, .slice q p.length cq] [V] (fun v H' => ∃ K, (v = .tuple #[.int .i64 (lookO (fnd t.ns r p)).1, .int .i64 (lookO (fnd t.ns r p)).2] ∧ K = []) ∧ H' = K ++ [V]) := by
  cases hb : fnd t.ns r p with
  | none =>
    refine tri_of_wpS Try.func23 rfl Try.ntmps23 (by simp) ?_
    refine wp_seq' ?_
    refine wp_region' ?_
    refine ops_ro' rfl (ro_assign rfl) rfl ?_
    refine ops_ro' rfl (ro_assign rfl) rfl ?_
    refine ops_nil ?_
    refine Then_normal ?_
    refine wp_seq' ?_
    refine wp_region' ?_
    refine ops_ro' rfl (ro_move rfl) rfl ?_
    refine ops_ro' rfl (ro_move rfl) rfl ?_
    refine ops_eff' rfl (eff_call Try.call44 rfl rfl (by repeat (first | exact Split.nil _ | apply Split.cons 0 rfl | apply Split.cons 1 rfl | apply Split.cons 2 rfl | apply Split.cons 3 rfl | apply Split.cons 4 rfl | apply Split.cons 5 rfl | apply Split.cons 6 rfl | apply Split.cons 7 rfl | apply Split.cons 8 rfl | apply Split.cons 9 rfl | apply Split.cons 10 rfl | apply Split.cons 11 rfl)) (find_spec hT hW q cq p hV hl)) rfl ?_
    rintro _ H' ⟨_, ⟨_, ⟨rfl, rfl⟩, rfl⟩, hH⟩
    simp only [List.cons_append, List.nil_append, List.eraseIdx_cons_zero, List.eraseIdx_cons_succ, List.set_cons_zero, List.set_cons_succ] at hH
    subst hH
    rw [hb]
    dsimp only [ptrO, Option.map]
    refine ops_ro' rfl (ro_assign rfl) rfl ?_
    refine ops_nil ?_
    refine Then_normal ?_
    refine wp_seq' ?_
    refine wp_seq' ?_
    refine wp_region' ?_
    refine ops_ro' rfl (ro_move rfl) rfl ?_
    refine ops_ro' rfl (ro_ptrEqlNil Try.underlying76 rfl rfl rfl) rfl ?_
    refine ops_nil ?_
    refine Then_normal ?_
    refine wp_condT rfl ?_
    refine wp_seq' ?_
    refine wp_region' ?_
    refine ops_ro' rfl (ro_assign rfl) rfl ?_
    refine ops_ro' rfl (ro_assign rfl) rfl ?_
    refine ops_nil ?_
    refine Then_normal ?_
    refine wp_ret' ?_
    refine Then_ret ?_
    refine' doneS_ret (res2 rfl rfl rfl) ?_ ?_
    rotate_left 1
    exact ⟨_, ⟨rfl, rfl⟩, rfl⟩
    exact SubH.refl _
  | some x =>
    have hx := fnd_mem hW.root hb
    refine tri_of_wpS Try.func23 rfl Try.ntmps23 (by simp) ?_
    refine wp_seq' ?_
    refine wp_region' ?_
    refine ops_ro' rfl (ro_assign rfl) rfl ?_
    refine ops_ro' rfl (ro_assign rfl) rfl ?_
    refine ops_nil ?_
    refine Then_normal ?_
    refine wp_seq' ?_
    refine wp_region' ?_
    refine ops_ro' rfl (ro_move rfl) rfl ?_
    refine ops_ro' rfl (ro_move rfl) rfl ?_
    refine ops_eff' rfl (eff_call Try.call44 rfl rfl (by repeat (first | exact Split.nil _ | apply Split.cons 0 rfl | apply Split.cons 1 rfl | apply Split.cons 2 rfl | apply Split.cons 3 rfl | apply Split.cons 4 rfl | apply Split.cons 5 rfl | apply Split.cons 6 rfl | apply Split.cons 7 rfl | apply Split.cons 8 rfl | apply Split.cons 9 rfl | apply Split.cons 10 rfl | apply Split.cons 11 rfl)) (find_spec hT hW q cq p hV hl)) rfl ?_
    rintro _ H' ⟨_, ⟨_, ⟨rfl, rfl⟩, rfl⟩, hH⟩
    simp only [List.cons_append, List.nil_append, List.eraseIdx_cons_zero, List.eraseIdx_cons_succ, List.set_cons_zero, List.set_cons_succ] at hH
    subst hH
    rw [hb]
    dsimp only [ptrO, Option.map]
    refine ops_ro' rfl (ro_assign rfl) rfl ?_
    refine ops_nil ?_
    refine Then_normal ?_
    refine wp_seq' ?_
    refine wp_seq' ?_
    refine wp_region' ?_
    refine ops_ro' rfl (ro_move rfl) rfl ?_
    refine ops_ro' rfl (ro_ptrEqlNil Try.underlying76 rfl rfl rfl) rfl ?_
    refine ops_nil ?_
    refine Then_normal ?_
    refine wp_condF rfl ?_
    refine wp_skip' ?_
    refine Then_normal ?_
    refine wp_seq' ?_
    refine wp_region' ?_
    refine ops_ro' rfl (ro_move rfl) rfl ?_
    refine ops_ro' rfl (ro_nilCheck rfl) rfl ?_
    refine ops_ro' rfl (ro_fieldAddr fa85_0 rfl) rfl ?_
    refine ops_ro' rfl (ro_load sc3 rfl (Rd.pick 0 rfl (hT.nd x hx 0 _ rfl))) rfl ?_
    refine ops_ro' rfl (ro_assign rfl) rfl ?_
    refine ops_ro' rfl (ro_assign rfl) rfl ?_
    refine ops_nil ?_
    refine Then_normal ?_
    refine wp_ret' ?_
    refine' doneS_ret (res2 rfl rfl rfl) ?_ ?_
    rotate_left 1
    exact ⟨_, ⟨rfl, rfl⟩, rfl⟩
    exact SubH.refl _
theorem bytes_spec {V : HProp} {t : Tr} (hT : Tv V t) : Tri Try.prog 16 [t.v] [V] (fun v H' => ∃ K, (v = .int .i64 (t.bytes : Int) ∧ K = []) ∧ H' = K ++ [V]) := by
  refine tri_of_wpS Try.func16 rfl Try.ntmps16 (by simp) ?_
  refine wp_seq' ?_
  refine wp_region' ?_
  refine ops_ro' rfl (ro_assign rfl) rfl ?_
  refine ops_nil ?_
  refine Then_normal ?_
  refine wp_seq' ?_
  refine wp_region' ?_
  refine ops_ro' rfl (ro_move rfl) rfl ?_
  refine ops_ro' rfl (ro_nilCheck rfl) rfl ?_
  refine ops_ro' rfl (ro_fieldAddr fa78_3 rfl) rfl ?_
  refine ops_ro' rfl (ro_load sc3 rfl (Rd.pick 0 rfl (hT.cs 3 _ rfl))) rfl ?_
  refine ops_ro' rfl (ro_assign rfl) rfl ?_
  refine ops_nil ?_
  refine Then_normal ?_
  refine wp_ret' ?_
  refine' doneS_ret (res1 rfl rfl) ?_ ?_
  rotate_left 1
  exact ⟨_, ⟨rfl, rfl⟩, rfl⟩
  exact SubH.refl _
theorem count_spec {V : HProp} {t : Tr} (hT : Tv V t) : Tri Try.prog 21 [t.v] [V] (fun v H' => ∃ K, (v = .int .i64 (t.ns.length : Int) ∧ K = []) ∧ H' = K ++ [V]) := by
  refine tri_of_wpS Try.func21 rfl Try.ntmps21 (by simp) ?_
  refine wp_seq' ?_
  refine wp_region' ?_
  refine ops_ro' rfl (ro_assign rfl) rfl ?_
  refine ops_nil ?_
  refine Then_normal ?_
  refine wp_seq' ?_
  refine wp_region' ?_
  refine ops_ro' rfl (ro_move rfl) rfl ?_
  refine ops_ro' rfl (ro_nilCheck rfl) rfl ?_
  refine ops_ro' rfl (ro_fieldAddr fa78_1 rfl) rfl ?_
  refine ops_ro' rfl (ro_load sc75 rfl (Rd.pick 0 rfl (hT.cs 1 _ rfl))) rfl ?_
  refine ops_ro' rfl (ro_mapLen Try.underlying75 rfl (Mp.pick 0 rfl hT.mp)) rfl ?_
  rw [List.length_map]
  refine ops_ro' rfl (ro_assign rfl) rfl ?_
  refine ops_nil ?_
  refine Then_normal ?_
  refine wp_ret' ?_
  refine' doneS_ret (res1 rfl rfl) ?_ ?_
  rotate_left 1
  exact ⟨_, ⟨rfl, rfl⟩, rfl⟩
  exact SubH.refl _
/-- a file by its number -/
def fileO : Option Nd → Option Nd × Int
  | none => (none, 22)
  | some x => if x.dir = true then (none, 23) else (some x, 0)
theorem file_spec {V : HProp} {t : Tr} (hT : Tv V t) (id : Int) : Tri Try.prog 38 [t.v, .int .i64 id] [V] (fun v H' => ∃ K, (v = .tuple #[ptrO (fileO (byId t.ns id)).1, .int .i64 (fileO (byId t.ns id)).2] ∧ K = []) ∧ H' = K ++ [V]) := by
  cases hb : byId t.ns id with
  | none =>
    refine tri_of_wpS Try.func38 rfl Try.ntmps38 (by simp) ?_
    refine wp_seq' ?_
    refine wp_region' ?_
    refine ops_ro' rfl (ro_assign rfl) rfl ?_
    refine ops_ro' rfl (ro_assign rfl) rfl ?_
    refine ops_nil ?_
    refine Then_normal ?_
    refine wp_seq' ?_
    refine wp_region' ?_
    refine ops_ro' rfl (ro_move rfl) rfl ?_
    refine ops_ro' rfl (ro_nilCheck rfl) rfl ?_
    refine ops_ro' rfl (ro_fieldAddr fa78_1 rfl) rfl ?_
    refine ops_ro' rfl (ro_load sc75 rfl (Rd.pick 0 rfl (hT.cs 1 _ rfl))) rfl ?_
    refine ops_ro' rfl (ro_move rfl) rfl ?_
    refine ops_ro' rfl (ro_lookup Try.underlying75 Try.underlying3 z76 rfl rfl (Mp.pick 0 rfl hT.mp)) rfl ?_
    rw [mget_ns, hb]
    dsimp only [ptrO, Option.map]
    refine ops_ro' rfl (ro_assign rfl) rfl ?_
    refine ops_nil ?_
    refine Then_normal ?_
    refine wp_seq' ?_
    refine wp_block' ?_
    refine wp_seq' ?_
    refine wp_region' ?_
    refine ops_ro' rfl (ro_move rfl) rfl ?_
    refine ops_ro' rfl (ro_ptrEqlNil Try.underlying76 rfl rfl rfl) rfl ?_
    refine ops_ro' rfl (ro_assign rfl) rfl ?_
    refine ops_nil ?_
    refine Then_normal ?_
    refine wp_condT rfl ?_
    refine wp_seq' ?_
    refine wp_region' ?_
    refine ops_ro' rfl (ro_assign rfl) rfl ?_
    refine ops_ro' rfl (ro_assign rfl) rfl ?_
    refine ops_nil ?_
    refine Then_normal ?_
    refine wp_ret' ?_
    refine InBlock_ret ?_
    refine Then_ret ?_
    refine' doneS_ret (res2 rfl rfl rfl) ?_ ?_
    rotate_left 1
    exact ⟨_, ⟨rfl, rfl⟩, rfl⟩
    exact SubH.refl _
  | some x =>
    have hx := (byId_some hb).1
    unfold fileO
    refine tri_of_wpS Try.func38 rfl Try.ntmps38 (by simp) ?_
    refine wp_seq' ?_
    refine wp_region' ?_
    refine ops_ro' rfl (ro_assign rfl) rfl ?_
    refine ops_ro' rfl (ro_assign rfl) rfl ?_
    refine ops_nil ?_
    refine Then_normal ?_
    refine wp_seq' ?_
    refine wp_region' ?_
    refine ops_ro' rfl (ro_move rfl) rfl ?_
    refine ops_ro' rfl (ro_nilCheck rfl) rfl ?_
    refine ops_ro' rfl (ro_fieldAddr fa78_1 rfl) rfl ?_
    refine ops_ro' rfl (ro_load sc75 rfl (Rd.pick 0 rfl (hT.cs 1 _ rfl))) rfl ?_
    refine ops_ro' rfl (ro_move rfl) rfl ?_
    refine ops_ro' rfl (ro_lookup Try.underlying75 Try.underlying3 z76 rfl rfl (Mp.pick 0 rfl hT.mp)) rfl ?_
    rw [mget_ns, hb]
    dsimp only [ptrO, Option.map]
    refine ops_ro' rfl (ro_assign rfl) rfl ?_
    refine ops_nil ?_
    refine Then_normal ?_
    refine wp_seq' ?_
    refine wp_block' ?_
    refine wp_seq' ?_
    refine wp_region' ?_
    refine ops_ro' rfl (ro_move rfl) rfl ?_
    refine ops_ro' rfl (ro_ptrEqlNil Try.underlying76 rfl rfl rfl) rfl ?_
    refine ops_ro' rfl (ro_assign rfl) rfl ?_
    refine ops_nil ?_
    refine Then_normal ?_
    refine wp_condF rfl ?_
    refine wp_seq' ?_
    refine wp_region' ?_
    refine ops_ro' rfl (ro_move rfl) rfl ?_
    refine ops_ro' rfl (ro_nilCheck rfl) rfl ?_
    refine ops_ro' rfl (ro_fieldAddr fa85_1 rfl) rfl ?_
    refine ops_ro' rfl (ro_load sc4 rfl (Rd.pick 0 rfl (hT.nd x hx 1 _ rfl))) rfl ?_
    refine ops_ro' rfl (ro_assign rfl) rfl ?_
    refine ops_nil ?_
    refine Then_normal ?_
    refine wp_cond' rfl (fun hc16 => ?_) (fun hc16 => ?_)
    · skip
      refine wp_seq' ?_
      refine wp_region' ?_
      refine ops_ro' rfl (ro_assign rfl) rfl ?_
      refine ops_ro' rfl (ro_assign rfl) rfl ?_
      refine ops_nil ?_
      refine Then_normal ?_
      refine wp_ret' ?_
      refine InBlock_ret ?_
      refine Then_ret ?_
      refine' doneS_ret (res2 rfl rfl rfl) ?_ ?_
      rotate_left 1
      exact ⟨_, ⟨by rw [if_pos hc16], rfl⟩, rfl⟩
      exact SubH.refl _
    · skip
      refine wp_skip' ?_
      refine InBlock_normal ?_
      refine Then_normal ?_
      refine wp_seq' ?_
      refine wp_region' ?_
      refine ops_ro' rfl (ro_move rfl) rfl ?_
      refine ops_ro' rfl (ro_assign rfl) rfl ?_
      refine ops_ro' rfl (ro_assign rfl) rfl ?_
      refine ops_nil ?_
      refine Then_normal ?_
      refine wp_ret' ?_
      refine' doneS_ret (res2 rfl rfl rfl) ?_ ?_
      rotate_left 1
      exact ⟨_, ⟨by rw [if_neg (by rw [hc16]; decide)], rfl⟩, rfl⟩
      exact SubH.refl _
def dirO : Option Nd → Bool
  | none => false
  | some x => x.dir
theorem dir_spec {V : HProp} {t : Tr} (hT : Tv V t) (id : Int) : Tri Try.prog 42 [t.v, .int .i64 id] [V] (fun v H' => ∃ K, (v = .bool (dirO (byId t.ns id)) ∧ K = []) ∧ H' = K ++ [V]) := by
  cases hb : byId t.ns id with
  | none =>
    refine tri_of_wpS Try.func42 rfl Try.ntmps42 (by simp) ?_
    refine wp_seq' ?_
    refine wp_region' ?_
    refine ops_ro' rfl (ro_assign rfl) rfl ?_
    refine ops_nil ?_
    refine Then_normal ?_
    refine wp_seq' ?_
    refine wp_region' ?_
    refine ops_ro' rfl (ro_move rfl) rfl ?_
    refine ops_ro' rfl (ro_nilCheck rfl) rfl ?_
    refine ops_ro' rfl (ro_fieldAddr fa78_1 rfl) rfl ?_
    refine ops_ro' rfl (ro_load sc75 rfl (Rd.pick 0 rfl (hT.cs 1 _ rfl))) rfl ?_
    refine ops_ro' rfl (ro_move rfl) rfl ?_
    refine ops_ro' rfl (ro_lookup Try.underlying75 Try.underlying3 z76 rfl rfl (Mp.pick 0 rfl hT.mp)) rfl ?_
    rw [mget_ns, hb]
    dsimp only [ptrO, Option.map]
    refine ops_ro' rfl (ro_assign rfl) rfl ?_
    refine ops_nil ?_
    refine Then_normal ?_
    refine wp_seq' ?_
    refine wp_region' ?_
    refine ops_ro' rfl (ro_move rfl) rfl ?_
    refine ops_ro' rfl (ro_ptrNeqNil Try.underlying76 rfl rfl rfl) rfl ?_
    refine ops_ro' rfl (ro_move (v := .bool false) rfl) rfl ?_
    refine ops_skip' rfl rfl ?_
    refine ops_skip' rfl rfl ?_
    refine ops_skip' rfl rfl ?_
    refine ops_skip' rfl rfl ?_
    refine ops_ro' rfl (ro_pick rfl rfl) rfl ?_
    refine ops_ro' rfl (ro_assign rfl) rfl ?_
    refine ops_nil ?_
    refine Then_normal ?_
    refine wp_ret' ?_
    refine' doneS_ret (res1 rfl rfl) ?_ ?_
    rotate_left 1
    exact ⟨_, ⟨rfl, rfl⟩, rfl⟩
    exact SubH.refl _
  | some x =>
    have hx := (byId_some hb).1
    refine tri_of_wpS Try.func42 rfl Try.ntmps42 (by simp) ?_
    refine wp_seq' ?_
    refine wp_region' ?_
    refine ops_ro' rfl (ro_assign rfl) rfl ?_
    refine ops_nil ?_
    refine Then_normal ?_
    refine wp_seq' ?_
    refine wp_region' ?_
    refine ops_ro' rfl (ro_move rfl) rfl ?_
    refine ops_ro' rfl (ro_nilCheck rfl) rfl ?_
    refine ops_ro' rfl (ro_fieldAddr fa78_1 rfl) rfl ?_
    refine ops_ro' rfl (ro_load sc75 rfl (Rd.pick 0 rfl (hT.cs 1 _ rfl))) rfl ?_
    refine ops_ro' rfl (ro_move rfl) rfl ?_
    refine ops_ro' rfl (ro_lookup Try.underlying75 Try.underlying3 z76 rfl rfl (Mp.pick 0 rfl hT.mp)) rfl ?_
    rw [mget_ns, hb]
    dsimp only [ptrO, Option.map]
    refine ops_ro' rfl (ro_assign rfl) rfl ?_
    refine ops_nil ?_
    refine Then_normal ?_
    refine wp_seq' ?_
    refine wp_region' ?_
    refine ops_ro' rfl (ro_move rfl) rfl ?_
    refine ops_ro' rfl (ro_ptrNeqNil Try.underlying76 rfl rfl rfl) rfl ?_
    refine ops_ro' rfl (ro_move (v := .bool true) rfl) rfl ?_
    refine ops_ro' rfl (ro_move rfl) rfl ?_
    refine ops_ro' rfl (ro_nilCheck rfl) rfl ?_
    refine ops_ro' rfl (ro_fieldAddr fa85_1 rfl) rfl ?_
    refine ops_ro' rfl (ro_load sc4 rfl (Rd.pick 0 rfl (hT.nd x hx 1 _ rfl))) rfl ?_
    refine ops_ro' rfl (ro_pick rfl rfl) rfl ?_
    refine ops_ro' rfl (ro_assign rfl) rfl ?_
    refine ops_nil ?_
    refine Then_normal ?_
    refine wp_ret' ?_
    refine' doneS_ret (res1 rfl rfl) ?_ ?_
    rotate_left 1
    exact ⟨_, ⟨rfl, rfl⟩, rfl⟩
    exact SubH.refl _


theorem nd_at {V : HProp} {x : Nd} (h : RdN V x.blk 0 x.cs) : RdN V x.blk (0 + 5) x.a.cs := fun j v hj => by
  have := h (5 + j) v (by rw [Nd.cs, List.getElem?_append_right (by simp)]; simpa using hj)
  rw [Nat.zero_add] at this ⊢; exact this
def Nd.told (x : Nd) : At := { x.a with s := x.data.length }
theorem told_spec {V : HProp} {t : Tr} (hT : Tv V t) (x : Nd) (hx : x ∈ t.ns) (hl : x.data.length ≤ 100000000) : Tri Try.prog 41 [.pointer (some ⟨x.blk, 0, none⟩)] [V] (fun v H' => ∃ K, (v = x.told.v ∧ K = []) ∧ H' = K ++ [V]) := by
  refine tri_of_wpS Try.func41 rfl Try.ntmps41 (by simp) ?_
  refine wp_seq' ?_
  refine wp_region' ?_
  refine ops_eff' rfl (eff_alloc z40) rfl ?_
  rintro _ _ ⟨b2, rfl, rfl⟩
  refine ops_nil ?_
  refine Then_normal ?_
  refine wp_seq' ?_
  refine wp_region' ?_
  refine ops_ro' rfl (ro_move rfl) rfl ?_
  refine ops_ro' rfl (ro_nilCheck rfl) rfl ?_
  refine ops_ro' rfl (ro_fieldAddr fa85_5 rfl) rfl ?_
  refine ops_ro' rfl (ro_loadA ag40 rfl (RdN.of_pick 1 rfl ((nd_at (hT.nd x hx)))) rfl) rfl ?_
  refine ops_eff' rfl (eff_alloc z40) rfl ?_
  rintro _ _ ⟨b3, rfl, rfl⟩
  refine ops_eff0 rfl (eff_storeA 0 ag40 rfl rfl rfl rfl rfl (Nat.le_of_ble_eq_true rfl) (warm_zero _)) rfl ?_
  rintro _ _ rfl
  refine ops_nil ?_
  refine Then_normal ?_
  refine wp_seq' ?_
  refine wp_region' ?_
  refine ops_ro' rfl (ro_move rfl) rfl ?_
  refine ops_ro' rfl (ro_nilCheck rfl) rfl ?_
  refine ops_ro' rfl (ro_fieldAddr fa85_4 rfl) rfl ?_
  refine ops_ro' rfl (ro_load sc30 rfl (Rd.pick 2 rfl ((hT.nd x hx 4 _ rfl)))) rfl ?_
  refine ops_ro' rfl (ro_sliceLen Try.underlying30 rfl) rfl ?_
  refine ops_ro' rfl (ro_conv Try.underlying3 Try.underlying34 rfl (wrap_u64_in (by omega) (by omega))) rfl ?_
  refine ops_ro' rfl (ro_fieldAddr fa40_1 rfl) rfl ?_
  refine ops_eff0 rfl (eff_store 0 sc34 rfl rfl rfl rfl (Nat.le_of_ble_eq_true rfl) (warm_zero _)) rfl ?_
  rintro _ _ rfl
  simp only [List.set_cons_zero, List.set_cons_succ]
  refine ops_nil ?_
  refine Then_normal ?_
  refine wp_seq' ?_
  refine wp_region' ?_
  refine ops_ro' rfl (ro_loadA ag40 rfl (RdN.of_pick 0 rfl rdn_all) rfl) rfl ?_
  refine ops_eff0 rfl (eff_storeA 1 ag40 rfl rfl rfl rfl rfl (Nat.le_of_ble_eq_true rfl) (warm_zero _)) rfl ?_
  rintro _ _ rfl
  refine ops_nil ?_
  refine Then_normal ?_
  refine wp_ret' ?_
  refine' doneS_ret (resv1 rfl (rv_cellA ag40 rfl (by first | exact RdN.of_pick 0 rfl rdn_all | exact RdN.of_pick 1 rfl rdn_all | exact RdN.of_pick 2 rfl rdn_all | exact RdN.of_pick 3 rfl rdn_all) rfl)) ?_ ?_
  rotate_left 1
  exact ⟨_, ⟨rfl, rfl⟩, rfl⟩
  exact (SubH.cons 2 rfl (SubH.nil _))
def attO : Option Nd → At × Int
  | none => (At.zero, 22)
  | some x => (x.told, 0)
theorem attrs_spec {V : HProp} {t : Tr} (hT : Tv V t) (id : Int) (hl : ∀ x ∈ t.ns, x.data.length ≤ 100000000) : Tri Try.prog 17 [t.v, .int .i64 id] [V] (fun v H' => ∃ K, (v = .tuple #[(attO (byId t.ns id)).1.v, .int .i64 (attO (byId t.ns id)).2] ∧ K = []) ∧ H' = K ++ [V]) := by
  cases hb : byId t.ns id with
  | none =>
    refine tri_of_wpS Try.func17 rfl Try.ntmps17 (by simp) ?_
    refine wp_seq' ?_
    refine wp_region' ?_
    refine ops_eff' rfl (eff_alloc z40) rfl ?_
    rintro _ _ ⟨b4, rfl, rfl⟩
    refine ops_ro' rfl (ro_assign rfl) rfl ?_
    refine ops_nil ?_
    refine Then_normal ?_
    refine wp_seq' ?_
    refine wp_region' ?_
    refine ops_ro' rfl (ro_move rfl) rfl ?_
    refine ops_ro' rfl (ro_nilCheck rfl) rfl ?_
    refine ops_ro' rfl (ro_fieldAddr fa78_1 rfl) rfl ?_
    refine ops_ro' rfl (ro_load sc75 rfl (Rd.pick 1 rfl ((hT.cs 1 _ rfl)))) rfl ?_
    refine ops_ro' rfl (ro_move rfl) rfl ?_
    refine ops_ro' rfl (ro_lookup Try.underlying75 Try.underlying3 z76 rfl rfl (Mp.pick 1 rfl hT.mp)) rfl ?_
    rw [mget_ns, hb]
    dsimp only [ptrO, Option.map]
    refine ops_ro' rfl (ro_assign rfl) rfl ?_
    refine ops_nil ?_
    refine Then_normal ?_
    refine wp_seq' ?_
    refine wp_seq' ?_
    refine wp_region' ?_
    refine ops_ro' rfl (ro_move rfl) rfl ?_
    refine ops_ro' rfl (ro_ptrEqlNil Try.underlying76 rfl rfl rfl) rfl ?_
    refine ops_nil ?_
    refine Then_normal ?_
    refine wp_condT rfl ?_
    refine wp_seq' ?_
    refine wp_region' ?_
    refine ops_ro' rfl (ro_build rfl (bld_struct (cs := [_, _, _, _, _, _, _]) st40 rfl)) rfl ?_
    refine ops_eff0 rfl (eff_storeA 0 ag40 rfl rfl rfl rfl rfl (Nat.le_of_ble_eq_true rfl) (warm_zero _)) rfl ?_
    rintro _ _ rfl
    refine ops_ro' rfl (ro_assign rfl) rfl ?_
    refine ops_nil ?_
    refine Then_normal ?_
    refine wp_ret' ?_
    refine Then_ret ?_
    refine' doneS_ret (resv2 rfl (rv_cellA ag40 rfl (by first | exact RdN.of_pick 0 rfl rdn_all | exact RdN.of_pick 1 rfl rdn_all | exact RdN.of_pick 2 rfl rdn_all | exact RdN.of_pick 3 rfl rdn_all) rfl) (rv_tmp rfl)) ?_ ?_
    rotate_left 1
    exact ⟨_, ⟨rfl, rfl⟩, rfl⟩
    exact (SubH.cons 1 rfl (SubH.nil _))
  | some x =>
    have hx := (byId_some hb).1
    have hxl := hl x hx
    refine tri_of_wpS Try.func17 rfl Try.ntmps17 (by simp) ?_
    refine wp_seq' ?_
    refine wp_region' ?_
    refine ops_eff' rfl (eff_alloc z40) rfl ?_
    rintro _ _ ⟨b4, rfl, rfl⟩
    refine ops_ro' rfl (ro_assign rfl) rfl ?_
    refine ops_nil ?_
    refine Then_normal ?_
    refine wp_seq' ?_
    refine wp_region' ?_
    refine ops_ro' rfl (ro_move rfl) rfl ?_
    refine ops_ro' rfl (ro_nilCheck rfl) rfl ?_
    refine ops_ro' rfl (ro_fieldAddr fa78_1 rfl) rfl ?_
    refine ops_ro' rfl (ro_load sc75 rfl (Rd.pick 1 rfl ((hT.cs 1 _ rfl)))) rfl ?_
    refine ops_ro' rfl (ro_move rfl) rfl ?_
    refine ops_ro' rfl (ro_lookup Try.underlying75 Try.underlying3 z76 rfl rfl (Mp.pick 1 rfl hT.mp)) rfl ?_
    rw [mget_ns, hb]
    dsimp only [ptrO, Option.map]
    refine ops_ro' rfl (ro_assign rfl) rfl ?_
    refine ops_nil ?_
    refine Then_normal ?_
    refine wp_seq' ?_
    refine wp_seq' ?_
    refine wp_region' ?_
    refine ops_ro' rfl (ro_move rfl) rfl ?_
    refine ops_ro' rfl (ro_ptrEqlNil Try.underlying76 rfl rfl rfl) rfl ?_
    refine ops_nil ?_
    refine Then_normal ?_
    refine wp_condF rfl ?_
    refine wp_skip' ?_
    refine Then_normal ?_
    refine wp_seq' ?_
    refine wp_region' ?_
    refine ops_ro' rfl (ro_move rfl) rfl ?_
    refine ops_eff' rfl (eff_callM (Pre := []) Try.call41 rfl rfl (Split.nil _) (told_spec (Tv.pick 1 rfl hT) x hx (by omega))) rfl ?_
    rintro _ H' ⟨_, ⟨rfl, rfl⟩, hH⟩
    simp only [List.cons_append, List.nil_append, List.eraseIdx_cons_zero, List.eraseIdx_cons_succ, List.set_cons_zero, List.set_cons_succ] at hH
    subst hH
    refine ops_eff0 rfl (eff_storeA 0 ag40 rfl rfl rfl rfl rfl (Nat.le_of_ble_eq_true rfl) (warm_zero _)) rfl ?_
    rintro _ _ rfl
    refine ops_ro' rfl (ro_assign rfl) rfl ?_
    refine ops_nil ?_
    refine Then_normal ?_
    refine wp_ret' ?_
    refine' doneS_ret (resv2 rfl (rv_cellA ag40 rfl (by first | exact RdN.of_pick 0 rfl rdn_all | exact RdN.of_pick 1 rfl rdn_all | exact RdN.of_pick 2 rfl rdn_all | exact RdN.of_pick 3 rfl rdn_all) rfl) (rv_tmp rfl)) ?_ ?_
    rotate_left 1
    exact ⟨_, ⟨rfl, rfl⟩, rfl⟩
    exact (SubH.cons 1 rfl (SubH.nil _))


theorem fileO_cases (o : Option Nd) : (∃ e, fileO o = (none, e) ∧ e ≠ 0) ∨ ∃ x, o = some x ∧ x.dir = false ∧ fileO o = (some x, 0) := by
  cases o with
  | none => exact .inl ⟨22, rfl, by decide⟩
  | some x =>
    by_cases h : x.dir = true
    · exact .inl ⟨23, by simp [fileO, h], by decide⟩
    · have h' : x.dir = false := by simpa using h
      exact .inr ⟨x, rfl, h', by simp [fileO, h']⟩
def readX (x : Nd) (a n : Nat) : List UInt8 × Int := if x.data.length ≤ a then ([], 10) else ((x.data.drop a).take (min (x.data.drop a).length (min n 32768)), 0)
def readO (o : Option Nd) (a n : Nat) : List UInt8 × Int := match fileO o with
  | (none, e) => ([], e)
  | (some x, _) => readX x a n
theorem read_spec {V : HProp} {t : Tr} (hT : Tv V t) (id : Int) (at' : Nat) (ha : at' < 18446744073709551616) (n : Nat) (hn : n < 4294967296) (hl : ∀ x ∈ t.ns, x.data.length ≤ 100000000) : Tri Try.prog 15 [t.v, .int .i64 id, .int .u64 (at' : Int), .int .u32 (n : Int)] [V]
    (fun v H' => ∃ K, (∃ p c, v = .tuple #[.slice p (readO (byId t.ns id) at' n).1.length c, .int .i64 (readO (byId t.ns id) at' n).2] ∧ K = [rowD p c (readO (byId t.ns id) at' n).1]) ∧ H' = K ++ [V]) := by
  rcases fileO_cases (byId t.ns id) with ⟨e, hf, he⟩ | ⟨x, hb, hd, hf⟩
  · have h1 : readO (byId t.ns id) at' n = ([], e) := by unfold readO; rw [hf]
    rw [h1]
    refine tri_of_wpS Try.func15 rfl Try.ntmps15 (by simp) ?_
    refine wp_seq' ?_
    refine wp_region' ?_
    refine ops_ro' rfl (ro_assign rfl) rfl ?_
    refine ops_ro' rfl (ro_assign rfl) rfl ?_
    refine ops_nil ?_
    refine Then_normal ?_
    refine wp_seq' ?_
    refine wp_region' ?_
    refine ops_ro' rfl (ro_move rfl) rfl ?_
    refine ops_ro' rfl (ro_move rfl) rfl ?_
    refine ops_eff' rfl (eff_call Try.call38 rfl rfl (by repeat (first | exact Split.nil _ | apply Split.cons 0 rfl | apply Split.cons 1 rfl | apply Split.cons 2 rfl | apply Split.cons 3 rfl | apply Split.cons 4 rfl | apply Split.cons 5 rfl | apply Split.cons 6 rfl | apply Split.cons 7 rfl | apply Split.cons 8 rfl | apply Split.cons 9 rfl | apply Split.cons 10 rfl | apply Split.cons 11 rfl)) (file_spec hT id)) rfl ?_
    rintro _ H' ⟨_, ⟨_, ⟨rfl, rfl⟩, rfl⟩, hH⟩
    simp only [List.cons_append, List.nil_append, List.eraseIdx_cons_zero, List.eraseIdx_cons_succ, List.set_cons_zero, List.set_cons_succ] at hH
    subst hH
    rw [hf]
    dsimp only [ptrO, Option.map]
    refine ops_ro' rfl (ro_move rfl) rfl ?_
    refine ops_ro' rfl (ro_extract rfl rfl) rfl ?_
    refine ops_ro' rfl (ro_extract rfl rfl) rfl ?_
    refine ops_ro' rfl (ro_assign rfl) rfl ?_
    refine ops_ro' rfl (ro_assign rfl) rfl ?_
    refine ops_nil ?_
    refine Then_normal ?_
    refine wp_seq' ?_
    refine wp_block' ?_
    refine wp_seq' ?_
    refine wp_region' ?_
    refine ops_ro' rfl (ro_move rfl) rfl ?_
    refine ops_ro' rfl (ro_neq rfl rfl (decide_eq_true (by omega))) rfl ?_
    refine ops_ro' rfl (ro_assign rfl) rfl ?_
    refine ops_nil ?_
    refine Then_normal ?_
    refine wp_condT rfl ?_
    refine wp_seq' ?_
    refine wp_heap (fun w F s => nil_row 5 1 w F s) ?_
    refine wp_region' ?_
    refine ops_ro' rfl (ro_move rfl) rfl ?_
    refine ops_ro' rfl (ro_assign rfl) rfl ?_
    refine ops_ro' rfl (ro_assign rfl) rfl ?_
    refine ops_nil ?_
    refine Then_normal ?_
    refine wp_ret' ?_
    refine InBlock_ret ?_
    refine Then_ret ?_
    refine' doneS_ret (res2 rfl rfl rfl) ?_ ?_
    rotate_left 1
    exact ⟨_, ⟨none, 0, rfl, rfl⟩, rfl⟩
    exact SubH.refl _
  · have h1 : readO (byId t.ns id) at' n = readX x at' n := by unfold readO; rw [hf]
    rw [h1]
    have hx := (byId_some hb).1
    have hxl := hl x hx
    unfold readX
    refine tri_of_wpS Try.func15 rfl Try.ntmps15 (by simp) ?_
    refine wp_seq' ?_
    refine wp_region' ?_
    refine ops_ro' rfl (ro_assign rfl) rfl ?_
    refine ops_ro' rfl (ro_assign rfl) rfl ?_
    refine ops_nil ?_
    refine Then_normal ?_
    refine wp_seq' ?_
    refine wp_region' ?_
    refine ops_ro' rfl (ro_move rfl) rfl ?_
    refine ops_ro' rfl (ro_move rfl) rfl ?_
    refine ops_eff' rfl (eff_call Try.call38 rfl rfl (by repeat (first | exact Split.nil _ | apply Split.cons 0 rfl | apply Split.cons 1 rfl | apply Split.cons 2 rfl | apply Split.cons 3 rfl | apply Split.cons 4 rfl | apply Split.cons 5 rfl | apply Split.cons 6 rfl | apply Split.cons 7 rfl | apply Split.cons 8 rfl | apply Split.cons 9 rfl | apply Split.cons 10 rfl | apply Split.cons 11 rfl)) (file_spec hT id)) rfl ?_
    rintro _ H' ⟨_, ⟨_, ⟨rfl, rfl⟩, rfl⟩, hH⟩
    simp only [List.cons_append, List.nil_append, List.eraseIdx_cons_zero, List.eraseIdx_cons_succ, List.set_cons_zero, List.set_cons_succ] at hH
    subst hH
    rw [hf]
    dsimp only [ptrO, Option.map]
    refine ops_ro' rfl (ro_move rfl) rfl ?_
    refine ops_ro' rfl (ro_extract rfl rfl) rfl ?_
    refine ops_ro' rfl (ro_extract rfl rfl) rfl ?_
    refine ops_ro' rfl (ro_assign rfl) rfl ?_
    refine ops_ro' rfl (ro_assign rfl) rfl ?_
    refine ops_nil ?_
    refine Then_normal ?_
    refine wp_seq' ?_
    refine wp_block' ?_
    refine wp_seq' ?_
    refine wp_region' ?_
    refine ops_ro' rfl (ro_move rfl) rfl ?_
    refine ops_ro' rfl (ro_neq rfl rfl (decide_eq_false (by omega))) rfl ?_
    refine ops_ro' rfl (ro_assign rfl) rfl ?_
    refine ops_nil ?_
    refine Then_normal ?_
    refine wp_condF rfl ?_
    refine wp_seq' ?_
    refine wp_region' ?_
    refine ops_ro' rfl (ro_move rfl) rfl ?_
    refine ops_ro' rfl (ro_move rfl) rfl ?_
    refine ops_ro' rfl (ro_nilCheck rfl) rfl ?_
    refine ops_ro' rfl (ro_fieldAddr fa85_4 rfl) rfl ?_
    refine ops_ro' rfl (ro_load sc30 rfl (Rd.pick 0 rfl ((hT.nd x hx 4 _ rfl)))) rfl ?_
    refine ops_ro' rfl (ro_sliceLen Try.underlying30 rfl) rfl ?_
    refine ops_ro' rfl (ro_conv Try.underlying3 Try.underlying34 rfl (wrap_u64_in (by omega) (by omega))) rfl ?_
    refine ops_ro' rfl (ro_geq rfl rfl rfl) rfl ?_
    refine ops_ro' rfl (ro_assign rfl) rfl ?_
    refine ops_nil ?_
    refine Then_normal ?_
    refine wp_cond' rfl (fun hc23 => ?_) (fun hc23 => ?_)
    · replace hc23 := of_decide_eq_true hc23
      refine wp_seq' ?_
      refine wp_heap (fun w F s => nil_row 5 1 w F s) ?_
      refine wp_region' ?_
      refine ops_ro' rfl (ro_assign rfl) rfl ?_
      refine ops_ro' rfl (ro_assign rfl) rfl ?_
      refine ops_nil ?_
      refine Then_normal ?_
      refine wp_ret' ?_
      refine InBlock_ret ?_
      refine Then_ret ?_
      refine' doneS_ret (res2 rfl rfl rfl) ?_ ?_
      rotate_left 1
      exact ⟨_, ⟨none, 0, by rw [if_pos (by omega)] <;> rfl, by rw [if_pos (by omega)] <;> rfl⟩, rfl⟩
      exact SubH.refl _
    · replace hc23 := of_decide_eq_false hc23
      refine wp_skip' ?_
      refine InBlock_normal ?_
      refine Then_normal ?_
      refine wp_seq' ?_
      refine wp_know (fun w F s => hT.caps w F (by rwa [St_cons, St_nil, star_emp] at s) x hx) ?_
      intro hcx
      refine wp_region' ?_
      refine ops_ro' rfl (ro_move rfl) rfl ?_
      refine ops_ro' rfl (ro_nilCheck rfl) rfl ?_
      refine ops_ro' rfl (ro_fieldAddr fa85_4 rfl) rfl ?_
      refine ops_ro' rfl (ro_load sc30 rfl (Rd.pick 0 rfl ((hT.nd x hx 4 _ rfl)))) rfl ?_
      refine ops_ro' rfl (ro_move rfl) rfl ?_
      refine ops_eff' rfl (eff_sliceB 0 rfl sl30 rfl ((hT.data x hx)) (bnd_of rfl rfl) rfl (by omega) (by omega) hcx) rfl ?_
      rintro _ _ ⟨p37, rfl, hv37, hn37, rfl⟩
      have hda : List.take (x.data.length - at') (List.drop at' x.data) = x.data.drop at' := List.take_of_length_le (by simp)
      rw [hda] at hv37 ⊢
      have hll : (x.data.drop at').length = x.data.length - at' := List.length_drop
      refine ops_ro' rfl (ro_assign rfl) rfl ?_
      refine ops_nil ?_
      refine Then_normal ?_
      refine wp_seq' ?_
      refine wp_region' ?_
      refine ops_ro' rfl (ro_move rfl) rfl ?_
      refine ops_ro' rfl (ro_move rfl) rfl ?_
      refine ops_ro' rfl (ro_sliceLen Try.underlying30 rfl) rfl ?_
      refine ops_ro' rfl (ro_move rfl) rfl ?_
      refine ops_ro' rfl (ro_min rfl rfl (show (if (32768 : Int) < ((n : Nat) : Int) then (32768 : Int) else ((n : Nat) : Int)) = ((min n 32768 : Nat) : Int) by split <;> omega)) rfl ?_
      refine ops_ro' rfl (ro_conv Try.underlying37 Try.underlying3 rfl (wrap_natN (by omega))) rfl ?_
      refine ops_ro' rfl (ro_min rfl rfl (show (if ((min n 32768 : Nat) : Int) < (((x.data.drop at').length : Nat) : Int) then ((min n 32768 : Nat) : Int) else (((x.data.drop at').length : Nat) : Int)) = ((min (x.data.drop at').length (min n 32768) : Nat) : Int) by split <;> omega)) rfl ?_
      refine ops_eff' rfl (eff_sliceB 0 rfl sl30 rfl (hv37) rfl (bnd_of rfl rfl) (by omega) (by omega) (by omega)) rfl ?_
      rintro _ _ ⟨p45, rfl, hv45, hn45, rfl⟩
      rw [Nat.sub_zero, List.drop_zero] at hv45 ⊢
      refine ops_eff' rfl (eff_call Try.call40 rfl rfl (by repeat (first | exact Split.nil _ | apply Split.cons 0 rfl | apply Split.cons 1 rfl | apply Split.cons 2 rfl | apply Split.cons 3 rfl | apply Split.cons 4 rfl | apply Split.cons 5 rfl | apply Split.cons 6 rfl | apply Split.cons 7 rfl | apply Split.cons 8 rfl | apply Split.cons 9 rfl | apply Split.cons 10 rfl | apply Split.cons 11 rfl)) (clone_spec V p45 _ _ (cel ((x.data.drop at').take (min (x.data.drop at').length (min n 32768)))) hv45 (cel_length _) (cel_one _) (by rw [List.length_take]; omega))) rfl ?_
      rintro _ H' ⟨_, ⟨p', c', rfl, hp, rfl⟩, hH⟩
      simp only [List.cons_append, List.nil_append, List.eraseIdx_cons_zero, List.eraseIdx_cons_succ, List.set_cons_zero, List.set_cons_succ] at hH
      subst hH
      refine ops_ro' rfl (ro_assign rfl) rfl ?_
      refine ops_ro' rfl (ro_assign rfl) rfl ?_
      refine ops_nil ?_
      refine Then_normal ?_
      refine wp_ret' ?_
      refine' doneS_ret (res2 rfl rfl rfl) ?_ ?_
      rotate_left 1
      exact ⟨_, ⟨p', c', by rw [if_neg (by omega)], by rw [if_neg (by omega)]⟩, rfl⟩
      exact SubH.refl _

end Go.Proofs.Ytbbmhppkhcodfaa
