/-
  What a thing is that was renamed: plain laws.
  Things that stand by themselves: plain laws.
  The reader of package wire: states that are all right; texts.
  Numbers as bytes: plain laws.
  Plain laws of readers: what stands there is read; what was read stood there.
  Within, Roomy, Intact, Same.
  What was saved is read again: plain laws.
-/
import Derived.Test.YtlefpllcgcicpaaGreatDoorTrE1
import Derived.Test.YtlefpllcgcicpaaGreatDoorTrTb
import Derived.Test.YtlefpllcgcicpaaGreatDoorSxSub
import Derived.Test.YtlefpllcgcicpaaGreatDoorRead
import Derived.Test.YtlefpllcgcicpaaGreatDoorTrJ
namespace Go.Proofs.YtlefpllcgcicpaaGreatDoor
open Go.Sx
set_option linter.unusedVariables false
set_option linter.unusedSimpArgs false
set_option maxRecDepth 100000
set_option maxHeartbeats 4000000

theorem make_nx {t : Tr} {r : Nd} {p : List (List UInt8)} {dir : Bool} {t' : Tr} {r' : Nd} {i e : Int} (hR : MakeR t r p dir t' r' i e) : t'.next ≤ t.next + 1 ∧ t'.tb = t.tb := by
  rcases hR with ⟨rfl, _⟩ | ⟨_, x, hh, _, _, _, b, kp, kc, _, rfl, _⟩
  · exact ⟨by omega, rfl⟩
  · exact ⟨Nat.le_refl _, rfl⟩
def Co.nm (c : Co) : Nm := ⟨c.name, { c.a with s := c.data.length }⟩
/-- what is so when a thing was renamed -/
structure RenF (t : Tr) (r : Nd) (fr tq : List (List UInt8)) (t' : Tr) (r' : Nd) (x : Nd) : Prop where
  l1 : lookO (fnd t.ns r fr) = ((x.id : Int), 0)
  l2 : lookO (fnd t.ns r tq) = (0, 22)
  l3 : lookO (fnd t'.ns r' tq) = ((x.id : Int), 0)
  l4 : lookO (fnd t'.ns r' fr) = (0, 22)
  att : attO (byId t'.ns x.id) = attO (byId t.ns x.id)
  lst : listO t'.ns (byId t'.ns x.id) = listO t.ns (byId t.ns x.id)
  back : renE t'.ns r' tq fr = 0
  same : ∀ t2 r2 e, RenR t' r' tq fr t2 r2 e → e = 0 → SameC t2.ns t.ns ∧ t2.next = t.next
end Go.Proofs.YtlefpllcgcicpaaGreatDoor
namespace Go.Proofs.YtlefpllcgcicpaaGreatDoor
open Go.Sx
set_option linter.unusedVariables false
set_option linter.unusedSimpArgs false
set_option maxRecDepth 100000
set_option maxHeartbeats 4000000

/-- A stands by itself, next to ns: x and what is below it -/
structure Sb (ns A : List Nd) (x : Nd) (par : Int) (nm : List UInt8) (nx : Int) : Prop where
  kd : Kd A
  root : x ∈ A
  xpar : x.par = par
  xname : x.name = nm
  ids : ((ns ++ A).map Nd.id).Nodup
  blks : ((ns ++ A).map Nd.blk).Nodup
  out : par = -1 ∨ ∃ w ∈ ns, par = w.id
  lt : ∀ u ∈ A, (u.id : Int) < nx
  par : ∀ u ∈ A, u = x ∨ ∃ v ∈ A, u.par = v.id ∧ v.dir = true
  nm : ∀ u ∈ A, u = x ∨ ptOk u.name = true
  rk : ∃ d : Nat → Nat, d x.id = 0 ∧ ∀ u ∈ A, ∀ v ∈ A, v.par = (u.id : Int) → d v.id = d u.id + 1
  dat : ∀ u ∈ A, u.dir = true → u.data = []
  a : ∀ u ∈ A, u.a.Ok ∧ u.a.s = 0 ∧ u.a.f = 15
def addF (kp : Option Addr) (kc : Nat) (b : Nat) (y : Nd) : Nd := { y with kp := kp, kc := kc, kids := y.kids ++ [b] }
end Go.Proofs.YtlefpllcgcicpaaGreatDoor
namespace Go.Proofs.YtlefpllcgcicpaaGreatDoor
open Go.Sx
set_option linter.unusedVariables false
set_option linter.unusedSimpArgs false
set_option maxRecDepth 100000
set_option maxHeartbeats 4000000

structure R.Good (r : R) : Prop where
  len : r.b.length ≤ 140737488355328
  pos : r.pos ≤ r.b.length
/-- a text that is not longer than most -/
def R.text (r : R) (most : Int) : R × List UInt8 :=
  (if (if 0 > most then 0 else most) < ((r.get 4).2 : Int) then (r.get 4).1.refuse 3 r.pos else (r.get 4).1).take ((r.get 4).2 : Nat)
end Go.Proofs.YtlefpllcgcicpaaGreatDoor
namespace Go.Proofs.YtlefpllcgcicpaaGreatDoor
open Go.Sx
set_option linter.unusedVariables false
set_option linter.unusedSimpArgs false
set_option maxRecDepth 100000
end Go.Proofs.YtlefpllcgcicpaaGreatDoor
namespace Go.Proofs.YtlefpllcgcicpaaGreatDoor
open Go.Sx
set_option linter.unusedVariables false
set_option linter.unusedSimpArgs false
set_option maxRecDepth 100000
set_option maxHeartbeats 4000000

def R.adv (q : R) (n : Nat) : R := { q with pos := q.pos + n }
/-- nothing was refused, and this is left -/
structure Here (q : R) (l : List UInt8) : Prop where
  why : q.why = 0
  pos : q.pos ≤ q.b.length
  at' : q.b.drop q.pos = l
theorem Here.new (l : List UInt8) : Here (R.new l) l := ⟨rfl, Nat.zero_le _, rfl⟩
theorem Here.len {q : R} {l : List UInt8} (h : Here q l) : q.pos + l.length = q.b.length := by rw [← h.at', List.length_drop]; have := h.pos; omega
theorem Here.adv {q : R} {x l : List UInt8} (h : Here q (x ++ l)) {n : Nat} (hn : n = x.length) : Here (q.adv n) l := ⟨h.why, by
  have := h.len; rw [List.length_append] at this
  show q.pos + n ≤ q.b.length; omega, by
  show q.b.drop (q.pos + n) = l
  rw [← List.drop_drop, h.at', hn, List.drop_left]⟩
/-- x was read between r and q -/
structure Reads (r q : R) (x : List UInt8) : Prop where
  why : r.why = 0
  b : q.b = r.b
  pos : q.pos ≤ r.b.length
  x : r.b.take q.pos = r.b.take r.pos ++ x
theorem Reads.refl {r : R} (h : r.why = 0) (hp : r.pos ≤ r.b.length) : Reads r r [] := ⟨h, rfl, hp, by simp⟩
theorem Reads.trans {r q s : R} {x y : List UInt8} (h1 : Reads r q x) (h2 : Reads q s y) : Reads r s (x ++ y) := ⟨h1.why, h2.b.trans h1.b, by have := h2.pos; rwa [h1.b] at this, by
  have h := h2.x
  rw [h1.b, h1.x, List.append_assoc] at h; exact h⟩
end Go.Proofs.YtlefpllcgcicpaaGreatDoor
namespace Go.Proofs.YtlefpllcgcicpaaGreatDoor
open Go.Sx
set_option linter.unusedVariables false
set_option linter.unusedSimpArgs false
set_option maxRecDepth 100000
set_option maxHeartbeats 4000000

theorem tmod_pos (a k : Int) (hk : 0 < k) (h : 0 ≤ a.tmod k) : a.tmod k = a % k := by
  rw [Int.tmod_eq_emod] at h ⊢
  split at h <;> rename_i hc
  · rw [if_pos hc]; omega
  · rw [if_neg hc]
    have hb := Int.emod_lt_of_pos a hk
    omega
theorem tmod_neg (a k : Int) (hk : 0 < k) (h : a.tmod k < 0) : a.tmod k + k = a % k := by
  rw [Int.tmod_eq_emod] at h ⊢
  have hb := Int.emod_nonneg a (show k ≠ 0 by omega)
  split at h <;> rename_i hc
  · omega
  · rw [if_neg hc]; omega
theorem within_spec (a lo hi : Int) (h0 : 0 ≤ lo) (h1 : lo ≤ hi) (h2 : hi ≤ 4611686018427387904) : Tri Tryz.prog 13 [.int .i64 a, .int .i64 lo, .int .i64 hi] [] (fun v H' => v = .int .i64 (lo + a % (hi - lo + 1)) ∧ H' = []) := by
  have hb0 := Int.emod_nonneg a (show hi - lo + 1 ≠ 0 by omega)
  have hb1 := Int.emod_lt_of_pos a (show 0 < hi - lo + 1 by omega)
  have hb2 : (a.tmod (hi - lo + 1)).natAbs < (hi - lo + 1).natAbs := by
    have h := Int.tmod_eq_emod (a := a) (b := hi - lo + 1)
    split at h <;> omega
  refine tri_of_wpS Tryz.func13 rfl Tryz.ntmps13 (by simp) ?_
  refine wp_seq' ?_
  refine wp_region' ?_
  refine ops_ro' rfl (ro_assign rfl) rfl ?_
  refine ops_nil ?_
  refine Then_normal ?_
  refine wp_seq' ?_
  refine wp_region' ?_
  refine ops_ro' rfl (ro_move rfl) rfl ?_
  refine ops_ro' rfl (ro_move rfl) rfl ?_
  refine ops_ro' rfl (ro_move rfl) rfl ?_
  refine ops_ro' rfl (ro_sub rfl rfl (wrap_i64_in (by omega) (by omega))) rfl ?_
  refine ops_ro' rfl (ro_add rfl rfl (wrap_i64_in (by omega) (by omega))) rfl ?_
  refine ops_ro' rfl (ro_rem rfl rfl (by omega) rfl) rfl ?_
  refine ops_ro' rfl (ro_assign rfl) rfl ?_
  refine ops_nil ?_
  refine Then_normal ?_
  refine wp_seq' ?_
  refine wp_seq' ?_
  refine wp_region' ?_
  refine ops_ro' rfl (ro_move rfl) rfl ?_
  refine ops_ro' rfl (ro_lss rfl rfl rfl) rfl ?_
  refine ops_nil ?_
  refine Then_normal ?_
  refine wp_cond' rfl (fun hc14 => ?_) (fun hc14 => ?_)
  · replace hc14 := of_decide_eq_true hc14
    have ht := tmod_neg a (hi - lo + 1) (by omega) hc14
    refine wp_region' ?_
    refine ops_ro' rfl (ro_move rfl) rfl ?_
    refine ops_ro' rfl (ro_move rfl) rfl ?_
    refine ops_ro' rfl (ro_add rfl rfl (wrap_i64_in (by omega) (by omega))) rfl ?_
    refine ops_ro' rfl (ro_move rfl) rfl ?_
    refine ops_ro' rfl (ro_sub rfl rfl (wrap_i64_in (by omega) (by omega))) rfl ?_
    refine ops_ro' rfl (ro_add rfl rfl (wrap_i64_in (by omega) (by omega))) rfl ?_
    refine ops_ro' rfl (ro_assign rfl) rfl ?_
    refine ops_nil ?_
    refine Then_normal ?_
    refine wp_seq' ?_
    refine wp_region' ?_
    refine ops_ro' rfl (ro_move rfl) rfl ?_
    refine ops_ro' rfl (ro_move rfl) rfl ?_
    refine ops_ro' rfl (ro_add rfl rfl (wrap_i64_in (by omega) (by omega))) rfl ?_
    refine ops_ro' rfl (ro_assign rfl) rfl ?_
    refine ops_nil ?_
    refine Then_normal ?_
    refine wp_ret' ?_
    refine' doneS_ret (res1 rfl rfl) ?_ ?_
    rotate_left 1
    exact ⟨by congr 1; omega, rfl⟩
    exact SubH.refl _
  · replace hc14 := of_decide_eq_false hc14
    have ht := tmod_pos a (hi - lo + 1) (by omega) (by omega)
    refine wp_skip' ?_
    refine Then_normal ?_
    refine wp_seq' ?_
    refine wp_region' ?_
    refine ops_ro' rfl (ro_move rfl) rfl ?_
    refine ops_ro' rfl (ro_move rfl) rfl ?_
    refine ops_ro' rfl (ro_add rfl rfl (wrap_i64_in (by omega) (by omega))) rfl ?_
    refine ops_ro' rfl (ro_assign rfl) rfl ?_
    refine ops_nil ?_
    refine Then_normal ?_
    refine wp_ret' ?_
    refine' doneS_ret (res1 rfl rfl) ?_ ?_
    rotate_left 1
    exact ⟨by congr 1; omega, rfl⟩
    exact SubH.refl _


end Go.Proofs.YtlefpllcgcicpaaGreatDoor
namespace Go.Proofs.YtlefpllcgcicpaaGreatDoor
open Go.Sx
set_option linter.unusedVariables false
set_option linter.unusedSimpArgs false
set_option maxRecDepth 100000
set_option maxHeartbeats 4000000

/-- a thing and what is below it, in the order in which they are saved -/
def dfs (ns : List Nd) : Nat → Nd → List Nd
  | 0, _ => []
  | n + 1, x => x :: (kidsN ns x).flatMap (dfs ns n)
def szs (l : List Nd) : Nat := (l.map fun y : Nd => y.data.length).sum
/-- what a saved thing has behind its header -/
def body (ns : List Nd) (n : Nat) (x : Nd) : List UInt8 := if x.dir = true then be x.kids.length 4 ++ (kidsN ns x).flatMap (kidB ns n) else be x.data.length 4 ++ x.data
/-- a saved thing comes, and there is room for it -/
structure Fit (t0 : Tr) (r0 x0 : Nd) (n : Nat) (rest : List UInt8) (ns : List Nd) (bs : Nat) (nx : Int) (r : R) : Prop where
  wf : Wf t0 r0
  x : x0 ∈ t0.ns
  deep : Deep t0.ns (n + 1) x0
  here : Here r (encN t0.ns (n + 1) x0 ++ rest)
  nx : (t0.next : Int) ≤ nx
  nx8 : t0.next ≤ 9223372036854775807
  ids : ∀ u ∈ ns, u.id ∉ (dfs t0.ns (n + 1) x0).map Nd.id
  cnt : ns.length + (dfs t0.ns (n + 1) x0).length ≤ 200
  bs : bs + szs (dfs t0.ns (n + 1) x0) ≤ 1048576
/-- its header was read -/
structure Fit7 (t0 : Tr) (r0 x0 : Nd) (n : Nat) (rest : List UInt8) (ns : List Nd) (bs : Nat) (nx : Int) (zid : Nat) (zd : Nat) (z : At) (r : R) : Prop where
  wf : Wf t0 r0
  x : x0 ∈ t0.ns
  deep : Deep t0.ns (n + 1) x0
  here : Here r (body t0.ns n x0 ++ rest)
  nx : (t0.next : Int) ≤ nx
  nx8 : t0.next ≤ 9223372036854775807
  ids : ∀ u ∈ ns, u.id ∉ (dfs t0.ns (n + 1) x0).map Nd.id
  cnt : ns.length + (dfs t0.ns (n + 1) x0).length ≤ 200
  bs : bs + szs (dfs t0.ns (n + 1) x0) ≤ 1048576
  id : zid = x0.id
  dir : (zd ≠ 0) ↔ x0.dir = true
  a : z = { x0.a with f := 15, s := 0 }
/-- i kids were read -/
structure Lf (t0 : Tr) (r0 x0 : Nd) (n : Nat) (rest : List UInt8) (ns : List Nd) (bs0 : Nat) (nx : Int) (i : Nat) (A : List Nd) (x : Nd) (bs : Nat) (left : Nat) (r : R) : Prop where
  wf : Wf t0 r0
  xm : x0 ∈ t0.ns
  deep : Deep t0.ns (n + 1) x0
  nx : (t0.next : Int) ≤ nx
  nx8 : t0.next ≤ 9223372036854775807
  idn : ∀ u ∈ ns, u.id ∉ (dfs t0.ns (n + 1) x0).map Nd.id
  cnt : ns.length + (dfs t0.ns (n + 1) x0).length ≤ 200
  bsm : bs0 + szs (dfs t0.ns (n + 1) x0) ≤ 1048576
  left : left + i = (kidsN t0.ns x0).length
  here : Here r (((kidsN t0.ns x0).drop i).flatMap (kidB t0.ns n) ++ rest)
  ids : A.map Nd.id = (x0 :: ((kidsN t0.ns x0).take i).flatMap (dfs t0.ns n)).map Nd.id
  bs : bs = bs0 + szs (((kidsN t0.ns x0).take i).flatMap (dfs t0.ns n))
  nms : x.kids.map (nmB A) = ((kidsN t0.ns x0).take i).map Nd.name
  data : x0.data = []
  hd : hdr x = hdr x0
  dirs : x.dir = true ∧ x0.dir = true
  kl : x.kids.length = i
  enc : ∃ m, Deep A (m + 1) x ∧ (kidsN A x).flatMap (kidB A m) = ((kidsN t0.ns x0).take i).flatMap (kidB t0.ns n)
end Go.Proofs.YtlefpllcgcicpaaGreatDoor
