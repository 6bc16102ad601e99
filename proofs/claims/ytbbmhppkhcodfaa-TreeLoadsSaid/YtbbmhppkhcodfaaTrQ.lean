/-
  Law 15's asks, cut short.
-/
import Derived.Test.YtbbmhppkhcodfaaTrG
import Derived.Test.YtbbmhppkhcodfaaTxt
import Derived.Test.YtbbmhppkhcodfaaSxSub
namespace Go.Proofs.Ytbbmhppkhcodfaa
open Go.Sx
set_option linter.unusedVariables false
set_option linter.unusedSimpArgs false
set_option maxRecDepth 100000
set_option maxHeartbeats 4000000

structure Ak where
  k : Int
  id : Int
  p : List (List UInt8)
  to : List (List UInt8)
  dir : Bool
  at' : Nat
  n : Nat
  b : List UInt8
  a : At
structure Ap where
  pp : Option Addr
  pc : Nat
  tp : Option Addr
  tc : Nat
  bp : Option Addr
  bc : Nat
def Ak.cs (x : Ak) (q : Ap) : List Value := [.int .i64 x.k, .int .i64 x.id, .slice q.pp x.p.length q.pc, .slice q.tp x.to.length q.tc, .bool x.dir, .int .u64 (x.at' : Int), .int .u32 (x.n : Int), .slice q.bp x.b.length q.bc, .int .u32 x.a.f, .int .u64 x.a.s, .int .u32 x.a.u, .int .u32 x.a.g, .int .u32 x.a.m, .int .u32 x.a.a, .int .u32 x.a.t]
theorem Ak.len (x : Ak) (q : Ap) : (x.cs q).length = 15 := rfl
/-- V lets an ask be read -/
structure Ak.Ok (V : HProp) (x : Ak) (q : Ap) : Prop where
  p : Vw V (.slice q.pp x.p.length q.pc) x.p.length (txs x.p)
  pl : x.p.length ≤ 9223372036854775807
  to : Vw V (.slice q.tp x.to.length q.tc) x.to.length (txs x.to)
  tl : x.to.length ≤ 9223372036854775807
  b : Vw V (.slice q.bp x.b.length q.bc) x.b.length (cel x.b)
  bc : x.b.length ≤ q.bc
  n : x.n < 4294967296
  at' : x.at' < 18446744073709551616
  a : x.a.Ok
def shortA (x : Ak) : Ak := { x with p := few2 (x.p.take 5) 32, to := few2 (x.to.take 5) 32, b := x.b.take 200 }
theorem shortA_p (x : Ak) : (shortA x).p.length ≤ 5 := by simp only [shortA, few2, List.length_map, List.length_take]; omega
theorem shortA_to (x : Ak) : (shortA x).to.length ≤ 5 := by simp only [shortA, few2, List.length_map, List.length_take]; omega
theorem shortA_b (x : Ak) : (shortA x).b.length ≤ 200 := by simp only [shortA, List.length_take]; omega
theorem few2_le {l : List (List UInt8)} {m : Nat} : ∀ s ∈ few2 l m, s.length ≤ m := fun s hs => by
  obtain ⟨y, _, rfl⟩ := List.mem_map.1 hs
  rw [List.length_take]; omega
theorem lastN_le {l : List (List UInt8)} {m : Nat} (h : ∀ s ∈ l, s.length ≤ m) : (lastN l).length ≤ m := by
  by_cases hp : l = []
  · subst hp; exact Nat.zero_le _
  · exact h _ (List.mem_of_getElem? (lastN_at hp))
theorem write_wf {t : Tr} {r : Nd} {id : Int} {k : Nat} {b : List UInt8} {t' : Tr} {e : Int} (hW : Wf t r) (hR : WriteR t id k b t' e) : Wf t' r ∧ t'.next = t.next ∧ t'.tb = t.tb ∧ (t' = t ∨ ∃ x bx c l, t' = dataT t x bx c l) := by
  rcases hR with ⟨_, _, rfl⟩ | ⟨x, hf, h⟩
  · exact ⟨hW, rfl, rfl, .inl rfl⟩
  · rcases h with ⟨_, _, rfl⟩ | ⟨_, _, _, rfl⟩ | ⟨h1, h2, ⟨_, _, rfl⟩ | ⟨h3, _, b0, rfl⟩⟩
    · exact ⟨hW, rfl, rfl, .inl rfl⟩
    · exact ⟨hW, rfl, rfl, .inl rfl⟩
    · exact ⟨hW, rfl, rfl, .inl rfl⟩
    · obtain ⟨hb, hd⟩ : byId t.ns id = some x ∧ x.dir = false := by
        rcases fileO_cases (byId t.ns id) with ⟨e, h4, _⟩ | ⟨y, h4, h5, h6⟩
        · rw [h4] at hf; simp at hf
        · rw [h6] at hf
          have e1 : y = x := by have := congrArg Prod.fst hf; simpa using this
          subst e1; exact ⟨h4, h5⟩
      have hx := (byId_some hb).1
      have hl : (wr2 (szd x.data (max (k + b.length) x.data.length)) k b).length = max (k + b.length) x.data.length := by rw [wr2_len (by rw [szd_len]; omega), szd_len]
      refine ⟨wf_data hW hx hd ?_, rfl, rfl, .inr ⟨x, _, _, _, rfl⟩⟩
      unfold szE at h3
      rw [hl]
      split at h3
      · omega
      · split at h3
        · omega
        · omega
theorem short15_spec (V : HProp) (x : Ak) (q : Ap) (h : x.Ok V q) : Tri Try.prog 19 [.agg (x.cs q).toArray] [V] (fun v H' => ∃ q' : Ap, v = .agg ((shortA x).cs q').toArray ∧ Vw V (.slice q'.bp (shortA x).b.length q'.bc) (shortA x).b.length (cel (shortA x).b) ∧ (shortA x).b.length ≤ q'.bc ∧ H' = [row 9 1 (.slice q'.tp ((shortA x).to).length q'.tc) ((shortA x).to).length (txs ((shortA x).to)), row 9 1 (.slice q'.pp ((shortA x).p).length q'.pc) ((shortA x).p).length (txs ((shortA x).p)), V]) := by
  refine tri_of_wpS Try.func19 rfl Try.ntmps19 (by simp) ?_
  refine wp_seq' ?_
  refine wp_region' ?_
  refine ops_eff' rfl (eff_box rfl) rfl ?_
  rintro _ _ ⟨b1, rfl, rfl⟩
  refine ops_eff' rfl (eff_alloc z47) rfl ?_
  rintro _ _ ⟨b2, rfl, rfl⟩
  refine ops_nil ?_
  refine Then_normal ?_
  refine wp_seq' ?_
  refine wp_region' ?_
  refine ops_ro' rfl (ro_fieldAddr fa47_2 rfl) rfl ?_
  refine ops_ro' rfl (ro_load sc29 rfl (Rd.pick 1 rfl (Rd.own rfl))) rfl ?_
  refine ops_eff' rfl (eff_call Try.call22 rfl rfl (by repeat (first | exact Split.nil _ | apply Split.cons 0 rfl | apply Split.cons 1 rfl | apply Split.cons 2 rfl | apply Split.cons 3 rfl | apply Split.cons 4 rfl | apply Split.cons 5 rfl | apply Split.cons 6 rfl | apply Split.cons 7 rfl | apply Split.cons 8 rfl | apply Split.cons 9 rfl | apply Split.cons 10 rfl | apply Split.cons 11 rfl)) (kFew V q.pp q.pc x.p h.p 5 32 (by omega) (by have := h.pl; omega))) rfl ?_
  rintro _ H' ⟨_, ⟨_, ⟨p5, c5, rfl, rfl⟩, rfl⟩, hH⟩
  simp only [List.cons_append, List.nil_append, List.eraseIdx_cons_zero, List.eraseIdx_cons_succ, List.set_cons_zero, List.set_cons_succ] at hH
  subst hH
  refine ops_ro' rfl (ro_fieldAddr fa47_2 rfl) rfl ?_
  refine ops_eff0 rfl (eff_store 3 sc29 rfl rfl rfl rfl (Nat.le_of_ble_eq_true rfl) (warm_zero _)) rfl ?_
  rintro _ _ rfl
  refine ops_nil ?_
  refine Then_normal ?_
  refine wp_seq' ?_
  refine wp_region' ?_
  refine ops_ro' rfl (ro_fieldAddr fa47_3 rfl) rfl ?_
  refine ops_ro' rfl (ro_load sc29 rfl (Rd.pick 3 rfl (Rd.own rfl))) rfl ?_
  refine ops_eff' rfl (eff_call Try.call22 rfl rfl (by repeat (first | exact Split.nil _ | apply Split.cons 0 rfl | apply Split.cons 1 rfl | apply Split.cons 2 rfl | apply Split.cons 3 rfl | apply Split.cons 4 rfl | apply Split.cons 5 rfl | apply Split.cons 6 rfl | apply Split.cons 7 rfl | apply Split.cons 8 rfl | apply Split.cons 9 rfl | apply Split.cons 10 rfl | apply Split.cons 11 rfl)) (kFew V q.tp q.tc x.to h.to 5 32 (by omega) (by have := h.tl; omega))) rfl ?_
  rintro _ H' ⟨_, ⟨_, ⟨p9, c9, rfl, rfl⟩, rfl⟩, hH⟩
  simp only [List.cons_append, List.nil_append, List.eraseIdx_cons_zero, List.eraseIdx_cons_succ, List.set_cons_zero, List.set_cons_succ] at hH
  subst hH
  refine ops_ro' rfl (ro_fieldAddr fa47_3 rfl) rfl ?_
  refine ops_eff0 rfl (eff_store 4 sc29 rfl rfl rfl rfl (Nat.le_of_ble_eq_true rfl) (warm_zero _)) rfl ?_
  rintro _ _ rfl
  refine ops_nil ?_
  refine Then_normal ?_
  refine wp_seq' ?_
  refine wp_region' ?_
  refine ops_ro' rfl (ro_fieldAddr fa47_7 rfl) rfl ?_
  refine ops_ro' rfl (ro_load sc30 rfl (Rd.pick 4 rfl (Rd.own rfl))) rfl ?_
  refine ops_eff' rfl (eff_call Try.call12 rfl rfl (by repeat (first | exact Split.nil _ | apply Split.cons 0 rfl | apply Split.cons 1 rfl | apply Split.cons 2 rfl | apply Split.cons 3 rfl | apply Split.cons 4 rfl | apply Split.cons 5 rfl | apply Split.cons 6 rfl | apply Split.cons 7 rfl | apply Split.cons 8 rfl | apply Split.cons 9 rfl | apply Split.cons 10 rfl | apply Split.cons 11 rfl)) (kCut V q.bp q.bc x.b 200 h.b h.bc)) rfl ?_
  rintro _ H' ⟨_, ⟨_, ⟨p13, c13, rfl, hv13, hc13, rfl⟩, rfl⟩, hH⟩
  simp only [List.cons_append, List.nil_append, List.eraseIdx_cons_zero, List.eraseIdx_cons_succ, List.set_cons_zero, List.set_cons_succ] at hH
  subst hH
  refine ops_ro' rfl (ro_fieldAddr fa47_7 rfl) rfl ?_
  refine ops_eff0 rfl (eff_store 4 sc30 rfl rfl rfl rfl (Nat.le_of_ble_eq_true rfl) (warm_zero _)) rfl ?_
  rintro _ _ rfl
  refine ops_nil ?_
  refine Then_normal ?_
  refine wp_seq' ?_
  refine wp_region' ?_
  refine ops_ro' rfl (ro_loadA ag47 rfl (RdN.of_pick 4 rfl rdn_all) rfl) rfl ?_
  refine ops_eff0 rfl (eff_storeA 3 ag47 rfl rfl rfl rfl rfl (Nat.le_of_ble_eq_true rfl) (warm_zero _)) rfl ?_
  rintro _ _ rfl
  refine ops_nil ?_
  refine Then_normal ?_
  refine wp_ret' ?_
  refine' doneS_ret (resv1 rfl (rv_cellA ag47 rfl (by first | exact RdN.of_pick 0 rfl rdn_all | exact RdN.of_pick 1 rfl rdn_all | exact RdN.of_pick 2 rfl rdn_all | exact RdN.of_pick 3 rfl rdn_all | exact RdN.of_pick 4 rfl rdn_all | exact RdN.of_pick 5 rfl rdn_all | exact RdN.of_pick 6 rfl rdn_all) rfl)) ?_ ?_
  rotate_left 1
  exact ⟨⟨p5, c5, p9, c9, p13, c13⟩, rfl, hv13, hc13, rfl⟩
  exact (SubH.cons 1 rfl (SubH.cons 1 rfl (SubH.cons 0 rfl (SubH.nil _))))

end Go.Proofs.Ytbbmhppkhcodfaa
