/-
  A file is written: Write.
-/
import Derived.Test.YtbbmhppkhcodfaaTrZ
namespace Go.Proofs.Ytbbmhppkhcodfaa
open Go.Sx
set_option linter.unusedVariables false
set_option linter.unusedSimpArgs false
set_option maxRecDepth 100000
set_option maxHeartbeats 4000000

theorem max_eq (a b c : Nat) : (if ((a + b : Nat) : Int) < ((c : Nat) : Int) then ((c : Nat) : Int) else ((a + b : Nat) : Int)) = ((max (a + b) c : Nat) : Int) := by split <;> omega
/-- b is laid over l from a on -/
def wr2 (l : List UInt8) (a : Nat) (b : List UInt8) : List UInt8 := l.take a ++ b ++ l.drop (a + b.length)
theorem wr2_len {l b : List UInt8} {a : Nat} (h : a + b.length ≤ l.length) : (wr2 l a b).length = l.length := by
  unfold wr2; simp only [List.length_append, List.length_take, List.length_drop]; omega
theorem wr2_eq {l b : List UInt8} {a : Nat} (h : a + b.length ≤ l.length) : l.take a ++ b.take (l.length - a) ++ l.drop (a + min b.length (l.length - a)) = wr2 l a b := by
  unfold wr2; rw [List.take_of_length_le (l := b) (by omega), Nat.min_eq_left (by omega)]
theorem data_at {t : Tr} {x : Nd} {p : Option Addr} {c : Nat} {l : List UInt8} {ix : Nat} (hb : (t.ns.map Nd.blk).Nodup) (h : t.ns[ix]? = some x) : (dataT t x p c l).ns[ix]? = some (datF p c l x) := by
  show (turnB x.blk (datF p c l) t.ns)[ix]? = _
  unfold turnB; rw [List.getElem?_map, h]
  show some (if x.blk = x.blk then _ else _) = _
  rw [if_pos rfl]
theorem data_twice {t : Tr} {x : Nd} {p q : Option Addr} {c d : Nat} {l m : List UInt8} (h : x.data.length ≤ t.bytes) : dataT (dataT t x p c l) (datF p c l x) q d m = dataT t x q d m := by
  unfold dataT
  have e1 : t.bytes + l.length - x.data.length + m.length - (datF p c l x).data.length = t.bytes + m.length - x.data.length := by show _ - l.length = _; omega
  have e2 : turnB (datF p c l x).blk (datF q d m) (turnB x.blk (datF p c l) t.ns) = turnB x.blk (datF q d m) t.ns := by
    show turnB x.blk _ _ = _
    unfold turnB; rw [List.map_map]
    refine List.map_congr_left fun y _ => ?_
    show (if (if y.blk = x.blk then datF p c l y else y).blk = x.blk then datF q d m (if y.blk = x.blk then datF p c l y else y) else (if y.blk = x.blk then datF p c l y else y)) = _
    by_cases e : y.blk = x.blk
    · rw [if_pos e, if_pos (show (datF p c l y).blk = x.blk from e), if_pos e]; rfl
    · rw [if_neg e, if_neg e]
  simp only [e1, e2]
theorem write_open {t : Tr} {x : Nd} {ix b0 : Nat} {L : List HProp} (hix : t.ns[ix]? = some x) (hdp : x.dp = some ⟨b0, 0, none⟩) {w : World} {F : HProp} (s : sat w (star (St (tree t :: L)) F)) : sat w (star (St (own t.tb (.cells ([.pointer (some ⟨t.rb, 0, none⟩), .map (some t.mb), .int .i64 (t.next : Int), .int .i64 ((t.bytes : Nat) : Int)] : List Value).toArray 78 (0, 0)) :: own t.mb (mapO (t.ns.map Nd.me) t.ck) :: own x.blk (.cells x.cs.toArray 85 (0, 0)) :: rowP x.kp x.kc x.kids :: rowD (some ⟨b0, 0, none⟩) x.dc x.data :: nds (t.ns.eraseIdx ix) :: L)) F) := by
  have s1 := tree_open s
  have h1 : SubH (trL t ++ L) (nds t.ns :: own t.tb (.cells ([.pointer (some ⟨t.rb, 0, none⟩), .map (some t.mb), .int .i64 (t.next : Int), .int .i64 ((t.bytes : Nat) : Int)] : List Value).toArray 78 (0, 0)) :: own t.mb (mapO (t.ns.map Nd.me) t.ck) :: L) := SubH.cons 2 rfl (SubH.cons 0 rfl (SubH.cons 0 rfl (SubH.refl _)))
  have s2 := nds_op hix (h1 w F s1)
  rw [hdp] at s2
  have h2 : SubH (own x.blk (.cells x.cs.toArray 85 (0, 0)) :: rowP x.kp x.kc x.kids :: rowD (some ⟨b0, 0, none⟩) x.dc x.data :: nds (t.ns.eraseIdx ix) :: own t.tb (.cells ([.pointer (some ⟨t.rb, 0, none⟩), .map (some t.mb), .int .i64 (t.next : Int), .int .i64 ((t.bytes : Nat) : Int)] : List Value).toArray 78 (0, 0)) :: own t.mb (mapO (t.ns.map Nd.me) t.ck) :: L) (own t.tb (.cells ([.pointer (some ⟨t.rb, 0, none⟩), .map (some t.mb), .int .i64 (t.next : Int), .int .i64 ((t.bytes : Nat) : Int)] : List Value).toArray 78 (0, 0)) :: own t.mb (mapO (t.ns.map Nd.me) t.ck) :: own x.blk (.cells x.cs.toArray 85 (0, 0)) :: rowP x.kp x.kc x.kids :: rowD (some ⟨b0, 0, none⟩) x.dc x.data :: nds (t.ns.eraseIdx ix) :: L) := SubH.cons 4 rfl (SubH.cons 4 rfl (SubH.cons 0 rfl (SubH.cons 0 rfl (SubH.cons 0 rfl (SubH.cons 0 rfl (SubH.refl _))))))
  exact h2 w F s2
theorem write_close {t : Tr} {x : Nd} {ix b0 : Nat} {l : List UInt8} {L : List HProp} (hix : t.ns[ix]? = some x) (hb : (t.ns.map Nd.blk).Nodup) (hdp : x.dp = some ⟨b0, 0, none⟩) (hl : l.length = x.data.length) {w : World} {F : HProp}
    (s : sat w (star (St (own t.tb (.cells ([.pointer (some ⟨t.rb, 0, none⟩), .map (some t.mb), .int .i64 (t.next : Int), .int .i64 ((t.bytes : Nat) : Int)] : List Value).toArray 78 (0, 0)) :: own t.mb (mapO (t.ns.map Nd.me) t.ck) :: own x.blk (.cells x.cs.toArray 85 (0, 0)) :: rowP x.kp x.kc x.kids :: row 5 1 (.slice (some ⟨b0, 0, none⟩) x.data.length x.dc) x.data.length (cel l) :: nds (t.ns.eraseIdx ix) :: L)) F)) : sat w (star (St (tree (dataT t x (some ⟨b0, 0, none⟩) x.dc l) :: L)) F) := by
  refine tree_shut (t := dataT t x (some ⟨b0, 0, none⟩) x.dc l) ?_
  have e1 : row 5 1 (.slice (some ⟨b0, 0, none⟩) x.data.length x.dc) x.data.length (cel l) = rowD (some ⟨b0, 0, none⟩) x.dc l := by
    show _ = row 5 1 (.slice (some ⟨b0, 0, none⟩) l.length x.dc) l.length (cel l)
    rw [hl]
  have e2 : x.cs = Nd.cs (datF (some ⟨b0, 0, none⟩) x.dc l x) := by
    show [.int .i64 (x.id : Int), .bool x.dir, .string (str x.name), .slice x.kp x.kids.length x.kc, .slice x.dp x.data.length x.dc] ++ x.a.cs = [.int .i64 (x.id : Int), .bool x.dir, .string (str x.name), .slice x.kp x.kids.length x.kc, .slice (some ⟨b0, 0, none⟩) l.length x.dc] ++ x.a.cs
    rw [hl, hdp]
  rw [e1, e2] at s
  have hs : SubH (own t.tb (.cells ([.pointer (some ⟨t.rb, 0, none⟩), .map (some t.mb), .int .i64 (t.next : Int), .int .i64 ((t.bytes : Nat) : Int)] : List Value).toArray 78 (0, 0)) :: own t.mb (mapO (t.ns.map Nd.me) t.ck) :: own x.blk (.cells (Nd.cs (datF (some ⟨b0, 0, none⟩) x.dc l x)).toArray 85 (0, 0)) :: rowP x.kp x.kc x.kids :: rowD (some ⟨b0, 0, none⟩) x.dc l :: nds (t.ns.eraseIdx ix) :: L)
      (own x.blk (.cells (Nd.cs (datF (some ⟨b0, 0, none⟩) x.dc l x)).toArray 85 (0, 0)) :: rowP x.kp x.kc x.kids :: rowD (some ⟨b0, 0, none⟩) x.dc l :: nds (t.ns.eraseIdx ix) :: own t.tb (.cells ([.pointer (some ⟨t.rb, 0, none⟩), .map (some t.mb), .int .i64 (t.next : Int), .int .i64 ((t.bytes : Nat) : Int)] : List Value).toArray 78 (0, 0)) :: own t.mb (mapO (t.ns.map Nd.me) t.ck) :: L) := SubH.cons 2 rfl (SubH.cons 2 rfl (SubH.cons 2 rfl (SubH.cons 2 rfl (SubH.cons 0 rfl (SubH.cons 0 rfl (SubH.refl _))))))
  have s1 := nds_cl (y := datF (some ⟨b0, 0, none⟩) x.dc l x) hix (hs w F s)
  rw [set_turn hb hix] at s1
  have e3 : (t.ns.map Nd.me) = (dataT t x (some ⟨b0, 0, none⟩) x.dc l).ns.map Nd.me := (turn_me (f := datF (some ⟨b0, 0, none⟩) x.dc l) (fun _ => rfl) x.blk t.ns).symm
  have e4 : t.bytes = (dataT t x (some ⟨b0, 0, none⟩) x.dc l).bytes := by show _ = t.bytes + l.length - x.data.length; omega
  rw [e3, e4] at s1
  have h2 : SubH (nds (turnB x.blk (datF (some ⟨b0, 0, none⟩) x.dc l) t.ns) :: own t.tb (.cells ([.pointer (some ⟨t.rb, 0, none⟩), .map (some t.mb), .int .i64 (t.next : Int), .int .i64 (((dataT t x (some ⟨b0, 0, none⟩) x.dc l).bytes : Nat) : Int)] : List Value).toArray 78 (0, 0)) :: own t.mb (mapO ((dataT t x (some ⟨b0, 0, none⟩) x.dc l).ns.map Nd.me) t.ck) :: L) (trL (dataT t x (some ⟨b0, 0, none⟩) x.dc l) ++ L) := SubH.cons 1 rfl (SubH.cons 1 rfl (SubH.cons 0 rfl (SubH.refl _)))
  exact h2 w F s1
def WriteR (t : Tr) (id : Int) (at' : Nat) (b : List UInt8) (t' : Tr) (e : Int) : Prop :=
  (fileO (byId t.ns id) = (none, e) ∧ e ≠ 0 ∧ t' = t) ∨ ∃ x, fileO (byId t.ns id) = (some x, 0) ∧
    ((b.length = 0 ∧ e = 0 ∧ t' = t) ∨ (0 < b.length ∧ 1048576 < at' + b.length ∧ e = 3 ∧ t' = t) ∨
     (0 < b.length ∧ at' + b.length ≤ 1048576 ∧ ((szE t x (max (at' + b.length) x.data.length) = e ∧ e ≠ 0 ∧ t' = t) ∨ (szE t x (max (at' + b.length) x.data.length) = 0 ∧ e = 0 ∧ ∃ b0, t' = dataT t x (some ⟨b0, 0, none⟩) (max (at' + b.length) x.data.length) (wr2 (szd x.data (max (at' + b.length) x.data.length)) at' b)))))
theorem write_spec {V : HProp} {t : Tr} {r : Nd} (hW : Wf t r) (id : Int) (at' : Nat) (ha : at' < 18446744073709551616) (q : Option Addr) (cq : Nat) (b : List UInt8) (hV : Vw V (.slice q b.length cq) b.length (cel b)) (hbl : b.length ≤ 140737488355328) :
    Tri Try.prog 14 [t.v, .int .i64 id, .int .u64 (at' : Int), .slice q b.length cq] [tree t, V] (fun v H' => ∃ t' e, v = .int .i64 e ∧ WriteR t id at' b t' e ∧ H' = [tree t', V]) := by
  rcases fileO_cases (byId t.ns id) with ⟨e, hf, he⟩ | ⟨x, hb, hd, hf⟩
  · skip
    refine tri_of_wpS Try.func14 rfl Try.ntmps14 (by simp) ?_
    refine wp_seq' ?_
    refine wp_region' ?_
    refine ops_ro' rfl (ro_assign rfl) rfl ?_
    refine ops_nil ?_
    refine Then_normal ?_
    refine wp_seq' ?_
    refine wp_region' ?_
    refine ops_ro' rfl (ro_move rfl) rfl ?_
    refine ops_ro' rfl (ro_move rfl) rfl ?_
    refine ops_eff' rfl (eff_callM (Pre := []) Try.call38 rfl rfl (Split.nil _) (file_spec (Tv.pick 0 rfl (tree_tv t)) id)) rfl ?_
    rintro _ H' ⟨_, ⟨rfl, rfl⟩, hH⟩
    simp only [List.cons_append, List.nil_append, List.eraseIdx_cons_zero, List.eraseIdx_cons_succ, List.set_cons_zero, List.set_cons_succ] at hH
    subst hH
    rw [hf]
    dsimp only [ptrO, Option.map]
    refine ops_ro' rfl (ro_move rfl) rfl ?_
    refine ops_ro' rfl (ro_extract rfl rfl) rfl ?_
    refine ops_ro' rfl (ro_extract rfl rfl) rfl ?_
    refine ops_ro' rfl (ro_assign rfl) rfl ?_
    refine ops_ro' rfl (ro_assign rfl) rfl ?_
    refine ops_nil ?_
    refine Then_normal ?_
    refine wp_seq' ?_
    refine wp_block' ?_
    refine wp_seq' ?_
    refine wp_region' ?_
    refine ops_ro' rfl (ro_move rfl) rfl ?_
    refine ops_ro' rfl (ro_neq rfl rfl (decide_eq_true (by omega))) rfl ?_
    refine ops_ro' rfl (ro_assign rfl) rfl ?_
    refine ops_nil ?_
    refine Then_normal ?_
    refine wp_condT rfl ?_
    refine wp_seq' ?_
    refine wp_region' ?_
    refine ops_ro' rfl (ro_move rfl) rfl ?_
    refine ops_ro' rfl (ro_assign rfl) rfl ?_
    refine ops_nil ?_
    refine Then_normal ?_
    refine wp_ret' ?_
    refine InBlock_ret ?_
    refine Then_ret ?_
    refine' doneS_ret (res1 rfl rfl) ?_ ?_
    rotate_left 1
    exact ⟨t, e, rfl, .inl ⟨hf, he, rfl⟩, rfl⟩
    exact SubH.refl _
  · have hx := (byId_some hb).1
    have hxl : x.data.length ≤ 1048576 := Nat.le_trans (by rw [hW.sum]; exact sum_in hx) hW.max
    refine tri_of_wpS Try.func14 rfl Try.ntmps14 (by simp) ?_
    refine wp_seq' ?_
    refine wp_region' ?_
    refine ops_ro' rfl (ro_assign rfl) rfl ?_
    refine ops_nil ?_
    refine Then_normal ?_
    refine wp_seq' ?_
    refine wp_region' ?_
    refine ops_ro' rfl (ro_move rfl) rfl ?_
    refine ops_ro' rfl (ro_move rfl) rfl ?_
    refine ops_eff' rfl (eff_callM (Pre := []) Try.call38 rfl rfl (Split.nil _) (file_spec (Tv.pick 0 rfl (tree_tv t)) id)) rfl ?_
    rintro _ H' ⟨_, ⟨rfl, rfl⟩, hH⟩
    simp only [List.cons_append, List.nil_append, List.eraseIdx_cons_zero, List.eraseIdx_cons_succ, List.set_cons_zero, List.set_cons_succ] at hH
    subst hH
    rw [hf]
    dsimp only [ptrO, Option.map]
    refine ops_ro' rfl (ro_move rfl) rfl ?_
    refine ops_ro' rfl (ro_extract rfl rfl) rfl ?_
    refine ops_ro' rfl (ro_extract rfl rfl) rfl ?_
    refine ops_ro' rfl (ro_assign rfl) rfl ?_
    refine ops_ro' rfl (ro_assign rfl) rfl ?_
    refine ops_nil ?_
    refine Then_normal ?_
    refine wp_seq' ?_
    refine wp_block' ?_
    refine wp_seq' ?_
    refine wp_region' ?_
    refine ops_ro' rfl (ro_move rfl) rfl ?_
    refine ops_ro' rfl (ro_neq rfl rfl (decide_eq_false (by omega))) rfl ?_
    refine ops_ro' rfl (ro_assign rfl) rfl ?_
    refine ops_nil ?_
    refine Then_normal ?_
    refine wp_condF rfl ?_
    refine wp_seq' ?_
    refine wp_region' ?_
    refine ops_ro' rfl (ro_move rfl) rfl ?_
    refine ops_ro' rfl (ro_sliceLen Try.underlying30 rfl) rfl ?_
    refine ops_ro' rfl (ro_eql rfl rfl rfl) rfl ?_
    refine ops_ro' rfl (ro_assign rfl) rfl ?_
    refine ops_nil ?_
    refine Then_normal ?_
    refine wp_cond' rfl (fun hc22 => ?_) (fun hc22 => ?_)
    · replace hc22 := of_decide_eq_true hc22
      refine wp_seq' ?_
      refine wp_region' ?_
      refine ops_ro' rfl (ro_assign rfl) rfl ?_
      refine ops_nil ?_
      refine Then_normal ?_
      refine wp_ret' ?_
      refine InBlock_ret ?_
      refine Then_ret ?_
      refine' doneS_ret (res1 rfl rfl) ?_ ?_
      rotate_left 1
      exact ⟨t, 0, rfl, .inr ⟨x, hf, .inl ⟨by omega, rfl, rfl⟩⟩, rfl⟩
      exact SubH.refl _
    · replace hc22 := of_decide_eq_false hc22
      refine wp_seq' ?_
      refine wp_region' ?_
      refine ops_ro' rfl (ro_move rfl) rfl ?_
      refine ops_ro' rfl (ro_gtr rfl rfl rfl) rfl ?_
      refine ops_split rfl rfl rfl (fun hg29 => ?_) (fun hg29 => ?_)
      · replace hg29 := of_decide_eq_true hg29
        refine ops_skip' rfl rfl ?_
        refine ops_skip' rfl rfl ?_
        refine ops_skip' rfl rfl ?_
        refine ops_skip' rfl rfl ?_
        refine ops_skip' rfl rfl ?_
        refine ops_skip' rfl rfl ?_
        refine ops_ro' rfl (ro_pick rfl rfl) rfl ?_
        refine ops_ro' rfl (ro_assign rfl) rfl ?_
        refine ops_nil ?_
        refine Then_normal ?_
        refine wp_condT rfl ?_
        refine wp_seq' ?_
        refine wp_region' ?_
        refine ops_ro' rfl (ro_assign rfl) rfl ?_
        refine ops_nil ?_
        refine Then_normal ?_
        refine wp_ret' ?_
        refine InBlock_ret ?_
        refine Then_ret ?_
        refine' doneS_ret (res1 rfl rfl) ?_ ?_
        rotate_left 1
        exact ⟨t, 3, rfl, .inr ⟨x, hf, .inr (.inl ⟨by omega, by omega, rfl, rfl⟩)⟩, rfl⟩
        exact SubH.refl _
      · replace hg29 := of_decide_eq_false hg29
        refine ops_ro' rfl (ro_move rfl) rfl ?_
        refine ops_ro' rfl (ro_sliceLen Try.underlying30 rfl) rfl ?_
        refine ops_ro' rfl (ro_move rfl) rfl ?_
        refine ops_ro' rfl (ro_conv Try.underlying34 Try.underlying3 rfl (wrap_natN (by omega))) rfl ?_
        refine ops_ro' rfl (ro_sub rfl rfl (show IntKind.i64.wrap (1048576 - (at' : Int)) = ((1048576 - at' : Nat) : Int) by rw [wrap_i64_in (by omega) (by omega)]; omega)) rfl ?_
        refine ops_ro' rfl (ro_gtr rfl rfl rfl) rfl ?_
        refine ops_ro' rfl (ro_pick rfl rfl) rfl ?_
        refine ops_ro' rfl (ro_assign rfl) rfl ?_
        refine ops_nil ?_
        refine Then_normal ?_
        refine wp_cond' rfl (fun hc26 => ?_) (fun hc26 => ?_)
        · replace hc26 := of_decide_eq_true hc26
          refine wp_seq' ?_
          refine wp_region' ?_
          refine ops_ro' rfl (ro_assign rfl) rfl ?_
          refine ops_nil ?_
          refine Then_normal ?_
          refine wp_ret' ?_
          refine InBlock_ret ?_
          refine Then_ret ?_
          refine' doneS_ret (res1 rfl rfl) ?_ ?_
          rotate_left 1
          exact ⟨t, 3, rfl, .inr ⟨x, hf, .inr (.inl ⟨by omega, by omega, rfl, rfl⟩)⟩, rfl⟩
          exact SubH.refl _
        · replace hc26 := of_decide_eq_false hc26
          refine wp_skip' ?_
          refine InBlock_normal ?_
          refine Then_normal ?_
          refine wp_seq' ?_
          refine wp_seq' ?_
          refine wp_region' ?_
          refine ops_ro' rfl (ro_move rfl) rfl ?_
          refine ops_ro' rfl (ro_move rfl) rfl ?_
          refine ops_ro' rfl (ro_move rfl) rfl ?_
          refine ops_ro' rfl (ro_move rfl) rfl ?_
          refine ops_ro' rfl (ro_sliceLen Try.underlying30 rfl) rfl ?_
          refine ops_ro' rfl (ro_conv Try.underlying3 Try.underlying34 rfl (wrap_u64_in (by omega) (by omega))) rfl ?_
          refine ops_ro' rfl (ro_add rfl rfl (show IntKind.u64.wrap ((at' : Int) + (b.length : Int)) = ((at' + b.length : Nat) : Int) by rw [wrap_u64_in (by omega) (by omega)]; omega)) rfl ?_
          refine ops_ro' rfl (ro_move rfl) rfl ?_
          refine ops_ro' rfl (ro_nilCheck rfl) rfl ?_
          refine ops_ro' rfl (ro_fieldAddr fa85_4 rfl) rfl ?_
          refine ops_ro' rfl (ro_load sc30 rfl (Rd.pick 0 rfl (((tree_tv t).nd x hx 4 _ rfl)))) rfl ?_
          refine ops_ro' rfl (ro_sliceLen Try.underlying30 rfl) rfl ?_
          refine ops_ro' rfl (ro_conv Try.underlying3 Try.underlying34 rfl (wrap_u64_in (by omega) (by omega))) rfl ?_
          refine ops_ro' rfl (ro_max rfl rfl (show (if ((x.data.length : Nat) : Int) > ((at' + b.length : Nat) : Int) then ((x.data.length : Nat) : Int) else ((at' + b.length : Nat) : Int)) = ((max (at' + b.length) x.data.length : Nat) : Int) by split <;> omega)) rfl ?_
          refine ops_eff' rfl (eff_call Try.call39 rfl rfl (by repeat (first | exact Split.nil _ | apply Split.cons 0 rfl | apply Split.cons 1 rfl | apply Split.cons 2 rfl | apply Split.cons 3 rfl | apply Split.cons 4 rfl | apply Split.cons 5 rfl | apply Split.cons 6 rfl | apply Split.cons 7 rfl | apply Split.cons 8 rfl | apply Split.cons 9 rfl | apply Split.cons 10 rfl | apply Split.cons 11 rfl)) (sized_spec hW hx (max (at' + b.length) x.data.length) (by omega))) rfl ?_
          rintro _ H' ⟨_, ⟨t1, e, rfl, hR, rfl⟩, hH⟩
          simp only [List.cons_append, List.nil_append, List.eraseIdx_cons_zero, List.eraseIdx_cons_succ, List.set_cons_zero, List.set_cons_succ] at hH
          subst hH
          refine ops_ro' rfl (ro_assign rfl) rfl ?_
          refine ops_nil ?_
          refine Then_normal ?_
          refine wp_seq' ?_
          refine wp_region' ?_
          refine ops_ro' rfl (ro_move rfl) rfl ?_
          refine ops_ro' rfl (ro_neq rfl rfl rfl) rfl ?_
          refine ops_nil ?_
          refine Then_normal ?_
          refine wp_cond' rfl (fun hc53 => ?_) (fun hc53 => ?_)
          · replace hc53 := of_decide_eq_true hc53
            refine wp_seq' ?_
            refine wp_region' ?_
            refine ops_ro' rfl (ro_move rfl) rfl ?_
            refine ops_ro' rfl (ro_assign rfl) rfl ?_
            refine ops_nil ?_
            refine Then_normal ?_
            refine wp_ret' ?_
            refine Then_ret ?_
            refine' doneS_ret (res1 rfl rfl) ?_ ?_
            rotate_left 1
            rcases hR with ⟨h1, h2, h3⟩ | ⟨h1, _⟩
            · subst h2; exact ⟨_, e, rfl, .inr ⟨x, hf, .inr (.inr ⟨by omega, by omega, .inl ⟨h3, h1, rfl⟩⟩)⟩, rfl⟩
            · exact absurd h1 (by omega)
            exact SubH.refl _
          · replace hc53 := of_decide_eq_false hc53
            obtain ⟨hz, b0, rfl⟩ : szE t x (max (at' + b.length) x.data.length) = 0 ∧ ∃ b0, t1 = dataT t x (some ⟨b0, 0, none⟩) (max (at' + b.length) x.data.length) (szd x.data (max (at' + b.length) x.data.length)) := by
              rcases hR with ⟨h1, _⟩ | ⟨_, h2⟩
              · exact absurd h1 (by omega)
              · exact h2
            obtain ⟨ix, hix⟩ := List.mem_iff_getElem?.1 hx
            have hix1 := data_at (p := some ⟨b0, 0, none⟩) (c := max (at' + b.length) x.data.length) (l := szd x.data (max (at' + b.length) x.data.length)) hW.kd.blks hix
            have hl1 := szd_len x.data (max (at' + b.length) x.data.length)
            refine wp_skip' ?_
            refine Then_normal ?_
            refine wp_seq' ?_
            generalize hx1 : datF (some ⟨b0, 0, none⟩) (max (at' + b.length) x.data.length) (szd x.data (max (at' + b.length) x.data.length)) x = x1 at *
            have hdp : x1.dp = some ⟨b0, 0, none⟩ := by rw [← hx1]; rfl
            have hdc : x1.dc = max (at' + b.length) x.data.length := by rw [← hx1]; rfl
            have hdd : x1.data = szd x.data (max (at' + b.length) x.data.length) := by rw [← hx1]; rfl
            rw [← hdd] at hl1
            obtain ⟨t1, ht1⟩ : ∃ t1, t1 = dataT t x (some ⟨b0, 0, none⟩) (max (at' + b.length) x.data.length) (szd x.data (max (at' + b.length) x.data.length)) := ⟨_, rfl⟩
            rw [← ht1] at hix1 ⊢
            have hbl : (t1.ns.map Nd.blk).Nodup := by rw [ht1]; show ((turnB x.blk _ t.ns).map Nd.blk).Nodup; rw [turn_blk (datF_keeps _ _ _)]; exact hW.kd.blks
            refine wp_heap (fun w F s => write_open hix1 hdp s) ?_
            have hxb : x1.blk = x.blk := by rw [← hx1]; rfl
            rw [hxb]
            refine wp_region' ?_
            refine ops_ro' rfl (ro_move rfl) rfl ?_
            refine ops_ro' rfl (ro_nilCheck rfl) rfl ?_
            refine ops_ro' rfl (ro_fieldAddr fa85_4 rfl) rfl ?_
            refine ops_ro' rfl (ro_load sc30 rfl (Rd.pick 2 rfl (Rd.own rfl))) rfl ?_
            rw [hdp]
            refine ops_ro' rfl (ro_move rfl) rfl ?_
            refine ops_ro' rfl (ro_slice sl30 rfl (bnd_of rfl rfl) rfl (by omega) (by omega)) rfl ?_
            rw [resl_lt (by omega)]
            refine ops_ro' rfl (ro_move rfl) rfl ?_
            refine ops_eff' rfl (eff_copyB (s := b) 4 sl30 rfl rfl rfl (by first | exact (Vw.pick 0 rfl hV) | exact (Vw.pick 1 rfl hV) | exact (Vw.pick 2 rfl hV) | exact (Vw.pick 3 rfl hV) | exact (Vw.pick 4 rfl hV) | exact (Vw.pick 5 rfl hV) | exact (Vw.pick 6 rfl hV) | exact (Vw.pick 7 rfl hV) | exact Vw.pick 0 rfl Vw.row | exact Vw.pick 1 rfl Vw.row | exact Vw.pick 2 rfl Vw.row | exact Vw.pick 3 rfl Vw.row | exact Vw.pick 4 rfl Vw.row | exact Vw.pick 5 rfl Vw.row | exact Vw.pick 6 rfl Vw.row | exact Vw.pick 7 rfl Vw.row) (by first | omega | (simp; done) | (simp; omega))) rfl ?_
            rintro _ _ ⟨rfl, rfl⟩
            simp only [List.set_cons_zero, List.set_cons_succ]
            rw [wr2_eq (by omega)]
            refine ops_nil ?_
            refine Then_normal ?_
            refine wp_seq' ?_
            rw [← hxb]
            refine wp_heap (fun w F s => write_close hix1 hbl hdp (wr2_len (by omega)) s) ?_
            refine wp_region' ?_
            refine ops_ro' rfl (ro_assign rfl) rfl ?_
            refine ops_nil ?_
            refine Then_normal ?_
            refine wp_ret' ?_
            refine' doneS_ret (res1 rfl rfl) ?_ ?_
            rotate_left 1
            refine ⟨dataT t1 x1 (some ⟨b0, 0, none⟩) x1.dc (wr2 x1.data at' b), 0, rfl, .inr ⟨x, hf, .inr (.inr ⟨by omega, by omega, .inr ⟨hz, rfl, b0, ?_⟩⟩)⟩, rfl⟩
            rw [ht1, hdc, hdd, ← hx1]; exact data_twice (by rw [hW.sum]; exact sum_in hx)
            exact SubH.refl _

end Go.Proofs.Ytbbmhppkhcodfaa
