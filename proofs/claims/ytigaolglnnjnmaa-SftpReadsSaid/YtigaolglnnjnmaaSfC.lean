/-
  Requests held against one another; the runs of chapter 17.
-/
import Derived.Test.YtigaolglnnjnmaaSfB
namespace Go.Proofs.Ytigaolglnnjnmaa
open Go.Sx
set_option linter.unusedVariables false
set_option linter.unusedSimpArgs false
set_option maxRecDepth 100000
set_option maxHeartbeats 4000000

theorem rq_dec (x y : Rc) : decide (x = y) = (decide (x.k = y.k) && decide (x.pa = y.pa) && decide (x.to = y.to) && decide (x.ha = y.ha) && decide (x.off = y.off) && decide (x.len = y.len) && decide (x.da = y.da) && decide (x.fl = y.fl) && decide (x.at' = y.at')) := by
  have h : (x = y) ↔ (x.k = y.k ∧ x.pa = y.pa ∧ x.to = y.to ∧ x.ha = y.ha ∧ x.off = y.off ∧ x.len = y.len ∧ x.da = y.da ∧ x.fl = y.fl ∧ x.at' = y.at') := by cases x; cases y; simp only [Rc.mk.injEq]
  rw [show decide (x = y) = decide (x.k = y.k ∧ x.pa = y.pa ∧ x.to = y.to ∧ x.ha = y.ha ∧ x.off = y.off ∧ x.len = y.len ∧ x.da = y.da ∧ x.fl = y.fl ∧ x.at' = y.at') from decide_eq_decide.2 h]; simp only [Bool.decide_and, Bool.and_assoc]
theorem kReq_spec (V : HProp) (x y : Rc) (p1 p2 : Option Addr) (n1 n2 : Nat) (h1 : Vw V (.slice p1 x.da.length n1) x.da.length (cel x.da)) (h2 : Vw V (.slice p2 y.da.length n2) y.da.length (cel y.da)) : Tri Try.prog 31 [x.v p1 n1, y.v p2 n2] [V] (fun v H' => ∃ K, (v = .bool (decide (x = y)) ∧ K = []) ∧ H' = K ++ [V]) := by
  refine tri_of_wpS Try.func31 rfl Try.ntmps31 (by simp) ?_
  refine wp_seq' ?_
  refine wp_region' ?_
  refine ops_eff' rfl (eff_box rfl) rfl ?_
  rintro _ _ ⟨b2, rfl, rfl⟩
  refine ops_eff' rfl (eff_box rfl) rfl ?_
  rintro _ _ ⟨b3, rfl, rfl⟩
  refine ops_ro' rfl (ro_assign rfl) rfl ?_
  refine ops_nil ?_
  refine Then_normal ?_
  refine wp_seq' ?_
  refine wp_region' ?_
  refine ops_ro' rfl (ro_fieldAddr fa56_0 rfl) rfl ?_
  refine ops_ro' rfl (ro_load sc3 rfl (Rd.pick 1 rfl (Rd.own rfl))) rfl ?_
  refine ops_ro' rfl (ro_fieldAddr fa56_0 rfl) rfl ?_
  refine ops_ro' rfl (ro_load sc3 rfl (Rd.pick 0 rfl (Rd.own rfl))) rfl ?_
  refine ops_ro' rfl (ro_eql rfl rfl rfl) rfl ?_
  refine ops_split rfl rfl rfl (fun hg10 => ?_) (fun hg10 => ?_)
  · replace hg10 := of_decide_eq_true hg10
    refine ops_ro' rfl (ro_fieldAddr fa56_1 rfl) rfl ?_
    refine ops_ro' rfl (ro_load sc9 rfl (Rd.pick 1 rfl (Rd.own rfl))) rfl ?_
    refine ops_ro' rfl (ro_fieldAddr fa56_1 rfl) rfl ?_
    refine ops_ro' rfl (ro_load sc9 rfl (Rd.pick 0 rfl (Rd.own rfl))) rfl ?_
    refine ops_ro' rfl (ro_eqlS rfl rfl rfl) rfl ?_
    refine ops_ro' rfl (ro_pick rfl rfl) rfl ?_
    refine ops_split rfl rfl rfl (fun hg17 => ?_) (fun hg17 => ?_)
    · replace hg17 := of_decide_eq_true hg17
      refine ops_ro' rfl (ro_fieldAddr fa56_2 rfl) rfl ?_
      refine ops_ro' rfl (ro_load sc9 rfl (Rd.pick 1 rfl (Rd.own rfl))) rfl ?_
      refine ops_ro' rfl (ro_fieldAddr fa56_2 rfl) rfl ?_
      refine ops_ro' rfl (ro_load sc9 rfl (Rd.pick 0 rfl (Rd.own rfl))) rfl ?_
      refine ops_ro' rfl (ro_eqlS rfl rfl rfl) rfl ?_
      refine ops_ro' rfl (ro_pick rfl rfl) rfl ?_
      refine ops_split rfl rfl rfl (fun hg24 => ?_) (fun hg24 => ?_)
      · replace hg24 := of_decide_eq_true hg24
        refine ops_ro' rfl (ro_fieldAddr fa56_3 rfl) rfl ?_
        refine ops_ro' rfl (ro_load sc9 rfl (Rd.pick 1 rfl (Rd.own rfl))) rfl ?_
        refine ops_ro' rfl (ro_fieldAddr fa56_3 rfl) rfl ?_
        refine ops_ro' rfl (ro_load sc9 rfl (Rd.pick 0 rfl (Rd.own rfl))) rfl ?_
        refine ops_ro' rfl (ro_eqlS rfl rfl rfl) rfl ?_
        refine ops_ro' rfl (ro_pick rfl rfl) rfl ?_
        refine ops_split rfl rfl rfl (fun hg31 => ?_) (fun hg31 => ?_)
        · replace hg31 := of_decide_eq_true hg31
          refine ops_ro' rfl (ro_fieldAddr fa56_4 rfl) rfl ?_
          refine ops_ro' rfl (ro_load sc52 rfl (Rd.pick 1 rfl (Rd.own rfl))) rfl ?_
          refine ops_ro' rfl (ro_fieldAddr fa56_4 rfl) rfl ?_
          refine ops_ro' rfl (ro_load sc52 rfl (Rd.pick 0 rfl (Rd.own rfl))) rfl ?_
          refine ops_ro' rfl (ro_eql rfl rfl rfl) rfl ?_
          refine ops_ro' rfl (ro_pick rfl rfl) rfl ?_
          refine ops_split rfl rfl rfl (fun hg38 => ?_) (fun hg38 => ?_)
          · replace hg38 := of_decide_eq_true hg38
            refine ops_ro' rfl (ro_fieldAddr fa56_5 rfl) rfl ?_
            refine ops_ro' rfl (ro_load sc40 rfl (Rd.pick 1 rfl (Rd.own rfl))) rfl ?_
            refine ops_ro' rfl (ro_fieldAddr fa56_5 rfl) rfl ?_
            refine ops_ro' rfl (ro_load sc40 rfl (Rd.pick 0 rfl (Rd.own rfl))) rfl ?_
            refine ops_ro' rfl (ro_eql rfl rfl rfl) rfl ?_
            refine ops_ro' rfl (ro_pick rfl rfl) rfl ?_
            refine ops_split rfl rfl rfl (fun hg45 => ?_) (fun hg45 => ?_)
            · replace hg45 := of_decide_eq_true hg45
              refine ops_ro' rfl (ro_fieldAddr fa56_6 rfl) rfl ?_
              refine ops_ro' rfl (ro_load sc32 rfl (Rd.pick 1 rfl (Rd.own rfl))) rfl ?_
              refine ops_ro' rfl (ro_toStr Try.underlying32 Try.underlying5 Try.underlying9 rfl (Vw.pick 2 rfl h1) rfl) rfl ?_
              refine ops_ro' rfl (ro_fieldAddr fa56_6 rfl) rfl ?_
              refine ops_ro' rfl (ro_load sc32 rfl (Rd.pick 0 rfl (Rd.own rfl))) rfl ?_
              refine ops_ro' rfl (ro_toStr Try.underlying32 Try.underlying5 Try.underlying9 rfl (Vw.pick 2 rfl h2) rfl) rfl ?_
              refine ops_ro' rfl (ro_eqlS rfl rfl rfl) rfl ?_
              refine ops_ro' rfl (ro_pick rfl rfl) rfl ?_
              refine ops_split rfl rfl rfl (fun hg54 => ?_) (fun hg54 => ?_)
              · replace hg54 := of_decide_eq_true hg54
                refine ops_ro' rfl (ro_fieldAddr fa56_7 rfl) rfl ?_
                refine ops_ro' rfl (ro_load sc40 rfl (Rd.pick 1 rfl (Rd.own rfl))) rfl ?_
                refine ops_ro' rfl (ro_fieldAddr fa56_7 rfl) rfl ?_
                refine ops_ro' rfl (ro_load sc40 rfl (Rd.pick 0 rfl (Rd.own rfl))) rfl ?_
                refine ops_ro' rfl (ro_eql rfl rfl rfl) rfl ?_
                refine ops_ro' rfl (ro_pick rfl rfl) rfl ?_
                refine ops_split rfl rfl rfl (fun hg61 => ?_) (fun hg61 => ?_)
                · replace hg61 := of_decide_eq_true hg61
                  refine ops_ro' rfl (ro_fieldAddr fa56_8 rfl) rfl ?_
                  refine ops_ro' rfl (ro_loadA ag54 rfl (RdN.of_pick 1 rfl (rdn_sub 7)) rfl) rfl ?_
                  refine ops_ro' rfl (ro_fieldAddr fa56_8 rfl) rfl ?_
                  refine ops_ro' rfl (ro_loadA ag54 rfl (RdN.of_pick 0 rfl (rdn_sub 7)) rfl) rfl ?_
                  refine ops_ro' rfl (ro_attrEq rfl rfl rfl) rfl ?_
                  refine ops_ro' rfl (ro_pick rfl rfl) rfl ?_
                  refine ops_ro' rfl (ro_assign rfl) rfl ?_
                  refine ops_nil ?_
                  refine Then_normal ?_
                  refine wp_ret' ?_
                  refine' doneS_ret (res1 rfl rfl) ?_ ?_
                  rotate_left 1
                  exact ⟨_, ⟨by
                    rw [rq_dec]
                    try replace hg38 : x.off = y.off := by omega
                    try replace hg38 : ¬ x.off = y.off := by omega
                    try replace hg45 : x.len = y.len := by omega
                    try replace hg45 : ¬ x.len = y.len := by omega
                    try replace hg61 : x.fl = y.fl := by omega
                    try replace hg61 : ¬ x.fl = y.fl := by omega
                    simp [*], rfl⟩, rfl⟩
                  exact (SubH.cons 2 rfl (SubH.nil _))
                · replace hg61 := of_decide_eq_false hg61
                  refine ops_skip' rfl rfl ?_
                  refine ops_skip' rfl rfl ?_
                  refine ops_skip' rfl rfl ?_
                  refine ops_skip' rfl rfl ?_
                  refine ops_skip' rfl rfl ?_
                  refine ops_ro' rfl (ro_pick rfl rfl) rfl ?_
                  refine ops_ro' rfl (ro_assign rfl) rfl ?_
                  refine ops_nil ?_
                  refine Then_normal ?_
                  refine wp_ret' ?_
                  refine' doneS_ret (res1 rfl rfl) ?_ ?_
                  rotate_left 1
                  exact ⟨_, ⟨by
                    rw [rq_dec]
                    try replace hg38 : x.off = y.off := by omega
                    try replace hg38 : ¬ x.off = y.off := by omega
                    try replace hg45 : x.len = y.len := by omega
                    try replace hg45 : ¬ x.len = y.len := by omega
                    try replace hg61 : x.fl = y.fl := by omega
                    try replace hg61 : ¬ x.fl = y.fl := by omega
                    simp [*], rfl⟩, rfl⟩
                  exact (SubH.cons 2 rfl (SubH.nil _))
              · replace hg54 := of_decide_eq_false hg54
                refine ops_skip' rfl rfl ?_
                refine ops_skip' rfl rfl ?_
                refine ops_skip' rfl rfl ?_
                refine ops_skip' rfl rfl ?_
                refine ops_skip' rfl rfl ?_
                refine ops_ro' rfl (ro_pick rfl rfl) rfl ?_
                refine ops_ro' rfl (ro_move (v := .bool false) rfl) rfl ?_
                refine ops_skip' rfl rfl ?_
                refine ops_skip' rfl rfl ?_
                refine ops_skip' rfl rfl ?_
                refine ops_skip' rfl rfl ?_
                refine ops_skip' rfl rfl ?_
                refine ops_ro' rfl (ro_pick rfl rfl) rfl ?_
                refine ops_ro' rfl (ro_assign rfl) rfl ?_
                refine ops_nil ?_
                refine Then_normal ?_
                refine wp_ret' ?_
                refine' doneS_ret (res1 rfl rfl) ?_ ?_
                rotate_left 1
                exact ⟨_, ⟨by
                  rw [rq_dec]
                  try replace hg38 : x.off = y.off := by omega
                  try replace hg38 : ¬ x.off = y.off := by omega
                  try replace hg45 : x.len = y.len := by omega
                  try replace hg45 : ¬ x.len = y.len := by omega
                  try replace hg61 : x.fl = y.fl := by omega
                  try replace hg61 : ¬ x.fl = y.fl := by omega
                  simp [*], rfl⟩, rfl⟩
                exact (SubH.cons 2 rfl (SubH.nil _))
            · replace hg45 := of_decide_eq_false hg45
              refine ops_skip' rfl rfl ?_
              refine ops_skip' rfl rfl ?_
              refine ops_skip' rfl rfl ?_
              refine ops_skip' rfl rfl ?_
              refine ops_skip' rfl rfl ?_
              refine ops_skip' rfl rfl ?_
              refine ops_skip' rfl rfl ?_
              refine ops_ro' rfl (ro_pick rfl rfl) rfl ?_
              refine ops_ro' rfl (ro_move (v := .bool false) rfl) rfl ?_
              refine ops_skip' rfl rfl ?_
              refine ops_skip' rfl rfl ?_
              refine ops_skip' rfl rfl ?_
              refine ops_skip' rfl rfl ?_
              refine ops_skip' rfl rfl ?_
              refine ops_ro' rfl (ro_pick rfl rfl) rfl ?_
              refine ops_ro' rfl (ro_move (v := .bool false) rfl) rfl ?_
              refine ops_skip' rfl rfl ?_
              refine ops_skip' rfl rfl ?_
              refine ops_skip' rfl rfl ?_
              refine ops_skip' rfl rfl ?_
              refine ops_skip' rfl rfl ?_
              refine ops_ro' rfl (ro_pick rfl rfl) rfl ?_
              refine ops_ro' rfl (ro_assign rfl) rfl ?_
              refine ops_nil ?_
              refine Then_normal ?_
              refine wp_ret' ?_
              refine' doneS_ret (res1 rfl rfl) ?_ ?_
              rotate_left 1
              exact ⟨_, ⟨by
                rw [rq_dec]
                try replace hg38 : x.off = y.off := by omega
                try replace hg38 : ¬ x.off = y.off := by omega
                try replace hg45 : x.len = y.len := by omega
                try replace hg45 : ¬ x.len = y.len := by omega
                try replace hg61 : x.fl = y.fl := by omega
                try replace hg61 : ¬ x.fl = y.fl := by omega
                simp [*], rfl⟩, rfl⟩
              exact (SubH.cons 2 rfl (SubH.nil _))
          · replace hg38 := of_decide_eq_false hg38
            refine ops_skip' rfl rfl ?_
            refine ops_skip' rfl rfl ?_
            refine ops_skip' rfl rfl ?_
            refine ops_skip' rfl rfl ?_
            refine ops_skip' rfl rfl ?_
            refine ops_ro' rfl (ro_pick rfl rfl) rfl ?_
            refine ops_ro' rfl (ro_move (v := .bool false) rfl) rfl ?_
            refine ops_skip' rfl rfl ?_
            refine ops_skip' rfl rfl ?_
            refine ops_skip' rfl rfl ?_
            refine ops_skip' rfl rfl ?_
            refine ops_skip' rfl rfl ?_
            refine ops_skip' rfl rfl ?_
            refine ops_skip' rfl rfl ?_
            refine ops_ro' rfl (ro_pick rfl rfl) rfl ?_
            refine ops_ro' rfl (ro_move (v := .bool false) rfl) rfl ?_
            refine ops_skip' rfl rfl ?_
            refine ops_skip' rfl rfl ?_
            refine ops_skip' rfl rfl ?_
            refine ops_skip' rfl rfl ?_
            refine ops_skip' rfl rfl ?_
            refine ops_ro' rfl (ro_pick rfl rfl) rfl ?_
            refine ops_ro' rfl (ro_move (v := .bool false) rfl) rfl ?_
            refine ops_skip' rfl rfl ?_
            refine ops_skip' rfl rfl ?_
            refine ops_skip' rfl rfl ?_
            refine ops_skip' rfl rfl ?_
            refine ops_skip' rfl rfl ?_
            refine ops_ro' rfl (ro_pick rfl rfl) rfl ?_
            refine ops_ro' rfl (ro_assign rfl) rfl ?_
            refine ops_nil ?_
            refine Then_normal ?_
            refine wp_ret' ?_
            refine' doneS_ret (res1 rfl rfl) ?_ ?_
            rotate_left 1
            exact ⟨_, ⟨by
              rw [rq_dec]
              try replace hg38 : x.off = y.off := by omega
              try replace hg38 : ¬ x.off = y.off := by omega
              try replace hg45 : x.len = y.len := by omega
              try replace hg45 : ¬ x.len = y.len := by omega
              try replace hg61 : x.fl = y.fl := by omega
              try replace hg61 : ¬ x.fl = y.fl := by omega
              simp [*], rfl⟩, rfl⟩
            exact (SubH.cons 2 rfl (SubH.nil _))
        · replace hg31 := of_decide_eq_false hg31
          refine ops_skip' rfl rfl ?_
          refine ops_skip' rfl rfl ?_
          refine ops_skip' rfl rfl ?_
          refine ops_skip' rfl rfl ?_
          refine ops_skip' rfl rfl ?_
          refine ops_ro' rfl (ro_pick rfl rfl) rfl ?_
          refine ops_ro' rfl (ro_move (v := .bool false) rfl) rfl ?_
          refine ops_skip' rfl rfl ?_
          refine ops_skip' rfl rfl ?_
          refine ops_skip' rfl rfl ?_
          refine ops_skip' rfl rfl ?_
          refine ops_skip' rfl rfl ?_
          refine ops_ro' rfl (ro_pick rfl rfl) rfl ?_
          refine ops_ro' rfl (ro_move (v := .bool false) rfl) rfl ?_
          refine ops_skip' rfl rfl ?_
          refine ops_skip' rfl rfl ?_
          refine ops_skip' rfl rfl ?_
          refine ops_skip' rfl rfl ?_
          refine ops_skip' rfl rfl ?_
          refine ops_skip' rfl rfl ?_
          refine ops_skip' rfl rfl ?_
          refine ops_ro' rfl (ro_pick rfl rfl) rfl ?_
          refine ops_ro' rfl (ro_move (v := .bool false) rfl) rfl ?_
          refine ops_skip' rfl rfl ?_
          refine ops_skip' rfl rfl ?_
          refine ops_skip' rfl rfl ?_
          refine ops_skip' rfl rfl ?_
          refine ops_skip' rfl rfl ?_
          refine ops_ro' rfl (ro_pick rfl rfl) rfl ?_
          refine ops_ro' rfl (ro_move (v := .bool false) rfl) rfl ?_
          refine ops_skip' rfl rfl ?_
          refine ops_skip' rfl rfl ?_
          refine ops_skip' rfl rfl ?_
          refine ops_skip' rfl rfl ?_
          refine ops_skip' rfl rfl ?_
          refine ops_ro' rfl (ro_pick rfl rfl) rfl ?_
          refine ops_ro' rfl (ro_assign rfl) rfl ?_
          refine ops_nil ?_
          refine Then_normal ?_
          refine wp_ret' ?_
          refine' doneS_ret (res1 rfl rfl) ?_ ?_
          rotate_left 1
          exact ⟨_, ⟨by
            rw [rq_dec]
            try replace hg38 : x.off = y.off := by omega
            try replace hg38 : ¬ x.off = y.off := by omega
            try replace hg45 : x.len = y.len := by omega
            try replace hg45 : ¬ x.len = y.len := by omega
            try replace hg61 : x.fl = y.fl := by omega
            try replace hg61 : ¬ x.fl = y.fl := by omega
            simp [*], rfl⟩, rfl⟩
          exact (SubH.cons 2 rfl (SubH.nil _))
      · replace hg24 := of_decide_eq_false hg24
        refine ops_skip' rfl rfl ?_
        refine ops_skip' rfl rfl ?_
        refine ops_skip' rfl rfl ?_
        refine ops_skip' rfl rfl ?_
        refine ops_skip' rfl rfl ?_
        refine ops_ro' rfl (ro_pick rfl rfl) rfl ?_
        refine ops_ro' rfl (ro_move (v := .bool false) rfl) rfl ?_
        refine ops_skip' rfl rfl ?_
        refine ops_skip' rfl rfl ?_
        refine ops_skip' rfl rfl ?_
        refine ops_skip' rfl rfl ?_
        refine ops_skip' rfl rfl ?_
        refine ops_ro' rfl (ro_pick rfl rfl) rfl ?_
        refine ops_ro' rfl (ro_move (v := .bool false) rfl) rfl ?_
        refine ops_skip' rfl rfl ?_
        refine ops_skip' rfl rfl ?_
        refine ops_skip' rfl rfl ?_
        refine ops_skip' rfl rfl ?_
        refine ops_skip' rfl rfl ?_
        refine ops_ro' rfl (ro_pick rfl rfl) rfl ?_
        refine ops_ro' rfl (ro_move (v := .bool false) rfl) rfl ?_
        refine ops_skip' rfl rfl ?_
        refine ops_skip' rfl rfl ?_
        refine ops_skip' rfl rfl ?_
        refine ops_skip' rfl rfl ?_
        refine ops_skip' rfl rfl ?_
        refine ops_skip' rfl rfl ?_
        refine ops_skip' rfl rfl ?_
        refine ops_ro' rfl (ro_pick rfl rfl) rfl ?_
        refine ops_ro' rfl (ro_move (v := .bool false) rfl) rfl ?_
        refine ops_skip' rfl rfl ?_
        refine ops_skip' rfl rfl ?_
        refine ops_skip' rfl rfl ?_
        refine ops_skip' rfl rfl ?_
        refine ops_skip' rfl rfl ?_
        refine ops_ro' rfl (ro_pick rfl rfl) rfl ?_
        refine ops_ro' rfl (ro_move (v := .bool false) rfl) rfl ?_
        refine ops_skip' rfl rfl ?_
        refine ops_skip' rfl rfl ?_
        refine ops_skip' rfl rfl ?_
        refine ops_skip' rfl rfl ?_
        refine ops_skip' rfl rfl ?_
        refine ops_ro' rfl (ro_pick rfl rfl) rfl ?_
        refine ops_ro' rfl (ro_assign rfl) rfl ?_
        refine ops_nil ?_
        refine Then_normal ?_
        refine wp_ret' ?_
        refine' doneS_ret (res1 rfl rfl) ?_ ?_
        rotate_left 1
        exact ⟨_, ⟨by
          rw [rq_dec]
          try replace hg38 : x.off = y.off := by omega
          try replace hg38 : ¬ x.off = y.off := by omega
          try replace hg45 : x.len = y.len := by omega
          try replace hg45 : ¬ x.len = y.len := by omega
          try replace hg61 : x.fl = y.fl := by omega
          try replace hg61 : ¬ x.fl = y.fl := by omega
          simp [*], rfl⟩, rfl⟩
        exact (SubH.cons 2 rfl (SubH.nil _))
    · replace hg17 := of_decide_eq_false hg17
      refine ops_skip' rfl rfl ?_
      refine ops_skip' rfl rfl ?_
      refine ops_skip' rfl rfl ?_
      refine ops_skip' rfl rfl ?_
      refine ops_skip' rfl rfl ?_
      refine ops_ro' rfl (ro_pick rfl rfl) rfl ?_
      refine ops_ro' rfl (ro_move (v := .bool false) rfl) rfl ?_
      refine ops_skip' rfl rfl ?_
      refine ops_skip' rfl rfl ?_
      refine ops_skip' rfl rfl ?_
      refine ops_skip' rfl rfl ?_
      refine ops_skip' rfl rfl ?_
      refine ops_ro' rfl (ro_pick rfl rfl) rfl ?_
      refine ops_ro' rfl (ro_move (v := .bool false) rfl) rfl ?_
      refine ops_skip' rfl rfl ?_
      refine ops_skip' rfl rfl ?_
      refine ops_skip' rfl rfl ?_
      refine ops_skip' rfl rfl ?_
      refine ops_skip' rfl rfl ?_
      refine ops_ro' rfl (ro_pick rfl rfl) rfl ?_
      refine ops_ro' rfl (ro_move (v := .bool false) rfl) rfl ?_
      refine ops_skip' rfl rfl ?_
      refine ops_skip' rfl rfl ?_
      refine ops_skip' rfl rfl ?_
      refine ops_skip' rfl rfl ?_
      refine ops_skip' rfl rfl ?_
      refine ops_ro' rfl (ro_pick rfl rfl) rfl ?_
      refine ops_ro' rfl (ro_move (v := .bool false) rfl) rfl ?_
      refine ops_skip' rfl rfl ?_
      refine ops_skip' rfl rfl ?_
      refine ops_skip' rfl rfl ?_
      refine ops_skip' rfl rfl ?_
      refine ops_skip' rfl rfl ?_
      refine ops_skip' rfl rfl ?_
      refine ops_skip' rfl rfl ?_
      refine ops_ro' rfl (ro_pick rfl rfl) rfl ?_
      refine ops_ro' rfl (ro_move (v := .bool false) rfl) rfl ?_
      refine ops_skip' rfl rfl ?_
      refine ops_skip' rfl rfl ?_
      refine ops_skip' rfl rfl ?_
      refine ops_skip' rfl rfl ?_
      refine ops_skip' rfl rfl ?_
      refine ops_ro' rfl (ro_pick rfl rfl) rfl ?_
      refine ops_ro' rfl (ro_move (v := .bool false) rfl) rfl ?_
      refine ops_skip' rfl rfl ?_
      refine ops_skip' rfl rfl ?_
      refine ops_skip' rfl rfl ?_
      refine ops_skip' rfl rfl ?_
      refine ops_skip' rfl rfl ?_
      refine ops_ro' rfl (ro_pick rfl rfl) rfl ?_
      refine ops_ro' rfl (ro_assign rfl) rfl ?_
      refine ops_nil ?_
      refine Then_normal ?_
      refine wp_ret' ?_
      refine' doneS_ret (res1 rfl rfl) ?_ ?_
      rotate_left 1
      exact ⟨_, ⟨by
        rw [rq_dec]
        try replace hg38 : x.off = y.off := by omega
        try replace hg38 : ¬ x.off = y.off := by omega
        try replace hg45 : x.len = y.len := by omega
        try replace hg45 : ¬ x.len = y.len := by omega
        try replace hg61 : x.fl = y.fl := by omega
        try replace hg61 : ¬ x.fl = y.fl := by omega
        simp [*], rfl⟩, rfl⟩
      exact (SubH.cons 2 rfl (SubH.nil _))
  · replace hg10 := of_decide_eq_false hg10
    refine ops_skip' rfl rfl ?_
    refine ops_skip' rfl rfl ?_
    refine ops_skip' rfl rfl ?_
    refine ops_skip' rfl rfl ?_
    refine ops_skip' rfl rfl ?_
    refine ops_ro' rfl (ro_pick rfl rfl) rfl ?_
    refine ops_ro' rfl (ro_move (v := .bool false) rfl) rfl ?_
    refine ops_skip' rfl rfl ?_
    refine ops_skip' rfl rfl ?_
    refine ops_skip' rfl rfl ?_
    refine ops_skip' rfl rfl ?_
    refine ops_skip' rfl rfl ?_
    refine ops_ro' rfl (ro_pick rfl rfl) rfl ?_
    refine ops_ro' rfl (ro_move (v := .bool false) rfl) rfl ?_
    refine ops_skip' rfl rfl ?_
    refine ops_skip' rfl rfl ?_
    refine ops_skip' rfl rfl ?_
    refine ops_skip' rfl rfl ?_
    refine ops_skip' rfl rfl ?_
    refine ops_ro' rfl (ro_pick rfl rfl) rfl ?_
    refine ops_ro' rfl (ro_move (v := .bool false) rfl) rfl ?_
    refine ops_skip' rfl rfl ?_
    refine ops_skip' rfl rfl ?_
    refine ops_skip' rfl rfl ?_
    refine ops_skip' rfl rfl ?_
    refine ops_skip' rfl rfl ?_
    refine ops_ro' rfl (ro_pick rfl rfl) rfl ?_
    refine ops_ro' rfl (ro_move (v := .bool false) rfl) rfl ?_
    refine ops_skip' rfl rfl ?_
    refine ops_skip' rfl rfl ?_
    refine ops_skip' rfl rfl ?_
    refine ops_skip' rfl rfl ?_
    refine ops_skip' rfl rfl ?_
    refine ops_ro' rfl (ro_pick rfl rfl) rfl ?_
    refine ops_ro' rfl (ro_move (v := .bool false) rfl) rfl ?_
    refine ops_skip' rfl rfl ?_
    refine ops_skip' rfl rfl ?_
    refine ops_skip' rfl rfl ?_
    refine ops_skip' rfl rfl ?_
    refine ops_skip' rfl rfl ?_
    refine ops_skip' rfl rfl ?_
    refine ops_skip' rfl rfl ?_
    refine ops_ro' rfl (ro_pick rfl rfl) rfl ?_
    refine ops_ro' rfl (ro_move (v := .bool false) rfl) rfl ?_
    refine ops_skip' rfl rfl ?_
    refine ops_skip' rfl rfl ?_
    refine ops_skip' rfl rfl ?_
    refine ops_skip' rfl rfl ?_
    refine ops_skip' rfl rfl ?_
    refine ops_ro' rfl (ro_pick rfl rfl) rfl ?_
    refine ops_ro' rfl (ro_move (v := .bool false) rfl) rfl ?_
    refine ops_skip' rfl rfl ?_
    refine ops_skip' rfl rfl ?_
    refine ops_skip' rfl rfl ?_
    refine ops_skip' rfl rfl ?_
    refine ops_skip' rfl rfl ?_
    refine ops_ro' rfl (ro_pick rfl rfl) rfl ?_
    refine ops_ro' rfl (ro_assign rfl) rfl ?_
    refine ops_nil ?_
    refine Then_normal ?_
    refine wp_ret' ?_
    refine' doneS_ret (res1 rfl rfl) ?_ ?_
    rotate_left 1
    exact ⟨_, ⟨by
      rw [rq_dec]
      try replace hg38 : x.off = y.off := by omega
      try replace hg38 : ¬ x.off = y.off := by omega
      try replace hg45 : x.len = y.len := by omega
      try replace hg45 : ¬ x.len = y.len := by omega
      try replace hg61 : x.fl = y.fl := by omega
      try replace hg61 : ¬ x.fl = y.fl := by omega
      simp [*], rfl⟩, rfl⟩
    exact (SubH.cons 2 rfl (SubH.nil _))


theorem known_enc (V : HProp) : Tri Try.prog 29 [.int .u32 7, Rc.v ⟨4, [], [], [104, 48], 0, 0, [], 0, At.zero⟩ none 0] [V] (fun v H' => ∃ K, (∃ p n, v = .tuple #[.slice p 11 n, .int .i64 0] ∧ K = [row 5 1 (.slice p 11 n) 11 (cel [4, 0, 0, 0, 7, 0, 0, 0, 2, 104, 48])]) ∧ H' = K ++ [V]) := by
  have h := sfEnc_spec V 7 (by decide) ⟨4, [], [], [104, 48], 0, 0, [], 0, At.zero⟩ ⟨by decide, by decide, by decide, by decide, At.zero_ok⟩ none 0 (Vw.nil V)
  rw [show encB (axOf (4 : Int)) 7 ⟨4, [], [], [104, 48], 0, 0, [], 0, At.zero⟩ = [4, 0, 0, 0, 7, 0, 0, 0, 2, 104, 48] from by decide, show encE (axOf (4 : Int)) ⟨4, [], [], [104, 48], 0, 0, [], 0, At.zero⟩ = 0 from by decide] at h
  exact h
theorem known_dec (V : HProp) (p : Option Addr) (c : Nat) (hV : Vw V (.slice p 5 c) 5 (cel [200, 0, 0, 0, 1])) : Tri Try.prog 28 [.slice p 5 c] [V] (fun v H' => ∃ K, (∃ dp dn, v = .tuple #[.int .u32 1, Rc.zero.v dp dn, .int .i64 23] ∧ K = [row 5 1 (.slice dp 0 dn) 0 []]) ∧ H' = K ++ [V]) := by
  have h := sfDec_spec V p c [200, 0, 0, 0, 1] hV (by decide)
  rw [show decQ [200, 0, 0, 0, 1] = (1, Rc.zero, 23) from by decide] at h
  exact tri_post h fun v H' ⟨dp, dn, h1, h2⟩ => ⟨_, ⟨dp, dn, h1, rfl⟩, h2⟩
theorem known17_spec (V : HProp) : Tri Try.prog 30 [] [V] (fun v H' => v = .bool true ∧ H' = [V]) := by
  refine tri_of_wpS Try.func30 rfl Try.ntmps30 (by simp) ?_
  refine wp_seq' ?_
  refine wp_region' ?_
  refine ops_ro' rfl (ro_assign rfl) rfl ?_
  refine ops_nil ?_
  refine Then_normal ?_
  refine wp_seq' ?_
  refine wp_region' ?_
  refine ops_ro' rfl (ro_build rfl (bld_struct (cs := Rc.cs ⟨4, [], [], [104, 48], 0, 0, [], 0, At.zero⟩ none 0) st56 rfl)) rfl ?_
  refine ops_eff' rfl (eff_call Try.call29 rfl rfl (by repeat (first | exact Split.nil _ | apply Split.cons 0 rfl | apply Split.cons 1 rfl | apply Split.cons 2 rfl | apply Split.cons 3 rfl | apply Split.cons 4 rfl | apply Split.cons 5 rfl | apply Split.cons 6 rfl | apply Split.cons 7 rfl | apply Split.cons 8 rfl | apply Split.cons 9 rfl | apply Split.cons 10 rfl | apply Split.cons 11 rfl)) (known_enc V)) rfl ?_
  rintro _ H' ⟨_, ⟨_, ⟨p8, c8, rfl, rfl⟩, rfl⟩, hH⟩
  simp only [List.cons_append, List.nil_append, List.eraseIdx_cons_zero, List.eraseIdx_cons_succ, List.set_cons_zero, List.set_cons_succ] at hH
  subst hH
  refine ops_ro' rfl (ro_move rfl) rfl ?_
  refine ops_ro' rfl (ro_extract rfl rfl) rfl ?_
  refine ops_ro' rfl (ro_extract rfl rfl) rfl ?_
  refine ops_ro' rfl (ro_assign rfl) rfl ?_
  refine ops_ro' rfl (ro_assign rfl) rfl ?_
  refine ops_nil ?_
  refine Then_normal ?_
  refine wp_seq' ?_
  refine wp_region' ?_
  refine ops_eff' rfl (eff_lit sl32 rfl (sbld (cs := cel [200, 0, 0, 0, 1]) (List.replicate 5 (.int .u8 0)) sl32 (by decide) (by kernel_rfl) rfl) rfl (by decide)) rfl ?_
  rintro _ _ ⟨b12, rfl, rfl⟩
  refine ops_eff' rfl (eff_callM (Pre := []) Try.call28 rfl rfl (Split.nil _) (known_dec _ _ _ (by first | exact Vw.pick 0 rfl Vw.row | exact Vw.pick 1 rfl Vw.row | exact Vw.pick 2 rfl Vw.row | exact Vw.pick 3 rfl Vw.row | exact Vw.pick 4 rfl Vw.row | exact Vw.pick 5 rfl Vw.row | exact Vw.nil _ | exact Vw.empty _ _))) rfl ?_
  rintro _ H' ⟨_, ⟨dp, dn, rfl, rfl⟩, hH⟩
  simp only [List.cons_append, List.nil_append, List.eraseIdx_cons_zero, List.eraseIdx_cons_succ, List.set_cons_zero, List.set_cons_succ] at hH
  subst hH
  refine ops_ro' rfl (ro_move rfl) rfl ?_
  refine ops_ro' rfl (ro_extract rfl rfl) rfl ?_
  refine ops_ro' rfl (ro_extract rfl rfl) rfl ?_
  refine ops_ro' rfl (ro_extract rfl rfl) rfl ?_
  refine ops_eff' rfl (eff_alloc z56) rfl ?_
  rintro _ _ ⟨b4, rfl, rfl⟩
  refine ops_ro' rfl (ro_assign rfl) rfl ?_
  refine ops_eff0 rfl (eff_storeA 0 ag56 rfl rfl rfl rfl rfl (Nat.le_of_ble_eq_true rfl) (warm_zero _)) rfl ?_
  rintro _ _ rfl
  refine ops_ro' rfl (ro_assign rfl) rfl ?_
  refine ops_nil ?_
  refine Then_normal ?_
  refine wp_seq' ?_
  refine wp_region' ?_
  refine ops_ro' rfl (ro_move rfl) rfl ?_
  refine ops_ro' rfl (ro_eql rfl rfl (decide_eq_true (by omega))) rfl ?_
  refine ops_ro' rfl (ro_move (v := .bool true) rfl) rfl ?_
  refine ops_ro' rfl (ro_move rfl) rfl ?_
  refine ops_ro' rfl (ro_toStr Try.underlying32 Try.underlying5 Try.underlying9 rfl (Vw.pick 3 rfl Vw.row) rfl) rfl ?_
  refine ops_ro' rfl (ro_eqlS (b := [4, 0, 0, 0, 7, 0, 0, 0, 2, 104, 48]) rfl rfl (decide_eq_true rfl)) rfl ?_
  refine ops_ro' rfl (ro_pick rfl rfl) rfl ?_
  refine ops_ro' rfl (ro_move (v := .bool true) rfl) rfl ?_
  refine ops_ro' rfl (ro_move rfl) rfl ?_
  refine ops_ro' rfl (ro_eql rfl rfl (decide_eq_true (by omega))) rfl ?_
  refine ops_ro' rfl (ro_pick rfl rfl) rfl ?_
  refine ops_ro' rfl (ro_move (v := .bool true) rfl) rfl ?_
  refine ops_ro' rfl (ro_move rfl) rfl ?_
  refine ops_ro' rfl (ro_eql rfl rfl (decide_eq_true (by omega))) rfl ?_
  refine ops_ro' rfl (ro_pick rfl rfl) rfl ?_
  refine ops_ro' rfl (ro_assign rfl) rfl ?_
  refine ops_nil ?_
  refine Then_normal ?_
  refine wp_ret' ?_
  refine' doneS_ret (res1 rfl rfl) ?_ ?_
  rotate_left 1
  exact ⟨rfl, rfl⟩
  exact (SubH.cons 4 rfl (SubH.nil _))

end Go.Proofs.Ytigaolglnnjnmaa
