/-
  Package strongroomref15: a file has so many bytes.
  Package strongroomref15: Write.
-/
import Derived.Test.YtbbmhppkhcodfaaRfD
import Derived.Test.YtbbmhppkhcodfaaPPath
import Derived.Test.YtbbmhppkhcodfaaSxAppZ
import Derived.Test.YtbbmhppkhcodfaaTrTb
import Derived.Test.YtbbmhppkhcodfaaSxSub
import Derived.Test.YtbbmhppkhcodfaaTrK
namespace Go.Proofs.Ytbbmhppkhcodfaa
open Go.Sx
set_option linter.unusedVariables false
set_option linter.unusedSimpArgs false
set_option maxRecDepth 100000
set_option maxHeartbeats 4000000

def szR (l : List Th) (x : Th) (n : Nat) : Int := if 1048576 < n then 3 else if 1048576 < (l.map fun y : Th => y.b.length).sum - x.b.length + n then 13 else 0
theorem szR_long {l : List Th} {x : Th} {n : Nat} (h : 1048576 < n) : szR l x n = 3 := by unfold szR; rw [if_pos h]
theorem szR_full {l : List Th} {x : Th} {n : Nat} (h : n ≤ 1048576) (h2 : 1048576 < (l.map fun y : Th => y.b.length).sum - x.b.length + n) : szR l x n = 13 := by unfold szR; rw [if_neg (by omega), if_pos h2]
theorem szR_ok {l : List Th} {x : Th} {n : Nat} (h : n ≤ 1048576) (h2 : (l.map fun y : Th => y.b.length).sum - x.b.length + n ≤ 1048576) : szR l x n = 0 := by unfold szR; rw [if_neg (by omega), if_neg (by omega)]
def Th.with (x : Th) (p : Option Addr) (c : Nat) (b : List UInt8) : Th := { x with bp := p, bc := c, b := b }
theorem cel_noughts {b : List UInt8} {m : Nat} : cel b ++ List.replicate m (.int .u8 0) = cel (b ++ List.replicate m 0) := by
  rw [cel_append]; congr 1; unfold cel; rw [List.map_replicate]; rfl
theorem app_noughts_len {b : List UInt8} {m : Nat} : b.length + m = (b ++ List.replicate m (0 : UInt8)).length := by rw [List.length_append, List.length_replicate]
theorem szd_more {b : List UInt8} {n : Nat} (h : b.length < n) : (b ++ List.replicate (n - b.length) 0).take n = szd b n := by
  unfold szd; rw [List.take_of_length_le (by rw [List.length_append, List.length_replicate]; omega), List.take_of_length_le (by omega)]
theorem szd_less {b : List UInt8} {n : Nat} (h : n ≤ b.length) : b.take n = szd b n := by
  unfold szd; rw [show n - b.length = 0 by omega, List.replicate_zero, List.append_nil]
theorem cel_take {b : List UInt8} {n : Nat} : (cel b).take n = cel (b.take n) := by unfold cel; rw [List.map_take]
theorem sumT_in {x : Th} : ∀ {l : List Th}, x ∈ l → x.b.length ≤ (l.map fun y : Th => y.b.length).sum
  | y :: r, h => by
    rw [List.map_cons, List.sum_cons]
    rcases List.mem_cons.1 h with h | h
    · rw [h]; omega
    · have := sumT_in h; omega
theorem ths_set : ∀ {l : List Th} {i : Nat} {x y : Th} (_ : l[i]? = some x) {u : World} {F : HProp} (_ : sat u (star (ths l) (star (thB y) F))), sat u (star (ths (l.set i y)) F)
  | z :: l, 0, x, y, h, u, F, s => by
    have e : ths (z :: l) = star (thB z) (ths l) := rfl
    have e2 : ths ((z :: l).set 0 y) = star (thB y) (ths l) := rfl
    rw [e, star_assoc] at s; have s := sat_star_right s
    rw [star_left_comm, ← star_assoc] at s; rw [e2]; exact s
  | z :: l, i + 1, x, y, h, u, F, s => by
    have e : ths (z :: l) = star (thB z) (ths l) := rfl
    have e2 : ths ((z :: l).set (i + 1) y) = star (thB z) (ths (l.set i y)) := rfl
    rw [e, star_assoc, star_left_comm, star_left_comm (thB z)] at s; have s := ths_set (l := l) (i := i) (x := x) (y := y) (by simpa using h) s
    rw [star_left_comm, ← star_assoc] at s; rw [e2]; exact s
theorem rset_close {w : Rt} {p : Option Addr} {c i n : Nat} {x y : Th} {zs : List Value} {V : List HProp} (hi : w.L[i]? = some x) (hn : y.b.length = n) (hz : zs = cel y.b) (hk : True) : SubH ([row 5 1 (.slice y.bp n y.bc) n zs, own w.tb (.cells ([.slice p (w.L).length c, .int .i64 ((w.next : Nat) : Int)] : List Value).toArray 74 (0, 0)), row 109 12 (.slice p w.L.length c) w.L.length (flat Th.cs (w.L.set i y)), ths w.L] ++ V) (rtree ⟨w.tb, p, c, w.next, w.L.set i y⟩ :: V) := fun u F s => by
  subst hn; subst hz; refine rtree_shut (w := ⟨w.tb, p, c, w.next, w.L.set i y⟩) ?_; have s1 := (SubH.cons 3 rfl (SubH.cons 0 rfl (SubH.cons 0 rfl (SubH.cons 0 rfl (SubH.refl _)))) : SubH _ (ths w.L :: row 5 1 (.slice y.bp y.b.length y.bc) y.b.length (cel y.b) :: own w.tb (.cells ([.slice p (w.L).length c, .int .i64 ((w.next : Nat) : Int)] : List Value).toArray 74 (0, 0)) :: row 109 12 (.slice p w.L.length c) w.L.length (flat Th.cs (w.L.set i y)) :: V)) u F s
  rw [St_cons, star_assoc, St_cons, star_assoc] at s1; have s2 := ths_set (y := y) hi s1
  rw [← star_assoc, ← St_cons] at s2; have s3 := (SubH.cons 1 rfl (SubH.cons 1 rfl (SubH.cons 0 rfl (SubH.refl _))) : SubH _ (own w.tb (.cells ([.slice p (w.L).length c, .int .i64 ((w.next : Nat) : Int)] : List Value).toArray 74 (0, 0)) :: row 109 12 (.slice p w.L.length c) w.L.length (flat Th.cs (w.L.set i y)) :: ths (w.L.set i y) :: V)) u F s2
  have e : (w.L.set i y).length = w.L.length := List.length_set
  show sat u (star (St (own w.tb (.cells ([.slice p (w.L.set i y).length c, .int .i64 ((w.next : Nat) : Int)] : List Value).toArray 74 (0, 0)) :: row 109 12 (.slice p (w.L.set i y).length c) (w.L.set i y).length (flat Th.cs (w.L.set i y)) :: ths (w.L.set i y) :: V)) F)
  rw [e]; exact s3
theorem flat_set4 {l : List Th} {i n : Nat} {x : Th} {p : Option Addr} {c : Nat} (hi : l[i]? = some x) : (flat Th.cs l).set (0 + i * 12 + 4) (.slice p n c) = flat Th.cs (l.set i (x.with p c (szd x.b n))) := by
  rw [Nat.zero_add]; refine flat_set Th.len hi (by omega) ?_
  show _ = _
  simp only [Th.with, Th.cs, szd_len]
  rfl
/-- the file x at the place i has n bytes now, or not -/
def SizeW (w : Rt) (i : Nat) (x : Th) (n : Nat) (w' : Rt) (e : Int) : Prop :=
  (e ≠ 0 ∧ w' = w ∧ e = szR w.L x n) ∨ (e = 0 ∧ szR w.L x n = 0 ∧ w'.tb = w.tb ∧ w'.next = w.next ∧ ∃ p c, w'.L = w.L.set i (x.with p c (szd x.b n)))
theorem rsize_spec {w : Rt} (hfew : w.L.length ≤ 100000) (hs : (w.L.map fun y : Th => y.b.length).sum ≤ 1048576) {i : Nat} {x : Th} (hxi : w.L[i]? = some x) (n : Nat) (hn : n < 18446744073709551616) :
    Tri Try.prog 91 [w.v, .int .i64 (i : Int), .int .u64 (n : Int)] [rtree w] (fun v H' => ∃ w' e, v = .int .i64 e ∧ SizeW w i x n w' e ∧ H' = [rtree w']) := by
  have hi := (List.getElem?_eq_some_iff.1 hxi).1
  have hxb := sumT_in (List.mem_of_getElem? hxi)
  refine tri_of_wpS Try.func91 rfl Try.ntmps91 (by simp) ?_; refine wp_seq' (wp_region' (ops_ro' rfl (ro_assign rfl) rfl (ops_nil (Then_normal (wp_seq' ?_))))); refine wp_seq' (wp_region' (ops_ro' rfl (ro_move rfl) rfl (ops_ro' rfl (ro_gtr rfl rfl rfl) rfl (ops_nil (Then_normal ?_))))); refine wp_cond' rfl (fun hc9 => ?_) (fun hc9 => ?_)
  · replace hc9 := of_decide_eq_true hc9
    refine wp_seq' (wp_region' (ops_ro' rfl (ro_assign rfl) rfl (ops_nil (Then_normal (wp_ret' ?_))))); refine Then_ret ?_; refine' doneS_ret (res1 rfl rfl) ?_ ?_
    rotate_left 1
    exact ⟨w, 3, rfl, .inl ⟨by decide, rfl, by rw [szR_long (by omega)]⟩, rfl⟩
    exact SubH.refl _
  · replace hc9 := of_decide_eq_false hc9
    refine wp_skip' ?_; refine Then_normal (wp_seq' (wp_seq' ?_)); have hls := (rtree_rv hfew).ls
    refine wp_know (fun u F s => vw_ptr (Vw.pick (H := [rtree w]) 0 rfl hls) s (by omega)) ?_; rintro ⟨b0, o0, hwp⟩; rw [hwp] at hls; refine wp_draw 16 (by kernel_rfl) (Split.cons 0 rfl (Split.nil _)) ?_; refine any_ro' (i := 0) (by kernel_rfl) rfl rfl (ro_move rfl) rfl (fun _ _ _ h => h) ?_; refine any_ro' (i := 2) (by kernel_rfl) rfl rfl (ro_move rfl) rfl (fun _ _ _ h => h) ?_; refine any_ro' (i := 3) (by kernel_rfl) rfl rfl (ro_nilCheck rfl) rfl (fun _ _ _ h => h) ?_; refine any_ro' (i := 4) (by kernel_rfl) rfl rfl (ro_fieldAddr fa74_0 rfl) rfl (fun _ _ _ h => h) ?_; refine any_ro' (i := 5) (by kernel_rfl) rfl rfl (ro_load sc72 rfl (Rd.pick 0 rfl (((rtree_rv hfew).cs 0 _ rfl)))) rfl (fun _ _ _ h => h) ?_
    try rw [hwp]
    refine any_ro' (i := 6) (by kernel_rfl) rfl rfl (ro_move rfl) rfl (fun _ _ _ h => h) ?_; refine any_ro' (i := 7) (by kernel_rfl) rfl rfl (ro_indexSlice sl72 rfl rfl rfl (by omega)) rfl (fun _ _ _ h => h) ?_; refine any_ro' (i := 8) (by kernel_rfl) rfl rfl (ro_fieldAddr fa109_4 rfl) rfl (fun _ _ _ h => h) ?_; refine any_ro' (i := 9) (by kernel_rfl) rfl rfl (ro_load sc30 rfl (Rd.pick 0 rfl ((Rd.elem (j := 4) (vw_rdn hls) Th.len hxi rfl)))) rfl (fun _ _ _ h => h) ?_; refine any_ro' (i := 10) (by kernel_rfl) rfl rfl (ro_sliceLen Try.underlying30 rfl) rfl (fun _ _ _ h => h) ?_; refine any_ro' (i := 12) (by kernel_rfl) rfl rfl (ro_move rfl) rfl (fun _ _ _ h => h) ?_; refine any_ro' (i := 13) (by kernel_rfl) rfl rfl (ro_conv Try.underlying34 Try.underlying3 rfl (wrap_i64_in (by omega) (by omega))) rfl (fun _ _ _ h => h) ?_; refine any_callL' (i := 1) (by kernel_rfl) rfl rfl (eff_callM (Pre := []) Try.call69 rfl rfl (Split.nil _) (rbytes_spec (Rv.pick 0 rfl (rtree_rv hfew)) (by omega))) rfl ?_; rintro _ _ ⟨rfl, rfl⟩; simp only [zA, zB]; refine any_ro' (i := 11) (by kernel_rfl) rfl rfl (ro_sub rfl rfl (show IntKind.i64.wrap (((w.L.map fun x : Th => x.b.length).sum : Int) - (x.b.length : Int)) = (((w.L.map fun x : Th => x.b.length).sum - x.b.length : Nat) : Int) by rw [wrap_i64_in (by omega) (by omega)]; omega)) rfl (fun _ _ _ h => h) ?_; refine any_ro' (i := 14) (by kernel_rfl) rfl rfl (ro_add rfl rfl (wrap_addN (by omega))) rfl (fun _ _ _ h => h) ?_; refine any_ro' (i := 15) (by kernel_rfl) rfl rfl (ro_gtr rfl rfl rfl) rfl (fun _ _ _ h => h) ?_; refine any_done (by kernel_rfl) ?_; refine Then_normal (wp_cond' rfl (fun hc25 => ?_) (fun hc25 => ?_))
    · replace hc25 := of_decide_eq_true hc25
      refine wp_seq' (wp_region' (ops_ro' rfl (ro_assign rfl) rfl (ops_nil (Then_normal (wp_ret' ?_))))); refine Then_ret ?_; refine' doneS_ret (res1 rfl rfl) ?_ ?_
      rotate_left 1
      exact ⟨w, 13, rfl, .inl ⟨by decide, rfl, by rw [szR_full (by omega) (by omega)]⟩, rfl⟩
      exact SubH.refl _
    · replace hc25 := of_decide_eq_false hc25
      refine wp_skip' ?_; refine Then_normal (wp_seq' (wp_heap (H' := rtL w ++ []) (fun u F s => rtree_open s) ?_)); simp only [rtL, zA, zB]; refine wp_sub' (L := [own w.tb (.cells ([.slice w.p (w.L).length w.c, .int .i64 ((w.next : Nat) : Int)] : List Value).toArray 74 (0, 0)), row 109 12 (.slice w.p (w.L).length w.c) (w.L).length (flat Th.cs (w.L)), ths w.L]) (by repeat (first | exact SubH.nil _ | refine SubH.cons 0 rfl ?_ | refine SubH.cons 1 rfl ?_ | refine SubH.cons 2 rfl ?_ | refine SubH.cons 3 rfl ?_ | refine SubH.cons 4 rfl ?_ | refine SubH.cons 5 rfl ?_ | refine SubH.cons 6 rfl ?_ | refine SubH.cons 7 rfl ?_ | refine SubH.rown ?_)) ?_; refine wp_region' (ops_ro' rfl (ro_move rfl) rfl (ops_eff' rfl (eff_lit sl72 rfl (sbld (cs := flat Th.cs []) [] sl72 (by decide) (by kernel_rfl) rfl) rfl (by decide)) rfl ?_)); rintro _ _ ⟨b27, rfl, rfl⟩; refine ops_ro' rfl (ro_move rfl) rfl (ops_ro' rfl (ro_nilCheck rfl) rfl (ops_ro' rfl (ro_fieldAddr fa74_0 rfl) rfl (ops_ro' rfl (ro_load sc72 rfl (Rd.pick 1 rfl (Rd.own rfl))) rfl (ops_eff' rfl (eff_appF (f := Th.cs) (l := []) (l2 := w.L) 0 sl72 (.inl ⟨109, Try.underlying72⟩) rfl rfl rfl (Src.flatv Th.len Th.one (Vw.pick 1 rfl Vw.row)) (by first | omega | (simp only [List.length_append, List.length_cons, List.length_nil, List.length_take, List.length_drop] at *; omega)) (by first | omega | (simp only [List.length_append, List.length_cons, List.length_nil, List.length_take, List.length_drop] at *; omega))) rfl ?_)))); rintro _ _ ⟨p32, c32, rfl, hn32, rfl⟩; simp only [zE, zF, zB]; refine ops_ro' rfl (ro_nilCheck rfl) rfl (ops_ro' rfl (ro_fieldAddr fa74_0 rfl) rfl (ops_eff0 rfl (eff_store 1 sc72 rfl rfl rfl rfl (Nat.le_of_ble_eq_true rfl) (warm_zero _)) rfl ?_)); rintro _ _ rfl; refine ops_nil (Then_normal (wp_seq' (wp_sub' (L := [own w.tb (.cells ([.slice p32 (w.L).length c32, .int .i64 ((w.next : Nat) : Int)] : List Value).toArray 74 (0, 0)), row 109 12 (.slice p32 (w.L).length c32) (w.L).length (flat Th.cs (w.L)), ths w.L]) (by repeat (first | exact SubH.nil _ | refine SubH.cons 0 rfl ?_ | refine SubH.cons 1 rfl ?_ | refine SubH.cons 2 rfl ?_ | refine SubH.cons 3 rfl ?_ | refine SubH.cons 4 rfl ?_ | refine SubH.cons 5 rfl ?_ | refine SubH.cons 6 rfl ?_ | refine SubH.cons 7 rfl ?_ | refine SubH.rown ?_)) ?_))); refine wp_know (p := w.L.length ≠ 0 → ∃ b, p32 = some ⟨b, 0, none⟩) (fun u F s h0 => row_ptr' 1 rfl s h0) ?_; intro hp32; obtain ⟨b1, rfl⟩ := hp32 (by omega)
      refine wp_heap (H' := [rtree (⟨w.tb, some ⟨b1, 0, none⟩, c32, w.next, w.L⟩ : Rt)]) (fun u F s => rtree_shut (w := (⟨w.tb, some ⟨b1, 0, none⟩, c32, w.next, w.L⟩ : Rt)) (L := []) s) ?_; have hls1 := (rtree_rv (w := (⟨w.tb, some ⟨b1, 0, none⟩, c32, w.next, w.L⟩ : Rt)) hfew).ls
      refine wp_region' (ops_eff' rfl (eff_lit sl30 rfl (sbld (cs := cel []) [] sl30 (by decide) (by kernel_rfl) rfl) rfl (by decide)) rfl ?_); rintro _ _ ⟨b35, rfl, rfl⟩; refine ops_ro' rfl (ro_move rfl) rfl (ops_ro' rfl (ro_nilCheck rfl) rfl (ops_ro' rfl (ro_fieldAddr fa74_0 rfl) rfl (ops_ro' rfl (ro_load sc72 rfl (Rd.pick 1 rfl (((rtree_rv (w := (⟨w.tb, some ⟨b1, 0, none⟩, c32, w.next, w.L⟩ : Rt)) hfew).cs 0 _ rfl)))) rfl (ops_ro' rfl (ro_move rfl) rfl (ops_ro' rfl (ro_indexSlice sl72 rfl rfl rfl (by omega)) rfl ?_))))); refine ops_ro' rfl (ro_fieldAddr fa109_4 rfl) rfl (ops_ro' rfl (ro_load sc30 rfl (Rd.pick 1 rfl ((Rd.elem (j := 4) (vw_rdn hls1) Th.len hxi rfl)))) rfl (ops_eff' rfl (eff_appB (l := []) (l2 := x.b) 0 sl30 (.inl ⟨5, Try.underlying30⟩) rfl rfl rfl (Src.celv (Vw.pick 0 rfl ((rtree_rv (w := (⟨w.tb, some ⟨b1, 0, none⟩, c32, w.next, w.L⟩ : Rt)) hfew).b x (List.mem_of_getElem? hxi)))) (by first | omega | (simp only [List.length_append, List.length_cons, List.length_nil, List.length_take, List.length_drop] at *; omega))) rfl ?_)); rintro _ _ ⟨p44, c44, rfl, hn44, rfl⟩; simp only [zE, zF, zB]; refine ops_ro' rfl (ro_assign rfl) rfl (ops_nil (Then_normal (wp_cutK 1009 (fun Δ LL => ∃ (p7 : Option Addr) (c7 : Nat) (z : List UInt8), (z.take n = szd x.b n ∧ n ≤ z.length) ∧ Δ = [(7, .slice p7 z.length c7)] ∧ LL = [row 5 1 (.slice p7 z.length c7) z.length (cel z), rtree (⟨w.tb, some ⟨b1, 0, none⟩, c32, w.next, w.L⟩ : Rt)]) (Has.cons (k := 0) rfl (Has.cons (k := 1) rfl (Has.cons (k := 2) rfl (Has.nil _)))) ?_ ?_)))
      · refine wp_seq' (wp_region' (ops_ro' rfl (ro_move rfl) rfl (ops_ro' rfl (ro_conv Try.underlying34 Try.underlying3 rfl (wrap_i64_in (by omega) (by omega))) rfl (ops_ro' rfl (ro_move rfl) rfl (ops_ro' rfl (ro_sliceLen Try.underlying30 rfl) rfl ?_))))); refine ops_ro' rfl (ro_gtr rfl rfl rfl) rfl (ops_nil (Then_normal (wp_cond' rfl (fun hc49 => ?_) (fun hc49 => ?_))))
        · replace hc49 := of_decide_eq_true hc49
          refine wp_region' (ops_ro' rfl (ro_move rfl) rfl (ops_ro' rfl (ro_move rfl) rfl (ops_ro' rfl (ro_conv Try.underlying34 Try.underlying3 rfl (wrap_i64_in (by omega) (by omega))) rfl (ops_ro' rfl (ro_move rfl) rfl (ops_ro' rfl (ro_sliceLen Try.underlying30 rfl) rfl ?_))))); refine ops_ro' rfl (ro_sub rfl rfl (show IntKind.i64.wrap ((n : Int) - (x.b.length : Int)) = ((n - x.b.length : Nat) : Int) by rw [wrap_i64_in (by omega) (by omega)]; omega)) rfl (ops_eff' rfl (eff_appZ (m := n - x.b.length) 0 sl30 rfl rfl Try.underlying3 rfl rfl rfl (by omega) (by simp only [maxLen]; omega) (by omega)) rfl ?_); rintro _ _ ⟨p56, c56, rfl, rfl⟩; simp only [zE, zF]; rw [cel_noughts, app_noughts_len]; refine ops_ro' rfl (ro_assign rfl) rfl (ops_nil (Then_normal (over_cut (kept ⟨p56, c56, x.b ++ List.replicate (n - x.b.length) 0, ⟨szd_more (by omega), by simp; omega⟩, rfl, rfl⟩ ?_ ?_ ?_))))
          · exact (by repeat (first | exact Has.nil _ | refine Has.cons rfl ?_))
          · exact (by repeat (first | exact Has.nil _ | refine Has.cons rfl ?_))
          · exact SubH.refl _
        · replace hc49 := of_decide_eq_false hc49
          refine wp_skip' ?_; refine Then_normal (over_cut (kept ⟨p44, c44, x.b, ⟨szd_less (by omega), by omega⟩, rfl, rfl⟩ ?_ ?_ ?_))
          · exact (by repeat (first | exact Has.nil _ | refine Has.cons rfl ?_))
          · exact (by repeat (first | exact Has.nil _ | refine Has.cons rfl ?_))
          · exact SubH.refl _
      · rintro Δ LL ⟨p7, c7, z, ⟨hz, hzl⟩, rfl, rfl⟩; simp only [zA, zB]; refine wp_seq' (wp_sub' (L := [rtree (⟨w.tb, some ⟨b1, 0, none⟩, c32, w.next, w.L⟩ : Rt), row 5 1 (.slice p7 z.length c7) z.length (cel z)]) (by repeat (first | exact SubH.nil _ | refine SubH.cons 0 rfl ?_ | refine SubH.cons 1 rfl ?_ | refine SubH.cons 2 rfl ?_ | refine SubH.cons 3 rfl ?_ | refine SubH.cons 4 rfl ?_ | refine SubH.cons 5 rfl ?_ | refine SubH.cons 6 rfl ?_ | refine SubH.cons 7 rfl ?_ | refine SubH.rown ?_)) ?_); refine wp_heap (H' := rtL (⟨w.tb, some ⟨b1, 0, none⟩, c32, w.next, w.L⟩ : Rt) ++ [row 5 1 (.slice p7 z.length c7) z.length (cel z)]) (fun u F s => rtree_open s) ?_; simp only [rtL, zA, zB]; refine wp_sub' (L := [row 5 1 (.slice p7 z.length c7) z.length (cel z), own w.tb (.cells ([.slice (some ⟨b1, 0, none⟩) (w.L).length c32, .int .i64 ((w.next : Nat) : Int)] : List Value).toArray 74 (0, 0)), row 109 12 (.slice (some ⟨b1, 0, none⟩) (w.L).length c32) (w.L).length (flat Th.cs (w.L)), ths w.L]) (by repeat (first | exact SubH.nil _ | refine SubH.cons 0 rfl ?_ | refine SubH.cons 1 rfl ?_ | refine SubH.cons 2 rfl ?_ | refine SubH.cons 3 rfl ?_ | refine SubH.cons 4 rfl ?_ | refine SubH.cons 5 rfl ?_ | refine SubH.cons 6 rfl ?_ | refine SubH.cons 7 rfl ?_ | refine SubH.rown ?_)) ?_; refine wp_draw 8 (by kernel_rfl) (Split.cons 1 rfl (Split.nil _)) ?_; refine any_ro' (i := 0) (by kernel_rfl) rfl rfl (ro_move rfl) rfl (fun _ _ _ h => h) ?_; refine any_ro' (i := 1) (by kernel_rfl) rfl rfl (ro_nilCheck rfl) rfl (fun _ _ _ h => h) ?_; refine any_ro' (i := 2) (by kernel_rfl) rfl rfl (ro_fieldAddr fa74_0 rfl) rfl (fun _ _ _ h => h) ?_; refine any_ro' (i := 3) (by kernel_rfl) rfl rfl (ro_load sc72 rfl (Rd.pick 0 rfl (Rd.own rfl))) rfl (fun _ _ _ h => h) ?_; refine any_ro' (i := 4) (by kernel_rfl) rfl rfl (ro_move rfl) rfl (fun _ _ _ h => h) ?_; refine any_ro' (i := 5) (by kernel_rfl) rfl rfl (ro_move rfl) rfl (fun _ _ _ h => h) ?_; refine any_ro' (i := 6) (by kernel_rfl) rfl rfl (ro_move rfl) rfl (fun _ _ _ h => h) ?_; refine any_eff' (i := 7) (by kernel_rfl) rfl rfl (eff_trunc (b := n) 0 sl30 rfl rfl (bnd_of rfl rfl) hzl) rfl ?_; rintro _ _ ⟨rfl, rfl⟩; simp only [zD, zC, zE, zF]; refine any_unlock (m' := 11) (L' := []) (by kernel_rfl) unlock ?_; simp only [zA, zB, List.append_nil]; refine any_ro' (i := 8) (by kernel_rfl) rfl rfl (ro_indexSlice sl72 rfl rfl rfl (by omega)) rfl (fun _ _ _ h => h) ?_; refine any_ro' (i := 9) (by kernel_rfl) rfl rfl (ro_fieldAddr fa109_4 rfl) rfl (fun _ _ _ h => h) ?_; refine any_eff0 (i := 10) (by kernel_rfl) rfl rfl (eff_storeRow 2 sc30 rfl rfl rfl rfl (by rw [flat_len Th.len]; omega)) rfl ?_; rintro _ _ rfl; simp only [zE, zF]; rw [flat_set4 hxi]; refine any_doneH (by kernel_rfl) ?_; refine Then_normal (wp_seq' (wp_region' (ops_ro' rfl (ro_assign rfl) rfl (ops_nil (Then_normal ?_))))); refine wp_ret' ?_; refine doneS_pre3 (H2 := [rtree (⟨w.tb, some ⟨b1, 0, none⟩, c32, w.next, w.L.set i (x.with p7 c7 (szd x.b n))⟩ : Rt)]) (fun u F s => rset_close hxi (y := (x.with p7 c7 (szd x.b n))) (szd_len x.b n) (show (cel z).take (n * 1) = cel (szd x.b n) by rw [← hz, Nat.mul_one, cel_take]) trivial u F (((by repeat (first | exact SubH.nil _ | refine SubH.cons 0 rfl ?_ | refine SubH.cons 1 rfl ?_ | refine SubH.cons 2 rfl ?_ | refine SubH.cons 3 rfl ?_ | refine SubH.cons 4 rfl ?_ | refine SubH.cons 5 rfl ?_ | refine SubH.cons 6 rfl ?_ | refine SubH.cons 7 rfl ?_ | refine SubH.rown ?_)) : SubH _ [row 5 1 (.slice p7 n c7) n ((cel z).take (n * 1)), own w.tb (.cells ([.slice (some ⟨b1, 0, none⟩) (w.L).length c32, .int .i64 ((w.next : Nat) : Int)] : List Value).toArray 74 (0, 0)), row 109 12 (.slice (some ⟨b1, 0, none⟩) w.L.length c32) w.L.length (flat Th.cs (w.L.set i (x.with p7 c7 (szd x.b n)))), ths w.L]) u F s)) ?_; refine' doneS_ret (res1 rfl rfl) ?_ ?_
        rotate_left 1
        exact ⟨(⟨w.tb, some ⟨b1, 0, none⟩, c32, w.next, w.L.set i (x.with p7 c7 (szd x.b n))⟩ : Rt), 0, rfl, .inr ⟨rfl, szR_ok (by omega) (by omega), rfl, rfl, p7, c7, rfl⟩, rfl⟩
        exact SubH.refl _

end Go.Proofs.Ytbbmhppkhcodfaa
namespace Go.Proofs.Ytbbmhppkhcodfaa
open Go.Sx
set_option linter.unusedVariables false
set_option linter.unusedSimpArgs false
set_option maxRecDepth 100000
set_option maxHeartbeats 4000000

theorem ths_shp {l : List Th} {x : Th} (h : x ∈ l) {u : World} {R : HProp} (s : sat u (star (ths l) R)) : Shp x.bp x.b.length x.bc := by
  obtain ⟨i, hi⟩ := ths_pick h
  rw [ths, St_pick hi, star_assoc] at s; rw [thB, rowD, ← star_emp (row _ _ _ _ _), ← St_nil, ← St_cons] at s; exact row_shp 0 rfl s
theorem flat_cel : ∀ l : List UInt8, flat (fun b => [byteV b]) l = cel l
  | [] => rfl
  | b :: l => by rw [flat_cons, flat_cel l]; rfl
theorem vw_subB {A : HProp} {p : Option Addr} {c a b : Nat} {l : List UInt8} (hV : Vw A (.slice p l.length c) l.length (cel l)) (h1 : a ≤ b) (h2 : b ≤ l.length) (h3 : l.length ≤ c) :
    Vw A (.slice (subp p c 1 a) ((l.drop a).take (b - a)).length (c - a)) ((l.drop a).take (b - a)).length (cel ((l.drop a).take (b - a))) := by
  rw [← flat_cel] at hV ⊢; exact vw_subF hV (fun _ => rfl) h1 h2 h3
theorem with_b {x : Th} {p : Option Addr} {c : Nat} {b : List UInt8} : (x.with p c b).b = b := rfl
theorem with_bp {x : Th} {p : Option Addr} {c : Nat} {b : List UInt8} : (x.with p c b).bp = p := rfl
theorem with_bc {x : Th} {p : Option Addr} {c : Nat} {b : List UInt8} : (x.with p c b).bc = c := rfl
theorem flat_setB {l : List Th} {i : Nat} {y : Th} {p : Option Addr} {c : Nat} {b : List UInt8} (hi : l[i]? = some y) : (flat Th.cs l).set (0 + i * 12 + 4) (.slice p b.length c) = flat Th.cs (l.set i (y.with p c b)) := by
  rw [Nat.zero_add]; exact flat_set Th.len hi (by omega) rfl
/-- what Write does: to w the bytes b at the place at' of the file id -/
def WriteW (w : Rt) (id : Int) (at' : Nat) (b : List UInt8) (w' : Rt) (e : Int) : Prop :=
  (fileR w.L id = (0, e) ∧ e ≠ 0 ∧ w' = w) ∨ ∃ i x, w.L[i]? = some x ∧ tAt w.L id = some x ∧ x.dir = false ∧
    ((b.length = 0 ∧ e = 0 ∧ w' = w) ∨ (0 < b.length ∧ 1048576 < at' + b.length ∧ e = 3 ∧ w' = w) ∨
     (0 < b.length ∧ at' + b.length ≤ 1048576 ∧ ((szR w.L x (max (at' + b.length) x.b.length) = e ∧ e ≠ 0 ∧ w' = w) ∨ (szR w.L x (max (at' + b.length) x.b.length) = 0 ∧ e = 0 ∧ w'.tb = w.tb ∧ w'.next = w.next ∧ ∃ p c, w'.L = w.L.set i (x.with p c (wr2 (szd x.b (max (at' + b.length) x.b.length)) at' b))))))
theorem rwrite_spec {V : HProp} {w : Rt} (hfew : w.L.length ≤ 100000) (hs : (w.L.map fun y : Th => y.b.length).sum ≤ 1048576) (id : Int) (at' : Nat) (ha : at' < 18446744073709551616) (q : Option Addr) (cq : Nat) (b : List UInt8) (hV : Vw V (.slice q b.length cq) b.length (cel b)) (hbl : b.length ≤ 100000000) :
    Tri Try.prog 62 [w.v, .int .i64 id, .int .u64 (at' : Int), .slice q b.length cq] [rtree w, V] (fun v H' => ∃ w' e, v = .int .i64 e ∧ WriteW w id at' b w' e ∧ H' = [rtree w', V]) := by
  have bad : ∀ e : Int, e ≠ 0 → fileR w.L id = (0, e) → Tri Try.prog 62 [w.v, .int .i64 id, .int .u64 (at' : Int), .slice q b.length cq] [rtree w, V] (fun v H' => ∃ w' e, v = .int .i64 e ∧ WriteW w id at' b w' e ∧ H' = [rtree w', V]) := fun e he hf => by
    refine tri_of_wpS Try.func62 rfl Try.ntmps62 (by simp) ?_; refine wp_seq' (wp_region' (ops_ro' rfl (ro_assign rfl) rfl (ops_nil (Then_normal (wp_seq' ?_))))); refine wp_region' (ops_ro' rfl (ro_move rfl) rfl (ops_ro' rfl (ro_move rfl) rfl (ops_eff' rfl (eff_callM (Pre := []) Try.call90 rfl rfl (Split.nil _) (rfile_spec (Rv.pick 0 rfl (rtree_rv hfew)) id)) rfl ?_))); rintro _ H' ⟨_, ⟨rfl, rfl⟩, hH⟩; simp only [zA, zB, zC, zD, zE, zF] at hH; subst hH; rw [hf]; dsimp only; refine ops_ro' rfl (ro_move rfl) rfl (ops_ro' rfl (ro_extract rfl rfl) rfl (ops_ro' rfl (ro_extract rfl rfl) rfl (ops_ro' rfl (ro_assign rfl) rfl (ops_ro' rfl (ro_assign rfl) rfl (ops_nil ?_))))); refine Then_normal (wp_seq' (wp_seq' (wp_region' (ops_ro' rfl (ro_move rfl) rfl (ops_ro' rfl (ro_neq rfl rfl (decide_eq_true (by omega))) rfl ?_))))); refine ops_nil (Then_normal (wp_condT rfl ?_)); refine wp_seq' (wp_region' (ops_ro' rfl (ro_move rfl) rfl (ops_ro' rfl (ro_assign rfl) rfl (ops_nil (Then_normal ?_))))); refine wp_ret' ?_; refine Then_ret ?_; refine' doneS_ret (res1 rfl rfl) ?_ ?_
    rotate_left 1
    exact ⟨w, e, rfl, .inl ⟨hf, he, rfl⟩, rfl⟩
    exact SubH.refl _
  rcases atI_cases w.L id with ⟨ha2, ht⟩ | ⟨i, x, ha2, hxi, ht, hxk⟩
  · exact bad 22 (by decide) (by unfold fileR; rw [ht])
  · by_cases hd : x.dir = true
    · exact bad 23 (by decide) (by unfold fileR; rw [ht]; simp only; rw [if_pos hd])
    · have hf : fileR w.L id = ((i : Int), 0) := by unfold fileR; rw [ht]; simp only; rw [if_neg hd, ha2]
      have hi := (List.getElem?_eq_some_iff.1 hxi).1
      have hxb := sumT_in (List.mem_of_getElem? hxi)
      replace hd : x.dir = false := by simpa using hd
      refine tri_of_wpS Try.func62 rfl Try.ntmps62 (by simp) ?_; refine wp_seq' (wp_region' (ops_ro' rfl (ro_assign rfl) rfl (ops_nil (Then_normal (wp_seq' ?_))))); refine wp_region' (ops_ro' rfl (ro_move rfl) rfl (ops_ro' rfl (ro_move rfl) rfl (ops_eff' rfl (eff_callM (Pre := []) Try.call90 rfl rfl (Split.nil _) (rfile_spec (Rv.pick 0 rfl (rtree_rv hfew)) id)) rfl ?_))); rintro _ H' ⟨_, ⟨rfl, rfl⟩, hH⟩; simp only [zA, zB, zC, zD, zE, zF] at hH; subst hH; rw [hf]; dsimp only; refine ops_ro' rfl (ro_move rfl) rfl (ops_ro' rfl (ro_extract rfl rfl) rfl (ops_ro' rfl (ro_extract rfl rfl) rfl (ops_ro' rfl (ro_assign rfl) rfl (ops_ro' rfl (ro_assign rfl) rfl (ops_nil ?_))))); refine Then_normal (wp_seq' (wp_seq' (wp_region' (ops_ro' rfl (ro_move rfl) rfl (ops_ro' rfl (ro_neq rfl rfl (decide_eq_false (by omega))) rfl ?_))))); refine ops_nil (Then_normal (wp_condF rfl ?_)); refine wp_skip' ?_; refine Then_normal (wp_seq' (wp_seq' (wp_region' (ops_ro' rfl (ro_move rfl) rfl (ops_ro' rfl (ro_sliceLen Try.underlying30 rfl) rfl ?_))))); refine ops_ro' rfl (ro_eql rfl rfl rfl) rfl (ops_nil (Then_normal (wp_cond' rfl (fun hc24 => ?_) (fun hc24 => ?_))))
      · replace hc24 := of_decide_eq_true hc24
        refine wp_seq' (wp_region' (ops_ro' rfl (ro_assign rfl) rfl (ops_nil (Then_normal (wp_ret' ?_))))); refine Then_ret ?_; refine' doneS_ret (res1 rfl rfl) ?_ ?_
        rotate_left 1
        exact ⟨w, 0, rfl, .inr ⟨i, x, hxi, ht, hd, .inl ⟨by omega, rfl, rfl⟩⟩, rfl⟩
        exact SubH.refl _
      · replace hc24 := of_decide_eq_false hc24
        refine wp_skip' ?_; refine Then_normal (wp_seq' (wp_seq' (wp_region' (ops_ro' rfl (ro_move rfl) rfl (ops_ro' rfl (ro_gtr rfl rfl rfl) rfl ?_))))); refine ops_split rfl rfl rfl (fun hg27 => ?_) (fun hg27 => ?_)
        · replace hg27 := of_decide_eq_true hg27
          refine ops_skip' rfl rfl (ops_skip' rfl rfl (ops_skip' rfl rfl (ops_skip' rfl rfl (ops_skip' rfl rfl (ops_skip' rfl rfl ?_))))); refine ops_ro' rfl (ro_pick rfl rfl) rfl (ops_nil (Then_normal (wp_condT rfl ?_))); refine wp_seq' (wp_region' (ops_ro' rfl (ro_assign rfl) rfl (ops_nil (Then_normal (wp_ret' ?_))))); refine Then_ret ?_; refine' doneS_ret (res1 rfl rfl) ?_ ?_
          rotate_left 1
          exact ⟨w, 3, rfl, .inr ⟨i, x, hxi, ht, hd, .inr (.inl ⟨by omega, by first | omega | (simp only [decide_eq_true_eq] at hc34; omega), rfl, rfl⟩)⟩, rfl⟩
          exact SubH.refl _
        · replace hg27 := of_decide_eq_false hg27
          refine ops_ro' rfl (ro_move rfl) rfl (ops_ro' rfl (ro_sliceLen Try.underlying30 rfl) rfl (ops_ro' rfl (ro_move rfl) rfl (ops_ro' rfl (ro_conv Try.underlying34 Try.underlying3 rfl (wrap_i64_in (by omega) (by omega))) rfl ?_))); refine ops_ro' rfl (ro_sub rfl rfl (show IntKind.i64.wrap ((1048576 : Int) - (at' : Int)) = ((1048576 - at' : Nat) : Int) by rw [wrap_i64_in (by omega) (by omega)]; omega)) rfl (ops_ro' rfl (ro_gtr rfl rfl rfl) rfl (ops_ro' rfl (ro_pick rfl rfl) rfl (ops_nil (Then_normal (wp_cond' rfl (fun hc34 => ?_) (fun hc34 => ?_))))))
          · replace hc34 := of_decide_eq_true hc34
            refine wp_seq' (wp_region' (ops_ro' rfl (ro_assign rfl) rfl (ops_nil (Then_normal (wp_ret' ?_))))); refine Then_ret ?_; refine' doneS_ret (res1 rfl rfl) ?_ ?_
            rotate_left 1
            exact ⟨w, 3, rfl, .inr ⟨i, x, hxi, ht, hd, .inr (.inl ⟨by omega, by first | omega | (simp only [decide_eq_true_eq] at hc34; omega), rfl, rfl⟩)⟩, rfl⟩
            exact SubH.refl _
          · replace hc34 := of_decide_eq_false hc34
            refine wp_skip' ?_; refine Then_normal (wp_seq' (wp_region' (ops_ro' rfl (ro_move rfl) rfl (ops_ro' rfl (ro_move rfl) rfl (ops_ro' rfl (ro_sliceLen Try.underlying30 rfl) rfl ?_))))); refine ops_ro' rfl (ro_conv Try.underlying3 Try.underlying34 rfl (wrap_u64_in (by omega) (by omega))) rfl ?_; refine ops_ro' rfl (ro_add rfl rfl (show IntKind.u64.wrap ((at' : Int) + (b.length : Int)) = ((at' + b.length : Nat) : Int) by rw [wrap_u64_in (by omega) (by omega)]; omega)) rfl (ops_ro' rfl (ro_assign rfl) rfl (ops_nil (Then_normal ?_))); refine wp_cutK 1011 (fun Δ LL => ∃ (n : Nat), (n = max (at' + b.length) x.b.length ∧ 0 < b.length ∧ at' + b.length ≤ 1048576) ∧ Δ = [(11, .int .u64 (n : Int))] ∧ LL = [rtree w, V]) (Has.cons (k := 0) rfl (Has.cons (k := 2) rfl (Has.cons (k := 3) rfl (Has.cons (k := 9) rfl (Has.nil _))))) ?_ ?_
            · refine wp_seq' ?_; have hls := (rtree_rv hfew).ls
              refine wp_know (fun u F s => vw_ptr (Vw.pick (H := [rtree w, V]) 0 rfl hls) s (by omega)) ?_; rintro ⟨b0, o0, hwp⟩; rw [hwp] at hls; refine wp_region' (ops_ro' rfl (ro_move rfl) rfl (ops_ro' rfl (ro_move rfl) rfl (ops_ro' rfl (ro_nilCheck rfl) rfl (ops_ro' rfl (ro_fieldAddr fa74_0 rfl) rfl (ops_ro' rfl (ro_load sc72 rfl (Rd.pick 0 rfl (((rtree_rv hfew).cs 0 _ rfl)))) rfl ?_)))))
              try rw [hwp]
              refine ops_ro' rfl (ro_move rfl) rfl (ops_ro' rfl (ro_indexSlice sl72 rfl rfl rfl (by omega)) rfl (ops_ro' rfl (ro_fieldAddr fa109_4 rfl) rfl (ops_ro' rfl (ro_load sc30 rfl (Rd.pick 0 rfl ((Rd.elem (j := 4) (vw_rdn hls) Th.len hxi rfl)))) rfl (ops_ro' rfl (ro_sliceLen Try.underlying30 rfl) rfl (ops_ro' rfl (ro_conv Try.underlying3 Try.underlying34 rfl (wrap_u64_in (by omega) (by omega))) rfl ?_))))); refine ops_ro' rfl (ro_lss rfl rfl rfl) rfl (ops_nil (Then_normal (wp_cond' rfl (fun hc51 => ?_) (fun hc51 => ?_))))
              · replace hc51 := of_decide_eq_true hc51
                refine wp_region' (ops_ro' rfl (ro_move rfl) rfl (ops_ro' rfl (ro_nilCheck rfl) rfl (ops_ro' rfl (ro_fieldAddr fa74_0 rfl) rfl (ops_ro' rfl (ro_load sc72 rfl (Rd.pick 0 rfl (((rtree_rv hfew).cs 0 _ rfl)))) rfl ?_))))
                try rw [hwp]
                refine ops_ro' rfl (ro_move rfl) rfl (ops_ro' rfl (ro_indexSlice sl72 rfl rfl rfl (by omega)) rfl (ops_ro' rfl (ro_fieldAddr fa109_4 rfl) rfl (ops_ro' rfl (ro_load sc30 rfl (Rd.pick 0 rfl ((Rd.elem (j := 4) (vw_rdn hls) Th.len hxi rfl)))) rfl (ops_ro' rfl (ro_sliceLen Try.underlying30 rfl) rfl (ops_ro' rfl (ro_conv Try.underlying3 Try.underlying34 rfl (wrap_u64_in (by omega) (by omega))) rfl ?_))))); refine ops_ro' rfl (ro_assign rfl) rfl (ops_nil (Then_normal (over_cut (kept ⟨x.b.length, ⟨by omega, by omega, by omega⟩, rfl, rfl⟩ ?_ ?_ ?_))))
                · exact (by repeat (first | exact Has.nil _ | refine Has.cons rfl ?_))
                · exact (by repeat (first | exact Has.nil _ | refine Has.cons rfl ?_))
                · exact SubH.refl _
              · replace hc51 := of_decide_eq_false hc51
                refine wp_skip' ?_; refine Then_normal (over_cut (kept ⟨at' + b.length, ⟨by omega, by omega, by omega⟩, rfl, rfl⟩ ?_ ?_ ?_))
                · exact (by repeat (first | exact Has.nil _ | refine Has.cons rfl ?_))
                · exact (by repeat (first | exact Has.nil _ | refine Has.cons rfl ?_))
                · exact SubH.refl _
            · rintro Δ LL ⟨n, ⟨hn, hb0, hmx⟩, rfl, rfl⟩; simp only [zA, zB]; refine wp_seq' (wp_region' (ops_ro' rfl (ro_move rfl) rfl (ops_ro' rfl (ro_move rfl) rfl (ops_ro' rfl (ro_move rfl) rfl (ops_eff' rfl (eff_call Try.call91 rfl rfl (by repeat (first | exact Split.nil _ | apply Split.cons 0 rfl | apply Split.cons 1 rfl | apply Split.cons 2 rfl | apply Split.cons 3 rfl | apply Split.cons 4 rfl | apply Split.cons 5 rfl | apply Split.cons 6 rfl | apply Split.cons 7 rfl)) (rsize_spec hfew hs hxi n (by omega))) rfl ?_))))); rintro _ H' ⟨_, ⟨w1, e1, rfl, hR, rfl⟩, hH⟩; simp only [zA, zB, zC, zD, zE, zF] at hH; subst hH; refine ops_ro' rfl (ro_assign rfl) rfl (ops_nil (Then_normal (wp_seq' (wp_seq' (wp_region' ?_))))); refine ops_ro' rfl (ro_move rfl) rfl (ops_ro' rfl (ro_neq rfl rfl rfl) rfl (ops_nil (Then_normal (wp_cond' rfl (fun hc67 => ?_) (fun hc67 => ?_)))))
              · replace hc67 := of_decide_eq_true hc67
                refine wp_seq' (wp_region' (ops_ro' rfl (ro_move rfl) rfl (ops_ro' rfl (ro_assign rfl) rfl (ops_nil (Then_normal ?_))))); refine wp_ret' ?_; refine Then_ret ?_; refine' doneS_ret (res1 rfl rfl) ?_ ?_
                rotate_left 1
                rcases hR with ⟨h1, rfl, h3⟩ | ⟨h1, _⟩
                · exact ⟨_, e1, rfl, .inr ⟨i, x, hxi, ht, hd, .inr (.inr ⟨hb0, hmx, .inl ⟨by rw [← hn]; exact h3.symm, h1, rfl⟩⟩)⟩, rfl⟩
                · exact absurd h1 (by omega)
                exact SubH.refl _
              · replace hc67 := of_decide_eq_false hc67
                obtain ⟨hz0, tb2, nx2, p1, c1, hl1⟩ : szR w.L x n = 0 ∧ w1.tb = w.tb ∧ w1.next = w.next ∧ ∃ p c, w1.L = w.L.set i (x.with p c (szd x.b n)) := by
                  rcases hR with ⟨h1, _⟩ | ⟨_, h2⟩
                  · exact absurd h1 (by omega)
                  · exact h2
                clear hR; obtain ⟨tb1, q1, k1, nx1, l1⟩ := w1
                simp only at tb2 nx2 hl1
                subst tb2; subst nx2; obtain ⟨z, hz⟩ : ∃ z, z = szd x.b n := ⟨_, rfl⟩
                have hzn : z.length = n := by rw [hz]; exact szd_len _ _
                rw [← hz] at hl1; have hll : l1.length = w.L.length := by rw [hl1, List.length_set]
                have hxi1 : l1[i]? = some (x.with p1 c1 z) := by rw [hl1]; exact List.getElem?_set_self hi
                refine wp_skip' ?_; refine Then_normal (wp_seq' (wp_heap (H' := rtL (⟨w.tb, q1, k1, w.next, l1⟩ : Rt) ++ [V]) (fun u F s => rtree_open s) ?_)); simp only [rtL, zA, zB]; refine wp_sub' (L := [own w.tb (.cells ([.slice q1 (l1).length k1, .int .i64 ((w.next : Nat) : Int)] : List Value).toArray 74 (0, 0)), row 109 12 (.slice q1 (l1).length k1) (l1).length (flat Th.cs (l1)), ths l1, V]) (by repeat (first | exact SubH.nil _ | refine SubH.cons 0 rfl ?_ | refine SubH.cons 1 rfl ?_ | refine SubH.cons 2 rfl ?_ | refine SubH.cons 3 rfl ?_ | refine SubH.cons 4 rfl ?_ | refine SubH.cons 5 rfl ?_ | refine SubH.cons 6 rfl ?_ | refine SubH.cons 7 rfl ?_ | refine SubH.rown ?_)) ?_; refine wp_know (p := l1.length ≠ 0 → ∃ b, q1 = some ⟨b, 0, none⟩) (fun u F s h0 => row_ptr' 1 rfl s h0) ?_; intro hp1; obtain ⟨b1, rfl⟩ := hp1 (by omega)
                have hvz := ths_b (List.mem_of_getElem? hxi1)
                simp only [with_b, with_bp, with_bc] at hvz; refine wp_know (p := Shp p1 z.length c1) (fun u F s => by rw [St_pick (i := 2) rfl, star_assoc] at s; exact ths_shp (List.mem_of_getElem? hxi1) s) ?_; intro hsh; have hcz := hsh.2
                have hv85 := vw_subB hvz (Nat.zero_le at') (show at' ≤ z.length by omega) hcz
                rw [show List.take (at' - 0) (List.drop 0 z) = z.take at' from by simp] at hv85; have hv95 := vw_subB hvz (show at' + b.length ≤ z.length by omega) (Nat.le_refl _) hcz
                rw [show List.take (z.length - (at' + b.length)) (List.drop (at' + b.length) z) = z.drop (at' + b.length) from List.take_of_length_le (by simp)] at hv95; refine wp_region' (ops_ro' rfl (ro_move rfl) rfl (ops_ro' rfl (ro_nilCheck rfl) rfl (ops_ro' rfl (ro_fieldAddr fa74_0 rfl) rfl (ops_ro' rfl (ro_load sc72 rfl (Rd.pick 0 rfl (Rd.own rfl))) rfl (ops_ro' rfl (ro_move rfl) rfl ?_))))); refine ops_ro' rfl (ro_indexSlice sl72 rfl rfl rfl (by omega)) rfl (ops_ro' rfl (ro_fieldAddr fa109_4 rfl) rfl (ops_ro' rfl (ro_load sc30 rfl (Rd.pick 1 rfl ((row_elem Th.len hxi1 4 _ rfl)))) rfl ?_)); simp only [with_b, with_bp, with_bc]; refine ops_ro' rfl (ro_assign rfl) rfl (ops_nil (Then_normal (wp_seq' (wp_draw 20 (by kernel_rfl) (Split.cons 0 rfl (Split.nil _)) ?_)))); refine any_ro' (i := 0) (by kernel_rfl) rfl rfl (ro_move rfl) rfl (fun _ _ _ h => h) ?_; refine any_ro' (i := 1) (by kernel_rfl) rfl rfl (ro_nilCheck rfl) rfl (fun _ _ _ h => h) ?_; refine any_ro' (i := 2) (by kernel_rfl) rfl rfl (ro_fieldAddr fa74_0 rfl) rfl (fun _ _ _ h => h) ?_; refine any_ro' (i := 3) (by kernel_rfl) rfl rfl (ro_load sc72 rfl (Rd.pick 0 rfl (Rd.own rfl))) rfl (fun _ _ _ h => h) ?_; refine any_ro' (i := 4) (by kernel_rfl) rfl rfl (ro_move rfl) rfl (fun _ _ _ h => h) ?_; refine any_ro' (i := 6) (by kernel_rfl) rfl rfl (ro_move rfl) rfl (fun _ _ _ h => h) ?_; refine any_ro' (i := 7) (by kernel_rfl) rfl rfl (ro_move rfl) rfl (fun _ _ _ h => h) ?_; refine any_ro' (i := 8) (by kernel_rfl) rfl rfl (ro_sliceP sl30 rfl hsh rfl (bnd_of rfl rfl) (by omega) (by omega)) rfl (fun _ _ _ h => h) ?_; rw [show List.take (at' - 0) (List.drop 0 z) = z.take at' from by simp]; refine any_ro' (i := 10) (by kernel_rfl) rfl rfl (ro_move rfl) rfl (fun _ _ _ h => h) ?_; refine any_ro' (i := 12) (by kernel_rfl) rfl rfl (ro_move rfl) rfl (fun _ _ _ h => h) ?_; refine any_ro' (i := 13) (by kernel_rfl) rfl rfl (ro_move rfl) rfl (fun _ _ _ h => h) ?_; refine any_ro' (i := 14) (by kernel_rfl) rfl rfl (ro_move rfl) rfl (fun _ _ _ h => h) ?_; refine any_ro' (i := 15) (by kernel_rfl) rfl rfl (ro_sliceLen Try.underlying30 rfl) rfl (fun _ _ _ h => h) ?_; refine any_ro' (i := 16) (by kernel_rfl) rfl rfl (ro_conv Try.underlying3 Try.underlying34 rfl (wrap_u64_in (by omega) (by omega))) rfl (fun _ _ _ h => h) ?_; refine any_ro' (i := 17) (by kernel_rfl) rfl rfl (ro_add rfl rfl (show IntKind.u64.wrap ((at' : Int) + (b.length : Int)) = ((at' + b.length : Nat) : Int) by rw [wrap_u64_in (by omega) (by omega)]; omega)) rfl (fun _ _ _ h => h) ?_; refine any_ro' (i := 18) (by kernel_rfl) rfl rfl (ro_sliceP sl30 rfl hsh (bnd_of rfl rfl) rfl (by omega) (by omega)) rfl (fun _ _ _ h => h) ?_; rw [show List.take (z.length - (at' + b.length)) (List.drop (at' + b.length) z) = z.drop (at' + b.length) from List.take_of_length_le (by simp)]; refine any_eff' (i := 5) (by kernel_rfl) rfl rfl (eff_lit sl30 rfl (sbld (cs := cel []) [] sl30 (by decide) (by kernel_rfl) rfl) rfl (by decide)) rfl ?_; rintro _ _ ⟨b82, rfl, rfl⟩; refine any_eff' (i := 9) (by kernel_rfl) rfl rfl (eff_appB (l := []) (l2 := z.take at') 0 sl30 (.inl ⟨5, Try.underlying30⟩) rfl rfl rfl (Src.celv (Vw.pick 1 rfl hv85)) (by simp only [List.length_append, List.length_take, List.length_nil]; omega)) rfl ?_; rintro _ _ ⟨p86, c86, rfl, hn86, rfl⟩; simp only [zE, zF, zB]; refine any_eff' (i := 11) (by kernel_rfl) rfl rfl (eff_appB (l2 := b) 0 sl30 (.inl ⟨5, Try.underlying30⟩) rfl rfl rfl (Src.celv (Vw.pick 2 rfl hV)) (by simp only [List.length_append, List.length_take, List.length_nil]; omega)) rfl ?_; rintro _ _ ⟨p88, c88, rfl, hn88, rfl⟩; simp only [zE, zF]; refine any_eff' (i := 19) (by kernel_rfl) rfl rfl (eff_appB (l2 := z.drop (at' + b.length)) 0 sl30 (.inl ⟨5, Try.underlying30⟩) rfl rfl rfl (Src.celv (Vw.pick 1 rfl hv95)) (by simp only [List.length_append, List.length_take, List.length_drop, List.length_nil]; omega)) rfl ?_; rintro _ _ ⟨p96, c96, rfl, hn96, rfl⟩; simp only [zE, zF]; rw [show z.take at' ++ b ++ z.drop (at' + b.length) = (wr2 z at' b) from rfl]; refine any_unlock (m' := 23) (L' := []) (by kernel_rfl) unlock ?_; simp only [zA, zB, List.append_nil]; refine any_ro' (i := 20) (by kernel_rfl) rfl rfl (ro_indexSlice sl72 rfl rfl rfl (by omega)) rfl (fun _ _ _ h => h) ?_; refine any_ro' (i := 21) (by kernel_rfl) rfl rfl (ro_fieldAddr fa109_4 rfl) rfl (fun _ _ _ h => h) ?_; refine any_eff0 (i := 22) (by kernel_rfl) rfl rfl (eff_storeRow 2 sc30 rfl rfl rfl rfl (by rw [flat_len Th.len]; omega)) rfl ?_; rintro _ _ rfl; simp only [zE, zF]; rw [flat_setB hxi1]; refine any_doneH (by kernel_rfl) ?_; refine Then_normal (wp_seq' (wp_region' (ops_ro' rfl (ro_assign rfl) rfl (ops_nil (Then_normal ?_))))); refine wp_ret' ?_; refine doneS_pre3 (H2 := [rtree (⟨w.tb, (some ⟨b1, 0, none⟩), k1, w.next, l1.set i ((x.with p1 c1 z).with p96 c96 (wr2 z at' b))⟩ : Rt), V]) (fun u F s => rset_close (w := (⟨w.tb, (some ⟨b1, 0, none⟩), k1, w.next, l1⟩ : Rt)) (V := [V]) hxi1 (y := ((x.with p1 c1 z).with p96 c96 (wr2 z at' b))) rfl rfl trivial u F (((by repeat (first | exact SubH.nil _ | refine SubH.cons 0 rfl ?_ | refine SubH.cons 1 rfl ?_ | refine SubH.cons 2 rfl ?_ | refine SubH.cons 3 rfl ?_ | refine SubH.cons 4 rfl ?_ | refine SubH.cons 5 rfl ?_ | refine SubH.cons 6 rfl ?_ | refine SubH.cons 7 rfl ?_ | refine SubH.rown ?_)) : SubH _ [row 5 1 (.slice p96 ((wr2 z at' b)).length c96) ((wr2 z at' b)).length (cel ((wr2 z at' b))), own w.tb (.cells ([.slice (some ⟨b1, 0, none⟩) (l1).length k1, .int .i64 ((w.next : Nat) : Int)] : List Value).toArray 74 (0, 0)), row 109 12 (.slice (some ⟨b1, 0, none⟩) l1.length k1) l1.length (flat Th.cs (l1.set i ((x.with p1 c1 z).with p96 c96 (wr2 z at' b)))), ths l1, V]) u F s)) ?_; refine' doneS_ret (res1 rfl rfl) ?_ ?_
                rotate_left 1
                refine ⟨(⟨w.tb, (some ⟨b1, 0, none⟩), k1, w.next, l1.set i ((x.with p1 c1 z).with p96 c96 (wr2 z at' b))⟩ : Rt), 0, rfl, .inr ⟨i, x, hxi, ht, hd, .inr (.inr ⟨hb0, hmx, .inr ⟨by rw [← hn]; exact hz0, rfl, rfl, rfl, p96, c96, ?_⟩⟩)⟩, rfl⟩; rw [← hn, ← hz]
                show l1.set i _ = _
                rw [hl1, List.set_set]
                rfl
                exact SubH.refl _

end Go.Proofs.Ytbbmhppkhcodfaa
