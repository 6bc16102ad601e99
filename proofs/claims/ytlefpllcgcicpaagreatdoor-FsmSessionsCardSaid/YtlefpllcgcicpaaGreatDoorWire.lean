/-
  Lists of texts: held against one another, cut short.
  Names in order; where a name stands in a directory.
  What the writer and the reader of package wire do.
-/
import Derived.Test.YtlefpllcgcicpaaGreatDoorSxSub
import Derived.Test.YtlefpllcgcicpaaGreatDoorTrJ
import Derived.Test.YtlefpllcgcicpaaGreatDoorLib
namespace Go.Proofs.YtlefpllcgcicpaaGreatDoor
open Go.Sx
set_option linter.unusedVariables false
set_option linter.unusedSimpArgs false
set_option maxRecDepth 100000
set_option maxHeartbeats 4000000

theorem kHead (l : List UInt8) (n : Nat) : Tri Tryz.prog 84 [.string (str l), .int .i64 n] [] (fun v H' => v = .string (str (l.take n)) ∧ H' = []) := by
  refine tri_of_wpS Tryz.func84 rfl Tryz.ntmps84 (by simp) ?_
  refine wp_seq' ?_
  refine wp_region' ?_
  refine ops_ro' rfl (ro_assign rfl) rfl ?_
  refine ops_nil ?_
  refine Then_normal ?_
  refine wp_seq' ?_
  refine wp_seq' ?_
  refine wp_region' ?_
  refine ops_ro' rfl (ro_move rfl) rfl ?_
  refine ops_ro' rfl (ro_lenS (t' := 0) Tryz.underlying9 rfl) rfl ?_
  refine ops_ro' rfl (ro_move rfl) rfl ?_
  refine ops_ro' rfl (ro_gtr rfl rfl rfl) rfl ?_
  refine ops_nil ?_
  refine Then_normal ?_
  refine wp_cond' rfl (fun hc8 => ?_) (fun hc8 => ?_)
  · replace hc8 := of_decide_eq_true hc8
    refine wp_seq' ?_
    refine wp_region' ?_
    refine ops_ro' rfl (ro_move rfl) rfl ?_
    refine ops_ro' rfl (ro_move rfl) rfl ?_
    refine ops_ro' rfl (ro_sliceS Tryz.underlying9 rfl rfl (bnd_of rfl rfl) (by omega) (by omega)) rfl ?_
    refine ops_ro' rfl (ro_assign rfl) rfl ?_
    refine ops_nil ?_
    refine Then_normal ?_
    refine wp_ret' ?_
    refine Then_ret ?_
    refine' doneS_ret (res1 rfl rfl) ?_ ?_
    rotate_left 1
    exact ⟨by simp, rfl⟩
    exact SubH.refl _
  · replace hc8 := of_decide_eq_false hc8
    refine wp_skip' ?_
    refine Then_normal ?_
    refine wp_seq' ?_
    refine wp_region' ?_
    refine ops_ro' rfl (ro_move rfl) rfl ?_
    refine ops_ro' rfl (ro_assign rfl) rfl ?_
    refine ops_nil ?_
    refine Then_normal ?_
    refine wp_ret' ?_
    refine' doneS_ret (res1 rfl rfl) ?_ ?_
    rotate_left 1
    exact ⟨by rw [List.take_of_length_le (by omega)], rfl⟩
    exact SubH.refl _


theorem kCut (V : HProp) (p : Option Addr) (c : Nat) (l : List UInt8) (n : Nat) (hV : Vw V (.slice p l.length c) l.length (cel l)) (hc : l.length ≤ c) :
    Tri Tryz.prog 16 [.slice p l.length c, .int .i64 n] [V] (fun v H' => ∃ K, (∃ p' c', v = .slice p' (l.take n).length c' ∧ Vw V (.slice p' (l.take n).length c') (l.take n).length (cel (l.take n)) ∧ (l.take n).length ≤ c' ∧ K = []) ∧ H' = K ++ [V]) := by
  refine tri_of_wpS Tryz.func16 rfl Tryz.ntmps16 (by simp) ?_
  refine wp_seq' ?_
  refine wp_region' ?_
  refine ops_ro' rfl (ro_assign rfl) rfl ?_
  refine ops_nil ?_
  refine Then_normal ?_
  refine wp_seq' ?_
  refine wp_seq' ?_
  refine wp_region' ?_
  refine ops_ro' rfl (ro_move rfl) rfl ?_
  refine ops_ro' rfl (ro_sliceLen Tryz.underlying25 rfl) rfl ?_
  refine ops_ro' rfl (ro_move rfl) rfl ?_
  refine ops_ro' rfl (ro_gtr rfl rfl rfl) rfl ?_
  refine ops_nil ?_
  refine Then_normal ?_
  refine wp_cond' rfl (fun hc8 => ?_) (fun hc8 => ?_)
  · replace hc8 := of_decide_eq_true hc8
    refine wp_seq' ?_
    refine wp_region' ?_
    refine ops_ro' rfl (ro_move rfl) rfl ?_
    refine ops_ro' rfl (ro_move rfl) rfl ?_
    refine ops_eff' rfl (eff_sliceB 0 rfl sl25 rfl (hV) rfl (bnd_of rfl rfl) (by omega) (by omega) hc) rfl ?_
    rintro _ _ ⟨p11, rfl, hv11, hn11, rfl⟩
    refine ops_ro' rfl (ro_assign rfl) rfl ?_
    refine ops_nil ?_
    refine Then_normal ?_
    refine wp_ret' ?_
    refine Then_ret ?_
    refine' doneS_ret (res1 rfl rfl) ?_ ?_
    rotate_left 1
    exact ⟨_, ⟨p11, c, rfl, by simpa [St_cons, St_nil, star_emp] using hv11, by simp; omega, rfl⟩, rfl⟩
    exact SubH.refl _
  · replace hc8 := of_decide_eq_false hc8
    refine wp_skip' ?_
    refine Then_normal ?_
    refine wp_seq' ?_
    refine wp_region' ?_
    refine ops_ro' rfl (ro_move rfl) rfl ?_
    refine ops_ro' rfl (ro_assign rfl) rfl ?_
    refine ops_nil ?_
    refine Then_normal ?_
    refine wp_ret' ?_
    refine' doneS_ret (res1 rfl rfl) ?_ ?_
    rotate_left 1
    exact ⟨_, ⟨p, c, by rw [List.take_of_length_le (by omega)], by rw [List.take_of_length_le (by omega)]; exact hV, by rw [List.take_of_length_le (by omega)]; exact hc, rfl⟩, rfl⟩
    exact SubH.refl _

end Go.Proofs.YtlefpllcgcicpaaGreatDoor
namespace Go.Proofs.YtlefpllcgcicpaaGreatDoor
open Go.Sx
set_option linter.unusedVariables false
set_option linter.unusedSimpArgs false
set_option maxRecDepth 100000
set_option maxHeartbeats 4000000

abbrev cmp (a b : List UInt8) : Int := Lib.compareBytes a b
theorem u8_lt {a b : UInt8} : a < b ↔ a.toNat < b.toNat := Iff.rfl
theorem cmp_self : ∀ a, cmp a a = 0
  | [] => rfl
  | x :: a => by
    have h : ¬ x < x := by rw [u8_lt]; omega
    show (if x < x then (-1 : Int) else if x < x then 1 else Lib.compareBytes a a) = 0
    rw [if_neg h, if_neg h]; exact cmp_self a
theorem cmp_zero : ∀ {a b}, cmp a b = 0 → a = b
  | [], [], _ => rfl
  | [], _ :: _, h => by cases h
  | _ :: _, [], h => by cases h
  | x :: a, y :: b, h => by
    have h : (if x < y then (-1 : Int) else if y < x then 1 else Lib.compareBytes a b) = 0 := h
    by_cases h1 : x < y
    · rw [if_pos h1] at h; cases h
    · rw [if_neg h1] at h
      by_cases h2 : y < x
      · rw [if_pos h2] at h; cases h
      · rw [if_neg h2] at h
        rw [u8_lt] at h1 h2
        rw [cmp_zero h, UInt8.toNat_inj.1 (show x.toNat = y.toNat by omega)]
theorem cmp_anti : ∀ a b, cmp b a = - cmp a b
  | [], [] => rfl
  | [], _ :: _ => rfl
  | _ :: _, [] => rfl
  | x :: a, y :: b => by
    show (if y < x then (-1 : Int) else if x < y then 1 else Lib.compareBytes b a) = - (if x < y then (-1 : Int) else if y < x then 1 else Lib.compareBytes a b)
    by_cases h1 : x < y
    · have h2 : ¬ y < x := by rw [u8_lt] at *; omega
      rw [if_pos h1, if_neg h2, if_pos h1]; rfl
    · by_cases h2 : y < x
      · rw [if_pos h2, if_neg h1, if_pos h2]
      · rw [if_neg h2, if_neg h1, if_neg h1, if_neg h2]; exact cmp_anti a b
theorem cmp_trans : ∀ {a b c}, cmp a b < 0 → cmp b c < 0 → cmp a c < 0
  | _, [], [], _, h => by cases h
  | [], [], _ :: _, h, _ => by cases h
  | _ :: _, [], _, h, _ => by cases h
  | _, _ :: _, [], _, h => by cases h
  | [], _ :: _, _ :: _, _, _ => by show (-1 : Int) < 0; decide
  | x :: a, y :: b, z :: c, h1, h2 => by
    have h1 : (if x < y then (-1 : Int) else if y < x then 1 else Lib.compareBytes a b) < 0 := h1
    have h2 : (if y < z then (-1 : Int) else if z < y then 1 else Lib.compareBytes b c) < 0 := h2
    show (if x < z then (-1 : Int) else if z < x then 1 else Lib.compareBytes a c) < 0
    by_cases a1 : x < y
    · have a2 : ¬ z < y := fun h => by
        rw [if_neg (by rw [u8_lt] at *; omega), if_pos h] at h2; cases h2
      rw [if_pos (by rw [u8_lt] at *; omega)]; decide
    · rw [if_neg a1] at h1
      by_cases a2 : y < x
      · rw [if_pos a2] at h1; cases h1
      · rw [if_neg a2] at h1
        by_cases a3 : y < z
        · rw [if_pos (by rw [u8_lt] at *; omega)]; decide
        · rw [if_neg a3] at h2
          by_cases a4 : z < y
          · rw [if_pos a4] at h2; cases h2
          · rw [if_neg a4] at h2
            rw [if_neg (by rw [u8_lt] at *; omega), if_neg (by rw [u8_lt] at *; omega)]
            exact cmp_trans h1 h2
/-- names that rise -/
def Rise (l : List (List UInt8)) : Prop := l.Pairwise fun a b => cmp a b < 0
/-- how many are less -/
def plc (l : List (List UInt8)) (s : List UInt8) : Nat := (l.takeWhile fun x => decide (cmp x s < 0)).length
theorem plc_le (l : List (List UInt8)) (s : List UInt8) : plc l s ≤ l.length := (List.takeWhile_sublist _).length_le
theorem rise_lt {l : List (List UInt8)} (h : Rise l) {i j : Nat} (hij : i < j) (hj : j < l.length) : cmp l[i] l[j] < 0 := List.pairwise_iff_getElem.1 h i j (by omega) hj hij
theorem plc_eq : ∀ {l : List (List UInt8)} {s : List UInt8} {i : Nat}, i ≤ l.length → (∀ j (hj : j < l.length), j < i → cmp l[j] s < 0) → (∀ (hi : i < l.length), ¬ cmp l[i] s < 0) → plc l s = i
  | [], s, i, h, _, _ => by have : i = 0 := by simpa using h
                            rw [this]; rfl
  | x :: r, s, 0, _, _, h2 => by
    have h3 : ¬ cmp x s < 0 := h2 (by simp)
    simp [plc, List.takeWhile_cons, h3]
  | x :: r, s, i + 1, h, h1, h2 => by
    have h3 : cmp x s < 0 := h1 0 (by simp) (by omega)
    have h4 := plc_eq (l := r) (s := s) (i := i) (by simpa using h) (fun j hj hji => h1 (j + 1) (by simpa using hj) (by omega)) (fun hi => h2 (by simpa using hi))
    unfold plc at h4 ⊢
    rw [List.takeWhile_cons, if_pos (by simpa using h3), List.length_cons, h4]
theorem scmp_spec (a b : List UInt8) : Tri Tryz.prog 166 [.string (str a), .string (str b)] [] (fun v H' => v = .int .i64 (cmp a b) ∧ H' = []) := fun w F hw =>
  (Tryz.strings_Compare (str a) (str b) w).mono fun e w' ⟨he, hw'⟩ => ⟨_, _, he, ⟨rfl, rfl⟩, hw' ▸ hw⟩
theorem plc1_spec {V : HProp} (k : Nat) (nm s : List UInt8) (hn : Rd V k (0 + 2) (.string (str nm))) : Tri Tryz.prog 165 [.pointer (some ⟨k, 0, none⟩), .string (str s)] [V] (fun v H' => ∃ K, (v = .int .i64 (cmp nm s) ∧ K = []) ∧ H' = K ++ [V]) := by
  refine tri_of_wpS Tryz.func165 rfl Tryz.ntmps165 (by simp) ?_
  refine wp_seq' ?_
  refine wp_region' ?_
  refine ops_ro' rfl (ro_assign rfl) rfl ?_
  refine ops_nil ?_
  refine Then_normal ?_
  refine wp_seq' ?_
  refine wp_region' ?_
  refine ops_ro' rfl (ro_move rfl) rfl ?_
  refine ops_ro' rfl (ro_nilCheck rfl) rfl ?_
  refine ops_ro' rfl (ro_fieldAddr fa98_2 rfl) rfl ?_
  refine ops_ro' rfl (ro_load sc9 rfl (Rd.pick 0 rfl hn)) rfl ?_
  refine ops_ro' rfl (ro_move rfl) rfl ?_
  refine ops_eff' rfl (eff_call Tryz.call166 rfl rfl (by repeat (first | exact Split.nil _ | apply Split.cons 0 rfl | apply Split.cons 1 rfl | apply Split.cons 2 rfl | apply Split.cons 3 rfl | apply Split.cons 4 rfl | apply Split.cons 5 rfl | apply Split.cons 6 rfl | apply Split.cons 7 rfl | apply Split.cons 8 rfl | apply Split.cons 9 rfl | apply Split.cons 10 rfl | apply Split.cons 11 rfl)) (scmp_spec nm s)) rfl ?_
  rintro _ H' ⟨_, ⟨rfl, rfl⟩, hH⟩
  simp only [List.cons_append, List.nil_append, List.eraseIdx_cons_zero, List.eraseIdx_cons_succ, List.set_cons_zero, List.set_cons_succ] at hH
  subst hH
  refine ops_ro' rfl (ro_assign rfl) rfl ?_
  refine ops_nil ?_
  refine Then_normal ?_
  refine wp_ret' ?_
  refine' doneS_ret (res1 rfl rfl) ?_ ?_
  rotate_left 1
  exact ⟨_, ⟨rfl, rfl⟩, rfl⟩
  exact SubH.refl _


section
variable {n : Nat} {L : HProp} {Γ : Env} {d : Option Tmp} {ty : TypeId} {pos : String} {aft : Array Edge} {g : Option (Nat × Bool)}
theorem ro_shr1 {t ty' : TypeId} {x y : Operand} {a : Nat} {k2 : IntKind} (hx : ev Γ x = some (.int .u64 (a : Int))) (hy : ev Γ y = some (.int k2 1)) (ha : a < 18446744073709551616) : RO Tryz.prog n L Γ ⟨d, .binOp .shr t x y ty', ty, pos, aft, g⟩ (.int .u64 ((a / 2 : Nat) : Int)) :=
  ro_shr hx hy (by omega) (by
    rw [show min (1 : Int).toNat IntKind.u64.bits = 1 from rfl, show (2 : Int) ^ 1 = 2 from rfl, Int.fdiv_eq_ediv_of_nonneg _ (by omega)]; omega)
end
theorem bs_lo {l : List Nat} {nm : Nat → List UInt8} {s : List UInt8} (hR : Rise (l.map nm)) {h : Nat} (hh : h < l.length) (hc : cmp (nm l[h]) s < 0) {j : Nat} (hj : j < l.length) (hle : j ≤ h) : cmp (nm l[j]) s < 0 := by
  by_cases e : j = h
  · subst e; exact hc
  · have h1 := rise_lt hR (i := j) (j := h) (by omega) (by rw [List.length_map]; exact hh)
    rw [List.getElem_map, List.getElem_map] at h1
    exact cmp_trans h1 hc
theorem bs_hi {l : List Nat} {nm : Nat → List UInt8} {s : List UInt8} (hR : Rise (l.map nm)) {h : Nat} (hh : h < l.length) (hc : ¬ cmp (nm l[h]) s < 0) {j : Nat} (hj : j < l.length) (hle : h ≤ j) : ¬ cmp (nm l[j]) s < 0 := fun hlt => hc (bs_lo hR hj hlt hh hle)
theorem bs_in {l : List Nat} {nm : Nat → List UInt8} {s : List UInt8} {i : Nat} (hi : i < l.length) : decide ((l.map nm)[i]? = some s) = decide (cmp (nm l[i]) s = 0) := by
  rw [List.getElem?_map, List.getElem?_eq_getElem hi]
  refine decide_eq_decide.2 ⟨fun h => ?_, fun h => by rw [← cmp_zero h]; rfl⟩
  injection h with h; rw [h]; exact cmp_self s
theorem bs_out {l : List Nat} {nm : Nat → List UInt8} {s : List UInt8} {i : Nat} (hi : l.length ≤ i) : decide ((l.map nm)[i]? = some s) = false := by
  rw [List.getElem?_eq_none (by rw [List.length_map]; exact hi)]; rfl
theorem bsrch_spec {V : HProp} (p : Option Addr) (c : Nat) (l : List Nat) (hV : Vw V (.slice p l.length c) l.length (pts l)) (hl : l.length ≤ 100000) (nm : Nat → List UInt8) (hn : ∀ k ∈ l, Rd V k (0 + 2) (.string (str (nm k)))) (hR : Rise (l.map nm)) (s : List UInt8) :
    Tri Tryz.prog 164 [.slice p l.length c, .string (str s), .func (.func 165) #[] #[]] [V] (fun v H' => ∃ K, (v = .tuple #[.int .i64 (plc (l.map nm) s : Nat), .bool (decide ((l.map nm)[plc (l.map nm) s]? = some s))] ∧ K = []) ∧ H' = K ++ [V]) := by
  refine tri_of_wpS Tryz.func164 rfl Tryz.ntmps164 (by simp) ?_
  refine wp_seq' ?_
  refine wp_region' ?_
  refine ops_ro' rfl (ro_assign rfl) rfl ?_
  refine ops_ro' rfl (ro_assign rfl) rfl ?_
  refine ops_nil ?_
  refine Then_normal ?_
  refine wp_seq' ?_
  refine wp_region' ?_
  refine ops_ro' rfl (ro_move rfl) rfl ?_
  refine ops_ro' rfl (ro_sliceLen Tryz.underlying96 rfl) rfl ?_
  refine ops_ro' rfl (ro_assign rfl) rfl ?_
  refine ops_nil ?_
  refine Then_normal ?_
  refine wp_seq' ?_
  refine wp_region' ?_
  refine ops_ro' rfl (ro_move rfl) rfl ?_
  refine ops_ro' rfl (ro_assign rfl) rfl ?_
  refine ops_ro' rfl (ro_assign rfl) rfl ?_
  refine ops_nil ?_
  refine Then_normal ?_
  refine wp_seq' ?_
  refine wp_block' ?_
  refine wp_loopK 3 (fun m Δ LL => ∃ (lo hi : Nat), (hi - lo = m ∧ lo ≤ hi ∧ hi ≤ l.length ∧ (∀ j (hj : j < l.length), j < lo → cmp (nm l[j]) s < 0) ∧ (∀ j (hj : j < l.length), hi ≤ j → ¬ cmp (nm l[j]) s < 0)) ∧ Δ = [(9, .int .i64 (lo : Nat)), (10, .int .i64 (hi : Nat))] ∧ LL = [V]) (m := l.length) (Has.cons (k := 0) rfl (Has.cons (k := 1) rfl (Has.cons (k := 2) rfl (Has.cons (k := 8) rfl (Has.nil _))))) (kept ⟨0, l.length, ⟨rfl, Nat.zero_le _, Nat.le_refl _, fun j hj h => by omega, fun j hj h => by omega⟩, rfl, rfl⟩ (by repeat (first | exact Has.nil _ | refine Has.cons rfl ?_)) (by repeat (first | exact Has.nil _ | refine Has.cons rfl ?_)) (by repeat (first | exact SubH.nil _ | refine SubH.cons 0 rfl ?_ | refine SubH.cons 1 rfl ?_ | refine SubH.cons 2 rfl ?_ | refine SubH.cons 3 rfl ?_ | refine SubH.cons 4 rfl ?_ | refine SubH.cons 5 rfl ?_ | refine SubH.cons 6 rfl ?_ | refine SubH.cons 7 rfl ?_ | refine SubH.cons 8 rfl ?_ | refine SubH.cons 9 rfl ?_ | refine SubH.cons 10 rfl ?_ | refine SubH.cons 11 rfl ?_ | refine SubH.cons 12 rfl ?_ | refine SubH.cons 13 rfl ?_ | refine SubH.rown ?_))) ?_
  rintro m Δ LL ⟨lo, hi, ⟨hm, hlh, hhl, hlo, hhi⟩, rfl, rfl⟩
  simp only [List.cons_append, List.nil_append]
  refine wp_seq' ?_
  refine wp_seq' ?_
  refine wp_region' ?_
  refine ops_ro' rfl (ro_move rfl) rfl ?_
  refine ops_ro' rfl (ro_move rfl) rfl ?_
  refine ops_ro' rfl (ro_lss rfl rfl rfl) rfl ?_
  refine ops_nil ?_
  refine Then_normal ?_
  refine wp_cond' rfl (fun hc17 => ?_) (fun hc17 => ?_)
  · replace hc17 := of_decide_eq_true hc17
    have hh : (lo + hi) / 2 < l.length := by omega
    have hnm := hn l[(lo + hi) / 2] (List.getElem_mem hh)
    refine wp_know (fun w F s => vw_ptr (Vw.pick (H := [V]) 0 rfl hV) s (by omega)) ?_
    rintro ⟨b0, o0, rfl⟩
    refine wp_skip' ?_
    refine Then_normal ?_
    refine wp_block' ?_
    refine wp_seq' ?_
    refine wp_region' ?_
    refine ops_ro' rfl (ro_move rfl) rfl ?_
    refine ops_ro' rfl (ro_move rfl) rfl ?_
    refine ops_ro' rfl (ro_add rfl rfl (wrap_addN (by omega))) rfl ?_
    refine ops_ro' rfl (ro_conv Tryz.underlying3 Tryz.underlying195 rfl (wrap_u64_in (by omega) (by omega))) rfl ?_
    refine ops_ro' rfl (ro_shr1 rfl rfl (by omega)) rfl ?_
    refine ops_ro' rfl (ro_conv Tryz.underlying195 Tryz.underlying3 rfl (wrap_natN (by omega))) rfl ?_
    refine ops_ro' rfl (ro_assign rfl) rfl ?_
    refine ops_nil ?_
    refine Then_normal ?_
    refine wp_seq' ?_
    refine wp_region' ?_
    refine ops_ro' rfl (ro_move rfl) rfl ?_
    refine ops_ro' rfl (ro_move rfl) rfl ?_
    refine ops_ro' rfl (ro_move rfl) rfl ?_
    refine ops_ro' rfl (ro_indexSlice sl96 rfl rfl rfl (by omega)) rfl ?_
    refine ops_ro' rfl (ro_load sc92 rfl (Rd.pick 0 rfl (Rd.elem (j := 0) (vw_rdn hV) Pq.len (List.getElem?_eq_getElem hh) rfl))) rfl ?_
    refine ops_ro' rfl (ro_move rfl) rfl ?_
    refine ops_eff' rfl (eff_callV (c0 := []) (c1 := []) Tryz.call165 rfl rfl rfl (by repeat (first | exact Split.nil _ | apply Split.cons 0 rfl | apply Split.cons 1 rfl | apply Split.cons 2 rfl | apply Split.cons 3 rfl | apply Split.cons 4 rfl | apply Split.cons 5 rfl | apply Split.cons 6 rfl | apply Split.cons 7 rfl | apply Split.cons 8 rfl | apply Split.cons 9 rfl | apply Split.cons 10 rfl | apply Split.cons 11 rfl)) (plc1_spec _ _ s hnm)) rfl ?_
    rintro _ H' ⟨_, ⟨_, ⟨rfl, rfl⟩, rfl⟩, hH⟩
    simp only [List.cons_append, List.nil_append, List.eraseIdx_cons_zero, List.eraseIdx_cons_succ, List.set_cons_zero, List.set_cons_succ] at hH
    subst hH
    refine ops_ro' rfl (ro_lss rfl rfl rfl) rfl ?_
    refine ops_nil ?_
    refine Then_normal ?_
    refine wp_cond' rfl (fun hc31 => ?_) (fun hc31 => ?_)
    · replace hc31 := of_decide_eq_true hc31
      refine wp_region' ?_
      refine ops_ro' rfl (ro_move rfl) rfl ?_
      refine ops_ro' rfl (ro_add rfl rfl (wrap_inc (by omega))) rfl ?_
      refine ops_ro' rfl (ro_assign rfl) rfl ?_
      refine ops_nil ?_
      refine InBlock_normal ?_
      refine Then_normal ?_
      refine back (hi - ((lo + hi) / 2 + 1)) (by omega) (kept ⟨(lo + hi) / 2 + 1, hi, ⟨rfl, by omega, hhl, fun j hj h => bs_lo hR hh hc31 hj (by omega), hhi⟩, rfl, rfl⟩ ?_ ?_ ?_)
      · exact (by repeat (first | exact Has.nil _ | refine Has.cons rfl ?_))
      · exact (by repeat (first | exact Has.nil _ | refine Has.cons rfl ?_))
      · exact SubH.refl _
    · replace hc31 := of_decide_eq_false hc31
      refine wp_region' ?_
      refine ops_ro' rfl (ro_move rfl) rfl ?_
      refine ops_ro' rfl (ro_assign rfl) rfl ?_
      refine ops_nil ?_
      refine InBlock_normal ?_
      refine Then_normal ?_
      refine back ((lo + hi) / 2 - lo) (by omega) (kept ⟨lo, (lo + hi) / 2, ⟨rfl, by omega, by omega, hlo, fun j hj h => bs_hi hR hh hc31 hj (by omega)⟩, rfl, rfl⟩ ?_ ?_ ?_)
      · exact (by repeat (first | exact Has.nil _ | refine Has.cons rfl ?_))
      · exact (by repeat (first | exact Has.nil _ | refine Has.cons rfl ?_))
      · exact SubH.refl _
  · replace hc17 := of_decide_eq_false hc17
    obtain rfl : lo = hi := by omega
    have hpl : plc (l.map nm) s = lo := plc_eq (by rw [List.length_map]; exact hhl) (fun j hj h => by rw [List.getElem_map]; exact hlo j (by simpa using hj) h) (fun hi => by rw [List.getElem_map]; exact hhi lo (by simpa using hi) (Nat.le_refl _))
    refine wp_exit' ?_
    refine Then_exit ?_
    refine Then_exit ?_
    refine InBlock_here ?_
    refine Then_normal ?_
    refine wp_seq' ?_
    refine wp_region' ?_
    refine ops_ro' rfl (ro_move rfl) rfl ?_
    refine ops_ro' rfl (ro_move rfl) rfl ?_
    refine ops_ro' rfl (ro_move rfl) rfl ?_
    refine ops_ro' rfl (ro_lss rfl rfl rfl) rfl ?_
    refine ops_split rfl rfl rfl (fun hg39 => ?_) (fun hg39 => ?_)
    · replace hg39 := of_decide_eq_true hg39
      have hl2 : lo < l.length := by omega
      have hnm := hn l[lo] (List.getElem_mem hl2)
      refine ops_know (fun w F s => vw_ptr (Vw.pick (H := [V]) 0 rfl hV) s (by omega)) ?_
      rintro ⟨b0, o0, rfl⟩
      refine ops_ro' rfl (ro_move rfl) rfl ?_
      refine ops_ro' rfl (ro_move rfl) rfl ?_
      refine ops_ro' rfl (ro_move rfl) rfl ?_
      refine ops_ro' rfl (ro_indexSlice sl96 rfl rfl rfl (by omega)) rfl ?_
      refine ops_ro' rfl (ro_load sc92 rfl (Rd.pick 0 rfl (Rd.elem (j := 0) (vw_rdn hV) Pq.len (List.getElem?_eq_getElem hl2) rfl))) rfl ?_
      refine ops_ro' rfl (ro_move rfl) rfl ?_
      refine ops_eff' rfl (eff_callV (c0 := []) (c1 := []) Tryz.call165 rfl rfl rfl (by repeat (first | exact Split.nil _ | apply Split.cons 0 rfl | apply Split.cons 1 rfl | apply Split.cons 2 rfl | apply Split.cons 3 rfl | apply Split.cons 4 rfl | apply Split.cons 5 rfl | apply Split.cons 6 rfl | apply Split.cons 7 rfl | apply Split.cons 8 rfl | apply Split.cons 9 rfl | apply Split.cons 10 rfl | apply Split.cons 11 rfl)) (plc1_spec _ _ s hnm)) rfl ?_
      rintro _ H' ⟨_, ⟨_, ⟨rfl, rfl⟩, rfl⟩, hH⟩
      simp only [List.cons_append, List.nil_append, List.eraseIdx_cons_zero, List.eraseIdx_cons_succ, List.set_cons_zero, List.set_cons_succ] at hH
      subst hH
      refine ops_ro' rfl (ro_eql rfl rfl rfl) rfl ?_
      refine ops_ro' rfl (ro_pick rfl rfl) rfl ?_
      refine ops_ro' rfl (ro_assign rfl) rfl ?_
      refine ops_ro' rfl (ro_assign rfl) rfl ?_
      refine ops_nil ?_
      refine Then_normal ?_
      refine wp_ret' ?_
      refine' doneS_ret (res2 rfl rfl rfl) ?_ ?_
      rotate_left 1
      exact ⟨_, ⟨by rw [hpl, bs_in hl2], rfl⟩, rfl⟩
      exact SubH.refl _
    · replace hg39 := of_decide_eq_false hg39
      refine ops_skip' rfl rfl ?_
      refine ops_skip' rfl rfl ?_
      refine ops_skip' rfl rfl ?_
      refine ops_skip' rfl rfl ?_
      refine ops_skip' rfl rfl ?_
      refine ops_skip' rfl rfl ?_
      refine ops_skip' rfl rfl ?_
      refine ops_skip' rfl rfl ?_
      refine ops_ro' rfl (ro_pick rfl rfl) rfl ?_
      refine ops_ro' rfl (ro_assign rfl) rfl ?_
      refine ops_ro' rfl (ro_assign rfl) rfl ?_
      refine ops_nil ?_
      refine Then_normal ?_
      refine wp_ret' ?_
      refine' doneS_ret (res2 rfl rfl rfl) ?_ ?_
      rotate_left 1
      exact ⟨_, ⟨by rw [hpl, bs_out (by omega)], rfl⟩, rfl⟩
      exact SubH.refl _


theorem place_spec {V : HProp} (b : Nat) (p : Option Addr) (c : Nat) (l : List Nat) (hk : Rd V b (0 + 3) (.slice p l.length c)) (hV : Vw V (.slice p l.length c) l.length (pts l)) (hl : l.length ≤ 100000) (nm : Nat → List UInt8) (hn : ∀ k ∈ l, Rd V k (0 + 2) (.string (str (nm k)))) (hR : Rise (l.map nm)) (s : List UInt8) :
    Tri Tryz.prog 131 [.pointer (some ⟨b, 0, none⟩), .string (str s)] [V] (fun v H' => ∃ K, (v = .tuple #[.int .i64 (plc (l.map nm) s : Nat), .bool (decide ((l.map nm)[plc (l.map nm) s]? = some s))] ∧ K = []) ∧ H' = K ++ [V]) := by
  refine tri_of_wpS Tryz.func131 rfl Tryz.ntmps131 (by simp) ?_
  refine wp_seq' ?_
  refine wp_region' ?_
  refine ops_ro' rfl (ro_assign rfl) rfl ?_
  refine ops_ro' rfl (ro_assign rfl) rfl ?_
  refine ops_nil ?_
  refine Then_normal ?_
  refine wp_seq' ?_
  refine wp_region' ?_
  refine ops_ro' rfl (ro_move rfl) rfl ?_
  refine ops_ro' rfl (ro_nilCheck rfl) rfl ?_
  refine ops_ro' rfl (ro_fieldAddr fa98_3 rfl) rfl ?_
  refine ops_ro' rfl (ro_load sc96 rfl (Rd.pick 0 rfl hk)) rfl ?_
  refine ops_ro' rfl (ro_move rfl) rfl ?_
  refine ops_eff' rfl (eff_call Tryz.call164 rfl rfl (by repeat (first | exact Split.nil _ | apply Split.cons 0 rfl | apply Split.cons 1 rfl | apply Split.cons 2 rfl | apply Split.cons 3 rfl | apply Split.cons 4 rfl | apply Split.cons 5 rfl | apply Split.cons 6 rfl | apply Split.cons 7 rfl | apply Split.cons 8 rfl | apply Split.cons 9 rfl | apply Split.cons 10 rfl | apply Split.cons 11 rfl)) (bsrch_spec p c l hV hl nm hn hR s)) rfl ?_
  rintro _ H' ⟨_, ⟨_, ⟨rfl, rfl⟩, rfl⟩, hH⟩
  simp only [List.cons_append, List.nil_append, List.eraseIdx_cons_zero, List.eraseIdx_cons_succ, List.set_cons_zero, List.set_cons_succ] at hH
  subst hH
  refine ops_ro' rfl (ro_extract rfl rfl) rfl ?_
  refine ops_ro' rfl (ro_extract rfl rfl) rfl ?_
  refine ops_ro' rfl (ro_assign rfl) rfl ?_
  refine ops_ro' rfl (ro_assign rfl) rfl ?_
  refine ops_nil ?_
  refine Then_normal ?_
  refine wp_ret' ?_
  refine' doneS_ret (res2 rfl rfl rfl) ?_ ?_
  rotate_left 1
  exact ⟨_, ⟨rfl, rfl⟩, rfl⟩
  exact SubH.refl _

end Go.Proofs.YtlefpllcgcicpaaGreatDoor
namespace Go.Proofs.YtlefpllcgcicpaaGreatDoor
open Go.Sx
set_option linter.unusedVariables false
set_option linter.unusedSimpArgs false
set_option maxRecDepth 100000

/-- a copy's slice is nil just if the elder is, and begins its own array -/
def Alike (p p' : Option Addr) : Prop := (p = none ∧ p' = none) ∨ (p ≠ none ∧ ∃ b, p' = some ⟨b, 0, none⟩)
theorem clone_some (V : HProp) (a : Addr) (m c : Nat) (xs : List Value) (hV : Vw V (.slice (some a) m c) m xs) (hl : xs.length = m) (hone : ∀ v ∈ xs, v.oneCell' = true) (hm : m ≤ 140737488355328) :
    Tri Tryz.prog 93 [.slice (some a) m c] [V] (fun r H' => ∃ p' c', r = .slice p' m c' ∧ Alike (some a) p' ∧ H' = [row 5 1 (.slice p' m c') m xs, V]) := by
  refine tri_of_wp Tryz.func93 rfl Tryz.ntmps93 (by simp) ?_
  refine wp_seq' ?_
  refine wp_region' ?_
  refine ops_ro' rfl (ro_assign rfl) rfl ?_
  refine ops_nil ?_
  repeat (first | refine InBlock_normal ?_ | refine NoGoto_normal ?_ | refine Jump_normal ?_)
  refine Then_normal ?_
  refine wp_seq' ?_
  refine wp_seq' ?_
  refine wp_region' ?_
  refine ops_ro' rfl (ro_move rfl) rfl ?_
  refine ops_ro' rfl (ro_sliceEqlNil Tryz.underlying25 rfl rfl rfl) rfl ?_
  refine ops_nil ?_
  repeat (first | refine InBlock_normal ?_ | refine NoGoto_normal ?_ | refine Jump_normal ?_)
  refine Then_normal ?_
  refine wp_condF rfl ?_
  refine wp_skip' ?_
  repeat (first | refine InBlock_normal ?_ | refine NoGoto_normal ?_ | refine Jump_normal ?_)
  refine Then_normal ?_
  refine wp_seq' ?_
  refine wp_region' ?_
  refine ops_eff' rfl (eff_buildSlice rfl (sbld (cs := []) [] sl25 (by decide) (by kernel_rfl) rfl)) rfl ?_
  rintro _ _ ⟨b5, rfl, rfl⟩
  refine ops_ro' rfl (ro_move rfl) rfl ?_
  refine ops_eff' rfl (eff_appendLit 0 sl25 (.inl ⟨5, Tryz.underlying25⟩) rfl rfl rfl rfl (Src.of_vw (Vw.pick 0 rfl hV) (by omega) hone) (by omega) (by simp only [maxLen]; omega)) rfl ?_
  rintro _ _ ⟨b', c', rfl, rfl⟩
  simp only [Nat.zero_add, List.nil_append, List.set_cons_zero]
  refine ops_ro' rfl (ro_assign rfl) rfl ?_
  refine ops_nil ?_
  repeat (first | refine InBlock_normal ?_ | refine NoGoto_normal ?_ | refine Jump_normal ?_)
  refine Then_normal ?_
  refine wp_ret' ?_
  repeat (first | refine Then_ret ?_ | refine InBlock_ret ?_ | refine NoGoto_ret ?_ | refine Jump_ret ?_)
  refine done_ret (res1 rfl rfl) ?_
  exact ⟨some ⟨b', 0, none⟩, c', by simp, .inr ⟨by simp, b', rfl⟩, rfl⟩
theorem clone_nil (V : HProp) :
    Tri Tryz.prog 93 [.slice none 0 0] [V] (fun r H' => ∃ p' c', r = .slice p' 0 c' ∧ Alike none p' ∧ H' = [row 5 1 (.slice p' 0 c') 0 [], V]) := by
  refine tri_of_wp Tryz.func93 rfl Tryz.ntmps93 (by simp) ?_
  refine wp_seq' ?_
  refine wp_region' ?_
  refine ops_ro' rfl (ro_assign rfl) rfl ?_
  refine ops_nil ?_
  repeat (first | refine InBlock_normal ?_ | refine NoGoto_normal ?_ | refine Jump_normal ?_)
  refine Then_normal ?_
  refine wp_seq' ?_
  refine wp_seq' ?_
  refine wp_region' ?_
  refine ops_ro' rfl (ro_move rfl) rfl ?_
  refine ops_ro' rfl (ro_sliceEqlNil Tryz.underlying25 rfl rfl rfl) rfl ?_
  refine ops_nil ?_
  repeat (first | refine InBlock_normal ?_ | refine NoGoto_normal ?_ | refine Jump_normal ?_)
  refine Then_normal ?_
  refine wp_condT rfl ?_
  refine wp_seq' ?_
  refine wp_heap (fun w F => nil_row 5 1 w F) ?_
  refine wp_region' ?_
  refine ops_ro' rfl (ro_assign rfl) rfl ?_
  refine ops_nil ?_
  repeat (first | refine InBlock_normal ?_ | refine NoGoto_normal ?_ | refine Jump_normal ?_)
  refine Then_normal ?_
  refine wp_ret' ?_
  repeat (first | refine Then_ret ?_ | refine InBlock_ret ?_ | refine NoGoto_ret ?_ | refine Jump_ret ?_)
  refine done_ret (res1 rfl rfl) ?_
  exact ⟨none, 0, rfl, .inl ⟨rfl, rfl⟩, rfl⟩
theorem clone_spec (V : HProp) (p : Option Addr) (m c : Nat) (xs : List Value) (hV : Vw V (.slice p m c) m xs) (hl : xs.length = m) (hone : ∀ v ∈ xs, v.oneCell' = true) (hm : m ≤ 140737488355328) :
    Tri Tryz.prog 93 [.slice p m c] [V] (fun r H' => ∃ p' c', r = .slice p' m c' ∧ Alike p p' ∧ H' = [row 5 1 (.slice p' m c') m xs, V]) := by
  cases p with
  | some a => exact clone_some V a m c xs hV hl hone hm
  | none =>
    refine tri_know (p := m = 0 ∧ c = 0 ∧ xs = []) (fun w F s => ?_) ?_
    · rcases hV w F (by simpa [St_cons, St_nil, star_emp] using s) with ⟨q, h1, h2, h3⟩ | ⟨b, o, cap, h1, _⟩
      · injection h1 with _ _ h4; exact ⟨h2, h4, h3⟩
      · cases h1
    · rintro ⟨rfl, rfl, rfl⟩; exact clone_nil V


/-- the lowest bytes of a number, the highest first -/
def be (n : Nat) : Nat → List UInt8
  | 0 => []
  | s + 1 => UInt8.ofNat (n / 256 ^ s) :: be n s
/-- a writer in block pw that has these bytes -/
abbrev wr (pw : Nat) (p : Option Addr) (c : Nat) (l : List UInt8) : List HProp :=
  [own pw (.cells [Value.slice p l.length c].toArray 135 (0, 0)), row 5 1 (.slice p l.length c) l.length (cel l)]


/-- the lowest eight bits -/
def b8 (n : Int) : UInt8 := UInt8.ofNat (n % 256).toNat
end Go.Proofs.YtlefpllcgcicpaaGreatDoor
