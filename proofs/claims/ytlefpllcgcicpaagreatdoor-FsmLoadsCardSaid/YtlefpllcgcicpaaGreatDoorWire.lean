/-
  Lists of texts: held against one another, cut short.
  Names in order; where a name stands in a directory.
  What the writer and the reader of package wire do.
-/
import Derived.Test.YtlefpllcgcicpaaGreatDoorSxSub
import Derived.Test.YtlefpllcgcicpaaGreatDoorTrJ
import Derived.Test.YtlefpllcgcicpaaGreatDoorLib
set_option linter.unusedVariables false
set_option linter.unusedSimpArgs false
namespace Go.Proofs.YtlefpllcgcicpaaGreatDoor
open Go.Sx
set_option maxRecDepth 100000
set_option maxHeartbeats 4000000
theorem kHead (l : List UInt8) (n : Nat) : Tri Tryz.prog 84 [.string (str l), .int .i64 n] [] (fun v H' => v = .string (str (l.take n)) ∧ H' = []) := by
 refine zt Tryz.func84 rfl Tryz.ntmps84 (by simp) ?_; refine zM (zK (zH rfl (zO rfl) rfl (zN (zI (zM ?_))))); refine zM (zK (zH rfl (zL rfl) rfl (zH rfl (ro_lenS (t' := 0) Tryz.underlying9 rfl) rfl (zH rfl (zL rfl) rfl (zH rfl (yd rfl rfl rfl) rfl ?_))))); refine zN (zI (zq rfl (fun hc8 => ?_) (fun hc8 => ?_)))
 ·replace hc8 := zy2 hc8
  refine zM (zK (zH rfl (zL rfl) rfl (zH rfl (zL rfl) rfl (zH rfl (ro_sliceS Tryz.underlying9 rfl rfl (yZ rfl rfl) (by omega) (by omega)) rfl (zH rfl (zO rfl) rfl ?_))))); refine zN (zI (zi ?_)); refine zh ?_; refine' zX (qk rfl rfl) ?_ ?_
  rotate_left 1
  exact ⟨by simp, rfl⟩
  exact zj _
 ·replace hc8 := zy3 hc8
  refine zl ?_; refine zI (zM (zK (zH rfl (zL rfl) rfl (zH rfl (zO rfl) rfl (zN ?_))))); refine zI (zi ?_); refine' zX (qk rfl rfl) ?_ ?_
  rotate_left 1
  exact ⟨by rw [List.take_of_length_le (by omega)], rfl⟩
  exact zj _
theorem kCut (V : HProp) (p : Option Addr) (c : Nat) (l : List UInt8) (n : Nat) (hV : Vw V (.slice p l.length c) l.length (cel l)) (hc : l.length ≤ c) :
 Tri Tryz.prog 16 [.slice p l.length c, .int .i64 n] [V] (fun v H' => ∃ K, (∃ p' c', v = .slice p' (l.take n).length c' ∧ Vw V (.slice p' (l.take n).length c') (l.take n).length (cel (l.take n)) ∧ (l.take n).length ≤ c' ∧ K = []) ∧ H' = K ++ [V]) := by
 refine zt Tryz.func16 rfl Tryz.ntmps16 (by simp) ?_; refine zM (zK (zH rfl (zO rfl) rfl (zN (zI (zM ?_))))); refine zM (zK (zH rfl (zL rfl) rfl (zH rfl (zw Tryz.underlying25 rfl) rfl (zH rfl (zL rfl) rfl (zH rfl (yd rfl rfl rfl) rfl ?_))))); refine zN (zI (zq rfl (fun hc8 => ?_) (fun hc8 => ?_)))
 ·replace hc8 := zy2 hc8
  refine zM (zK (zH rfl (zL rfl) rfl (zH rfl (zL rfl) rfl (zT rfl (eff_sliceB 0 rfl sl25 rfl (hV) rfl (yZ rfl rfl) (by omega) (by omega) hc) rfl ?_)))); rintro _ _ ⟨p11, rfl, hv11, hn11, rfl⟩; refine zH rfl (zO rfl) rfl (zN (zI (zi ?_))); refine zh ?_; refine' zX (qk rfl rfl) ?_ ?_
  rotate_left 1
  exact ⟨_, ⟨p11, c, rfl, by simpa [qJ, yV, qt] using hv11, by simp; omega, rfl⟩, rfl⟩
  exact zj _
 ·replace hc8 := zy3 hc8
  refine zl ?_; refine zI (zM (zK (zH rfl (zL rfl) rfl (zH rfl (zO rfl) rfl (zN ?_))))); refine zI (zi ?_); refine' zX (qk rfl rfl) ?_ ?_
  rotate_left 1
  exact ⟨_, ⟨p, c, by rw [List.take_of_length_le (by omega)], by rw [List.take_of_length_le (by omega)]; exact hV, by rw [List.take_of_length_le (by omega)]; exact hc, rfl⟩, rfl⟩
  exact zj _
abbrev cmp (a b : List UInt8) : Int := Lib.compareBytes a b
theorem u8_lt {a b : UInt8} : a < b ↔ a.toNat < b.toNat := Iff.rfl
theorem cmp_self : ∀ a, cmp a a = 0
 | [] => rfl
 | x :: a => by
  have h : ¬ x < x := by rw [u8_lt]; omega
  show (if x < x then (-1 : Int) else if x < x then 1 else Lib.compareBytes a a) = 0
  rw [if_neg h, if_neg h]; exact cmp_self a
theorem cmp_zero : ∀ {a b}, cmp a b = 0 → a = b
 | [], [], _ => rfl
 | [], _ :: _, h => by cases h
 | _ :: _, [], h => by cases h
 | x :: a, y :: b, h => by
  have h : (if x < y then (-1 : Int) else if y < x then 1 else Lib.compareBytes a b) = 0 := h
  by_cases h1 : x < y
  ·rw [if_pos h1] at h; cases h
  ·rw [if_neg h1] at h
   by_cases h2 : y < x
   ·rw [if_pos h2] at h; cases h
   ·rw [if_neg h2] at h; rw [u8_lt] at h1 h2; rw [cmp_zero h, UInt8.toNat_inj.1 (show x.toNat = y.toNat by omega)]
theorem cmp_anti : ∀ a b, cmp b a = - cmp a b
 | [], [] => rfl
 | [], _ :: _ => rfl
 | _ :: _, [] => rfl
 | x :: a, y :: b => by
  show (if y < x then (-1 : Int) else if x < y then 1 else Lib.compareBytes b a) = - (if x < y then (-1 : Int) else if y < x then 1 else Lib.compareBytes a b)
  by_cases h1 : x < y
  ·have h2 : ¬ y < x := by rw [u8_lt] at *; omega
   rw [if_pos h1, if_neg h2, if_pos h1]; rfl
  ·by_cases h2 : y < x
   ·rw [if_pos h2, if_neg h1, if_pos h2]
   ·rw [if_neg h2, if_neg h1, if_neg h1, if_neg h2]; exact cmp_anti a b
theorem cmp_trans : ∀ {a b c}, cmp a b < 0 → cmp b c < 0 → cmp a c < 0
 | _, [], [], _, h => by cases h
 | [], [], _ :: _, h, _ => by cases h
 | _ :: _, [], _, h, _ => by cases h
 | _, _ :: _, [], _, h => by cases h
 | [], _ :: _, _ :: _, _, _ => by show (-1 : Int) < 0; decide
 | x :: a, y :: b, z :: c, h1, h2 => by
  have h1 : (if x < y then (-1 : Int) else if y < x then 1 else Lib.compareBytes a b) < 0 := h1
  have h2 : (if y < z then (-1 : Int) else if z < y then 1 else Lib.compareBytes b c) < 0 := h2
  show (if x < z then (-1 : Int) else if z < x then 1 else Lib.compareBytes a c) < 0
  by_cases a1 : x < y
  ·have a2 : ¬ z < y := fun h => by
    rw [if_neg (by rw [u8_lt] at *; omega), if_pos h] at h2; cases h2
   rw [if_pos (by rw [u8_lt] at *; omega)]; decide
  ·rw [if_neg a1] at h1
   by_cases a2 : y < x
   ·rw [if_pos a2] at h1; cases h1
   ·rw [if_neg a2] at h1
    by_cases a3 : y < z
    ·rw [if_pos (by rw [u8_lt] at *; omega)]; decide
    ·rw [if_neg a3] at h2
     by_cases a4 : z < y
     ·rw [if_pos a4] at h2; cases h2
     ·rw [if_neg a4] at h2; rw [if_neg (by rw [u8_lt] at *; omega), if_neg (by rw [u8_lt] at *; omega)]; exact cmp_trans h1 h2
/-- names that rise -/
def Rise (l : List (List UInt8)) : Prop := l.Pairwise fun a b => cmp a b < 0
/-- how many are less -/
def plc (l : List (List UInt8)) (s : List UInt8) : Nat := (l.takeWhile fun x => decide (cmp x s < 0)).length
theorem plc_le (l : List (List UInt8)) (s : List UInt8) : plc l s ≤ l.length := (List.takeWhile_sublist _).length_le
theorem rise_lt {l : List (List UInt8)} (h : Rise l) {i j : Nat} (hij : i < j) (hj : j < l.length) : cmp l[i] l[j] < 0 := List.pairwise_iff_getElem.1 h i j (by omega) hj hij
theorem plc_eq : ∀ {l : List (List UInt8)} {s : List UInt8} {i : Nat}, i ≤ l.length → (∀ j (hj : j < l.length), j < i → cmp l[j] s < 0) → (∀ (hi : i < l.length), ¬ cmp l[i] s < 0) → plc l s = i
 | [], s, i, h, _, _ => by have : i = 0 := by simpa using h
                           rw [this]; rfl
 | x :: r, s, 0, _, _, h2 => by
  have h3 : ¬ cmp x s < 0 := h2 (by simp)
  simp [plc, List.takeWhile_cons, h3]
 | x :: r, s, i + 1, h, h1, h2 => by
  have h3 : cmp x s < 0 := h1 0 (by simp) (by omega)
  have h4 := plc_eq (l := r) (s := s) (i := i) (by simpa using h) (fun j hj hji => h1 (j + 1) (by simpa using hj) (by omega)) (fun hi => h2 (by simpa using hi))
  unfold plc at h4 ⊢; rw [List.takeWhile_cons, if_pos (by simpa using h3), List.length_cons, h4]
theorem scmp_spec (a b : List UInt8) : Tri Tryz.prog 166 [.string (str a), .string (str b)] [] (fun v H' => v = .int .i64 (cmp a b) ∧ H' = []) := fun w F hw =>
 (Tryz.strings_Compare (str a) (str b) w).mono fun e w' ⟨he, hw'⟩ => ⟨_, _, he, ⟨rfl, rfl⟩, hw' ▸ hw⟩
theorem plc1_spec {V : HProp} (k : Nat) (nm s : List UInt8) (hn : Rd V k (0 + 2) (.string (str nm))) : Tri Tryz.prog 165 [.pointer (some ⟨k, 0, none⟩), .string (str s)] [V] (fun v H' => ∃ K, (v = .int .i64 (cmp nm s) ∧ K = []) ∧ H' = K ++ [V]) := by
 refine zt Tryz.func165 rfl Tryz.ntmps165 (by simp) ?_; refine zM (zK (zH rfl (zO rfl) rfl (zN (zI (zM ?_))))); refine zK (zH rfl (zL rfl) rfl (zH rfl (zU rfl) rfl (zH rfl (zP fa98_2 rfl) rfl (zH rfl (zW sc9 rfl (zy4 0 rfl hn)) rfl (zH rfl (zL rfl) rfl ?_))))); refine zT rfl (zb Tryz.call166 rfl rfl (by repeat (first | exact zR _ | apply zG 0 rfl | apply zG 1 rfl | apply zG 2 rfl | apply zG 3 rfl | apply zG 4 rfl | apply zG 5 rfl | apply zG 6 rfl | apply zG 7 rfl)) (scmp_spec nm s)) rfl ?_; rintro _ H' ⟨_, ⟨rfl, rfl⟩, hH⟩; simp only [zy7] at hH; subst hH; refine zH rfl (zO rfl) rfl (zN (zI (zi ?_))); refine' zX (qk rfl rfl) ?_ ?_
 rotate_left 1
 exact ⟨_, ⟨rfl, rfl⟩, rfl⟩
 exact zj _
section
variable {n : Nat} {L : HProp} {Γ : Env} {d : Option Tmp} {ty : TypeId} {pos : String} {aft : Array Edge} {g : Option (Nat × Bool)}
theorem ro_shr1 {t ty' : TypeId} {x y : Operand} {a : Nat} {k2 : IntKind} (hx : ev Γ x = some (.int .u64 (a : Int))) (hy : ev Γ y = some (.int k2 1)) (ha : a < 18446744073709551616) : RO Tryz.prog n L Γ ⟨d, .binOp .shr t x y ty', ty, pos, aft, g⟩ (.int .u64 ((a / 2 : Nat) : Int)) :=
 ro_shr hx hy (by omega) (by
  rw [show min (1 : Int).toNat IntKind.u64.bits = 1 from rfl, show (2 : Int) ^ 1 = 2 from rfl, Int.fdiv_eq_ediv_of_nonneg _ (by omega)]; omega)
end
theorem bs_lo {l : List Nat} {nm : Nat → List UInt8} {s : List UInt8} (hR : Rise (l.map nm)) {h : Nat} (hh : h < l.length) (hc : cmp (nm l[h]) s < 0) {j : Nat} (hj : j < l.length) (hle : j ≤ h) : cmp (nm l[j]) s < 0 := by
 by_cases e : j = h
 ·subst e; exact hc
 ·have h1 := rise_lt hR (i := j) (j := h) (by omega) (by rw [List.length_map]; exact hh)
  rw [List.getElem_map, List.getElem_map] at h1; exact cmp_trans h1 hc
theorem bs_hi {l : List Nat} {nm : Nat → List UInt8} {s : List UInt8} (hR : Rise (l.map nm)) {h : Nat} (hh : h < l.length) (hc : ¬ cmp (nm l[h]) s < 0) {j : Nat} (hj : j < l.length) (hle : h ≤ j) : ¬ cmp (nm l[j]) s < 0 := fun hlt => hc (bs_lo hR hj hlt hh hle)
theorem bs_in {l : List Nat} {nm : Nat → List UInt8} {s : List UInt8} {i : Nat} (hi : i < l.length) : decide ((l.map nm)[i]? = some s) = decide (cmp (nm l[i]) s = 0) := by
 rw [List.getElem?_map, List.getElem?_eq_getElem hi]; refine decide_eq_decide.2 ⟨fun h => ?_, fun h => by rw [← cmp_zero h]; rfl⟩
 injection h with h; rw [h]; exact cmp_self s
theorem bs_out {l : List Nat} {nm : Nat → List UInt8} {s : List UInt8} {i : Nat} (hi : l.length ≤ i) : decide ((l.map nm)[i]? = some s) = false := by
 rw [List.getElem?_eq_none (by rw [List.length_map]; exact hi)]; rfl
theorem bsrch_spec {V : HProp} (p : Option Addr) (c : Nat) (l : List Nat) (hV : Vw V (.slice p l.length c) l.length (pts l)) (hl : l.length ≤ 100000) (nm : Nat → List UInt8) (hn : ∀ k ∈ l, Rd V k (0 + 2) (.string (str (nm k)))) (hR : Rise (l.map nm)) (s : List UInt8) :
 Tri Tryz.prog 164 [.slice p l.length c, .string (str s), .func (.func 165) #[] #[]] [V] (fun v H' => ∃ K, (v = .tuple #[.int .i64 (plc (l.map nm) s : Nat), .bool (decide ((l.map nm)[plc (l.map nm) s]? = some s))] ∧ K = []) ∧ H' = K ++ [V]) := by
 refine zt Tryz.func164 rfl Tryz.ntmps164 (by simp) ?_; refine zM (zK (zH rfl (zO rfl) rfl (zH rfl (zO rfl) rfl (zN (zI ?_))))); refine zM (zK (zH rfl (zL rfl) rfl (zH rfl (zw Tryz.underlying96 rfl) rfl (zH rfl (zO rfl) rfl (zN ?_))))); refine zI (zM (zK (zH rfl (zL rfl) rfl (zH rfl (zO rfl) rfl (zH rfl (zO rfl) rfl ?_))))); refine zN (zI (zM (qA ?_))); refine yQ 3 (fun m Δ LL => ∃ (lo hi : Nat), (hi - lo = m ∧ lo ≤ hi ∧ hi ≤ l.length ∧ (∀ j (hj : j < l.length), j < lo → cmp (nm l[j]) s < 0) ∧ (∀ j (hj : j < l.length), hi ≤ j → ¬ cmp (nm l[j]) s < 0)) ∧ Δ = [(9, .int .i64 (lo : Nat)), (10, .int .i64 (hi : Nat))] ∧ LL = [V]) (m := l.length) (zS (k := 0) rfl (zS (k := 1) rfl (zS (k := 2) rfl (zS (k := 8) rfl (zf _))))) (qn ⟨0, l.length, ⟨rfl, Nat.zero_le _, Nat.le_refl _, fun j hj h => by omega, fun j hj h => by omega⟩, rfl, rfl⟩ (by repeat (first | exact zf _ | refine zS rfl ?_)) (by repeat (first | exact zf _ | refine zS rfl ?_)) (by repeat (first | exact zY _ | refine zJ 0 rfl ?_ | refine zJ 1 rfl ?_ | refine zJ 2 rfl ?_ | refine zJ 3 rfl ?_ | refine zJ 4 rfl ?_ | refine zJ 5 rfl ?_ | refine zJ 6 rfl ?_ | refine zJ 7 rfl ?_ | refine SubH.rown ?_))) ?_; rintro m Δ LL ⟨lo, hi, ⟨hm, hlh, hhl, hlo, hhi⟩, rfl, rfl⟩; simp only [zA, zB]; refine zM (zM (zK (zH rfl (zL rfl) rfl (zH rfl (zL rfl) rfl (zH rfl (yP rfl rfl rfl) rfl ?_))))); refine zN (zI (zq rfl (fun hc17 => ?_) (fun hc17 => ?_)))
 ·replace hc17 := zy2 hc17
  have hh : (lo + hi) / 2 < l.length := by omega
  have hnm := hn l[(lo + hi) / 2] (List.getElem_mem hh)
  refine yN (fun w F s => vw_ptr (zy5 (H := [V]) 0 rfl hV) s (by omega)) ?_; rintro ⟨b0, o0, rfl⟩; refine zl ?_; refine zI (qA ?_); refine zM (zK (zH rfl (zL rfl) rfl (zH rfl (zL rfl) rfl (zH rfl (ql rfl rfl (wrap_addN (by omega))) rfl (zH rfl (yF Tryz.underlying3 Tryz.underlying195 rfl (yI (by omega) (by omega))) rfl ?_))))); refine zH rfl (ro_shr1 rfl rfl (by omega)) rfl (zH rfl (yF Tryz.underlying195 Tryz.underlying3 rfl (wrap_natN (by omega))) rfl (zH rfl (zO rfl) rfl (zN (zI (zM ?_))))); refine zK (zH rfl (zL rfl) rfl (zH rfl (zL rfl) rfl (zH rfl (zL rfl) rfl (zH rfl (qO sl96 rfl rfl rfl (by omega)) rfl (zH rfl (zW sc92 rfl (zy4 0 rfl (Rd.elem (j := 0) (ym hV) Pq.len (List.getElem?_eq_getElem hh) rfl))) rfl ?_))))); refine zH rfl (zL rfl) rfl (zT rfl (eff_callV (c0 := []) (c1 := []) Tryz.call165 rfl rfl rfl (by repeat (first | exact zR _ | apply zG 0 rfl | apply zG 1 rfl | apply zG 2 rfl | apply zG 3 rfl | apply zG 4 rfl | apply zG 5 rfl | apply zG 6 rfl | apply zG 7 rfl)) (plc1_spec _ _ s hnm)) rfl ?_); rintro _ H' ⟨_, ⟨_, ⟨rfl, rfl⟩, rfl⟩, hH⟩; simp only [zy7] at hH; subst hH; refine zH rfl (yP rfl rfl rfl) rfl (zN (zI (zq rfl (fun hc31 => ?_) (fun hc31 => ?_))))
  ·replace hc31 := zy2 hc31
   refine zK (zH rfl (zL rfl) rfl (zH rfl (ql rfl rfl (qo (by omega))) rfl (zH rfl (zO rfl) rfl (zN (zQ ?_))))); refine zI (back (hi - ((lo + hi) / 2 + 1)) (by omega) (qn ⟨(lo + hi) / 2 + 1, hi, ⟨rfl, by omega, hhl, fun j hj h => bs_lo hR hh hc31 hj (by omega), hhi⟩, rfl, rfl⟩ ?_ ?_ ?_))
   ·exact (by repeat (first | exact zf _ | refine zS rfl ?_))
   ·exact (by repeat (first | exact zf _ | refine zS rfl ?_))
   ·exact zj _
  ·replace hc31 := zy3 hc31
   refine zK (zH rfl (zL rfl) rfl (zH rfl (zO rfl) rfl (zN (zQ ?_)))); refine zI (back ((lo + hi) / 2 - lo) (by omega) (qn ⟨lo, (lo + hi) / 2, ⟨rfl, by omega, by omega, hlo, fun j hj h => bs_hi hR hh hc31 hj (by omega)⟩, rfl, rfl⟩ ?_ ?_ ?_))
   ·exact (by repeat (first | exact zf _ | refine zS rfl ?_))
   ·exact (by repeat (first | exact zf _ | refine zS rfl ?_))
   ·exact zj _
 ·replace hc17 := zy3 hc17
  obtain rfl : lo = hi := by omega
  have hpl : plc (l.map nm) s = lo := plc_eq (by rw [List.length_map]; exact hhl) (fun j hj h => by rw [List.getElem_map]; exact hlo j (by simpa using hj) h) (fun hi => by rw [List.getElem_map]; exact hhi lo (by simpa using hi) (Nat.le_refl _))
  refine yJ ?_; refine qV ?_; refine qV ?_; refine qe ?_; refine zI (zM (zK (zH rfl (zL rfl) rfl (zH rfl (zL rfl) rfl (zH rfl (zL rfl) rfl ?_))))); refine zH rfl (yP rfl rfl rfl) rfl (qi rfl rfl rfl (fun hg39 => ?_) (fun hg39 => ?_))
  ·replace hg39 := zy2 hg39
   have hl2 : lo < l.length := by omega
   have hnm := hn l[lo] (List.getElem_mem hl2)
   refine ops_know (fun w F s => vw_ptr (zy5 (H := [V]) 0 rfl hV) s (by omega)) ?_; rintro ⟨b0, o0, rfl⟩; refine zH rfl (zL rfl) rfl (zH rfl (zL rfl) rfl (zH rfl (zL rfl) rfl (zH rfl (qO sl96 rfl rfl rfl (by omega)) rfl (zH rfl (zW sc92 rfl (zy4 0 rfl (Rd.elem (j := 0) (ym hV) Pq.len (List.getElem?_eq_getElem hl2) rfl))) rfl ?_)))); refine zH rfl (zL rfl) rfl (zT rfl (eff_callV (c0 := []) (c1 := []) Tryz.call165 rfl rfl rfl (by repeat (first | exact zR _ | apply zG 0 rfl | apply zG 1 rfl | apply zG 2 rfl | apply zG 3 rfl | apply zG 4 rfl | apply zG 5 rfl | apply zG 6 rfl | apply zG 7 rfl)) (plc1_spec _ _ s hnm)) rfl ?_); rintro _ H' ⟨_, ⟨_, ⟨rfl, rfl⟩, rfl⟩, hH⟩; simp only [zy7] at hH; subst hH; refine zH rfl (qQ rfl rfl rfl) rfl (zH rfl (zr rfl rfl) rfl (zH rfl (zO rfl) rfl (zH rfl (zO rfl) rfl (zN (zI ?_))))); refine zi ?_; refine' zX (res2 rfl rfl rfl) ?_ ?_
   rotate_left 1
   exact ⟨_, ⟨by rw [hpl, bs_in hl2], rfl⟩, rfl⟩
   exact zj _
  ·replace hg39 := zy3 hg39
   refine zZ rfl rfl (zZ rfl rfl (zZ rfl rfl (zZ rfl rfl (zZ rfl rfl (zZ rfl rfl ?_))))); refine zZ rfl rfl (zZ rfl rfl (zH rfl (zr rfl rfl) rfl (zH rfl (zO rfl) rfl (zH rfl (zO rfl) rfl (zN ?_))))); refine zI (zi ?_); refine' zX (res2 rfl rfl rfl) ?_ ?_
   rotate_left 1
   exact ⟨_, ⟨by rw [hpl, bs_out (by omega)], rfl⟩, rfl⟩
   exact zj _
theorem place_spec {V : HProp} (b : Nat) (p : Option Addr) (c : Nat) (l : List Nat) (hk : Rd V b (0 + 3) (.slice p l.length c)) (hV : Vw V (.slice p l.length c) l.length (pts l)) (hl : l.length ≤ 100000) (nm : Nat → List UInt8) (hn : ∀ k ∈ l, Rd V k (0 + 2) (.string (str (nm k)))) (hR : Rise (l.map nm)) (s : List UInt8) :
 Tri Tryz.prog 131 [.pointer (some ⟨b, 0, none⟩), .string (str s)] [V] (fun v H' => ∃ K, (v = .tuple #[.int .i64 (plc (l.map nm) s : Nat), .bool (decide ((l.map nm)[plc (l.map nm) s]? = some s))] ∧ K = []) ∧ H' = K ++ [V]) := by
 refine zt Tryz.func131 rfl Tryz.ntmps131 (by simp) ?_; refine zM (zK (zH rfl (zO rfl) rfl (zH rfl (zO rfl) rfl (zN (zI ?_))))); refine zM (zK (zH rfl (zL rfl) rfl (zH rfl (zU rfl) rfl (zH rfl (zP xP rfl) rfl (zH rfl (zW sc96 rfl (zy4 0 rfl hk)) rfl ?_))))); refine zH rfl (zL rfl) rfl (zT rfl (zb Tryz.call164 rfl rfl (by repeat (first | exact zR _ | apply zG 0 rfl | apply zG 1 rfl | apply zG 2 rfl | apply zG 3 rfl | apply zG 4 rfl | apply zG 5 rfl | apply zG 6 rfl | apply zG 7 rfl)) (bsrch_spec p c l hV hl nm hn hR s)) rfl ?_); rintro _ H' ⟨_, ⟨_, ⟨rfl, rfl⟩, rfl⟩, hH⟩; simp only [zy7] at hH; subst hH; refine zH rfl (zu rfl rfl) rfl (zH rfl (zu rfl rfl) rfl (zH rfl (zO rfl) rfl (zH rfl (zO rfl) rfl (zN (zI ?_))))); refine zi ?_; refine' zX (res2 rfl rfl rfl) ?_ ?_
 rotate_left 1
 exact ⟨_, ⟨rfl, rfl⟩, rfl⟩
 exact zj _
/-- a copy's slice is nil just if the elder is, and begins its own array -/
def Alike (p p' : Option Addr) : Prop := (p = none ∧ p' = none) ∨ (p ≠ none ∧ ∃ b, p' = some ⟨b, 0, none⟩)
theorem clone_some (V : HProp) (a : Addr) (m c : Nat) (xs : List Value) (hV : Vw V (.slice (some a) m c) m xs) (hl : xs.length = m) (hone : ∀ v ∈ xs, v.oneCell' = true) (hm : m ≤ 140737488355328) :
 Tri Tryz.prog 93 [.slice (some a) m c] [V] (fun r H' => ∃ p' c', r = .slice p' m c' ∧ Alike (some a) p' ∧ H' = [row 5 1 (.slice p' m c') m xs, V]) := by
 refine qd Tryz.func93 rfl Tryz.ntmps93 (by simp) ?_; refine zM (zK (zH rfl (zO rfl) rfl (zN ?_)))
 repeat (first | refine zQ ?_ | refine zV ?_ | refine ze ?_)
 refine zI (zM (zM (zK (zH rfl (zL rfl) rfl (zH rfl (ro_sliceEqlNil Tryz.underlying25 rfl rfl rfl) rfl ?_))))); refine zN ?_
 repeat (first | refine zQ ?_ | refine zV ?_ | refine ze ?_)
 refine zI (qC rfl ?_); refine zl ?_
 repeat (first | refine zQ ?_ | refine zV ?_ | refine ze ?_)
 refine zI (zM (zK (zT rfl (xL rfl (sbld (cs := []) [] sl25 (by decide) (by kernel_rfl) rfl)) rfl ?_))); rintro _ _ ⟨b5, rfl, rfl⟩; refine zH rfl (zL rfl) rfl (zT rfl (eff_appendLit 0 sl25 (.inl ⟨5, Tryz.underlying25⟩) rfl rfl rfl rfl (Src.of_vw (zy5 0 rfl hV) (by omega) hone) (by omega) (by simp only [maxLen]; omega)) rfl ?_); rintro _ _ ⟨b', c', rfl, rfl⟩; simp only [Nat.zero_add, zB, zE]; refine zH rfl (zO rfl) rfl (zN ?_)
 repeat (first | refine zQ ?_ | refine zV ?_ | refine ze ?_)
 refine zI (zi ?_)
 repeat (first | refine zh ?_ | refine zn ?_ | refine qr ?_ | refine yH ?_)
 refine yG (qk rfl rfl) ?_; exact ⟨some ⟨b', 0, none⟩, c', by simp, .inr ⟨by simp, b', rfl⟩, rfl⟩
theorem clone_nil (V : HProp) :
 Tri Tryz.prog 93 [.slice none 0 0] [V] (fun r H' => ∃ p' c', r = .slice p' 0 c' ∧ Alike none p' ∧ H' = [row 5 1 (.slice p' 0 c') 0 [], V]) := by
 refine qd Tryz.func93 rfl Tryz.ntmps93 (by simp) ?_; refine zM (zK (zH rfl (zO rfl) rfl (zN ?_)))
 repeat (first | refine zQ ?_ | refine zV ?_ | refine ze ?_)
 refine zI (zM (zM (zK (zH rfl (zL rfl) rfl (zH rfl (ro_sliceEqlNil Tryz.underlying25 rfl rfl rfl) rfl ?_))))); refine zN ?_
 repeat (first | refine zQ ?_ | refine zV ?_ | refine ze ?_)
 refine zI (qG rfl ?_); refine zM (qD (fun w F => qv 5 1 w F) ?_); refine zK (zH rfl (zO rfl) rfl (zN ?_))
 repeat (first | refine zQ ?_ | refine zV ?_ | refine ze ?_)
 refine zI (zi ?_)
 repeat (first | refine zh ?_ | refine zn ?_ | refine qr ?_ | refine yH ?_)
 refine yG (qk rfl rfl) ?_; exact ⟨none, 0, rfl, .inl ⟨rfl, rfl⟩, rfl⟩
theorem clone_spec (V : HProp) (p : Option Addr) (m c : Nat) (xs : List Value) (hV : Vw V (.slice p m c) m xs) (hl : xs.length = m) (hone : ∀ v ∈ xs, v.oneCell' = true) (hm : m ≤ 140737488355328) :
 Tri Tryz.prog 93 [.slice p m c] [V] (fun r H' => ∃ p' c', r = .slice p' m c' ∧ Alike p p' ∧ H' = [row 5 1 (.slice p' m c') m xs, V]) := by
 cases p with
 | some a => exact clone_some V a m c xs hV hl hone hm
 | none =>
  refine tri_know (p := m = 0 ∧ c = 0 ∧ xs = []) (fun w F s => ?_) ?_
  ·rcases hV w F (by simpa [qJ, yV, qt] using s) with ⟨q, h1, h2, h3⟩ | ⟨b, o, cap, h1, _⟩
   ·injection h1 with _ _ h4; exact ⟨h2, h4, h3⟩
   ·cases h1
  ·rintro ⟨rfl, rfl, rfl⟩; exact clone_nil V
/-- the lowest bytes of a number, the highest first -/
def be (n : Nat) : Nat → List UInt8
 | 0 => []
 | s + 1 => UInt8.ofNat (n / 256 ^ s) :: be n s
theorem qE (n : Nat) : ∀ s, (be n s).length = s
 | 0 => rfl
 | s + 1 => by simp [be, qE n s]
theorem conv_be {n s : Nat} (hs : s ≤ 8) : IntKind.u8.wrap ((n : Int).fdiv (2 ^ (min ((8 * (s : Int)).toNat) 64))) = ((UInt8.ofNat (n / 256 ^ s)).toNat : Int) := by
 have h1 : min ((8 * (s : Int)).toNat) 64 = 8 * s := by omega
 have h2 : (2 : Int) ^ (8 * s) = ((256 ^ s : Nat) : Int) := by
  have : (256 ^ s : Nat) = 2 ^ (8 * s) := by rw [Nat.pow_mul]
  rw [this]; simp
 rw [h1, h2, ← Int.ofNat_fdiv, wrap_u8_mod, UInt8.toNat_ofNat']; omega
/-- a writer in block pw that has these bytes -/
abbrev wr (pw : Nat) (p : Option Addr) (c : Nat) (l : List UInt8) : List HProp :=
 [own pw (.cells [Value.slice p l.length c].toArray 135 (0, 0)), row 5 1 (.slice p l.length c) l.length (cel l)]
theorem put_spec (pw : Nat) (p : Option Addr) (c : Nat) (l : List UInt8) (n size : Nat) (h8 : size ≤ 8) (hl : l.length + size ≤ 140737488355328) :
 Tri Tryz.prog 140 [.pointer (some ⟨pw, 0, none⟩), .int .u64 n, .int .i64 size] (wr pw p c l) (fun r H' => ∃ p' c', r = .tuple #[] ∧ H' = wr pw p' c' (l ++ be n size)) := by
 refine qd Tryz.func140 rfl Tryz.ntmps140 (by simp) ?_; refine wp_again (fun m Γ H => Has Γ [(0, .pointer (some ⟨pw, 0, none⟩)), (1, .int .u64 n), (2, .int .i64 m)] ∧ m ≤ 8 ∧ ∃ p c done, done.length ≤ 8 ∧ done ++ be n m = be n size ∧ H = wr pw p c (l ++ done)) (m := size) ⟨zS rfl (zS rfl (zS rfl (zf _))), h8, p, c, [], by simp, rfl, by simp⟩ ?_; rintro m Γ H ⟨hΓ, hm8, p, c, done, hd8, hd, rfl⟩; refine wp_has hΓ ?_; refine zM (zK (zH rfl (zL rfl) rfl (zH rfl (yd rfl rfl rfl) rfl (zN ?_))))
 repeat (first | refine zQ ?_ | refine zV ?_ | refine ze ?_)
 refine zI (zq rfl (fun hc0 => ?_) (fun hc0 => ?_))
 ·try replace hc0 := zy2 hc0
  obtain ⟨m, rfl⟩ : ∃ j, m = j + 1 := ⟨m - 1, by omega⟩
  have hdl := congrArg List.length hd
  simp only [List.length_append, qE] at hdl; refine zM (zK (zH rfl (zL rfl) rfl ?_)); refine zH rfl (yi rfl rfl (show IntKind.i64.wrap (((m + 1 : Nat) : Int) - 1) = (m : Int) from by rw [qU (by omega) (by omega)]; omega)) rfl (zH rfl (zO rfl) rfl (zN ?_))
  repeat (first | refine zQ ?_ | refine zV ?_ | refine ze ?_)
  refine zI (zM (qZ 12 (by kernel_rfl) (zG 0 rfl (zR _)) ?_)); refine zRO (i := 0) (by kernel_rfl) rfl rfl (zL rfl) rfl (zRO (i := 1) (by kernel_rfl) rfl rfl (zL rfl) rfl (zRO (i := 2) (by kernel_rfl) rfl rfl (zU rfl) rfl (zRO (i := 3) (by kernel_rfl) rfl rfl (zP fa135_0 rfl) rfl (zRO (i := 4) (by kernel_rfl) rfl rfl (zW sc25 rfl (zy4 0 rfl (by first | exact Rd.own rfl | exact Rd.row rfl))) rfl (zRO (i := 5) (by kernel_rfl) rfl rfl (zL rfl) rfl ?_))))); refine zRO (i := 6) (by kernel_rfl) rfl rfl (zL rfl) rfl (zRO (i := 7) (by kernel_rfl) rfl rfl (ro_mul rfl rfl (by first | exact qU (by omega) (by omega) | rfl)) rfl (zRO (i := 8) (by kernel_rfl) rfl rfl (ro_shr rfl rfl (by omega) rfl) rfl (zRO (i := 9) (by kernel_rfl) rfl rfl (yF Tryz.underlying28 Tryz.underlying5 rfl (conv_be (by omega))) rfl (qM (i := 10) (by kernel_rfl) rfl rfl (xL rfl (sbld (cs := [_]) [(.int .u8 0)] sl25 (by decide) (by kernel_rfl) rfl)) rfl ?_)))); rintro _ _ ⟨b20, rfl, rfl⟩; refine qM (i := 11) (by kernel_rfl) rfl rfl (eff_append 1 sl25 (.inl ⟨5, Tryz.underlying25⟩) rfl rfl rfl (Src.of_vw (m := 1) (zy5 0 rfl (Vw.rd zx)) rfl (by simp [Value.oneCell'])) (by simp; omega) (by simp [maxLen]; omega)) rfl ?_; rintro _ _ ⟨_, ⟨p', c', rfl, -, rfl⟩, rfl⟩; refine qR (m' := 15) (L' := []) (by kernel_rfl) qx ?_; refine zRO (i := 12) (by kernel_rfl) rfl rfl (zU rfl) rfl (zRO (i := 13) (by kernel_rfl) rfl rfl (zP fa135_0 rfl) rfl (qq (i := 14) (by kernel_rfl) rfl rfl ((qP 0 sc25 rfl rfl rfl rfl (zy1 rfl) (zg _))) rfl ?_)); rintro _ _ rfl; refine qT (by kernel_rfl) ?_
  repeat (first | refine zQ ?_ | refine zV ?_ | refine ze ?_)
  refine zI (wp_drop 1 ?_); refine wp_goto' ?_
  repeat (first | refine Then_goto ?_ | refine InBlock_goto ?_)
  refine Jump_goto ?_; refine ⟨m, by omega, zS rfl (zS rfl (zS rfl (zf _))), by omega, p', c', done ++ [UInt8.ofNat (n / 256 ^ m)], ?_, ?_, ?_⟩
  ·have := congrArg List.length hd; simp [qE] at this ⊢; omega
  ·simpa [be] using hd
  ·simp [wr, cel, byteV, Nat.add_assoc]
 ·try replace hc0 := zy3 hc0
  refine zl ?_
  repeat (first | refine zQ ?_ | refine zV ?_ | refine ze ?_)
  refine yX (res0 rfl) ?_; obtain rfl : m = 0 := by omega
  simp only [be, List.append_nil] at hd; subst hd; exact ⟨p, c, rfl, rfl⟩
theorem put_at (pw : Nat) (p : Option Addr) (c : Nat) (l : List UInt8) (n size : Nat) (nn sz : Int) (hn : nn = (n : Int)) (hs : sz = (size : Int)) (h8 : size ≤ 8) (hl : l.length + size ≤ 140737488355328) :
 Tri Tryz.prog 140 [.pointer (some ⟨pw, 0, none⟩), .int .u64 nn, .int .i64 sz] (wr pw p c l) (fun r H' => ∃ p' c', r = .tuple #[] ∧ H' = wr pw p' c' (l ++ be n size)) := by
 subst hn; subst hs; exact put_spec pw p c l n size h8 hl
/-- the lowest eight bits -/
def b8 (n : Int) : UInt8 := UInt8.ofNat (n % 256).toNat
theorem be_one (n : Int) : be (n % 18446744073709551616).toNat 1 = [b8 n] := by
 simp only [be, b8]; congr 1; apply UInt8.toNat_inj.1; rw [UInt8.toNat_ofNat', UInt8.toNat_ofNat']; simp; omega
theorem newWriter_spec : Tri Tryz.prog 46 [] [] (fun r H' => ∃ b, r = .pointer (some ⟨b, 0, none⟩) ∧ H' = wr b none 0 []) := by
 refine qd Tryz.func46 rfl Tryz.ntmps46 (by simp) ?_; refine zM (zK (zH rfl (zO rfl) rfl (zN ?_)))
 repeat (first | refine zQ ?_ | refine zV ?_ | refine ze ?_)
 refine zI (zM (zK (zH rfl (qY rfl (qK (cs := [_]) st135 rfl)) rfl (zT rfl (qj rfl) rfl ?_)))); rintro _ _ ⟨b2, rfl, rfl⟩; refine qp (fun w F s => qv 5 1 w F s) ?_; refine qp (fun w F s => St_front 1 rfl s) ?_; refine zH rfl (zO rfl) rfl (zN ?_)
 repeat (first | refine zQ ?_ | refine zV ?_ | refine ze ?_)
 refine zI (zi ?_)
 repeat (first | refine zh ?_ | refine zn ?_ | refine qr ?_ | refine yH ?_)
 refine yG (qk rfl rfl) ?_; exact ⟨b2, rfl, rfl⟩
theorem byte_spec (pw : Nat) (p : Option Addr) (c : Nat) (l : List UInt8) (n : Int) (hl : l.length + 1 ≤ 140737488355328) :
 Tri Tryz.prog 91 [.pointer (some ⟨pw, 0, none⟩), .int .i64 n] (wr pw p c l) (fun r H' => ∃ p' c', r = .tuple #[] ∧ H' = wr pw p' c' (l ++ [b8 n])) := by
 refine qd Tryz.func91 rfl Tryz.ntmps91 (by simp) ?_; refine zK (zH rfl (zL rfl) rfl (zH rfl (zL rfl) rfl (zH rfl (yF Tryz.underlying3 Tryz.underlying28 rfl (wrap_u64_mod _)) rfl (zT rfl (zb Tryz.call140 rfl rfl (zG 0 rfl (zG 0 rfl (zR _))) (put_at pw p c l (n % 18446744073709551616).toNat 1 _ _ (by omega) rfl (by omega) hl)) rfl ?_)))); rintro _ H' ⟨_, ⟨p', c', rfl, rfl⟩, hH⟩; simp only [zy7] at hH; subst hH; refine zN ?_
 repeat (first | refine zQ ?_ | refine zV ?_ | refine ze ?_)
 refine yX (res0 rfl) ?_; exact ⟨p', c', rfl, by rw [be_one]⟩
theorem u32_spec (pw : Nat) (p : Option Addr) (c : Nat) (l : List UInt8) (n : Nat) (hn : n < 4294967296) (hl : l.length + 4 ≤ 140737488355328) :
 Tri Tryz.prog 90 [.pointer (some ⟨pw, 0, none⟩), .int .u32 n] (wr pw p c l) (fun r H' => ∃ p' c', r = .tuple #[] ∧ H' = wr pw p' c' (l ++ be n 4)) := by
 refine qd Tryz.func90 rfl Tryz.ntmps90 (by simp) ?_; refine zK (zH rfl (zL rfl) rfl (zH rfl (zL rfl) rfl (zH rfl (yF Tryz.underlying27 Tryz.underlying28 rfl (yI (by omega) (by omega))) rfl (zT rfl (zb Tryz.call140 rfl rfl (zG 0 rfl (zG 0 rfl (zR _))) (put_at _ _ _ _ n 4 _ _ rfl rfl (by omega) (by omega))) rfl ?_)))); rintro _ H' ⟨_, ⟨p', c', rfl, rfl⟩, hH⟩; simp only [zy7] at hH; subst hH; refine zN ?_
 repeat (first | refine zQ ?_ | refine zV ?_ | refine ze ?_)
 refine yX (res0 rfl) ?_; exact ⟨p', c', rfl, rfl⟩
theorem u32_at (pw : Nat) (p : Option Addr) (c : Nat) (l : List UInt8) (n : Nat) (nn : Int) (hnn : nn = (n : Int)) (hn : n < 4294967296) (hl : l.length + 4 ≤ 140737488355328) :
 Tri Tryz.prog 90 [.pointer (some ⟨pw, 0, none⟩), .int .u32 nn] (wr pw p c l) (fun r H' => ∃ p' c', r = .tuple #[] ∧ H' = wr pw p' c' (l ++ be n 4)) := by
 subst hnn; exact u32_spec pw p c l n hn hl
theorem u64_spec (pw : Nat) (p : Option Addr) (c : Nat) (l : List UInt8) (n : Nat) (hl : l.length + 8 ≤ 140737488355328) :
 Tri Tryz.prog 88 [.pointer (some ⟨pw, 0, none⟩), .int .u64 n] (wr pw p c l) (fun r H' => ∃ p' c', r = .tuple #[] ∧ H' = wr pw p' c' (l ++ be n 8)) := by
 refine qd Tryz.func88 rfl Tryz.ntmps88 (by simp) ?_; refine zK (zH rfl (zL rfl) rfl (zH rfl (zL rfl) rfl (zT rfl (zb Tryz.call140 rfl rfl (zG 0 rfl (zG 0 rfl (zR _))) (put_at _ _ _ _ n 8 _ _ rfl rfl (by omega) (by omega))) rfl ?_))); rintro _ H' ⟨_, ⟨p', c', rfl, rfl⟩, hH⟩; simp only [zy7] at hH; subst hH; refine zN ?_
 repeat (first | refine zQ ?_ | refine zV ?_ | refine ze ?_)
 refine yX (res0 rfl) ?_; exact ⟨p', c', rfl, rfl⟩
theorem u64_at (pw : Nat) (p : Option Addr) (c : Nat) (l : List UInt8) (n : Nat) (nn : Int) (hnn : nn = (n : Int)) (hl : l.length + 8 ≤ 140737488355328) :
 Tri Tryz.prog 88 [.pointer (some ⟨pw, 0, none⟩), .int .u64 nn] (wr pw p c l) (fun r H' => ∃ p' c', r = .tuple #[] ∧ H' = wr pw p' c' (l ++ be n 8)) := by
 subst hnn; exact u64_spec pw p c l n hl
theorem wr_eq {pw k c : Nat} {p : Option Addr} {l : List UInt8} {xs : List Value} (hk : k = l.length) (hx : xs = cel l) :
 [own pw (.cells [Value.slice p k c].toArray 135 (0, 0)), row 5 1 (.slice p k c) k xs] = wr pw p c l := by subst hk; subst hx; rfl
theorem be_mod (n : Nat) : be (n % 4294967296) 4 = be n 4 := by
 have h : ∀ k, k < 4 → UInt8.ofNat (n % 4294967296 / 256 ^ k) = UInt8.ofNat (n / 256 ^ k) := by
  intro k hk
  apply UInt8.toNat_inj.1; rw [UInt8.toNat_ofNat', UInt8.toNat_ofNat']
  match k, hk with
  | 0, _ => simp <;> omega
  | 1, _ => simp <;> omega
  | 2, _ => simp <;> omega
  | 3, _ => simp <;> omega
 simp only [be]; rw [h 3 (by omega), h 2 (by omega), h 1 (by omega), h 0 (by omega)]
theorem text_run (pw : Nat) (p : Option Addr) (c : Nat) (l : List UInt8) (s : ByteArray) (hs : l.length + 4 + s.size ≤ 140737488355328) :
 Tri Tryz.prog 47 [.pointer (some ⟨pw, 0, none⟩), .string s] (wr pw p c l) (fun r H' => ∃ p' c', r = .tuple #[] ∧ H' = wr pw p' c' (l ++ be s.size 4 ++ s.data.toList)) := by
 refine qd Tryz.func47 rfl Tryz.ntmps47 (by simp) ?_; refine zM (zK (zH rfl (zL rfl) rfl (zH rfl (zL rfl) rfl (zH rfl (ro_strLen (t' := 0) Tryz.underlying9 rfl) rfl (zH rfl (yF Tryz.underlying3 Tryz.underlying27 rfl (wrap_u32_mod _)) rfl ?_))))); refine zT rfl (zb Tryz.call90 rfl rfl (zG 0 rfl (zG 0 rfl (zR _))) (u32_at pw p c l (s.size % 4294967296) _ (by omega) (by omega) (by omega))) rfl ?_; rintro _ H' ⟨_, ⟨p', c', rfl, rfl⟩, hH⟩; simp only [zy7] at hH; subst hH; refine zN ?_
 repeat (first | refine zQ ?_ | refine zV ?_ | refine ze ?_)
 refine zI (zK (zH rfl (zL rfl) rfl (zH rfl (zL rfl) rfl (zH rfl (zU rfl) rfl (zH rfl (zP fa135_0 rfl) rfl ?_))))); refine zH rfl (zW sc25 rfl (zy4 0 rfl (by first | exact Rd.own rfl | exact Rd.row rfl))) rfl (zH rfl (zL rfl) rfl (zT rfl (eff_append 1 sl25 (.inr Tryz.underlying9) rfl rfl rfl (Src.str _ s) (by simp [qE]; omega) (by simp [maxLen, qE]; omega)) rfl ?_)); rintro _ _ ⟨_, ⟨p2, c2, rfl, -, rfl⟩, rfl⟩; refine zH rfl (zU rfl) rfl (zH rfl (zP fa135_0 rfl) rfl (zo rfl ((qP 0 sc25 rfl rfl rfl rfl (zy1 rfl) (zg _))) rfl ?_)); rintro _ _ rfl; refine zN ?_
 repeat (first | refine zQ ?_ | refine zV ?_ | refine ze ?_)
 refine yX (res0 rfl) ?_; exact ⟨p2, c2, rfl, wr_eq (by rw [be_mod]; simp only [List.length_append, qE, Array.length_toList]; rfl) (by rw [be_mod]; simp only [cel_append, bts_cel])⟩
theorem done_spec (pw : Nat) (p : Option Addr) (c : Nat) (l : List UInt8) (hl : l.length ≤ 140737488355328) :
 Tri Tryz.prog 49 [.pointer (some ⟨pw, 0, none⟩)] (wr pw p c l) (fun r H' => ∃ p' c', r = .slice p' l.length c' ∧ Alike p p' ∧ H' = row 5 1 (.slice p' l.length c') l.length (cel l) :: wr pw p c l) := by
 refine qd Tryz.func49 rfl Tryz.ntmps49 (by simp) ?_; refine zM (zK (zH rfl (zO rfl) rfl (zN ?_)))
 repeat (first | refine zQ ?_ | refine zV ?_ | refine ze ?_)
 refine zI (zM (zK (zH rfl (zL rfl) rfl (zH rfl (zU rfl) rfl (zH rfl (zP fa135_0 rfl) rfl ?_))))); refine zH rfl (zW sc25 rfl (zy4 0 rfl (by first | exact Rd.own rfl | exact Rd.row rfl))) rfl (zT rfl (zb Tryz.call93 rfl rfl (zG 1 rfl (zR _)) (clone_spec _ _ _ _ _ Vw.row (yx _) (cel_one _) (by omega))) rfl ?_); rintro _ H' ⟨_, ⟨p', c', rfl, hp, rfl⟩, hH⟩; simp only [zy7] at hH; subst hH; refine qp (fun w F s => St_front 2 rfl s) ?_; refine qp (fun w F s => St_front 1 rfl s) ?_; refine zH rfl (zO rfl) rfl (zN ?_)
 repeat (first | refine zQ ?_ | refine zV ?_ | refine ze ?_)
 refine zI (zi ?_)
 repeat (first | refine zh ?_ | refine zn ?_ | refine qr ?_ | refine yH ?_)
 refine yG (qk rfl rfl) ?_; exact ⟨p', c', rfl, hp, rfl⟩
end Go.Proofs.YtlefpllcgcicpaaGreatDoor
