/-
  What package attr does.
-/
import Derived.Test.YtlefpllcgcicpaaGreatDoorRead
set_option linter.unusedVariables false
set_option linter.unusedSimpArgs false
namespace Go.Proofs.YtlefpllcgcicpaaGreatDoor
open Go.Sx
set_option maxRecDepth 100000
/-- attributes -/
structure At where
 f : Nat
 s : Nat
 u : Nat
 g : Nat
 m : Nat
 a : Nat
 t : Nat
 deriving DecidableEq
def At.cs (x : At) : List Value := [.int .u32 x.f, .int .u64 x.s, .int .u32 x.u, .int .u32 x.g, .int .u32 x.m, .int .u32 x.a, .int .u32 x.t]
abbrev At.v (x : At) : Value := .agg x.cs.toArray
def At.zero : At := ⟨0, 0, 0, 0, 0, 0, 0⟩
structure At.Ok (x : At) : Prop where
 f : x.f < 4294967296
 s : x.s < 18446744073709551616
 u : x.u < 4294967296
 g : x.g < 4294967296
 m : x.m < 4294967296
 a : x.a < 4294967296
 t : x.t < 4294967296
theorem At.zero_ok : At.zero.Ok := ⟨by decide, by decide, by decide, by decide, by decide, by decide, by decide⟩
theorem xE {a c : Nat} {cc : Int} (ha : a < 4294967296) (hc : c < 4294967296) (hcc : cc = (c : Int)) : bits .and .u32 (a : Int) cc = ((a &&& c : Nat) : Int) := by
 subst hcc
 show IntKind.u32.wrap ((BitVec.ofInt 32 (a : Int) &&& BitVec.ofInt 32 (c : Int)).toNat : Int) = _
 have e1 : BitVec.ofInt 32 (a : Int) = BitVec.ofNat 32 a := by simp
 have e2 : BitVec.ofInt 32 (c : Int) = BitVec.ofNat 32 c := by simp
 rw [e1, e2, BitVec.toNat_and, BitVec.toNat_ofNat, BitVec.toNat_ofNat, Nat.mod_eq_of_lt ha, Nat.mod_eq_of_lt hc]; have : a &&& c ≤ a := Nat.and_le_left
 exact xC (by omega) (by omega)
theorem or32 {a c : Nat} (ha : a < 4294967296) (hc : c < 4294967296) : bits .or .u32 (a : Int) (c : Int) = ((a ||| c : Nat) : Int) := by
 show IntKind.u32.wrap ((BitVec.ofInt 32 (a : Int) ||| BitVec.ofInt 32 (c : Int)).toNat : Int) = _
 have e1 : BitVec.ofInt 32 (a : Int) = BitVec.ofNat 32 a := by simp
 have e2 : BitVec.ofInt 32 (c : Int) = BitVec.ofNat 32 c := by simp
 rw [e1, e2, BitVec.toNat_or, BitVec.toNat_ofNat, BitVec.toNat_ofNat, Nat.mod_eq_of_lt ha, Nat.mod_eq_of_lt hc]; exact xC (by omega) (by have := Nat.or_lt_two_pow (n := 32) (x := a) (y := c) ha hc; omega)
/-- what others tell, yE what is told -/
def At.m1 (x y : At) : At := { x with f := x.f ||| y.f }
def At.m2 (x y : At) : At := if y.f &&& 1 ≠ 0 then { x with s := y.s } else x
def At.m3 (x y : At) : At := if y.f &&& 2 ≠ 0 then { x with u := y.u, g := y.g } else x
def At.m4 (x y : At) : At := if y.f &&& 4 ≠ 0 then { x with m := y.m } else x
def At.m5 (x y : At) : At := if y.f &&& 8 ≠ 0 then { x with a := y.a, t := y.t } else x
def At.merge (x y : At) : At := ((((x.m1 y).m2 y).m3 y).m4 y).m5 y
theorem merge_run (x y : At) (hx : x.Ok) (hy : y.Ok) :
 Tri Tryz.prog 80 [x.v, y.v] [] (fun v H' => v = (x.merge y).v) := by
 refine qd Tryz.func80 rfl Tryz.ntmps80 (by simp) ?_; refine zM (zK (zT rfl (qj rfl) rfl ?_)); rintro _ _ ⟨b2, rfl, rfl⟩; refine zT rfl (qj rfl) rfl ?_; rintro _ _ ⟨b3, rfl, rfl⟩; refine zT rfl (qL z30) rfl ?_; rintro _ _ ⟨b4, rfl, rfl⟩; refine zN ?_
 repeat (first | refine zQ ?_ | refine zV ?_ | refine ze ?_)
 refine zI (zM (zK (zH rfl (zP yg rfl) rfl (zH rfl (zW yB rfl (zy4 2 rfl (by first | exact Rd.own rfl | exact Rd.row rfl))) rfl (zH rfl (zP yg rfl) rfl ?_))))); refine zH rfl (zW yB rfl (zy4 1 rfl (by first | exact Rd.own rfl | exact Rd.row rfl))) rfl (zH rfl (ro_or rfl rfl (or32 hx.f hy.f)) rfl (zH rfl (zP yg rfl) rfl (zo rfl ((qP 2 yB rfl rfl rfl rfl (zy1 rfl) (zg _))) rfl ?_))); rintro _ _ rfl; refine zN ?_
 show Then _ _ .normal _ [own b4 (.cells At.zero.cs.toArray 30 (0, 0)), own b3 (.cells y.cs.toArray 30 (0, 0)), own b2 (.cells (x.m1 y).cs.toArray 30 (0, 0))]
 repeat (first | refine zQ ?_ | refine zV ?_ | refine ze ?_)
 refine zI ?_; refine Go.Sx.wp_cut (fun Γ H => Has Γ [(2, .pointer (some ⟨b2, 0, none⟩)), (3, .pointer (some ⟨b3, 0, none⟩)), (4, .pointer (some ⟨b4, 0, none⟩))] ∧ H = [own b4 (.cells At.zero.cs.toArray 30 (0, 0)), own b3 (.cells y.cs.toArray 30 (0, 0)), own b2 (.cells ((x.m1 y).m2 y).cs.toArray 30 (0, 0))]) ?_ ?_
 ·refine zM (zK (zH rfl (zP yg rfl) rfl (zH rfl (zW yB rfl (zy4 1 rfl (by first | exact Rd.own rfl | exact Rd.row rfl))) rfl (zH rfl (ya rfl rfl (xE hy.f (c := 1) (by decide) rfl)) rfl (zH rfl (q9 rfl rfl rfl) rfl ?_))))); refine zN ?_
  repeat (first | refine zQ ?_ | refine zV ?_ | refine ze ?_)
  refine zI (zq rfl (fun hc0 => ?_) (fun hc0 => ?_))
  ·try replace hc0 := zy2 hc0
   refine zK (zH rfl (zP fa30_1 rfl) rfl (zH rfl (zW sc28 rfl (zy4 1 rfl (by first | exact Rd.own rfl | exact Rd.row rfl))) rfl (zH rfl (zP fa30_1 rfl) rfl (zo rfl ((qP 2 sc28 rfl rfl rfl rfl (zy1 rfl) (zg _))) rfl ?_)))); rintro _ _ rfl; refine zN ?_
   repeat (first | refine zQ ?_ | refine zV ?_ | refine ze ?_)
   refine zI ?_; exact ⟨zS rfl (zS rfl (zS rfl (zf _))), by rw [At.m2, if_pos (by omega)]; rfl⟩
  ·try replace hc0 := zy3 hc0
   refine zl ?_
   repeat (first | refine zQ ?_ | refine zV ?_ | refine ze ?_)
   refine zI ?_; exact ⟨zS rfl (zS rfl (zS rfl (zf _))), by rw [At.m2, if_neg (by omega)]⟩
 rintro Γ H ⟨hΓ, rfl⟩; refine wp_has hΓ ?_; refine Go.Sx.wp_cut (fun Γ H => Has Γ [(2, .pointer (some ⟨b2, 0, none⟩)), (3, .pointer (some ⟨b3, 0, none⟩)), (4, .pointer (some ⟨b4, 0, none⟩))] ∧ H = [own b4 (.cells At.zero.cs.toArray 30 (0, 0)), own b3 (.cells y.cs.toArray 30 (0, 0)), own b2 (.cells (((x.m1 y).m2 y).m3 y).cs.toArray 30 (0, 0))]) ?_ ?_
 ·refine zM (zK (zH rfl (zP yg rfl) rfl (zH rfl (zW yB rfl (zy4 1 rfl (by first | exact Rd.own rfl | exact Rd.row rfl))) rfl (zH rfl (ya rfl rfl (xE hy.f (c := 2) (by decide) rfl)) rfl (zH rfl (q9 rfl rfl rfl) rfl ?_))))); refine zN ?_
  repeat (first | refine zQ ?_ | refine zV ?_ | refine ze ?_)
  refine zI (zq rfl (fun hc1 => ?_) (fun hc1 => ?_))
  ·try replace hc1 := zy2 hc1
   refine qZ 6 (by kernel_rfl) (zG 1 rfl (zR _)) ?_; refine zRO (i := 0) (by kernel_rfl) rfl rfl (zP fa30_2 rfl) rfl (zRO (i := 1) (by kernel_rfl) rfl rfl (zW yB rfl (zy4 0 rfl (by first | exact Rd.own rfl | exact Rd.row rfl))) rfl (zRO (i := 2) (by kernel_rfl) rfl rfl (zP fa30_3 rfl) rfl (zRO (i := 3) (by kernel_rfl) rfl rfl (zW yB rfl (zy4 0 rfl (by first | exact Rd.own rfl | exact Rd.row rfl))) rfl (zRO (i := 4) (by kernel_rfl) rfl rfl (zP fa30_2 rfl) rfl (qq (i := 5) (by kernel_rfl) rfl rfl ((qP 1 yB rfl rfl rfl rfl (zy1 rfl) (zg _))) rfl ?_))))); rintro _ _ rfl; refine qR (m' := 8) (L' := []) (by kernel_rfl) qx ?_; refine zRO (i := 6) (by kernel_rfl) rfl rfl (zP fa30_3 rfl) rfl (qq (i := 7) (by kernel_rfl) rfl rfl ((qP 2 yB rfl rfl rfl rfl (zy1 rfl) (zg _))) rfl ?_); rintro _ _ rfl; refine any_front 1 rfl ?_; refine qT (by kernel_rfl) ?_
   repeat (first | refine zQ ?_ | refine zV ?_ | refine ze ?_)
   refine zI ?_; exact ⟨zS rfl (zS rfl (zS rfl (zf _))), by rw [At.m3, if_pos (by omega)]; rfl⟩
  ·try replace hc1 := zy3 hc1
   refine zl ?_
   repeat (first | refine zQ ?_ | refine zV ?_ | refine ze ?_)
   refine zI ?_; exact ⟨zS rfl (zS rfl (zS rfl (zf _))), by rw [At.m3, if_neg (by omega)]⟩
 rintro Γ H ⟨hΓ, rfl⟩; refine wp_has hΓ ?_; refine Go.Sx.wp_cut (fun Γ H => Has Γ [(2, .pointer (some ⟨b2, 0, none⟩)), (3, .pointer (some ⟨b3, 0, none⟩)), (4, .pointer (some ⟨b4, 0, none⟩))] ∧ H = [own b4 (.cells At.zero.cs.toArray 30 (0, 0)), own b3 (.cells y.cs.toArray 30 (0, 0)), own b2 (.cells ((((x.m1 y).m2 y).m3 y).m4 y).cs.toArray 30 (0, 0))]) ?_ ?_
 ·refine zM (zK (zH rfl (zP yg rfl) rfl (zH rfl (zW yB rfl (zy4 1 rfl (by first | exact Rd.own rfl | exact Rd.row rfl))) rfl (zH rfl (ya rfl rfl (xE hy.f (c := 4) (by decide) rfl)) rfl (zH rfl (q9 rfl rfl rfl) rfl ?_))))); refine zN ?_
  repeat (first | refine zQ ?_ | refine zV ?_ | refine ze ?_)
  refine zI (zq rfl (fun hc2 => ?_) (fun hc2 => ?_))
  ·try replace hc2 := zy2 hc2
   refine zK (zH rfl (zP fa30_4 rfl) rfl (zH rfl (zW yB rfl (zy4 1 rfl (by first | exact Rd.own rfl | exact Rd.row rfl))) rfl (zH rfl (zP fa30_4 rfl) rfl (zo rfl ((qP 2 yB rfl rfl rfl rfl (zy1 rfl) (zg _))) rfl ?_)))); rintro _ _ rfl; refine zN ?_
   repeat (first | refine zQ ?_ | refine zV ?_ | refine ze ?_)
   refine zI ?_; exact ⟨zS rfl (zS rfl (zS rfl (zf _))), by rw [At.m4, if_pos (by omega)]; rfl⟩
  ·try replace hc2 := zy3 hc2
   refine zl ?_
   repeat (first | refine zQ ?_ | refine zV ?_ | refine ze ?_)
   refine zI ?_; exact ⟨zS rfl (zS rfl (zS rfl (zf _))), by rw [At.m4, if_neg (by omega)]⟩
 rintro Γ H ⟨hΓ, rfl⟩; refine wp_has hΓ ?_; refine Go.Sx.wp_cut (fun Γ H => Has Γ [(2, .pointer (some ⟨b2, 0, none⟩)), (3, .pointer (some ⟨b3, 0, none⟩)), (4, .pointer (some ⟨b4, 0, none⟩))] ∧ H = [own b4 (.cells At.zero.cs.toArray 30 (0, 0)), own b3 (.cells y.cs.toArray 30 (0, 0)), own b2 (.cells (((((x.m1 y).m2 y).m3 y).m4 y).m5 y).cs.toArray 30 (0, 0))]) ?_ ?_
 ·refine zM (zK (zH rfl (zP yg rfl) rfl (zH rfl (zW yB rfl (zy4 1 rfl (by first | exact Rd.own rfl | exact Rd.row rfl))) rfl (zH rfl (ya rfl rfl (xE hy.f (c := 8) (by decide) rfl)) rfl (zH rfl (q9 rfl rfl rfl) rfl ?_))))); refine zN ?_
  repeat (first | refine zQ ?_ | refine zV ?_ | refine ze ?_)
  refine zI (zq rfl (fun hc3 => ?_) (fun hc3 => ?_))
  ·try replace hc3 := zy2 hc3
   refine qZ 6 (by kernel_rfl) (zG 1 rfl (zR _)) ?_; refine zRO (i := 0) (by kernel_rfl) rfl rfl (zP fa30_5 rfl) rfl (zRO (i := 1) (by kernel_rfl) rfl rfl (zW yB rfl (zy4 0 rfl (by first | exact Rd.own rfl | exact Rd.row rfl))) rfl (zRO (i := 2) (by kernel_rfl) rfl rfl (zP fa30_6 rfl) rfl (zRO (i := 3) (by kernel_rfl) rfl rfl (zW yB rfl (zy4 0 rfl (by first | exact Rd.own rfl | exact Rd.row rfl))) rfl (zRO (i := 4) (by kernel_rfl) rfl rfl (zP fa30_5 rfl) rfl (qq (i := 5) (by kernel_rfl) rfl rfl ((qP 1 yB rfl rfl rfl rfl (zy1 rfl) (zg _))) rfl ?_))))); rintro _ _ rfl; refine qR (m' := 8) (L' := []) (by kernel_rfl) qx ?_; refine zRO (i := 6) (by kernel_rfl) rfl rfl (zP fa30_6 rfl) rfl (qq (i := 7) (by kernel_rfl) rfl rfl ((qP 2 yB rfl rfl rfl rfl (zy1 rfl) (zg _))) rfl ?_); rintro _ _ rfl; refine any_front 1 rfl ?_; refine qT (by kernel_rfl) ?_
   repeat (first | refine zQ ?_ | refine zV ?_ | refine ze ?_)
   refine zI ?_; exact ⟨zS rfl (zS rfl (zS rfl (zf _))), by rw [At.m5, if_pos (by omega)]; rfl⟩
  ·try replace hc3 := zy3 hc3
   refine zl ?_
   repeat (first | refine zQ ?_ | refine zV ?_ | refine ze ?_)
   refine zI ?_; exact ⟨zS rfl (zS rfl (zS rfl (zf _))), by rw [At.m5, if_neg (by omega)]⟩
 rintro Γ H ⟨hΓ, rfl⟩; refine wp_has hΓ ?_; refine zM (zK (zH rfl (qX ag30 rfl (zy6 2 rfl zx) rfl) rfl (zo rfl ((zm 0 ag30 rfl rfl rfl rfl rfl (zy1 rfl) (zg _))) rfl ?_))); rintro _ _ rfl; refine zN ?_
 repeat (first | refine zQ ?_ | refine zV ?_ | refine ze ?_)
 refine zI (zi ?_)
 repeat (first | refine zh ?_ | refine zn ?_ | refine qr ?_ | refine yH ?_)
 refine yG (qg rfl (qB ag30 rfl (zy6 0 rfl zx) rfl)) ?_
 rfl
theorem merge_spec (x y : At) (hx : x.Ok) (hy : y.Ok) : Tri Tryz.prog 80 [x.v, y.v] [] (fun v H' => v = (x.merge y).v ∧ H' = []) := tri_forget (merge_run x y hx hy) fun v H h => h
theorem bare_spec (x : At) (hx : x.Ok) : Tri Tryz.prog 72 [x.v] [] (fun v H' => v = (At.zero.merge x).v ∧ H' = []) := by
 refine tri_forget (Ψ := fun v _ => v = (At.zero.merge x).v) ?_ fun v H h => h
 refine qd Tryz.func72 rfl Tryz.ntmps72 (by simp) ?_; refine zM (zK (zT rfl (qj rfl) rfl ?_)); rintro _ _ ⟨b1, rfl, rfl⟩; refine zT rfl (qL z30) rfl ?_; rintro _ _ ⟨b2, rfl, rfl⟩; refine zN ?_
 repeat (first | refine zQ ?_ | refine zV ?_ | refine ze ?_)
 refine zI (zM (zK (zH rfl (qY rfl (show Bld Tryz.prog 30 [] At.zero.v from qK (cs := At.zero.cs) st30 rfl)) rfl (zH rfl (qX ag30 rfl (zy6 1 rfl zx) rfl) rfl (zT rfl (zb Tryz.call80 rfl rfl (zR _) (merge_spec At.zero x At.zero_ok hx)) rfl ?_))))); rintro _ H' ⟨_, ⟨rfl, rfl⟩, hH⟩; simp only [zy7] at hH; subst hH; refine zo rfl ((zm 0 ag30 rfl rfl rfl rfl rfl (zy1 rfl) (zg _))) rfl ?_; rintro _ _ rfl; refine zN ?_
 repeat (first | refine zQ ?_ | refine zV ?_ | refine ze ?_)
 refine zI (zi ?_)
 repeat (first | refine zh ?_ | refine zn ?_ | refine qr ?_ | refine yH ?_)
 refine yG (qg rfl (qB ag30 rfl (zy6 0 rfl zx) rfl)) ?_
 rfl
theorem merge_ok {x y : At} (hx : x.Ok) (hy : y.Ok) : (x.merge y).Ok := by
 have h1 : (x.m1 y).Ok := ⟨Nat.or_lt_two_pow (n := 32) hx.f hy.f, hx.s, hx.u, hx.g, hx.m, hx.a, hx.t⟩
 have h2 : ((x.m1 y).m2 y).Ok := by unfold At.m2; split; exact ⟨h1.f, hy.s, h1.u, h1.g, h1.m, h1.a, h1.t⟩; exact h1
 have h3 : (((x.m1 y).m2 y).m3 y).Ok := by unfold At.m3; split; exact ⟨h2.f, h2.s, hy.u, hy.g, h2.m, h2.a, h2.t⟩; exact h2
 have h4 : ((((x.m1 y).m2 y).m3 y).m4 y).Ok := by unfold At.m4; split; exact ⟨h3.f, h3.s, h3.u, h3.g, hy.m, h3.a, h3.t⟩; exact h3
 unfold At.merge At.m5; split; exact ⟨h4.f, h4.s, h4.u, h4.g, h4.m, hy.a, hy.t⟩; exact h4
theorem run_attrFields (d : Nat) (x y : At) (w : World) : (Op.eqFields (d+1) x.cs.toArray y.cs.toArray (Tryz.prog.fieldsOf 30).toList).run Tryz.prog w = .ok (decide (x = y)) w := by
 have h : decide (x = y) = (decide (x.f = y.f) && (decide (x.s = y.s) && (decide (x.u = y.u) && (decide (x.g = y.g) && (decide (x.m = y.m) && (decide (x.a = y.a) && decide (x.t = y.t))))))) := by
  cases x; cases y; simp only [At.mk.injEq]; simp only [Bool.decide_and]
 have hl : (Tryz.prog.fieldsOf 30).toList = [⟨ "Flags", 27, 0, false, "", "", 0⟩, ⟨ "Size", 28, 1, false, "", "", 8⟩, ⟨ "Uid", 27, 2, false, "", "", 16⟩, ⟨ "Gid", 27, 3, false, "", "", 20⟩, ⟨ "Mode", 27, 4, false, "", "", 24⟩, ⟨ "Atime", 27, 5, false, "", "", 28⟩, ⟨ "Mtime", 27, 6, false, "", "", 32⟩] := by kernel_rfl
 have e32 : ∀ (a b : Int) (w : World), (Op.equalIn (d + 1) 27 (.int .u32 a) (.int .u32 b)).run Tryz.prog w = .ok (a == b) w := fun a b w => run_equalIn_int w d 27 .u32 .u32 a b Tryz.underlying27
 have e64 : ∀ (a b : Int) (w : World), (Op.equalIn (d + 1) 28 (.int .u64 a) (.int .u64 b)).run Tryz.prog w = .ok (a == b) w := fun a b w => run_equalIn_int w d 28 .u64 .u64 a b Tryz.underlying28
 rw [h, hl]; have hb : ∀ a b : Nat, ((a : Int) == (b : Int)) = decide (a = b) := fun a b => by by_cases h : a = b <;> simp [h]; omega
 simp only [Op.eqFields, Sem.run_bind, Sem.run_ite, part, At.cs, Tryz.isAgg27, Tryz.isAgg28, Result.andThen_ok, Bool.false_eq_true, if_false, List.getElem?_toArray, List.getElem?_cons_zero, List.getElem?_cons_succ, Sem.run_pure, e32, e64, hb]; simp
 by_cases h1 : x.f = y.f <;> by_cases h2 : x.s = y.s <;> by_cases h3 : x.u = y.u <;> by_cases h4 : x.g = y.g <;> by_cases h5 : x.m = y.m <;> by_cases h6 : x.a = y.a <;> by_cases h7 : x.t = y.t <;> simp [h1, h2, h3, h4, h5, h6, h7]
theorem run_attrEqIn (d : Nat) (x y : At) (w : World) : (Op.equalIn (d + 2) 30 x.v y.v).run Tryz.prog w = .ok (decide (x = y)) w := by
 rw [run_equalIn_agg w (d + 1) 30 _ _ (by kernel_rfl) (by kernel_rfl)]; exact run_attrFields d x y w
theorem run_attrEq (x y : At) (w : World) : (binOp .eql 30 x.v y.v).run Tryz.prog w = .ok (.bool (decide (x = y))) w := by
 rw [run_eql_struct]; show ((Op.equalIn (9998 + 2) 30 x.v y.v).run Tryz.prog w).andThen _ = _
 rw [run_attrEqIn]; rfl
theorem attrGuard (op : BinOp) (o1 o2 : Operand) (x y : At) (w : World) : (eqGuard op 30 o1 o2 x.v y.v).run Tryz.prog w = .ok () w := run_eqGuard_agg w op 30 o1 o2 _ _ (by kernel_rfl)
section
variable {n : Nat} {L : HProp} {Γ : Env} {d : Option Tmp} {ty : TypeId} {pos : String} {aft : Array Edge} {g : Option (Nat × Bool)}
theorem ro_attrEq {ty' : TypeId} {o1 o2 : Operand} {x y : At} {c : Bool} (hx : ev Γ o1 = some x.v) (hy : ev Γ o2 = some y.v) (hz : decide (x = y) = c) : RO Tryz.prog n L Γ ⟨d, .binOp .eql 30 o1 o2 ty', ty, pos, aft, g⟩ (.bool c) := by
 subst hz; exact ro_cmpOf hx hy (fun w => attrGuard _ _ _ x y w) (fun w => run_attrEq x y w)
end
def At.right (x : At) : Bool := decide (x.f ≤ 15) && decide (At.zero.merge x = x)
theorem right_spec (x : At) (hx : x.Ok) : Tri Tryz.prog 30 [x.v] [] (fun v H' => v = .bool x.right ∧ H' = []) := by
 refine tri_forget (Ψ := fun v _ => v = .bool x.right) ?_ fun v H h => h
 by_cases h : x.f ≤ 15
 ·skip; refine qd Tryz.func30 rfl Tryz.ntmps30 (by simp) ?_; refine zM (zK (zT rfl (qj rfl) rfl ?_)); rintro _ _ ⟨b1, rfl, rfl⟩; refine zH rfl (zO rfl) rfl (zN ?_)
  repeat (first | refine zQ ?_ | refine zV ?_ | refine ze ?_)
  refine zI (zM (qZ 9 (by kernel_rfl) (zG 0 rfl (zR _)) ?_)); refine zRO (i := 0) (by kernel_rfl) rfl rfl (zP yg rfl) rfl (zRO (i := 1) (by kernel_rfl) rfl rfl (zW yB rfl (zy4 0 rfl (by first | exact Rd.own rfl | exact Rd.row rfl))) rfl (zRO (i := 2) (by kernel_rfl) rfl rfl (ro_leq rfl rfl (decide_eq_true (by omega))) rfl (zRO (i := 3) (by kernel_rfl) rfl rfl (zL rfl) rfl (zRO (i := 4) (by kernel_rfl) rfl rfl (qX ag30 rfl (zy6 0 rfl zx) rfl) rfl (zRO (i := 6) (by kernel_rfl) rfl rfl (qX ag30 rfl (zy6 0 rfl zx) rfl) rfl ?_))))); refine qM (i := 5) (by kernel_rfl) rfl rfl (zb Tryz.call72 rfl rfl (zR _) (bare_spec _ (by assumption))) rfl ?_; rintro _ H' ⟨_, ⟨rfl, rfl⟩, hH⟩; simp only [zy7] at hH; subst hH; refine zRO (i := 7) (by kernel_rfl) rfl rfl (ro_attrEq rfl rfl rfl) rfl (zRO (i := 8) (by kernel_rfl) rfl rfl (zr rfl rfl) rfl (qR (m' := 10) (L' := []) (by kernel_rfl) qx ?_)); refine zRO (i := 9) (by kernel_rfl) rfl rfl (zO rfl) rfl (qT (by kernel_rfl) ?_)
  repeat (first | refine zQ ?_ | refine zV ?_ | refine ze ?_)
  refine zI (zi ?_)
  repeat (first | refine zh ?_ | refine zn ?_ | refine qr ?_ | refine yH ?_)
  refine yG (qk rfl rfl) ?_; simp only [At.right, decide_eq_true (show x.f ≤ 15 by omega)]; rfl
 ·skip; refine qd Tryz.func30 rfl Tryz.ntmps30 (by simp) ?_; refine zM (zK (zT rfl (qj rfl) rfl ?_)); rintro _ _ ⟨b1, rfl, rfl⟩; refine zH rfl (zO rfl) rfl (zN ?_)
  repeat (first | refine zQ ?_ | refine zV ?_ | refine ze ?_)
  refine zI (zM (qZ 9 (by kernel_rfl) (zG 0 rfl (zR _)) ?_)); refine zRO (i := 0) (by kernel_rfl) rfl rfl (zP yg rfl) rfl (zRO (i := 1) (by kernel_rfl) rfl rfl (zW yB rfl (zy4 0 rfl (by first | exact Rd.own rfl | exact Rd.row rfl))) rfl (zRO (i := 2) (by kernel_rfl) rfl rfl (ro_leq rfl rfl (decide_eq_false (by omega))) rfl (zRO (i := 3) (by kernel_rfl) rfl rfl (zL rfl) rfl (zSK (i := 4) (by kernel_rfl) rfl rfl rfl (zSK (i := 6) (by kernel_rfl) rfl rfl rfl ?_))))); refine zSK (i := 5) (by kernel_rfl) rfl rfl rfl (zSK (i := 7) (by kernel_rfl) rfl rfl rfl (zRO (i := 8) (by kernel_rfl) rfl rfl (zr rfl rfl) rfl (qR (m' := 10) (L' := []) (by kernel_rfl) qx ?_))); refine zRO (i := 9) (by kernel_rfl) rfl rfl (zO rfl) rfl (qT (by kernel_rfl) ?_)
  repeat (first | refine zQ ?_ | refine zV ?_ | refine ze ?_)
  refine zI (zi ?_)
  repeat (first | refine zh ?_ | refine zn ?_ | refine qr ?_ | refine yH ?_)
  refine yG (qk rfl rfl) ?_; simp only [At.right, decide_eq_false (show ¬ x.f ≤ 15 by omega)]; rfl
def At.e1 (x : At) : List UInt8 := if x.f &&& 1 ≠ 0 then be x.s 8 else []
def At.e2 (x : At) : List UInt8 := if x.f &&& 2 ≠ 0 then be x.u 4 ++ be x.g 4 else []
def At.e3 (x : At) : List UInt8 := if x.f &&& 4 ≠ 0 then be x.m 4 else []
def At.e4 (x : At) : List UInt8 := if x.f &&& 8 ≠ 0 then be x.a 4 ++ be x.t 4 else []
/-- attributes as bytes -/
def At.enc (x : At) : List UInt8 := be x.f 4 ++ x.e1 ++ x.e2 ++ x.e3 ++ x.e4
theorem At.e1_le (x : At) : x.e1.length ≤ 8 := by unfold At.e1; split <;> simp [qE]
theorem At.e2_le (x : At) : x.e2.length ≤ 8 := by unfold At.e2; split <;> simp [qE]
theorem At.e3_le (x : At) : x.e3.length ≤ 4 := by unfold At.e3; split <;> simp [qE]
theorem At.e4_le (x : At) : x.e4.length ≤ 8 := by unfold At.e4; split <;> simp [qE]
theorem aput_run (pw : Nat) (p : Option Addr) (c : Nat) (l : List UInt8) (x : At) (hx : x.Ok) (hl : l.length ≤ 35184372088832) :
 Tri Tryz.prog 92 [.pointer (some ⟨pw, 0, none⟩), x.v] (wr pw p c l) (fun v H' => v = .tuple #[] ∧ ∃ p' c' b3, H' = wr pw p' c' (l ++ x.enc) ++ [own b3 (.cells x.cs.toArray 30 (0, 0))]) := by
 have l1 := x.e1_le
 have l2 := x.e2_le
 have l3 := x.e3_le
 have l4 := x.e4_le
 refine qd Tryz.func92 rfl Tryz.ntmps92 (by simp) ?_; refine zM (zK (zT rfl (qj rfl) rfl ?_)); rintro _ _ ⟨b3, rfl, rfl⟩; refine zN ?_
 repeat (first | refine zQ ?_ | refine zV ?_ | refine ze ?_)
 refine zI (zM (zM (zK (zH rfl (zL rfl) rfl (zH rfl (qI Tryz.underlying100 rfl rfl rfl) rfl ?_))))); refine zN ?_
 repeat (first | refine zQ ?_ | refine zV ?_ | refine ze ?_)
 refine zI (qC rfl ?_); refine zl ?_
 repeat (first | refine zQ ?_ | refine zV ?_ | refine ze ?_)
 refine zI (zM (zK (zH rfl (zL rfl) rfl (zH rfl (zP yg rfl) rfl (zH rfl (zW yB rfl (zy4 0 rfl (by first | exact Rd.own rfl | exact Rd.row rfl))) rfl ?_))))); refine zT rfl (zb Tryz.call90 rfl rfl (zG 1 rfl (zG 1 rfl (zR _))) (u32_at _ _ _ _ _ _ rfl hx.f (by omega))) rfl ?_; rintro _ H' ⟨_, ⟨p', c', rfl, rfl⟩, hH⟩; simp only [zy7] at hH; subst hH; refine zN ?_
 repeat (first | refine zQ ?_ | refine zV ?_ | refine ze ?_)
 refine zI ?_; refine Go.Sx.wp_cut (fun Γ H => Has Γ [(0, .pointer (some ⟨pw, 0, none⟩)), (3, .pointer (some ⟨b3, 0, none⟩))] ∧ ∃ p c, H = wr pw p c (l ++ be x.f 4 ++ x.e1) ++ [own b3 (.cells x.cs.toArray 30 (0, 0))] ) ?_ ?_
 ·refine zM (zK (zH rfl (zP yg rfl) rfl (zH rfl (zW yB rfl (zy4 2 rfl (by first | exact Rd.own rfl | exact Rd.row rfl))) rfl (zH rfl (ya rfl rfl (xE hx.f (c := 1) (by decide) rfl)) rfl (zH rfl (q9 rfl rfl rfl) rfl ?_))))); refine zN ?_
  repeat (first | refine zQ ?_ | refine zV ?_ | refine ze ?_)
  refine zI (zq rfl (fun hc1 => ?_) (fun hc1 => ?_))
  ·try replace hc1 := zy2 hc1
   refine zK (zH rfl (zL rfl) rfl (zH rfl (zP fa30_1 rfl) rfl (zH rfl (zW sc28 rfl (zy4 2 rfl (by first | exact Rd.own rfl | exact Rd.row rfl))) rfl (zT rfl (zb Tryz.call88 rfl rfl (zG 0 rfl (zG 0 rfl (zR _))) (u64_at _ _ _ _ _ _ rfl (by simp only [List.length_append, qE]; omega))) rfl ?_)))); rintro _ H' ⟨_, ⟨p', c', rfl, rfl⟩, hH⟩; simp only [zy7] at hH; subst hH; refine zN ?_
   repeat (first | refine zQ ?_ | refine zV ?_ | refine ze ?_)
   refine zI (⟨zS rfl (zS rfl (zf _)), p', c', ?_⟩); rw [At.e1, if_pos (by omega)] <;> first | rfl | (simp only [List.append_assoc] <;> rfl)
  ·try replace hc1 := zy3 hc1
   refine zl ?_
   repeat (first | refine zQ ?_ | refine zV ?_ | refine ze ?_)
   refine zI (⟨zS rfl (zS rfl (zf _)), p', c', ?_⟩); rw [At.e1, if_neg (by omega), List.append_nil] <;> rfl
 rintro Γ H ⟨hΓ, p, c, rfl⟩; refine wp_has hΓ ?_; refine Go.Sx.wp_cut (fun Γ H => Has Γ [(0, .pointer (some ⟨pw, 0, none⟩)), (3, .pointer (some ⟨b3, 0, none⟩))] ∧ ∃ p c, H = wr pw p c (l ++ be x.f 4 ++ x.e1 ++ x.e2) ++ [own b3 (.cells x.cs.toArray 30 (0, 0))] ) ?_ ?_
 ·refine zM (zK (zH rfl (zP yg rfl) rfl (zH rfl (zW yB rfl (zy4 2 rfl (by first | exact Rd.own rfl | exact Rd.row rfl))) rfl (zH rfl (ya rfl rfl (xE hx.f (c := 2) (by decide) rfl)) rfl (zH rfl (q9 rfl rfl rfl) rfl ?_))))); refine zN ?_
  repeat (first | refine zQ ?_ | refine zV ?_ | refine ze ?_)
  refine zI (zq rfl (fun hc2 => ?_) (fun hc2 => ?_))
  ·try replace hc2 := zy2 hc2
   refine zM (zK (zH rfl (zL rfl) rfl (zH rfl (zP fa30_2 rfl) rfl (zH rfl (zW yB rfl (zy4 2 rfl (by first | exact Rd.own rfl | exact Rd.row rfl))) rfl (zT rfl (zb Tryz.call90 rfl rfl (zG 0 rfl (zG 0 rfl (zR _))) (u32_at _ _ _ _ _ _ rfl hx.u (by simp only [List.length_append, qE]; omega))) rfl ?_))))); rintro _ H' ⟨_, ⟨p', c', rfl, rfl⟩, hH⟩; simp only [zy7] at hH; subst hH; refine zN ?_
   repeat (first | refine zQ ?_ | refine zV ?_ | refine ze ?_)
   refine zI (zK (zH rfl (zL rfl) rfl (zH rfl (zP fa30_3 rfl) rfl (zH rfl (zW yB rfl (zy4 2 rfl (by first | exact Rd.own rfl | exact Rd.row rfl))) rfl (zT rfl (zb Tryz.call90 rfl rfl (zG 0 rfl (zG 0 rfl (zR _))) (u32_at _ _ _ _ _ _ rfl hx.g (by simp only [List.length_append, qE]; omega))) rfl ?_))))); rintro _ H' ⟨_, ⟨p', c', rfl, rfl⟩, hH⟩; simp only [zy7] at hH; subst hH; refine zN ?_
   repeat (first | refine zQ ?_ | refine zV ?_ | refine ze ?_)
   refine zI (⟨zS rfl (zS rfl (zf _)), p', c', ?_⟩); rw [At.e2, if_pos (by omega)] <;> first | rfl | (simp only [List.append_assoc] <;> rfl)
  ·try replace hc2 := zy3 hc2
   refine zl ?_
   repeat (first | refine zQ ?_ | refine zV ?_ | refine ze ?_)
   refine zI (⟨zS rfl (zS rfl (zf _)), p, c, ?_⟩); rw [At.e2, if_neg (by omega), List.append_nil] <;> rfl
 rintro Γ H ⟨hΓ, p, c, rfl⟩; refine wp_has hΓ ?_; refine Go.Sx.wp_cut (fun Γ H => Has Γ [(0, .pointer (some ⟨pw, 0, none⟩)), (3, .pointer (some ⟨b3, 0, none⟩))] ∧ ∃ p c, H = wr pw p c (l ++ be x.f 4 ++ x.e1 ++ x.e2 ++ x.e3) ++ [own b3 (.cells x.cs.toArray 30 (0, 0))] ) ?_ ?_
 ·refine zM (zK (zH rfl (zP yg rfl) rfl (zH rfl (zW yB rfl (zy4 2 rfl (by first | exact Rd.own rfl | exact Rd.row rfl))) rfl (zH rfl (ya rfl rfl (xE hx.f (c := 4) (by decide) rfl)) rfl (zH rfl (q9 rfl rfl rfl) rfl ?_))))); refine zN ?_
  repeat (first | refine zQ ?_ | refine zV ?_ | refine ze ?_)
  refine zI (zq rfl (fun hc3 => ?_) (fun hc3 => ?_))
  ·try replace hc3 := zy2 hc3
   refine zK (zH rfl (zL rfl) rfl (zH rfl (zP fa30_4 rfl) rfl (zH rfl (zW yB rfl (zy4 2 rfl (by first | exact Rd.own rfl | exact Rd.row rfl))) rfl (zT rfl (zb Tryz.call90 rfl rfl (zG 0 rfl (zG 0 rfl (zR _))) (u32_at _ _ _ _ _ _ rfl hx.m (by simp only [List.length_append, qE]; omega))) rfl ?_)))); rintro _ H' ⟨_, ⟨p', c', rfl, rfl⟩, hH⟩; simp only [zy7] at hH; subst hH; refine zN ?_
   repeat (first | refine zQ ?_ | refine zV ?_ | refine ze ?_)
   refine zI (⟨zS rfl (zS rfl (zf _)), p', c', ?_⟩); rw [At.e3, if_pos (by omega)] <;> first | rfl | (simp only [List.append_assoc] <;> rfl)
  ·try replace hc3 := zy3 hc3
   refine zl ?_
   repeat (first | refine zQ ?_ | refine zV ?_ | refine ze ?_)
   refine zI (⟨zS rfl (zS rfl (zf _)), p, c, ?_⟩); rw [At.e3, if_neg (by omega), List.append_nil] <;> rfl
 rintro Γ H ⟨hΓ, p, c, rfl⟩; refine wp_has hΓ ?_; refine zM (zK (zH rfl (zP yg rfl) rfl (zH rfl (zW yB rfl (zy4 2 rfl (by first | exact Rd.own rfl | exact Rd.row rfl))) rfl (zH rfl (ya rfl rfl (xE hx.f (c := 8) (by decide) rfl)) rfl (zH rfl (q9 rfl rfl rfl) rfl ?_))))); refine zN ?_
 repeat (first | refine zQ ?_ | refine zV ?_ | refine ze ?_)
 refine zI (zq rfl (fun hc4 => ?_) (fun hc4 => ?_))
 ·try replace hc4 := zy2 hc4
  refine zM (zK (zH rfl (zL rfl) rfl (zH rfl (zP fa30_5 rfl) rfl (zH rfl (zW yB rfl (zy4 2 rfl (by first | exact Rd.own rfl | exact Rd.row rfl))) rfl (zT rfl (zb Tryz.call90 rfl rfl (zG 0 rfl (zG 0 rfl (zR _))) (u32_at _ _ _ _ _ _ rfl hx.a (by simp only [List.length_append, qE]; omega))) rfl ?_))))); rintro _ H' ⟨_, ⟨p', c', rfl, rfl⟩, hH⟩; simp only [zy7] at hH; subst hH; refine zN ?_
  repeat (first | refine zQ ?_ | refine zV ?_ | refine ze ?_)
  refine zI (zK (zH rfl (zL rfl) rfl (zH rfl (zP fa30_6 rfl) rfl (zH rfl (zW yB rfl (zy4 2 rfl (by first | exact Rd.own rfl | exact Rd.row rfl))) rfl (zT rfl (zb Tryz.call90 rfl rfl (zG 0 rfl (zG 0 rfl (zR _))) (u32_at _ _ _ _ _ _ rfl hx.t (by simp only [List.length_append, qE]; omega))) rfl ?_))))); rintro _ H' ⟨_, ⟨p', c', rfl, rfl⟩, hH⟩; simp only [zy7] at hH; subst hH; refine zN ?_
  repeat (first | refine zQ ?_ | refine zV ?_ | refine ze ?_)
  refine yX (res0 rfl) ?_; refine ⟨rfl, p', c', b3, ?_⟩; rw [At.enc, At.e4, if_pos (by omega)] <;> simp only [List.append_assoc] <;> rfl
 ·try replace hc4 := zy3 hc4
  refine zl ?_
  repeat (first | refine zQ ?_ | refine zV ?_ | refine ze ?_)
  refine yX (res0 rfl) ?_; refine ⟨rfl, p, c, b3, ?_⟩; rw [At.enc, At.e4, if_neg (by omega), List.append_nil] <;> simp only [List.append_assoc] <;> rfl
theorem aput_spec (pw : Nat) (p : Option Addr) (c : Nat) (l : List UInt8) (x : At) (hx : x.Ok) (hl : l.length ≤ 35184372088832) :
 Tri Tryz.prog 92 [.pointer (some ⟨pw, 0, none⟩), x.v] (wr pw p c l) (fun v H' => ∃ p' c', v = .tuple #[] ∧ H' = wr pw p' c' (l ++ x.enc)) :=
 tri_weak (aput_run pw p c l x hx hl) fun v H ⟨h1, p', c', b3, h2⟩ => ⟨_, ⟨p', c', h1, rfl⟩, fun w F s => by subst h2; exact St_drop 2 s⟩
end Go.Proofs.YtlefpllcgcicpaaGreatDoor
