/-
  A directory's list.
  Things below a thing: plain laws.
  A tree as bytes: plain laws.
  A thing is taken out, and stands elsewhere: plain laws.
  Paths, and what lies below a thing.
-/
import Derived.Test.YtlefpllcgcicpaaGreatDoorTrK
import Derived.Test.YtlefpllcgcicpaaGreatDoorSxFork
import Derived.Test.YtlefpllcgcicpaaGreatDoorWire
set_option linter.unusedVariables false
set_option linter.unusedSimpArgs false
namespace Go.Proofs.YtlefpllcgcicpaaGreatDoor
open Go.Sx
set_option maxRecDepth 100000
set_option maxHeartbeats 4000000
structure Nm where
 n : List UInt8
 at' : At
deriving DecidableEq
def Nm.cs (x : Nm) : List Value := [.string (str x.n), .int .u32 x.at'.f, .int .u64 x.at'.s, .int .u32 x.at'.u, .int .u32 x.at'.g, .int .u32 x.at'.m, .int .u32 x.at'.a, .int .u32 x.at'.t]
theorem Nm.len (x : Nm) : x.cs.length = 8 := rfl
theorem Nm.one (x : Nm) : ∀ v ∈ x.cs, v.oneCell' = true := fun v hv => by
 simp only [Nm.cs, List.mem_cons, List.not_mem_nil, or_false] at hv
 rcases hv with rfl | rfl | rfl | rfl | rfl | rfl | rfl | rfl <;> rfl
def nmeB (ns : List Nd) (k : Nat) : Nm := match ns.find? (fun x => decide (x.blk = k)) with
 | some y => ⟨y.name, y.told⟩
 | none => ⟨[], At.zero⟩
/-- what is listed of things -/
def lsK (ns : List Nd) (l : List Nat) : List Nm := l.map (nmeB ns)
theorem lsK_snoc {ns : List Nd} (h : (ns.map Nd.blk).Nodup) {y : Nd} (hy : y ∈ ns) {l : List Nat} {i : Nat} (hi : i < l.length) (e : y.blk = l[i]) : lsK ns (l.take (i + 1)) = lsK ns (l.take i) ++ [⟨y.name, y.told⟩] := by
 unfold lsK; rw [List.take_succ_eq_append_getElem hi, List.map_append, List.map_cons, List.map_nil, ← e]
 congr 2
 unfold nmeB; rw [yK h hy]
def listO (ns : List Nd) : Option Nd → List Nm × Int
 | none => ([], 22)
 | some x => if x.dir = true then (lsK ns x.kids, 0) else ([], 23)
theorem list_spec {V : HProp} {t : Tr} {r : Nd} (hT : Tv V t) (hW : Wf t r) (id : Int) (hl : ∀ x ∈ t.ns, x.data.length ≤ 100000000) : Tri Tryz.prog 21 [t.v, .int .i64 id] [V]
 (fun v H' => ∃ K, (∃ p c, v = .tuple #[.slice p (listO t.ns (byId t.ns id)).1.length c, .int .i64 (listO t.ns (byId t.ns id)).2] ∧ K = [row 87 8 (.slice p ((listO t.ns (byId t.ns id)).1).length c) ((listO t.ns (byId t.ns id)).1).length (flat Nm.cs ((listO t.ns (byId t.ns id)).1))]) ∧ H' = K ++ [V]) := by
 cases hb : byId t.ns id with
 | none =>
  refine zt Tryz.func21 rfl Tryz.ntmps21 (by simp) ?_; refine zM (zK (zH rfl (zO rfl) rfl (zH rfl (zO rfl) rfl (zN (zI ?_))))); refine zM (zK (zH rfl (zL rfl) rfl (zH rfl (zU rfl) rfl (zH rfl (zP fa95_1 rfl) rfl (zH rfl (zW sc93 rfl (zy4 0 rfl ((hT.cs 1 _ rfl)))) rfl ?_))))); refine zH rfl (zL rfl) rfl (zH rfl (xB Tryz.underlying93 Tryz.underlying3 z92 rfl rfl (Mp.pick 0 rfl hT.mp)) rfl ?_); rw [xT, hb]; dsimp only [ptrO, Option.map]; refine zH rfl (zO rfl) rfl (zN (zI (zM (qA ?_)))); refine zM (zK (zH rfl (zL rfl) rfl (zH rfl (qI Tryz.underlying92 rfl rfl rfl) rfl (zH rfl (zO rfl) rfl (zN ?_))))); refine zI (qG rfl ?_); refine zM (qD (fun w F s => qv 87 8 w F s) ?_); refine zK (zH rfl (zO rfl) rfl (zH rfl (zO rfl) rfl (zN (zI (zi ?_))))); refine zn ?_; refine zh ?_; refine' zX (res2 rfl rfl rfl) ?_ ?_
  rotate_left 1
  exact ⟨_, ⟨none, 0, rfl, rfl⟩, rfl⟩
  exact zj _
 | some x =>
  have hx := (yD hb).1
  unfold listO
  by_cases hd : x.dir = true
  ·dsimp only; rw [if_pos hd]; refine zt Tryz.func21 rfl Tryz.ntmps21 (by simp) ?_; refine zM (zK (zH rfl (zO rfl) rfl (zH rfl (zO rfl) rfl (zN (zI ?_))))); refine zM (zK (zH rfl (zL rfl) rfl (zH rfl (zU rfl) rfl (zH rfl (zP fa95_1 rfl) rfl (zH rfl (zW sc93 rfl (zy4 0 rfl ((hT.cs 1 _ rfl)))) rfl ?_))))); refine zH rfl (zL rfl) rfl (zH rfl (xB Tryz.underlying93 Tryz.underlying3 z92 rfl rfl (Mp.pick 0 rfl hT.mp)) rfl ?_); rw [xT, hb]; dsimp only [ptrO, Option.map]; refine zH rfl (zO rfl) rfl (zN (zI (zM (qA ?_)))); refine zM (zK (zH rfl (zL rfl) rfl (zH rfl (qI Tryz.underlying92 rfl rfl rfl) rfl (zH rfl (zO rfl) rfl (zN ?_))))); refine zI (qC rfl ?_); refine zM (zK (zH rfl (zL rfl) rfl (zH rfl (zU rfl) rfl (zH rfl (zP fa98_1 rfl) rfl (zH rfl (zW sc4 rfl (zy4 0 rfl ((hT.nd x hx 1 _ rfl)))) rfl ?_))))); rw [hd]; refine zH rfl (qy rfl rfl) rfl ?_
   try simp only [Bool.not_true, Bool.not_false]
   refine zH rfl (zO rfl) rfl (zN (zI (qC rfl ?_))); refine zl ?_; refine zQ ?_; refine zI (zM (qD (fun w F s => qv 87 8 w F s) ?_)); refine zK (zH rfl (zO rfl) rfl (zN (zI (zM (zM ?_))))); refine zK (zH rfl (zL rfl) rfl (zH rfl (zU rfl) rfl (zH rfl (zP xP rfl) rfl (zH rfl (zW sc96 rfl (zy4 1 rfl ((hT.nd x hx 3 _ rfl)))) rfl (zH rfl (zw Tryz.underlying96 rfl) rfl ?_))))); refine zH rfl (zL rfl) rfl (zN (zI (qA ?_))); refine yQ 8 (fun m Δ LL => ∃ (i : Nat) (p7 : Option Addr) (c7 : Nat), (i + m = x.kids.length) ∧ Δ = [(7, .slice p7 (lsK t.ns (x.kids.take i)).length c7), (30, .int .i64 (i : Nat))] ∧ LL = [row 87 8 (.slice p7 (lsK t.ns (x.kids.take i)).length c7) (lsK t.ns (x.kids.take i)).length (flat Nm.cs (lsK t.ns (x.kids.take i))), V]) (m := x.kids.length) (zS (k := 28) rfl (zS (k := 29) rfl (zf _))) (qn ⟨0, none, 0, by omega, rfl, rfl⟩ (by repeat (first | exact zf _ | refine zS rfl ?_)) (by repeat (first | exact zf _ | refine zS rfl ?_)) (by repeat (first | exact zY _ | refine zJ 0 rfl ?_ | refine zJ 1 rfl ?_ | refine zJ 2 rfl ?_ | refine zJ 3 rfl ?_ | refine zJ 4 rfl ?_ | refine zJ 5 rfl ?_ | refine zJ 6 rfl ?_ | refine zJ 7 rfl ?_ | refine SubH.rown ?_))) ?_; rintro m Δ LL ⟨i, p7, c7, hm, rfl, rfl⟩; simp only [zA, zB]; refine zM (zK (zH rfl (yP rfl rfl rfl) rfl (zN (zI (zM ?_))))); refine zq rfl (fun hc31 => ?_) (fun hc31 => ?_)
   ·replace hc31 := zy2 hc31
    have hi : i < x.kids.length := by omega
    have hll : (lsK t.ns (x.kids.take i)).length = i := by simp [lsK]; omega
    obtain ⟨y, hy, hyb, hyp⟩ := hW.kd.sub x hx x.kids[i] (List.getElem_mem hi)
    have hyl := hl y hy
    have hfew := hW.kd.few x hx
    have hxk := hT.kids x hx
    refine yN (fun w F s => vw_ptr (zy5 (H := [_, V]) 1 rfl hxk) s (by omega)) ?_; rintro ⟨b1, o1, hkp⟩; rw [hkp] at hxk; refine zl ?_; refine zI (zM (qA ?_)); refine zM (zK ?_); rw [hkp]; refine zH rfl (qO sl96 rfl rfl rfl (by omega)) rfl (zH rfl (zW sc92 rfl (zy4 1 rfl (Rd.elem (j := 0) (ym hxk) Pq.len (List.getElem?_eq_getElem hi) rfl))) rfl ?_); rw [← hyb]; refine zH rfl (zO rfl) rfl (zN (zI (qZ 10 (by kernel_rfl) (zR _) ?_))); refine zRO (i := 0) (by kernel_rfl) rfl rfl (zL rfl) rfl (zRO (i := 1) (by kernel_rfl) rfl rfl (zL rfl) rfl (zRO (i := 2) (by kernel_rfl) rfl rfl (zU rfl) rfl (zRO (i := 3) (by kernel_rfl) rfl rfl (zP fa98_2 rfl) rfl (zRO (i := 5) (by kernel_rfl) rfl rfl (zL rfl) rfl (any_two (i := 4) (j := 6) (by kernel_rfl) ?_ ?_)))))
    ·refine at_eff' rfl rfl (xG (zW sc9 rfl (zy4 1 rfl ((hT.nd y hy 2 _ rfl))))) rfl ?_; rintro _ _ ⟨rfl, rfl⟩; refine yb (i := 6) (by kernel_rfl) rfl rfl (zy (Pre := []) Tryz.call45 rfl rfl (zR _) (told_spec (Tv.pick 1 rfl hT) y hy (by omega))) rfl ?_; rintro _ _ ⟨rfl, rfl⟩; simp only [zA, zB]; refine zRO (i := 7) (by kernel_rfl) rfl rfl (qY rfl (qK (cs := Nm.cs ⟨y.name, y.told⟩) st87 rfl)) rfl (qM (i := 8) (by kernel_rfl) rfl rfl (eff_lit sl26 rfl (sbld (cs := flat Nm.cs [⟨y.name, y.told⟩]) [(.string ByteArray.empty), (.int .u32 0), (.int .u64 0), (.int .u32 0), (.int .u32 0), (.int .u32 0), (.int .u32 0), (.int .u32 0)] sl26 (by decide) (by kernel_rfl) rfl) rfl (by decide)) rfl ?_); rintro _ _ ⟨b42, rfl, rfl⟩; refine qM (i := 9) (by kernel_rfl) rfl rfl (eff_appF (f := Nm.cs) (l2 := [⟨y.name, y.told⟩]) 1 sl26 (.inl ⟨87, Tryz.underlying26⟩) rfl rfl rfl (Src.flatv Nm.len Nm.one (zy5 0 rfl Vw.row)) (by simp only [List.length_cons, List.length_nil]; omega) (by simp only [List.length_cons, List.length_nil]; omega)) rfl ?_; rintro _ _ ⟨p43, c43, rfl, hn43, rfl⟩; simp only [zE, zF]; rw [← lsK_snoc hW.kd.blks hy hi hyb]; refine qR (m' := 11) (L' := []) (by kernel_rfl) qx ?_; simp only [zA, zB, List.append_nil]; refine zRO (i := 10) (by kernel_rfl) rfl rfl (zO rfl) rfl (qT (by kernel_rfl) ?_); refine zQ ?_; refine zI (zK (zH rfl (ql rfl rfl (qo (by omega))) rfl (zH rfl (zL rfl) rfl (zN (zI ?_))))); refine back (m - 1) (by omega) (qn ⟨i + 1, p43, c43, by omega, rfl, rfl⟩ ?_ ?_ ?_)
     ·exact (by repeat (first | exact zf _ | refine zS rfl ?_))
     ·exact (by repeat (first | exact zf _ | refine zS rfl ?_))
     ·exact (zJ 1 rfl (zJ 1 rfl (zY _)))
    ·refine at_callL' rfl rfl (zy (Pre := []) Tryz.call45 rfl rfl (zR _) (told_spec (Tv.pick 1 rfl hT) y hy (by omega))) rfl ?_; rintro _ _ ⟨rfl, rfl⟩; simp only [zA, zB]; refine qM (i := 4) (by kernel_rfl) rfl rfl (xG (zW sc9 rfl (zy4 1 rfl ((hT.nd y hy 2 _ rfl))))) rfl ?_; rintro _ _ ⟨rfl, rfl⟩; refine zRO (i := 7) (by kernel_rfl) rfl rfl (qY rfl (qK (cs := Nm.cs ⟨y.name, y.told⟩) st87 rfl)) rfl (qM (i := 8) (by kernel_rfl) rfl rfl (eff_lit sl26 rfl (sbld (cs := flat Nm.cs [⟨y.name, y.told⟩]) [(.string ByteArray.empty), (.int .u32 0), (.int .u64 0), (.int .u32 0), (.int .u32 0), (.int .u32 0), (.int .u32 0), (.int .u32 0)] sl26 (by decide) (by kernel_rfl) rfl) rfl (by decide)) rfl ?_); rintro _ _ ⟨b42, rfl, rfl⟩; refine qM (i := 9) (by kernel_rfl) rfl rfl (eff_appF (f := Nm.cs) (l2 := [⟨y.name, y.told⟩]) 1 sl26 (.inl ⟨87, Tryz.underlying26⟩) rfl rfl rfl (Src.flatv Nm.len Nm.one (zy5 0 rfl Vw.row)) (by simp only [List.length_cons, List.length_nil]; omega) (by simp only [List.length_cons, List.length_nil]; omega)) rfl ?_; rintro _ _ ⟨p43, c43, rfl, hn43, rfl⟩; simp only [zE, zF]; rw [← lsK_snoc hW.kd.blks hy hi hyb]; refine qR (m' := 11) (L' := []) (by kernel_rfl) qx ?_; simp only [zA, zB, List.append_nil]; refine zRO (i := 10) (by kernel_rfl) rfl rfl (zO rfl) rfl (qT (by kernel_rfl) ?_); refine zQ ?_; refine zI (zK (zH rfl (ql rfl rfl (qo (by omega))) rfl (zH rfl (zL rfl) rfl (zN (zI ?_))))); refine back (m - 1) (by omega) (qn ⟨i + 1, p43, c43, by omega, rfl, rfl⟩ ?_ ?_ ?_)
     ·exact (by repeat (first | exact zf _ | refine zS rfl ?_))
     ·exact (by repeat (first | exact zf _ | refine zS rfl ?_))
     ·exact (zJ 1 rfl (zJ 1 rfl (zY _)))
   ·replace hc31 := zy3 hc31
    refine yJ ?_; refine qV ?_; refine qV ?_; refine qe ?_; refine zI (zM (zK (zH rfl (zL rfl) rfl (zH rfl (zO rfl) rfl (zH rfl (zO rfl) rfl ?_))))); refine zN (zI (zi ?_)); rw [show x.kids.take i = x.kids from List.take_of_length_le (by omega)]; refine' zX (res2 rfl rfl rfl) ?_ ?_
    rotate_left 1
    exact ⟨_, ⟨p7, c7, rfl, rfl⟩, rfl⟩
    exact zj _
  ·dsimp only; rw [if_neg hd]
   replace hd : x.dir = false := by simpa using hd
   refine zt Tryz.func21 rfl Tryz.ntmps21 (by simp) ?_; refine zM (zK (zH rfl (zO rfl) rfl (zH rfl (zO rfl) rfl (zN (zI ?_))))); refine zM (zK (zH rfl (zL rfl) rfl (zH rfl (zU rfl) rfl (zH rfl (zP fa95_1 rfl) rfl (zH rfl (zW sc93 rfl (zy4 0 rfl ((hT.cs 1 _ rfl)))) rfl ?_))))); refine zH rfl (zL rfl) rfl (zH rfl (xB Tryz.underlying93 Tryz.underlying3 z92 rfl rfl (Mp.pick 0 rfl hT.mp)) rfl ?_); rw [xT, hb]; dsimp only [ptrO, Option.map]; refine zH rfl (zO rfl) rfl (zN (zI (zM (qA ?_)))); refine zM (zK (zH rfl (zL rfl) rfl (zH rfl (qI Tryz.underlying92 rfl rfl rfl) rfl (zH rfl (zO rfl) rfl (zN ?_))))); refine zI (qC rfl ?_); refine zM (zK (zH rfl (zL rfl) rfl (zH rfl (zU rfl) rfl (zH rfl (zP fa98_1 rfl) rfl (zH rfl (zW sc4 rfl (zy4 0 rfl ((hT.nd x hx 1 _ rfl)))) rfl ?_))))); rw [hd]; refine zH rfl (qy rfl rfl) rfl ?_
   try simp only [Bool.not_true, Bool.not_false]
   refine zH rfl (zO rfl) rfl (zN (zI (qG rfl ?_))); refine zM (qD (fun w F s => qv 87 8 w F s) ?_); refine zK (zH rfl (zO rfl) rfl (zH rfl (zO rfl) rfl (zN (zI (zi ?_))))); refine zn ?_; refine zh ?_; refine' zX (res2 rfl rfl rfl) ?_ ?_
   rotate_left 1
   exact ⟨_, ⟨none, 0, rfl, rfl⟩, rfl⟩
   exact zj _
theorem less_cmp : ∀ a b : List UInt8, Op.bytesLess a b = decide (cmp a b < 0)
 | _, [] => by cases ‹List UInt8› <;> rfl
 | [], _ :: _ => rfl
 | x :: a, y :: b => by
  show (decide (x < y) || (x == y && Op.bytesLess a b)) = decide ((if x < y then (-1 : Int) else if y < x then 1 else Lib.compareBytes a b) < 0)
  by_cases h1 : x < y
  ·rw [if_pos h1, decide_eq_true h1]; rfl
  ·rw [if_neg h1, decide_eq_false h1, Bool.false_or]
   by_cases h2 : y < x
   ·rw [if_pos h2]
    have h3 : (x == y) = false := by
     have h4 : x ≠ y := fun e => by rw [e, u8_lt] at h2; omega
     simpa using h4
    rw [h3]; rfl
   ·rw [if_neg h2]; have h3 : x = y := by rw [u8_lt] at h1 h2; exact UInt8.toNat_inj.1 (by omega)
    rw [h3, less_cmp a b]; simp
section
variable {P : Program} {n : Nat} {L : HProp} {Γ : Env} {d : Option Tmp} {ty : TypeId} {pos : String} {aft : Array Edge} {g : Option (Nat × Bool)}
theorem less_str (a b : List UInt8) : Op.bytesLess (str a).toList (str b).toList = decide (cmp a b < 0) := by
 rw [ByteArray.toList_eq, ByteArray.toList_eq]; exact less_cmp a b
theorem ro_geqS {t ty' : TypeId} {x y : Operand} {a b : List UInt8} {c : Bool} (hx : ev Γ x = some (.string (str a))) (hy : ev Γ y = some (.string (str b))) (hz : (!decide (cmp a b < 0)) = c) :
 RO P n L Γ ⟨d, .binOp .geq t x y ty', ty, pos, aft, g⟩ (.bool c) := fun e w R f s => by
 have h : (!Op.bytesLess (str a).toList (str b).toList) = c := by rw [less_str]; exact hz
 simp [execOp, f.ev hx, f.ev hy, eqGuard_str, binOp, Op.stringOp, h]
end
theorem nodup_of_map {f : Nd → Nat} : ∀ {l : List Nd}, (l.map f).Nodup → l.Nodup
 | [], _ => List.nodup_nil
 | x :: l, h => by
  rw [List.map_cons, List.nodup_cons] at h; exact List.nodup_cons.2 ⟨fun hx => h.1 (List.mem_map.2 ⟨x, hx, rfl⟩), nodup_of_map h.2⟩
/-- what a thing holds -/
def kidsN (ns : List Nd) (x : Nd) : List Nd := x.kids.filterMap fun k => ns.find? fun y => decide (y.blk = k)
theorem yY {ns : List Nd} (h : Kd ns) (hid : (ns.map Nd.id).Nodup) {x y : Nd} (hx : x ∈ ns) : y ∈ kidsN ns x ↔ y ∈ ns ∧ y.par = x.id := by
 unfold kidsN; rw [List.mem_filterMap]
 constructor
 ·rintro ⟨k, hk, hy⟩; obtain ⟨z, h1, h2, h3⟩ := h.sub x hx k hk
  rw [← h2, yK h.blks h1] at hy
  injection hy with hy; subst hy; exact ⟨h1, h3⟩
 ·rintro ⟨h1, h2⟩; exact ⟨y.blk, h.all x hx y h1 h2, yK h.blks h1⟩
theorem kidsN_cons {ns : List Nd} (h : Kd ns) {k : Nat} {l : List Nat} {y : Nd} (hy : y ∈ ns) (e : y.blk = k) : (k :: l).filterMap (fun k => ns.find? fun y => decide (y.blk = k)) = y :: l.filterMap (fun k => ns.find? fun y => decide (y.blk = k)) := by
 rw [List.filterMap_cons, ← e, yK h.blks hy]
theorem kidsN_map {ns : List Nd} (h : Kd ns) : ∀ {l : List Nat}, (∀ k ∈ l, ∃ y ∈ ns, y.blk = k) → (l.filterMap fun k => ns.find? fun y => decide (y.blk = k)).map Nd.blk = l
 | [], _ => rfl
 | k :: l, hl => by
  obtain ⟨y, hy, e⟩ := hl k (by simp)
  rw [kidsN_cons h hy e, List.map_cons, kidsN_map h fun k hk => hl k (by simp [hk]), e]
theorem kidsN_blk {ns : List Nd} (h : Kd ns) {x : Nd} (hx : x ∈ ns) : (kidsN ns x).map Nd.blk = x.kids := kidsN_map h fun k hk => by
 obtain ⟨y, h1, h2, _⟩ := h.sub x hx k hk; exact ⟨y, h1, h2⟩
theorem kidsN_len {ns : List Nd} (h : Kd ns) {x : Nd} (hx : x ∈ ns) : (kidsN ns x).length = x.kids.length := by rw [← kidsN_blk h hx, List.length_map]
theorem kidsN_nodup {ns : List Nd} (h : Kd ns) {x : Nd} (hx : x ∈ ns) : (kidsN ns x).Nodup := by
 have h1 := kids_nodup h hx
 rw [← kidsN_blk h hx] at h1; exact nodup_of_map h1
theorem kidsN_at {ns : List Nd} (h : Kd ns) {x : Nd} (hx : x ∈ ns) {i : Nat} (hi : i < x.kids.length) : ∃ y ∈ ns, y.blk = x.kids[i] ∧ y.par = x.id ∧ (kidsN ns x)[i]? = some y := by
 obtain ⟨y, h1, h2, h3⟩ := h.sub x hx x.kids[i] (List.getElem_mem hi)
 refine ⟨y, h1, h2, h3, ?_⟩; have hl := kidsN_len h hx
 have hi2 : i < (kidsN ns x).length := by omega
 rw [List.getElem?_eq_getElem hi2]; have e1 : ((kidsN ns x).map Nd.blk)[i]? = some x.kids[i] := by rw [kidsN_blk h hx, List.getElem?_eq_getElem hi]
 rw [List.getElem?_map, List.getElem?_eq_getElem hi2] at e1
 injection e1 with e1
 have hm : (kidsN ns x)[i] ∈ ns := by
  have h4 := List.getElem_mem hi2
  obtain ⟨k, _, h5⟩ := List.mem_filterMap.1 h4
  exact List.mem_of_find?_eq_some h5
 rw [xA h.blks hm h1 (by rw [e1, h2])]
/-- the sum yE a thing and what is below it -/
def tot (ns : List Nd) (w : Nd → Nat) : Nat → Nd → Nat
 | 0, x => w x
 | n + 1, x => w x + ((kidsN ns x).map (tot ns w n)).sum
def levs (ns : List Nd) : Nat → List Nd → List Nd
 | 0, l => l
 | n + 1, l => l ++ levs ns n (l.flatMap (kidsN ns))
theorem sum_flat (w : Nd → Nat) (f : Nd → List Nd) : ∀ l : List Nd, ((l.flatMap f).map w).sum = (l.map fun x => ((f x).map w).sum).sum
 | [] => rfl
 | x :: l => by rw [List.flatMap_cons, List.map_append, List.sum_append, sum_flat w f l]; rfl
theorem sum_add (f g : Nd → Nat) : ∀ l : List Nd, (l.map fun x => f x + g x).sum = (l.map f).sum + (l.map g).sum
 | [] => rfl
 | x :: l => by simp only [List.map_cons, List.sum_cons]; rw [sum_add f g l]; omega
theorem tot_levs (ns : List Nd) (w : Nd → Nat) : ∀ (n : Nat) (l : List Nd), (l.map (tot ns w n)).sum = ((levs ns n l).map w).sum
 | 0, l => rfl
 | n + 1, l => by
  show (l.map fun x => w x + ((kidsN ns x).map (tot ns w n)).sum).sum = ((l ++ levs ns n (l.flatMap (kidsN ns))).map w).sum
  rw [List.map_append, List.sum_append, sum_add, ← tot_levs ns w n, sum_flat]
/-- how deep things stand: no deeper than 5 -/
structure Dp (ns : List Nd) (d : Nat → Nat) : Prop where
 up : ∀ x ∈ ns, ∀ y ∈ ns, y.par = (x.id : Int) → d y.id = d x.id + 1
 z : d 0 = 0
 le : ∀ x ∈ ns, d x.id ≤ 5
theorem lev_flat_nodup {t : Tr} {r : Nd} (hW : Wf t r) {j : Nat} {d : Nat → Nat} (hD : ∀ x ∈ t.ns, ∀ y ∈ t.ns, y.par = (x.id : Int) → d y.id = d x.id + 1) : ∀ {l : List Nd}, l.Nodup → (∀ x ∈ l, x ∈ t.ns ∧ d x.id = j) → (l.flatMap (kidsN t.ns)).Nodup ∧ ∀ x ∈ l.flatMap (kidsN t.ns), x ∈ t.ns ∧ d x.id = j + 1
 | [], _, _ => ⟨List.nodup_nil, fun x hx => by cases hx⟩
 | a :: l, h, hl => by
  rw [List.nodup_cons] at h; obtain ⟨i1, i2⟩ := lev_flat_nodup hW hD h.2 fun x hx => hl x (by simp [hx])
  obtain ⟨ha, hda⟩ := hl a (by simp)
  rw [List.flatMap_cons]; refine ⟨List.nodup_append.2 ⟨kidsN_nodup hW.kd ha, i1, fun x hx y hy e => ?_⟩, fun x hx => ?_⟩
  ·subst e; obtain ⟨z, hz, hxz⟩ := List.mem_flatMap.1 hy
   have h1 := ((yY hW.kd hW.ids ha).1 hx).2
   have hzn := (hl z (by simp [hz])).1
   have h2 := ((yY hW.kd hW.ids hzn).1 hxz).2
   have h3 : a = z := nmId hW.ids ha hzn (by omega)
   exact h.1 (by rw [h3]; exact hz)
  ·rcases List.mem_append.1 hx with hx | hx
   ·obtain ⟨h1, h2⟩ := (yY hW.kd hW.ids ha).1 hx
    exact ⟨h1, by rw [hD a ha x h1 h2, hda]⟩
   ·exact i2 x hx
theorem levs_nodup {t : Tr} {r : Nd} (hW : Wf t r) {d : Nat → Nat} (hD : ∀ x ∈ t.ns, ∀ y ∈ t.ns, y.par = (x.id : Int) → d y.id = d x.id + 1) : ∀ (n j : Nat) {l : List Nd}, l.Nodup → (∀ x ∈ l, x ∈ t.ns ∧ d x.id = j) → (levs t.ns n l).Nodup ∧ ∀ x ∈ levs t.ns n l, x ∈ t.ns ∧ j ≤ d x.id
 | 0, j, l, h, hl => ⟨h, fun x hx => ⟨(hl x hx).1, Nat.le_of_eq (hl x hx).2.symm⟩⟩
 | n + 1, j, l, h, hl => by
  obtain ⟨h1, h2⟩ := lev_flat_nodup hW hD h hl
  obtain ⟨h3, h4⟩ := levs_nodup hW hD n (j + 1) h1 h2
  refine ⟨List.nodup_append.2 ⟨h, h3, fun x hx y hy e => ?_⟩, fun x hx => ?_⟩
  ·have := (hl x hx).2
   have := (h4 y hy).2
   rw [← e] at this; omega
  ·rcases List.mem_append.1 hx with hx | hx
   ·exact ⟨(hl x hx).1, Nat.le_of_eq (hl x hx).2.symm⟩
   ·exact ⟨(h4 x hx).1, by have := (h4 x hx).2; omega⟩
theorem sum_sub (w : Nd → Nat) : ∀ {l m : List Nd}, l.Nodup → (∀ x ∈ l, x ∈ m) → (l.map w).sum ≤ (m.map w).sum
 | [], _, _, _ => Nat.zero_le _
 | x :: l, m, h, hs => by
  rw [List.nodup_cons] at h; obtain ⟨a, b, rfl⟩ := List.append_of_mem (hs x (by simp))
  have h1 := sum_sub w (m := a ++ b) h.2 fun y hy => by
   have h2 := hs y (by simp [hy])
   rcases List.mem_append.1 h2 with h2 | h2
   ·exact List.mem_append_left _ h2
   ·rcases List.mem_cons.1 h2 with h2 | h2
    ·rw [h2] at hy; exact absurd hy h.1
    ·exact List.mem_append_right _ h2
  simp only [List.map_cons, List.sum_cons, List.map_append, List.sum_append] at h1 ⊢; omega
theorem tot_le {t : Tr} {r : Nd} (hW : Wf t r) {d : Nat → Nat} (hD : ∀ x ∈ t.ns, ∀ y ∈ t.ns, y.par = (x.id : Int) → d y.id = d x.id + 1) (w : Nd → Nat) (n : Nat) {x : Nd} (hx : x ∈ t.ns) : tot t.ns w n x ≤ (t.ns.map w).sum := by
 have h1 := tot_levs t.ns w n [x]
 rw [List.map_cons, List.map_nil, List.sum_cons, List.sum_nil, Nat.add_zero] at h1; have h2 := levs_nodup hW hD n (d x.id) (l := [x]) (by simp) fun y hy => by rw [List.mem_singleton.1 hy]; exact ⟨hx, rfl⟩
 rw [h1]; exact sum_sub w h2.1 fun y hy => (h2.2 y hy).1
theorem sum_one (l : List Nd) : (l.map fun _ => 1).sum = l.length := by
 induction l with
 | nil => rfl
 | cons x l ih => simp only [List.map_cons, List.sum_cons, List.length_cons]; rw [ih]; omega
theorem wf_dl {t : Tr} {r : Nd} (h : Wf t r) : ∀ x ∈ t.ns, x.data.length ≤ 1048576 := fun x hx => by
 have h1 := sum_in hx
 rw [← h.sum] at h1; have := h.max
 omega
theorem fnd_snoc {ns : List Nd} {s : List UInt8} : ∀ {p : List (List UInt8)} {r x : Nd}, fnd ns r p = some x → fnd ns r (p ++ [s]) = kid ns x.id s
 | [], r, x, h => by
  injection h with h; subst h
  show (match kid ns r.id s with | some y => fnd ns y [] | none => none) = _
  cases kid ns r.id s <;> rfl
 | a :: p, r, x, h => by
  unfold fnd at h; rw [List.cons_append]
  show (match kid ns r.id a with | some y => fnd ns y (p ++ [s]) | none => none) = _
  cases hk : kid ns r.id a with
  | none => rw [hk] at h; cases h
  | some y => rw [hk] at h; exact fnd_snoc h
theorem byId_of {ns : List Nd} (h : (ns.map Nd.id).Nodup) {x : Nd} (hx : x ∈ ns) : byId ns (x.id : Int) = some x := by
 have h1 := yK h hx
 unfold byId; rw [← h1]; congr 1
 funext y
 exact decide_eq_decide.2 (by omega)
theorem kid_of {ns : List Nd} (h : Kd ns) {x y : Nd} (hx : x ∈ ns) (hy : y ∈ ns) (hp : y.par = x.id) : kid ns x.id y.name = some y := by
 cases hk : kid ns x.id y.name with
 | none => exact absurd rfl (kid_none hk hy hp)
 | some z =>
  obtain ⟨h1, h2, h3⟩ := xM hk
  have h4 := (kid_hit h hx hk).2
  obtain ⟨j, hj⟩ := List.mem_iff_getElem?.1 (h.all x hx y hy hp)
  obtain ⟨hlt, he⟩ := List.getElem?_eq_some_iff.1 hj
  have e1 : (x.kids.map (nmB ns))[j]? = some y.name := by rw [List.getElem?_map, hj]; show some (nmB ns y.blk) = _; rw [xU h.blks hy]
  obtain ⟨hlt2, he2⟩ := List.getElem?_eq_some_iff.1 e1
  have e2 : kpl ns x y.name = j := by
   have := plc_at (h.rise x hx) hlt2
   rw [he2] at this; exact this
  rw [e2, hj] at h4
  injection h4 with h4
  rw [xA h.blks hy h1 h4]
theorem kids_dir {t : Tr} {r : Nd} (hW : Wf t r) {x : Nd} (hx : x ∈ t.ns) (h : ¬ x.dir = true) : kidsN t.ns x = [] := by
 cases hk : kidsN t.ns x with
 | nil => rfl
 | cons y l =>
  have hy : y ∈ kidsN t.ns x := by rw [hk]; simp
  obtain ⟨h1, h2⟩ := (yY hW.kd hW.ids hx).1 hy
  rcases hW.par y h1 with h3 | ⟨z, hz, h3, h4⟩
  ·have e : y = r := nmId hW.ids h1 hW.root (by rw [h3, hW.rid])
   rw [e, hW.rpar] at h2; omega
  ·have e : z = x := nmId hW.ids hz hx (by omega)
   rw [e] at h4; exact absurd h4 h
def five (a : At) : List Nat := [a.u, a.g, a.m, a.a, a.t]
def enc4 (l : List Nat) : List UInt8 := l.flatMap fun n => be n 4
theorem enc4_len (l : List Nat) : (enc4 l).length = 4 * l.length := by
 induction l with
 | nil => rfl
 | cons x r ih => rw [enc4, List.flatMap_cons, List.length_append, qE]; unfold enc4 at ih; rw [ih, List.length_cons]; omega
theorem enc4_take (l : List Nat) {i : Nat} (hi : i < l.length) : enc4 (l.take (i + 1)) = enc4 (l.take i) ++ be l[i] 4 := by
 rw [List.take_succ_eq_append_getElem hi, enc4, List.flatMap_append, List.flatMap_cons, List.flatMap_nil, List.append_nil]; rfl
def hdr (x : Nd) : List UInt8 := be x.id 8 ++ [b8 (if x.dir then 1 else 0)] ++ enc4 (five x.a)
theorem hdr_len (x : Nd) : (hdr x).length = 29 := by
 simp only [hdr, List.length_append, qE, enc4_len]; rfl
/-- a thing, and what it holds, as bytes -/
def encN (ns : List Nd) : Nat → Nd → List UInt8
 | 0, _ => []
 | n + 1, x => hdr x ++ if x.dir = true then be x.kids.length 4 ++ (kidsN ns x).flatMap (fun y => be y.name.length 4 ++ y.name ++ encN ns n y) else be x.data.length 4 ++ x.data
/-- nothing below stands deeper than that -/
def Deep (ns : List Nd) : Nat → Nd → Prop
 | 0, _ => False
 | n + 1, x => ∀ y ∈ kidsN ns x, Deep ns n y
def kidB (ns : List Nd) (n : Nat) (y : Nd) : List UInt8 := be y.name.length 4 ++ y.name ++ encN ns n y
theorem encN_dir {ns : List Nd} {n : Nat} {x : Nd} (h : x.dir = true) : encN ns (n + 1) x = hdr x ++ be x.kids.length 4 ++ (kidsN ns x).flatMap (kidB ns n) := by
 show hdr x ++ (if x.dir = true then _ else _) = _
 rw [if_pos h, List.append_assoc]; rfl
theorem encN_file {ns : List Nd} {n : Nat} {x : Nd} (h : x.dir = false) : encN ns (n + 1) x = hdr x ++ be x.data.length 4 ++ x.data := by
 show hdr x ++ (if x.dir = true then _ else _) = _
 rw [if_neg (by rw [h]; decide), List.append_assoc]
theorem kidB_snoc {ns : List Nd} {n : Nat} {l : List Nd} {i : Nat} {y : Nd} (h : l[i]? = some y) : (l.take (i + 1)).flatMap (kidB ns n) = (l.take i).flatMap (kidB ns n) ++ kidB ns n y := by
 obtain ⟨hi, he⟩ := List.getElem?_eq_some_iff.1 h
 rw [List.take_succ_eq_append_getElem hi, List.flatMap_append, List.flatMap_cons, List.flatMap_nil, List.append_nil, he]
/-- the same, however deep it is looked at -/
theorem encN_same {ns : List Nd} : ∀ {n m : Nat} {x : Nd}, Deep ns n x → Deep ns m x → encN ns n x = encN ns m x
 | 0, _, _, h, _ => h.elim
 | _ + 1, 0, _, _, h => h.elim
 | n + 1, m + 1, x, h1, h2 => by
  show hdr x ++ (if x.dir = true then _ else _) = hdr x ++ (if x.dir = true then _ else _)
  congr 2
  congr 1
  have e : ∀ l : List Nd, (∀ y ∈ l, y ∈ kidsN ns x) → l.flatMap (fun y => be y.name.length 4 ++ y.name ++ encN ns n y) = l.flatMap (fun y => be y.name.length 4 ++ y.name ++ encN ns m y) := fun l => by
   induction l with
   | nil => intro _; rfl
   | cons y l ih =>
    intro hl; rw [List.flatMap_cons, List.flatMap_cons, ih fun z hz => hl z (by simp [hz]), encN_same (h1 y (hl y (by simp))) (h2 y (hl y (by simp)))]
  exact e _ fun y hy => hy
theorem deep_ex {t : Tr} {r : Nd} (hW : Wf t r) {d : Nat → Nat} (hD : ∀ x ∈ t.ns, ∀ y ∈ t.ns, y.par = (x.id : Int) → d y.id = d x.id + 1) {M : Nat} (hM : ∀ x ∈ t.ns, d x.id ≤ M) : ∀ (n : Nat) {x : Nd}, x ∈ t.ns → d x.id + n = M + 1 → Deep t.ns n x
 | 0, x, hx, h => by have := hM x hx; omega
 | n + 1, x, hx, h => fun y hy => by
  obtain ⟨h1, h2⟩ := (yY hW.kd hW.ids hx).1 hy
  have h3 := hD x hx y h1 h2
  exact deep_ex hW hD hM n h1 (by omega)
theorem max_ex (f : Nd → Nat) : ∀ l : List Nd, ∃ M, ∀ x ∈ l, f x ≤ M
 | [] => ⟨0, fun x hx => by cases hx⟩
 | a :: l => by
  obtain ⟨M, h⟩ := max_ex f l
  refine ⟨max (f a) M, fun x hx => ?_⟩
  rcases List.mem_cons.1 hx with hx | hx
  ·rw [hx]; omega
  ·have := h x hx; omega
theorem wf_deep {t : Tr} {r : Nd} (hW : Wf t r) {x : Nd} (hx : x ∈ t.ns) : ∃ n, Deep t.ns n x := by
 obtain ⟨d, hD⟩ := hW.rk
 obtain ⟨M, hM⟩ := max_ex (fun x => d x.id) t.ns
 exact ⟨M + 1 - d x.id, deep_ex hW hD hM _ hx (by have := hM x hx; omega)⟩
/-- how much a thing and its name take -/
def wgt (y : Nd) : Nat := 37 + (if y.id = 0 then 0 else y.name.length) + y.data.length
theorem sum_flat_len (f : Nd → List UInt8) : ∀ l : List Nd, (l.flatMap f).length = (l.map fun y => (f y).length).sum
 | [] => rfl
 | x :: l => by rw [List.flatMap_cons, List.length_append, sum_flat_len f l]; rfl
theorem sum_mono {f g : Nd → Nat} : ∀ {l : List Nd}, (∀ y ∈ l, f y ≤ g y) → (l.map f).sum ≤ (l.map g).sum
 | [], _ => Nat.le_refl _
 | x :: l, h => by
  have h1 := h x (by simp)
  have h2 := sum_mono (l := l) fun y hy => h y (by simp [hy])
  simp only [List.map_cons, List.sum_cons]; omega
theorem kid_not_root {t : Tr} {r : Nd} (hW : Wf t r) {x y : Nd} (hx : x ∈ t.ns) (hy : y ∈ kidsN t.ns x) : y.id ≠ 0 := fun e => by
 obtain ⟨h1, h2⟩ := (yY hW.kd hW.ids hx).1 hy
 have e2 : y = r := nmId hW.ids h1 hW.root (by rw [e, hW.rid])
 rw [e2, hW.rpar] at h2; omega
theorem enc_len {t : Tr} {r : Nd} (hW : Wf t r) : ∀ (n : Nat) {x : Nd}, x ∈ t.ns → 4 + (if x.id = 0 then 0 else x.name.length) + (encN t.ns n x).length ≤ tot t.ns wgt n x
 | 0, x, hx => by show _ + 0 ≤ wgt x; unfold wgt; omega
 | n + 1, x, hx => by
  have h1 := hdr_len x
  have ht : tot t.ns wgt (n + 1) x = wgt x + ((kidsN t.ns x).map (tot t.ns wgt n)).sum := rfl
  have hw : wgt x = 37 + (if x.id = 0 then 0 else x.name.length) + x.data.length := rfl
  rw [ht]
  by_cases hd : x.dir = true
  ·rw [encN_dir hd]
   have h2 : ((kidsN t.ns x).flatMap (kidB t.ns n)).length ≤ ((kidsN t.ns x).map (tot t.ns wgt n)).sum := by
    rw [sum_flat_len]; refine sum_mono fun y hy => ?_
    have h3 := enc_len hW n ((yY hW.kd hW.ids hx).1 hy).1
    rw [if_neg (kid_not_root hW hx hy)] at h3; simp only [kidB, List.length_append, qE]; omega
   simp only [List.length_append, qE]; omega
  ·rw [encN_file (by simpa using hd)]; simp only [List.length_append, qE]; omega
theorem ptOk_len {s : List UInt8} (h : ptOk s = true) : s.length ≤ 30 := by
 unfold ptOk at h; simp only [Bool.and_eq_true, decide_eq_true_eq] at h; omega
theorem wgt_sum : ∀ {l : List Nd}, (∀ x ∈ l, x.id = 0 ∨ ptOk x.name = true) → (l.map wgt).sum ≤ 67 * l.length + (l.map fun y => y.data.length).sum
 | [], _ => Nat.zero_le _
 | x :: l, h => by
  have h1 := wgt_sum (l := l) fun y hy => h y (by simp [hy])
  simp only [List.map_cons, List.sum_cons, List.length_cons]
  have h2 : wgt x ≤ 67 + x.data.length := by
   unfold wgt
   rcases h x (by simp) with h3 | h3
   ·rw [if_pos h3]; omega
   ·have := ptOk_len h3
    split <;> omega
  omega
theorem enc_max {t : Tr} {r : Nd} (hW : Wf t r) (n : Nat) {x : Nd} (hx : x ∈ t.ns) : (encN t.ns n x).length ≤ 1100000 := by
 obtain ⟨d, hD⟩ := hW.rk
 have h1 := enc_len hW n hx
 have h2 := tot_le hW hD wgt n hx
 have h3 := wgt_sum hW.nm
 rw [← hW.sum] at h3; have h4 := hW.max
 have h5 := hW.few
 omega
/-- the bytes that are saved -/
structure SaveR (t : Tr) (r : Nd) (b : List UInt8) : Prop where
 ex : ∃ n, Deep t.ns n r ∧ b = be t.next 8 ++ encN t.ns n r
theorem SaveR.same {t : Tr} {r : Nd} {a b : List UInt8} (h1 : SaveR t r a) (h2 : SaveR t r b) : a = b := by
 obtain ⟨n, h3, rfl⟩ := h1.ex
 obtain ⟨m, h4, rfl⟩ := h2.ex
 rw [encN_same h3 h4]
theorem nmB_map {ns : List Nd} (hK : (ns.map Nd.blk).Nodup) {g : Nd → Nd} (hb : ∀ u, (g u).blk = u.blk) {v : Nd} (hv : v ∈ ns) : nmB (ns.map g) v.blk = (g v).name := by
 have h1 : ((ns.map g).map Nd.blk).Nodup := by
  rw [List.map_map, show (Nd.blk ∘ g) = Nd.blk from funext hb]; exact hK
 have h2 := xU h1 (List.mem_map.2 ⟨v, hv, rfl⟩)
 rw [hb] at h2; exact h2
theorem kd_map {ns : List Nd} (hK : Kd ns) {g : Nd → Nd} (hb : ∀ u, (g u).blk = u.blk) (hi : ∀ u, (g u).id = u.id)
 (sub : ∀ u ∈ ns, ∀ k ∈ (g u).kids, ∃ v ∈ ns, v.blk = k ∧ (g v).par = u.id) (all : ∀ u ∈ ns, ∀ v ∈ ns, (g v).par = u.id → v.blk ∈ (g u).kids)
 (rise : ∀ u ∈ ns, Rise ((g u).kids.map (nmB (ns.map g)))) (few : ∀ u ∈ ns, (g u).kids.length ≤ 100000) : Kd (ns.map g) := by
 refine ⟨?_, fun z hz k hk => ?_, fun z hz u hu hp => ?_, fun z hz => ?_, fun z hz => ?_⟩
 ·rw [List.map_map, show (Nd.blk ∘ g) = Nd.blk from funext hb]; exact hK.blks
 ·obtain ⟨u, hu, rfl⟩ := List.mem_map.1 hz
  obtain ⟨v, h1, h2, h3⟩ := sub u hu k hk
  exact ⟨g v, List.mem_map.2 ⟨v, h1, rfl⟩, by rw [hb]; exact h2, by rw [hi]; exact h3⟩
 ·obtain ⟨w, hw, rfl⟩ := List.mem_map.1 hz
  obtain ⟨v, hv, rfl⟩ := List.mem_map.1 hu
  rw [hb]; rw [hi] at hp
  exact all w hw v hv hp
 ·obtain ⟨u, hu, rfl⟩ := List.mem_map.1 hz
  exact rise u hu
 ·obtain ⟨u, hu, rfl⟩ := List.mem_map.1 hz
  exact few u hu
/-- y holds what stands at k no more -/
def cutF (kp : Option Addr) (kc k : Nat) (y : Nd) : Nd := { y with kp := kp, kc := kc, kids := y.kids.eraseIdx k }
/-- it stands nowhere -/
def outF (s : List UInt8) (y : Nd) : Nd := { y with par := -2, name := s }
def cutG (x y : Nd) (kp : Option Addr) (kc k : Nat) (s : List UInt8) (u : Nd) : Nd := if u.blk = x.blk then outF s u else if u.blk = y.blk then cutF kp kc k u else u
theorem yl (x y : Nd) (kp : Option Addr) (kc k : Nat) (s : List UInt8) (u : Nd) : (cutG x y kp kc k s u).blk = u.blk ∧ (cutG x y kp kc k s u).id = u.id ∧ (cutG x y kp kc k s u).dir = u.dir ∧ (cutG x y kp kc k s u).data = u.data ∧ (cutG x y kp kc k s u).a = u.a := by
 unfold cutG; split
 ·exact ⟨rfl, rfl, rfl, rfl, rfl⟩
 ·split <;> exact ⟨rfl, rfl, rfl, rfl, rfl⟩
theorem cutG_x {x y : Nd} {kp : Option Addr} {kc k : Nat} {s : List UInt8} : cutG x y kp kc k s x = outF s x := by unfold cutG; rw [if_pos rfl]
theorem cutG_no {x y u : Nd} (h : u.blk ≠ x.blk) {kp : Option Addr} {kc k : Nat} {s : List UInt8} : (cutG x y kp kc k s u).par = u.par ∧ (cutG x y kp kc k s u).name = u.name := by
 unfold cutG; rw [if_neg h]; split <;> exact ⟨rfl, rfl⟩
theorem cutG_kids {x y u : Nd} {kp : Option Addr} {kc k : Nat} {s : List UInt8} (hxy : x.blk ≠ y.blk) : (cutG x y kp kc k s u).kids = if u.blk = y.blk then u.kids.eraseIdx k else u.kids := by
 unfold cutG
 by_cases h : u.blk = x.blk
 ·rw [if_pos h, if_neg (by rw [h]; exact hxy)]; rfl
 ·rw [if_neg h]; split <;> rfl
/-- both as one -/
theorem cutG_ns (x y : Nd) (hxy : x.blk ≠ y.blk) (kp : Option Addr) (kc k : Nat) (s : List UInt8) (ns : List Nd) : turnB x.blk (outF s) (turnB y.blk (cutF kp kc k) ns) = ns.map (cutG x y kp kc k s) := by
 unfold turnB; rw [List.map_map]; refine List.map_congr_left fun u _ => ?_
 show (if (if u.blk = y.blk then cutF kp kc k u else u).blk = x.blk then outF s (if u.blk = y.blk then cutF kp kc k u else u) else (if u.blk = y.blk then cutF kp kc k u else u)) = cutG x y kp kc k s u
 unfold cutG
 by_cases h : u.blk = x.blk
 ·have h2 : ¬ u.blk = y.blk := by rw [h]; exact hxy
  rw [if_neg h2, if_pos h]
 ·rw [if_neg h]
  by_cases h2 : u.blk = y.blk
  ·rw [if_pos h2, if_neg (show ¬ (cutF kp kc k u).blk = x.blk from h)]
  ·rw [if_neg h2, if_neg h]
theorem mem_erase {l : List Nat} (h : l.Nodup) {k b : Nat} (hk : l[k]? = some b) {j : Nat} : j ∈ l.eraseIdx k ↔ j ∈ l ∧ j ≠ b := by
 obtain ⟨hlt, he⟩ := List.getElem?_eq_some_iff.1 hk
 have e : l = l.take k ++ b :: l.drop (k + 1) := by
  rw [← he, List.getElem_cons_drop, List.take_append_drop]
 rw [List.eraseIdx_eq_take_drop_succ]; rw [e] at h; rw [List.nodup_append, List.nodup_cons] at h
 conv => rhs; rw [e]
 constructor
 ·intro hj
  rcases List.mem_append.1 hj with hj | hj
  ·exact ⟨List.mem_append_left _ hj, fun e => h.2.2 j hj b (by simp) e⟩
  ·exact ⟨List.mem_append_right _ (by simp [hj]), fun e => h.2.1.1 (by rw [← e]; exact hj)⟩
 ·rintro ⟨hj, hn⟩
  rcases List.mem_append.1 hj with hj | hj
  ·exact List.mem_append_left _ hj
  ·rcases List.mem_cons.1 hj with hj | hj
   ·exact absurd hj hn
   ·exact List.mem_append_right _ hj
theorem kd_cut {ns : List Nd} (hK : Kd ns) (hid : (ns.map Nd.id).Nodup) {x y : Nd} (hx : x ∈ ns) (hy : y ∈ ns) (hp : x.par = y.id) (hxy : x.blk ≠ y.blk) {k : Nat} (hk : y.kids[k]? = some x.blk) (kp : Option Addr) (kc : Nat) (s : List UInt8) : Kd (ns.map (cutG x y kp kc k s)) := by
 have xof : ∀ u ∈ ns, u.blk = x.blk → u = x := fun u hu e => xA hK.blks hu hx e
 have yof : ∀ u ∈ ns, u.blk = y.blk → u = y := fun u hu e => xA hK.blks hu hy e
 have hyn := kids_nodup hK hy
 have kidx : ∀ u ∈ ns, ∀ j ∈ (cutG x y kp kc k s u).kids, ∃ v ∈ ns, v.blk = j ∧ v.par = u.id ∧ v.blk ≠ x.blk := fun u hu j hj => by
  rw [cutG_kids hxy] at hj
  by_cases e : u.blk = y.blk
  ·rw [if_pos e] at hj; obtain rfl := yof u hu e
   obtain ⟨h1, h2⟩ := (mem_erase hyn hk).1 hj
   obtain ⟨v, v1, v2, v3⟩ := hK.sub u hu j h1
   exact ⟨v, v1, v2, v3, by rw [v2]; exact h2⟩
  ·rw [if_neg e] at hj; obtain ⟨v, v1, v2, v3⟩ := hK.sub u hu j hj
   refine ⟨v, v1, v2, v3, fun e2 => e ?_⟩; obtain rfl := xof v v1 e2
   rw [nmId hid hu hy (by omega)]
 refine kd_map hK (fun u => (yl x y kp kc k s u).1) (fun u => (yl x y kp kc k s u).2.1) (fun u hu j hj => ?_) (fun u hu v hv hpv => ?_) (fun u hu => ?_) (fun u hu => ?_)
 ·obtain ⟨v, v1, v2, v3, v4⟩ := kidx u hu j hj
  exact ⟨v, v1, v2, by rw [(cutG_no v4).1]; exact v3⟩
 ·by_cases e : v.blk = x.blk
  ·obtain rfl := xof v hv e
   rw [cutG_x] at hpv; have hpv : (-2 : Int) = u.id := hpv
   omega
  ·rw [(cutG_no e).1] at hpv; have h1 := hK.all u hu v hv hpv
   rw [cutG_kids hxy]
   by_cases e2 : u.blk = y.blk
   ·rw [if_pos e2]; obtain rfl := yof u hu e2
    exact (mem_erase hyn hk).2 ⟨h1, e⟩
   ·rw [if_neg e2]; exact h1
 ·have e0 : (cutG x y kp kc k s u).kids.map (nmB (ns.map (cutG x y kp kc k s))) = (cutG x y kp kc k s u).kids.map (nmB ns) := List.map_congr_left fun j hj => by
   obtain ⟨v, v1, v2, v3, v4⟩ := kidx u hu j hj
   rw [← v2, nmB_map hK.blks (fun u => (yl x y kp kc k s u).1) v1, xU hK.blks v1, (cutG_no v4).2]
  rw [e0, cutG_kids hxy]
  split
  ·exact List.Pairwise.sublist (List.Sublist.map _ (List.eraseIdx_sublist _ _)) (hK.rise u hu)
  ·exact hK.rise u hu
 ·rw [cutG_kids hxy]; have := hK.few u hu
  split
  ·have := (List.eraseIdx_sublist u.kids k).length_le; omega
  ·exact this
/-- what stood nowhere stands in y, at the place of its name -/
def putG (x y : Nd) (kp : Option Addr) (kc k : Nat) (u : Nd) : Nd := if u.blk = x.blk then { u with par := y.id } else if u.blk = y.blk then heldF kp kc k x.blk u else u
theorem putG_same (x y : Nd) (kp : Option Addr) (kc k : Nat) (u : Nd) : (putG x y kp kc k u).blk = u.blk ∧ (putG x y kp kc k u).id = u.id ∧ (putG x y kp kc k u).dir = u.dir ∧ (putG x y kp kc k u).data = u.data ∧ (putG x y kp kc k u).a = u.a ∧ (putG x y kp kc k u).name = u.name := by
 unfold putG; split
 ·exact ⟨rfl, rfl, rfl, rfl, rfl, rfl⟩
 ·split <;> exact ⟨rfl, rfl, rfl, rfl, rfl, rfl⟩
theorem putG_x {x y : Nd} {kp : Option Addr} {kc k : Nat} : (putG x y kp kc k x).par = y.id := by unfold putG; rw [if_pos rfl]
theorem putG_no {x y u : Nd} (h : u.blk ≠ x.blk) {kp : Option Addr} {kc k : Nat} : (putG x y kp kc k u).par = u.par := by
 unfold putG; rw [if_neg h]; split <;> rfl
theorem putG_kids {x y u : Nd} (hxy : x.blk ≠ y.blk) {kp : Option Addr} {kc k : Nat} : (putG x y kp kc k u).kids = if u.blk = y.blk then insAt u.kids k x.blk else u.kids := by
 unfold putG
 by_cases h : u.blk = x.blk
 ·rw [if_pos h, if_neg (by rw [h]; exact hxy)]
 ·rw [if_neg h]; split <;> rfl
theorem putG_ns (x y : Nd) (hxy : x.blk ≠ y.blk) (kp : Option Addr) (kc k : Nat) (ns : List Nd) : turnB x.blk (fun u => { u with par := y.id }) (turnB y.blk (heldF kp kc k x.blk) ns) = ns.map (putG x y kp kc k) := by
 unfold turnB; rw [List.map_map]; refine List.map_congr_left fun u _ => ?_
 show (if (if u.blk = y.blk then heldF kp kc k x.blk u else u).blk = x.blk then { (if u.blk = y.blk then heldF kp kc k x.blk u else u) with par := y.id } else (if u.blk = y.blk then heldF kp kc k x.blk u else u)) = putG x y kp kc k u
 unfold putG
 by_cases h : u.blk = x.blk
 ·have h2 : ¬ u.blk = y.blk := by rw [h]; exact hxy
  rw [if_neg h2, if_pos h]
 ·rw [if_neg h]
  by_cases h2 : u.blk = y.blk
  ·rw [if_pos h2, if_neg (show ¬ (heldF kp kc k x.blk u).blk = x.blk from h)]
  ·rw [if_neg h2, if_neg h]
theorem kd_into {ns : List Nd} (hK : Kd ns) (hid : (ns.map Nd.id).Nodup) {x y : Nd} (hx : x ∈ ns) (hy : y ∈ ns) (ho : ∀ u ∈ ns, x.par ≠ u.id) (hxy : x.blk ≠ y.blk) (hno : kid ns y.id x.name = none) (hfew : y.kids.length < 100000) (kp : Option Addr) (kc : Nat) : Kd (ns.map (putG x y kp kc (kpl ns y x.name))) := by
 have hkl := plc_le (y.kids.map (nmB ns)) x.name
 rw [List.length_map] at hkl; have xof : ∀ u ∈ ns, u.blk = x.blk → u = x := fun u hu e => xA hK.blks hu hx e
 have yof : ∀ u ∈ ns, u.blk = y.blk → u = y := fun u hu e => xA hK.blks hu hy e
 have hb : ∀ u, (putG x y kp kc (kpl ns y x.name) u).blk = u.blk := fun u => (putG_same x y kp kc (kpl ns y x.name) u).1
 have kidn : ∀ u ∈ ns, ∀ j ∈ u.kids, ∃ v ∈ ns, v.blk = j ∧ (putG x y kp kc (kpl ns y x.name) v).par = u.id := fun u hu j hj => by
  obtain ⟨v, v1, v2, v3⟩ := hK.sub u hu j hj
  refine ⟨v, v1, v2, ?_⟩; rw [putG_no (fun e => ?_)]
  ·exact v3
  ·rw [xof v v1 e] at v3; exact ho u hu v3
 have nmn : ∀ u ∈ ns, u.kids.map (nmB (ns.map (putG x y kp kc (kpl ns y x.name)))) = u.kids.map (nmB ns) := fun u hu => List.map_congr_left fun j hj => by
  obtain ⟨v, v1, v2, _⟩ := hK.sub u hu j hj
  rw [← v2, nmB_map hK.blks hb v1, xU hK.blks v1, (putG_same x y kp kc (kpl ns y x.name) v).2.2.2.2.2]
 refine kd_map hK hb (fun u => (putG_same x y kp kc (kpl ns y x.name) u).2.1) (fun u hu j hj => ?_) (fun u hu v hv hpv => ?_) (fun u hu => ?_) (fun u hu => ?_)
 ·rw [putG_kids hxy] at hj
  by_cases e : u.blk = y.blk
  ·rw [if_pos e, insAt_mem] at hj
   rcases hj with hj | hj
   ·exact ⟨x, hx, hj.symm, by rw [putG_x, yof u hu e]⟩
   ·exact kidn u hu j hj
  ·rw [if_neg e] at hj; exact kidn u hu j hj
 ·rw [putG_kids hxy]
  by_cases e : v.blk = x.blk
  ·obtain rfl := xof v hv e
   rw [putG_x] at hpv; have e2 : u = y := nmId hid hu hy (by omega)
   rw [e2, if_pos rfl]; exact insAt_mem.2 (.inl rfl)
  ·rw [putG_no e] at hpv; have h1 := hK.all u hu v hv hpv
   split
   ·exact insAt_mem.2 (.inr h1)
   ·exact h1
 ·rw [putG_kids hxy]
  by_cases e : u.blk = y.blk
  ·obtain rfl := yof u hu e
   rw [if_pos rfl]
   have e1 : (insAt u.kids (kpl ns u x.name) x.blk).map (nmB (ns.map (putG x u kp kc (kpl ns u x.name)))) = (u.kids.map (nmB ns)).take (kpl ns u x.name) ++ x.name :: (u.kids.map (nmB ns)).drop (kpl ns u x.name) := by
    unfold insAt; rw [List.map_append, List.map_cons, List.map_take, List.map_drop, nmn u hu, nmB_map hK.blks hb hx, (putG_same x u kp kc (kpl ns u x.name) x).2.2.2.2.2]
   rw [e1]; exact rise_ins (hK.rise u hu) (kid_miss hK hu hno)
  ·rw [if_neg e, nmn u hu]; exact hK.rise u hu
 ·rw [putG_kids hxy]
  by_cases e : u.blk = y.blk
  ·rw [if_pos e]; obtain rfl := yof u hu e
   rw [insAt_len hkl]; omega
  ·rw [if_neg e]; exact hK.few u hu
/-- z is x, or below it -/
def Bel (ns : List Nd) (x z : Nd) : Prop := ∃ q, fnd ns x q = some z
theorem fnd_app {ns : List Nd} : ∀ {p : List (List UInt8)} {r x : Nd}, fnd ns r p = some x → ∀ q, fnd ns r (p ++ q) = fnd ns x q
 | [], r, x, h, q => by injection h with h; rw [← h]; rfl
 | s :: p, r, x, h, q => by
  unfold fnd at h; rw [List.cons_append]
  show (match kid ns r.id s with | some y => fnd ns y (p ++ q) | none => none) = _
  cases hk : kid ns r.id s with
  | none => rw [hk] at h; cases h
  | some y => rw [hk] at h; exact fnd_app h q
theorem fnd_cons {ns : List Nd} {r y : Nd} {s : List UInt8} (h : kid ns r.id s = some y) (p : List (List UInt8)) : fnd ns r (s :: p) = fnd ns y p := by
 show (match kid ns r.id s with | some y => fnd ns y p | none => none) = _
 rw [h]
theorem fnd_none {ns : List Nd} {r : Nd} {s : List UInt8} (h : kid ns r.id s = none) (p : List (List UInt8)) : fnd ns r (s :: p) = none := by
 show (match kid ns r.id s with | some y => fnd ns y p | none => none) = _
 rw [h]
theorem snoc_of {p : List (List UInt8)} (h : p ≠ []) : p = p.take (p.length - 1) ++ [lastN p] := by
 have h1 := List.length_pos_iff.2 h
 have h2 := lastN_at h
 obtain ⟨h3, h4⟩ := List.getElem?_eq_some_iff.1 h2
 conv => lhs; rw [← List.take_append_drop (p.length - 1) p]
 congr 1
 rw [List.drop_eq_getElem_cons h3, h4, List.drop_of_length_le (by omega)]
/-- what is found stands in what is found ahead of its name -/
theorem fnd_last {ns : List Nd} {r x : Nd} {p : List (List UInt8)} (hp : p ≠ []) (h : fnd ns r p = some x) : ∃ y, fnd ns r (p.take (p.length - 1)) = some y ∧ kid ns y.id (lastN p) = some x := by
 have e := snoc_of hp
 rw [e] at h
 cases h1 : fnd ns r (p.take (p.length - 1)) with
 | none =>
  exfalso
  have h2 : ∀ {p : List (List UInt8)} {r : Nd}, fnd ns r p = none → ∀ q, fnd ns r (p ++ q) = none := by
   intro p
   induction p with
   | nil => intro r h; cases h
   | cons s p ih =>
    intro r h q; rw [List.cons_append]
    cases hk : kid ns r.id s with
    | none => exact fnd_none hk _
    | some y => rw [fnd_cons hk] at h ⊢; exact ih h q
  rw [h2 h1] at h; cases h
 | some y =>
  refine ⟨y, rfl, ?_⟩; rw [fnd_snoc h1] at h; exact h
theorem fnd_deep' {ns : List Nd} {d : Nat → Nat} (hD : ∀ x ∈ ns, ∀ y ∈ ns, y.par = (x.id : Int) → d y.id = d x.id + 1) : ∀ {p : List (List UInt8)} {r x : Nd}, r ∈ ns → fnd ns r p = some x → d x.id = d r.id + p.length
 | [], r, x, _, h => by injection h with h; rw [← h]; rfl
 | s :: p, r, x, hr, h => by
  unfold fnd at h
  cases hk : kid ns r.id s with
  | none => rw [hk] at h; cases h
  | some y =>
   rw [hk] at h; obtain ⟨h1, h2, _⟩ := xM hk
   rw [fnd_deep' hD h1 h, hD r hr y h1 h2, List.length_cons]; omega
theorem fnd_inj' {t : Tr} {r : Nd} (hW : Wf t r) : ∀ (n : Nat) {x : Nd} {p q : List (List UInt8)}, p.length = n → q.length = n → fnd t.ns r p = some x → fnd t.ns r q = some x → p = q
 | 0, x, p, q, hp, hq, _, _ => by rw [List.eq_nil_of_length_eq_zero hp, List.eq_nil_of_length_eq_zero hq]
 | n + 1, x, p, q, hp, hq, h1, h2 => by
  have hp0 : p ≠ [] := fun e => by rw [e] at hp; cases hp
  have hq0 : q ≠ [] := fun e => by rw [e] at hq; cases hq
  obtain ⟨y, a1, a2⟩ := fnd_last hp0 h1
  obtain ⟨z, b1, b2⟩ := fnd_last hq0 h2
  obtain ⟨hx, c1, c2⟩ := xM a2
  obtain ⟨_, c3, c4⟩ := xM b2
  have e : y = z := nmId hW.ids (yu hW.root a1) (yu hW.root b1) (by omega)
  subst e; rw [snoc_of hp0, snoc_of hq0, fnd_inj' hW n (by rw [List.length_take]; omega) (by rw [List.length_take]; omega) a1 b1, ← c2, ← c4]
/-- each thing has one path -/
theorem fnd_inj {t : Tr} {r x : Nd} (hW : Wf t r) {p q : List (List UInt8)} (h1 : fnd t.ns r p = some x) (h2 : fnd t.ns r q = some x) : p = q := by
 obtain ⟨d, hD⟩ := hW.rk
 have e1 := fnd_deep' hD hW.root h1
 have e2 := fnd_deep' hD hW.root h2
 exact fnd_inj' hW q.length (by omega) rfl h1 h2
theorem take_pre {p q : List (List UInt8)} (n : Nat) (h : p.take n = q) (hn : n ≤ p.length) : ∃ s, p = q ++ s := ⟨p.drop n, by rw [← h, List.take_append_drop]⟩
/-- what stands below x has a path that begins with x's -/
theorem bel_path {t : Tr} {r x z : Nd} (hW : Wf t r) {p q : List (List UInt8)} (h1 : fnd t.ns r p = some x) (h2 : fnd t.ns r q = some z) : Bel t.ns x z ↔ (p.length ≤ q.length ∧ q.take p.length = p) := by
 constructor
 ·rintro ⟨s, hs⟩; have h3 := fnd_app h1 s
  rw [hs] at h3; rw [fnd_inj hW h2 h3]; exact ⟨by simp, by simp⟩
 ·rintro ⟨hl, ht⟩; obtain ⟨s, hs⟩ := take_pre p.length ht hl
  refine ⟨s, ?_⟩; rw [hs, fnd_app h1] at h2; exact h2
/-- a path that x is not on is there still when x stands elsewhere -/
theorem fnd_keep {ns ns' : List Nd} {g : Nd → Nd} {x : Nd} (hK : Kd ns) (hK' : Kd ns') (hin : ∀ u ∈ ns, g u ∈ ns') (hid : ∀ u, (g u).id = u.id) (hsame : ∀ u ∈ ns, u ≠ x → (g u).par = u.par ∧ (g u).name = u.name) :
 ∀ {p : List (List UInt8)} {u z : Nd}, u ∈ ns → ¬ Bel ns x z → fnd ns u p = some z → fnd ns' (g u) p = some (g z)
 | [], u, z, _, _, h => by injection h with h; rw [← h]; rfl
 | s :: p, u, z, hu, hb, h => by
  unfold fnd at h
  cases hk : kid ns u.id s with
  | none => rw [hk] at h; cases h
  | some v =>
   rw [hk] at h; obtain ⟨h1, h2, h3⟩ := xM hk
   have hvx : v ≠ x := fun e => hb ⟨p, by rw [← e]; exact h⟩
   obtain ⟨h4, h5⟩ := hsame v h1 hvx
   have h6 := kid_of hK' (hin u hu) (hin v h1) (by rw [h4, hid]; exact h2)
   rw [h5, h3] at h6; rw [fnd_cons h6]; exact fnd_keep hK hK' hin hid hsame h1 hb h
theorem bel_kid {ns : List Nd} (hK : Kd ns) {x u v : Nd} (hu : u ∈ ns) (hv : v ∈ ns) (hp : v.par = u.id) (h : Bel ns x u) : Bel ns x v := by
 obtain ⟨q, hq⟩ := h
 exact ⟨q ++ [v.name], by rw [fnd_snoc hq]; exact kid_of hK hu hv hp⟩
theorem bel_par {ns : List Nd} (hid : (ns.map Nd.id).Nodup) {x u v : Nd} (hx : x ∈ ns) (hu : u ∈ ns) (hp : v.par = u.id) (hvx : v ≠ x) (h : Bel ns x v) : Bel ns x u := by
 obtain ⟨q, hq⟩ := h
 by_cases hq0 : q = []
 ·rw [hq0] at hq
  injection hq with hq
  exact absurd hq.symm hvx
 ·obtain ⟨w, h1, h2⟩ := fnd_last hq0 hq
  obtain ⟨_, h3, _⟩ := xM h2
  have e : w = u := nmId hid (yu hx h1) hu (by omega)
  rw [← e]; exact ⟨_, h1⟩
open Classical in
/-- how deep things stand, when x stands in y -/
theorem rk_moved {ns ns' : List Nd} {g : Nd → Nd} {x y : Nd} (hK : Kd ns) (hids : (ns.map Nd.id).Nodup) (hx : x ∈ ns) (hy : y ∈ ns) (hn : ¬ Bel ns x y) (hns : ns' = ns.map g) (hid : ∀ u, (g u).id = u.id) (hsame : ∀ u ∈ ns, u ≠ x → (g u).par = u.par) (hgx : (g x).par = y.id)
 (h : ∃ d : Nat → Nat, ∀ u ∈ ns, ∀ v ∈ ns, v.par = (u.id : Int) → d v.id = d u.id + 1) : ∃ d : Nat → Nat, ∀ u ∈ ns', ∀ v ∈ ns', v.par = (u.id : Int) → d v.id = d u.id + 1 := by
 obtain ⟨d, hD⟩ := h
 have key : ∀ i : Nat, ∃ m : Nat, ∀ u ∈ ns, u.id = i → (Bel ns x u → m = d i + (d y.id + 1) - d x.id) ∧ (¬ Bel ns x u → m = d i) := fun i => by
  by_cases e : ∃ u ∈ ns, u.id = i ∧ Bel ns x u
  ·obtain ⟨u, hu, hi, hb⟩ := e
   refine ⟨_, fun v hv hvi => ⟨fun _ => rfl, fun hnb => ?_⟩⟩; rw [nmId hids hv hu (by omega)] at hnb; exact absurd hb hnb
  ·exact ⟨d i, fun v hv hvi => ⟨fun hb => absurd ⟨v, hv, hvi, hb⟩ e, fun _ => rfl⟩⟩
 refine ⟨fun i => Classical.choose (key i), fun u hu v hv hp => ?_⟩; subst hns; obtain ⟨a, ha, rfl⟩ := List.mem_map.1 hu
 obtain ⟨b, hb, rfl⟩ := List.mem_map.1 hv
 rw [hid] at hp ⊢; rw [hid]; have ka := Classical.choose_spec (key a.id) a ha rfl
 have kb := Classical.choose_spec (key b.id) b hb rfl
 have dx : ∀ u, Bel ns x u → d x.id ≤ d u.id := fun u hu => by
  obtain ⟨q, hq⟩ := hu
  have := fnd_deep' hD hx hq
  omega
 by_cases e : b = x
 ·rw [e] at hp kb ⊢; rw [hgx] at hp; have e2 : a = y := nmId hids ha hy (by omega)
  rw [e2] at ka ⊢; dsimp only; rw [kb.1 ⟨[], rfl⟩, ka.2 hn]; omega
 ·rw [hsame b hb e] at hp; have hd := hD a ha b hb hp
  dsimp only
  by_cases hbb : Bel ns x b
  ·have hba := bel_par hids hx ha hp e hbb
   have := dx a hba
   rw [kb.1 hbb, ka.1 hba]; omega
  ·have hba : ¬ Bel ns x a := fun h => hbb (bel_kid hK ha hb hp h)
   rw [kb.2 hbb, ka.2 hba]; exact hd
/-- what a thing is, wherever it lies -/
structure Co where
 id : Nat
 par : Int
 dir : Bool
 name : List UInt8
 data : List UInt8
 a : At
def Nd.co (x : Nd) : Co := ⟨x.id, x.par, x.dir, x.name, x.data, x.a⟩
/-- the same things, wherever they lie -/
def SameC (A B : List Nd) : Prop := ∀ c, c ∈ A.map Nd.co ↔ c ∈ B.map Nd.co
/-- things stand elsewhere: x in y, by the name s -/
structure Mv (ns ns' : List Nd) (x y : Nd) (s : List UInt8) (g : Nd → Nd) : Prop where
 lst : ns' = ns.map g
 blk : ∀ u, (g u).blk = u.blk
 id : ∀ u, (g u).id = u.id
 dir : ∀ u, (g u).dir = u.dir
 data : ∀ u, (g u).data = u.data
 a : ∀ u, (g u).a = u.a
 no : ∀ u ∈ ns, u ≠ x → (g u).par = u.par ∧ (g u).name = u.name
 par : (g x).par = y.id
 name : (g x).name = s
theorem wf_moved {t t' : Tr} {r x y : Nd} {s : List UInt8} {g : Nd → Nd} (hW : Wf t r) (hM : Mv t.ns t'.ns x y s g) (hK : Kd t'.ns) (hx : x ∈ t.ns) (hx0 : x.id ≠ 0) (hy : y ∈ t.ns) (hd : y.dir = true) (hn : ¬ Bel t.ns x y) (hs : ptOk s = true) (hb : t'.bytes = t.bytes) (hnx : t'.next = t.next) (hrb : t'.rb = t.rb) : Wf t' (g r) := by
 have gof : ∀ u ∈ t'.ns, ∃ v ∈ t.ns, u = g v := fun u hu => by
  rw [hM.lst] at hu; obtain ⟨v, h1, h2⟩ := List.mem_map.1 hu
  exact ⟨v, h1, h2.symm⟩
 have gin : ∀ v ∈ t.ns, g v ∈ t'.ns := fun v hv => by rw [hM.lst]; exact List.mem_map.2 ⟨v, hv, rfl⟩
 have hrx : r ≠ x := fun e => hx0 (by rw [← e]; exact hW.rid)
 refine ⟨hK, gin r hW.root, by rw [hrb, hW.rb, hM.blk], by rw [hM.id]; exact hW.rid, by rw [(hM.no r hW.root hrx).1]; exact hW.rpar, by rw [hM.dir]; exact hW.rdir, ?_, fun u hu => ?_, fun u hu => ?_, fun u hu => ?_, ?_, ?_, fun u hu hdu => ?_, ?_, by rw [hb]; exact hW.max, fun u hu => ?_⟩
 ·rw [hM.lst, List.map_map, show (Nd.id ∘ g) = Nd.id from funext hM.id]; exact hW.ids
 ·obtain ⟨v, hv, rfl⟩ := gof u hu
  rw [hM.id, hnx]; exact hW.lt v hv
 ·obtain ⟨v, hv, rfl⟩ := gof u hu
  rw [hM.id]
  by_cases e : v = x
  ·exact .inr ⟨g y, gin y hy, by rw [e, hM.par, hM.id], by rw [hM.dir]; exact hd⟩
  ·rcases hW.par v hv with h1 | ⟨w, h1, h2, h3⟩
   ·exact .inl h1
   ·exact .inr ⟨g w, gin w h1, by rw [(hM.no v hv e).1, hM.id]; exact h2, by rw [hM.dir]; exact h3⟩
 ·obtain ⟨v, hv, rfl⟩ := gof u hu
  rw [hM.id]
  by_cases e : v = x
  ·rw [e, hM.name]; exact .inr hs
  ·rw [(hM.no v hv e).2]; exact hW.nm v hv
 ·exact rk_moved hW.kd hW.ids hx hy hn hM.lst hM.id (fun u hu e => (hM.no u hu e).1) hM.par hW.rk
 ·rw [hM.lst, List.length_map]; exact hW.few
 ·obtain ⟨v, hv, rfl⟩ := gof u hu
  rw [hM.dir] at hdu; rw [hM.data]; exact hW.dat v hv hdu
 ·rw [hb, hW.sum, hM.lst, List.map_map]
  congr 1
  exact List.map_congr_left fun u _ => by show _ = (g u).data.length; rw [hM.data]
 ·obtain ⟨v, hv, rfl⟩ := gof u hu
  rw [hM.a]; exact hW.a v hv
end Go.Proofs.YtlefpllcgcicpaaGreatDoor
