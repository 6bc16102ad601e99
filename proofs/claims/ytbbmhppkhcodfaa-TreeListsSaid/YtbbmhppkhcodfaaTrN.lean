/-
  Things below a thing: plain laws.
-/
import Derived.Test.YtbbmhppkhcodfaaTrL
namespace Go.Proofs.Ytbbmhppkhcodfaa
open Go.Sx
set_option linter.unusedVariables false
set_option linter.unusedSimpArgs false
set_option maxRecDepth 100000
set_option maxHeartbeats 4000000

theorem less_cmp : ∀ a b : List UInt8, Op.bytesLess a b = decide (cmp a b < 0)
  | _, [] => by cases ‹List UInt8› <;> rfl
  | [], _ :: _ => rfl
  | x :: a, y :: b => by
    show (decide (x < y) || (x == y && Op.bytesLess a b)) = decide ((if x < y then (-1 : Int) else if y < x then 1 else Lib.compareBytes a b) < 0)
    by_cases h1 : x < y
    · rw [if_pos h1, decide_eq_true h1]; rfl
    · rw [if_neg h1, decide_eq_false h1, Bool.false_or]
      by_cases h2 : y < x
      · rw [if_pos h2]
        have h3 : (x == y) = false := by
          have h4 : x ≠ y := fun e => by rw [e, u8_lt] at h2; omega
          simpa using h4
        rw [h3]; rfl
      · rw [if_neg h2]
        have h3 : x = y := by rw [u8_lt] at h1 h2; exact UInt8.toNat_inj.1 (by omega)
        rw [h3, less_cmp a b]; simp
section
variable {P : Program} {n : Nat} {L : HProp} {Γ : Env} {d : Option Tmp} {ty : TypeId} {pos : String} {aft : Array Edge} {g : Option (Nat × Bool)}
theorem less_str (a b : List UInt8) : Op.bytesLess (str a).toList (str b).toList = decide (cmp a b < 0) := by
  rw [ByteArray.toList_eq, ByteArray.toList_eq]; exact less_cmp a b
theorem ro_geqS {t ty' : TypeId} {x y : Operand} {a b : List UInt8} {c : Bool} (hx : ev Γ x = some (.string (str a))) (hy : ev Γ y = some (.string (str b))) (hz : (!decide (cmp a b < 0)) = c) :
    RO P n L Γ ⟨d, .binOp .geq t x y ty', ty, pos, aft, g⟩ (.bool c) := fun e w R f s => by
  have h : (!Op.bytesLess (str a).toList (str b).toList) = c := by rw [less_str]; exact hz
  simp [execOp, f.ev hx, f.ev hy, eqGuard_str, binOp, Op.stringOp, h]
theorem ro_lssS {t ty' : TypeId} {x y : Operand} {a b : List UInt8} {c : Bool} (hx : ev Γ x = some (.string (str a))) (hy : ev Γ y = some (.string (str b))) (hz : decide (cmp a b < 0) = c) :
    RO P n L Γ ⟨d, .binOp .lss t x y ty', ty, pos, aft, g⟩ (.bool c) := fun e w R f s => by
  have h : Op.bytesLess (str a).toList (str b).toList = c := by rw [less_str]; exact hz
  simp [execOp, f.ev hx, f.ev hy, eqGuard_str, binOp, Op.stringOp, h]
end
theorem nodup_of_map {f : Nd → Nat} : ∀ {l : List Nd}, (l.map f).Nodup → l.Nodup
  | [], _ => List.nodup_nil
  | x :: l, h => by
    rw [List.map_cons, List.nodup_cons] at h
    exact List.nodup_cons.2 ⟨fun hx => h.1 (List.mem_map.2 ⟨x, hx, rfl⟩), nodup_of_map h.2⟩
/-- what a thing holds -/
def kidsN (ns : List Nd) (x : Nd) : List Nd := x.kids.filterMap fun k => ns.find? fun y => decide (y.blk = k)
theorem kidsN_mem {ns : List Nd} (h : Kd ns) (hid : (ns.map Nd.id).Nodup) {x y : Nd} (hx : x ∈ ns) : y ∈ kidsN ns x ↔ y ∈ ns ∧ y.par = x.id := by
  unfold kidsN
  rw [List.mem_filterMap]
  constructor
  · rintro ⟨k, hk, hy⟩
    obtain ⟨z, h1, h2, h3⟩ := h.sub x hx k hk
    rw [← h2, find_nodup h.blks h1] at hy
    injection hy with hy; subst hy; exact ⟨h1, h3⟩
  · rintro ⟨h1, h2⟩
    exact ⟨y.blk, h.all x hx y h1 h2, find_nodup h.blks h1⟩
theorem kidsN_cons {ns : List Nd} (h : Kd ns) {k : Nat} {l : List Nat} {y : Nd} (hy : y ∈ ns) (e : y.blk = k) : (k :: l).filterMap (fun k => ns.find? fun y => decide (y.blk = k)) = y :: l.filterMap (fun k => ns.find? fun y => decide (y.blk = k)) := by
  rw [List.filterMap_cons, ← e, find_nodup h.blks hy]
theorem kidsN_map {ns : List Nd} (h : Kd ns) : ∀ {l : List Nat}, (∀ k ∈ l, ∃ y ∈ ns, y.blk = k) → (l.filterMap fun k => ns.find? fun y => decide (y.blk = k)).map Nd.blk = l
  | [], _ => rfl
  | k :: l, hl => by
    obtain ⟨y, hy, e⟩ := hl k (by simp)
    rw [kidsN_cons h hy e, List.map_cons, kidsN_map h fun k hk => hl k (by simp [hk]), e]
theorem kidsN_blk {ns : List Nd} (h : Kd ns) {x : Nd} (hx : x ∈ ns) : (kidsN ns x).map Nd.blk = x.kids := kidsN_map h fun k hk => by
  obtain ⟨y, h1, h2, _⟩ := h.sub x hx k hk; exact ⟨y, h1, h2⟩
theorem kidsN_len {ns : List Nd} (h : Kd ns) {x : Nd} (hx : x ∈ ns) : (kidsN ns x).length = x.kids.length := by rw [← kidsN_blk h hx, List.length_map]
theorem kidsN_nodup {ns : List Nd} (h : Kd ns) {x : Nd} (hx : x ∈ ns) : (kidsN ns x).Nodup := by
  have h1 := kids_nodup h hx
  rw [← kidsN_blk h hx] at h1
  exact nodup_of_map h1
theorem kidsN_at {ns : List Nd} (h : Kd ns) {x : Nd} (hx : x ∈ ns) {i : Nat} (hi : i < x.kids.length) : ∃ y ∈ ns, y.blk = x.kids[i] ∧ y.par = x.id ∧ (kidsN ns x)[i]? = some y := by
  obtain ⟨y, h1, h2, h3⟩ := h.sub x hx x.kids[i] (List.getElem_mem hi)
  refine ⟨y, h1, h2, h3, ?_⟩
  have hl := kidsN_len h hx
  have hi2 : i < (kidsN ns x).length := by omega
  rw [List.getElem?_eq_getElem hi2]
  have e1 : ((kidsN ns x).map Nd.blk)[i]? = some x.kids[i] := by rw [kidsN_blk h hx, List.getElem?_eq_getElem hi]
  rw [List.getElem?_map, List.getElem?_eq_getElem hi2] at e1
  injection e1 with e1
  have hm : (kidsN ns x)[i] ∈ ns := by
    have h4 := List.getElem_mem hi2
    obtain ⟨k, _, h5⟩ := List.mem_filterMap.1 h4
    exact List.mem_of_find?_eq_some h5
  rw [nmB_mem h.blks hm h1 (by rw [e1, h2])]
/-- the sum over a thing and what is below it -/
def tot (ns : List Nd) (w : Nd → Nat) : Nat → Nd → Nat
  | 0, x => w x
  | n + 1, x => w x + ((kidsN ns x).map (tot ns w n)).sum
def levs (ns : List Nd) : Nat → List Nd → List Nd
  | 0, l => l
  | n + 1, l => l ++ levs ns n (l.flatMap (kidsN ns))
theorem sum_flat (w : Nd → Nat) (f : Nd → List Nd) : ∀ l : List Nd, ((l.flatMap f).map w).sum = (l.map fun x => ((f x).map w).sum).sum
  | [] => rfl
  | x :: l => by rw [List.flatMap_cons, List.map_append, List.sum_append, sum_flat w f l]; rfl
theorem sum_add (f g : Nd → Nat) : ∀ l : List Nd, (l.map fun x => f x + g x).sum = (l.map f).sum + (l.map g).sum
  | [] => rfl
  | x :: l => by simp only [List.map_cons, List.sum_cons]; rw [sum_add f g l]; omega
theorem tot_levs (ns : List Nd) (w : Nd → Nat) : ∀ (n : Nat) (l : List Nd), (l.map (tot ns w n)).sum = ((levs ns n l).map w).sum
  | 0, l => rfl
  | n + 1, l => by
    show (l.map fun x => w x + ((kidsN ns x).map (tot ns w n)).sum).sum = ((l ++ levs ns n (l.flatMap (kidsN ns))).map w).sum
    rw [List.map_append, List.sum_append, sum_add, ← tot_levs ns w n, sum_flat]
theorem sum_perm (w : Nd → Nat) {l m : List Nd} (h : l.Perm m) : (l.map w).sum = (m.map w).sum := by
  induction h with
  | nil => rfl
  | cons x _ ih => simp only [List.map_cons, List.sum_cons]; rw [ih]
  | swap x y l => simp only [List.map_cons, List.sum_cons]; omega
  | trans _ _ h1 h2 => rw [h1, h2]
/-- how deep things stand: no deeper than 5 -/
structure Dp (ns : List Nd) (d : Nat → Nat) : Prop where
  up : ∀ x ∈ ns, ∀ y ∈ ns, y.par = (x.id : Int) → d y.id = d x.id + 1
  z : d 0 = 0
  le : ∀ x ∈ ns, d x.id ≤ 5
theorem lev_flat_nodup {t : Tr} {r : Nd} (hW : Wf t r) {j : Nat} {d : Nat → Nat} (hD : Dp t.ns d) : ∀ {l : List Nd}, l.Nodup → (∀ x ∈ l, x ∈ t.ns ∧ d x.id = j) → (l.flatMap (kidsN t.ns)).Nodup ∧ ∀ x ∈ l.flatMap (kidsN t.ns), x ∈ t.ns ∧ d x.id = j + 1
  | [], _, _ => ⟨List.nodup_nil, fun x hx => by cases hx⟩
  | a :: l, h, hl => by
    rw [List.nodup_cons] at h
    obtain ⟨i1, i2⟩ := lev_flat_nodup hW hD h.2 fun x hx => hl x (by simp [hx])
    obtain ⟨ha, hda⟩ := hl a (by simp)
    rw [List.flatMap_cons]
    refine ⟨List.nodup_append.2 ⟨kidsN_nodup hW.kd ha, i1, fun x hx y hy e => ?_⟩, fun x hx => ?_⟩
    · subst e
      obtain ⟨z, hz, hxz⟩ := List.mem_flatMap.1 hy
      have h1 := ((kidsN_mem hW.kd hW.ids ha).1 hx).2
      have hzn := (hl z (by simp [hz])).1
      have h2 := ((kidsN_mem hW.kd hW.ids hzn).1 hxz).2
      have h3 : a = z := nmId hW.ids ha hzn (by omega)
      exact h.1 (by rw [h3]; exact hz)
    · rcases List.mem_append.1 hx with hx | hx
      · obtain ⟨h1, h2⟩ := (kidsN_mem hW.kd hW.ids ha).1 hx
        exact ⟨h1, by rw [hD.up a ha x h1 h2, hda]⟩
      · exact i2 x hx
theorem levs_nodup {t : Tr} {r : Nd} (hW : Wf t r) {d : Nat → Nat} (hD : Dp t.ns d) : ∀ (n j : Nat) {l : List Nd}, l.Nodup → (∀ x ∈ l, x ∈ t.ns ∧ d x.id = j) → (levs t.ns n l).Nodup ∧ ∀ x ∈ levs t.ns n l, x ∈ t.ns ∧ j ≤ d x.id
  | 0, j, l, h, hl => ⟨h, fun x hx => ⟨(hl x hx).1, Nat.le_of_eq (hl x hx).2.symm⟩⟩
  | n + 1, j, l, h, hl => by
    obtain ⟨h1, h2⟩ := lev_flat_nodup hW hD h hl
    obtain ⟨h3, h4⟩ := levs_nodup hW hD n (j + 1) h1 h2
    refine ⟨List.nodup_append.2 ⟨h, h3, fun x hx y hy e => ?_⟩, fun x hx => ?_⟩
    · have := (hl x hx).2
      have := (h4 y hy).2
      rw [← e] at this; omega
    · rcases List.mem_append.1 hx with hx | hx
      · exact ⟨(hl x hx).1, Nat.le_of_eq (hl x hx).2.symm⟩
      · exact ⟨(h4 x hx).1, by have := (h4 x hx).2; omega⟩
theorem levs_all {t : Tr} {r : Nd} (hW : Wf t r) {d : Nat → Nat} (hD : Dp t.ns d) : ∀ (n j : Nat) {l : List Nd}, (∀ y ∈ t.ns, d y.id = j → y ∈ l) → (∀ x ∈ l, x ∈ t.ns) → ∀ y ∈ t.ns, j ≤ d y.id → d y.id ≤ j + n → y ∈ levs t.ns n l
  | 0, j, l, h, _, y, hy, h1, h2 => h y hy (by omega)
  | n + 1, j, l, h, hs, y, hy, h1, h2 => by
    by_cases e : d y.id = j
    · exact List.mem_append_left _ (h y hy e)
    · refine List.mem_append_right _ (levs_all hW hD n (j + 1) (l := l.flatMap (kidsN t.ns)) (fun z hz hdz => ?_) (fun z hz => ?_) y hy (by omega) (by omega))
      · rcases hW.par z hz with hp | ⟨x, hx, hp, _⟩
        · rw [hp, hD.z] at hdz; omega
        · have hdx := hD.up x hx z hz hp
          exact List.mem_flatMap.2 ⟨x, h x hx (by omega), (kidsN_mem hW.kd hW.ids hx).2 ⟨hz, hp⟩⟩
      · obtain ⟨x, hx, hzx⟩ := List.mem_flatMap.1 hz
        exact ((kidsN_mem hW.kd hW.ids (hs x hx)).1 hzx).1
/-- the root and what is below it are all -/
theorem tot_all {t : Tr} {r : Nd} (hW : Wf t r) {d : Nat → Nat} (hD : Dp t.ns d) (w : Nd → Nat) : tot t.ns w 5 r = (t.ns.map w).sum := by
  have h1 := tot_levs t.ns w 5 [r]
  rw [List.map_cons, List.map_nil, List.sum_cons, List.sum_nil, Nat.add_zero] at h1
  rw [h1]
  have hr : ∀ x ∈ [r], x ∈ t.ns ∧ d x.id = 0 := fun x hx => by rw [List.mem_singleton.1 hx, hW.rid]; exact ⟨hW.root, hD.z⟩
  have hn := levs_nodup hW hD 5 0 (l := [r]) (by simp) hr
  refine sum_perm w ((List.perm_ext_iff_of_nodup hn.1 ?_).2 fun y => ⟨fun hy => (hn.2 y hy).1, fun hy => levs_all hW hD 5 0 (fun y hy h0 => ?_) (fun x hx => (hr x hx).1) y hy (Nat.zero_le _) (by have := hD.le y hy; omega)⟩)
  · exact nodup_of_map hW.ids
  · rcases hW.par y hy with hp | ⟨x, hx, hp, _⟩
    · rw [List.mem_singleton]; exact nmId hW.ids hy hW.root (by rw [hp, hW.rid])
    · have := hD.up x hx y hy hp
      omega
theorem tot_step {t : Tr} {r : Nd} (hW : Wf t r) {d : Nat → Nat} (hD : Dp t.ns d) (w : Nd → Nat) {x : Nd} (hx : x ∈ t.ns) {n : Nat} (hn : d x.id + n = 5) : tot t.ns w n x = w x + ((kidsN t.ns x).map (tot t.ns w (n - 1))).sum := by
  cases n with
  | succ n => rfl
  | zero =>
    have h : kidsN t.ns x = [] := by
      cases hk : kidsN t.ns x with
      | nil => rfl
      | cons y l =>
        have hy : y ∈ kidsN t.ns x := by rw [hk]; simp
        obtain ⟨h1, h2⟩ := (kidsN_mem hW.kd hW.ids hx).1 hy
        have h3 := hD.up x hx y h1 h2
        have h4 := hD.le y h1
        omega
    rw [h]; rfl
theorem fnd_snoc {ns : List Nd} {s : List UInt8} : ∀ {p : List (List UInt8)} {r x : Nd}, fnd ns r p = some x → fnd ns r (p ++ [s]) = kid ns x.id s
  | [], r, x, h => by
    injection h with h; subst h
    show (match kid ns r.id s with | some y => fnd ns y [] | none => none) = _
    cases kid ns r.id s <;> rfl
  | a :: p, r, x, h => by
    unfold fnd at h
    rw [List.cons_append]
    show (match kid ns r.id a with | some y => fnd ns y (p ++ [s]) | none => none) = _
    cases hk : kid ns r.id a with
    | none => rw [hk] at h; cases h
    | some y => rw [hk] at h; exact fnd_snoc h
theorem fnd_deep {ns : List Nd} {d : Nat → Nat} (hD : Dp ns d) : ∀ {p : List (List UInt8)} {r x : Nd}, r ∈ ns → fnd ns r p = some x → d x.id = d r.id + p.length
  | [], r, x, _, h => by injection h with h; rw [← h]; rfl
  | s :: p, r, x, hr, h => by
    unfold fnd at h
    cases hk : kid ns r.id s with
    | none => rw [hk] at h; cases h
    | some y =>
      rw [hk] at h
      obtain ⟨h1, h2, _⟩ := kid_some hk
      rw [fnd_deep hD h1 h, hD.up r hr y h1 h2, List.length_cons]; omega
theorem byId_of {ns : List Nd} (h : (ns.map Nd.id).Nodup) {x : Nd} (hx : x ∈ ns) : byId ns (x.id : Int) = some x := by
  have h1 := find_nodup h hx
  unfold byId
  rw [← h1]; congr 1
  funext y
  exact decide_eq_decide.2 (by omega)
theorem kid_of {ns : List Nd} (h : Kd ns) {x y : Nd} (hx : x ∈ ns) (hy : y ∈ ns) (hp : y.par = x.id) : kid ns x.id y.name = some y := by
  cases hk : kid ns x.id y.name with
  | none => exact absurd rfl (kid_none hk hy hp)
  | some z =>
    obtain ⟨h1, h2, h3⟩ := kid_some hk
    have h4 := (kid_hit h hx hk).2
    obtain ⟨j, hj⟩ := List.mem_iff_getElem?.1 (h.all x hx y hy hp)
    obtain ⟨hlt, he⟩ := List.getElem?_eq_some_iff.1 hj
    have e1 : (x.kids.map (nmB ns))[j]? = some y.name := by rw [List.getElem?_map, hj]; show some (nmB ns y.blk) = _; rw [nmB_of h.blks hy]
    obtain ⟨hlt2, he2⟩ := List.getElem?_eq_some_iff.1 e1
    have e2 : kpl ns x y.name = j := by
      have := plc_at (h.rise x hx) hlt2
      rw [he2] at this; exact this
    rw [e2, hj] at h4
    injection h4 with h4
    rw [nmB_mem h.blks hy h1 h4]
theorem lsK_kids {ns : List Nd} (h : Kd ns) {x : Nd} (hx : x ∈ ns) : lsK ns x.kids = (kidsN ns x).map fun y => ⟨y.name, y.told⟩ := by
  rw [← kidsN_blk h hx]
  unfold lsK
  rw [List.map_map]
  refine List.map_congr_left fun y hy => ?_
  have hm : y ∈ ns := by
    obtain ⟨k, _, h5⟩ := List.mem_filterMap.1 hy
    exact List.mem_of_find?_eq_some h5
  show nmeB ns y.blk = _
  unfold nmeB; rw [find_nodup h.blks hm]
theorem kids_dir {t : Tr} {r : Nd} (hW : Wf t r) {x : Nd} (hx : x ∈ t.ns) (h : ¬ x.dir = true) : kidsN t.ns x = [] := by
  cases hk : kidsN t.ns x with
  | nil => rfl
  | cons y l =>
    have hy : y ∈ kidsN t.ns x := by rw [hk]; simp
    obtain ⟨h1, h2⟩ := (kidsN_mem hW.kd hW.ids hx).1 hy
    rcases hW.par y h1 with h3 | ⟨z, hz, h3, h4⟩
    · have e : y = r := nmId hW.ids h1 hW.root (by rw [h3, hW.rid])
      rw [e, hW.rpar] at h2; omega
    · have e : z = x := nmId hW.ids hz hx (by omega)
      rw [e] at h4; exact absurd h4 h
theorem sum_take_le (f : Nd → Nat) (l : List Nd) (i : Nat) : ((l.take i).map f).sum ≤ (l.map f).sum := by
  conv => rhs; rw [← List.take_append_drop i l, List.map_append, List.sum_append]
  omega
theorem sum_snoc (f : Nd → Nat) {l : List Nd} {i : Nat} {y : Nd} (h : l[i]? = some y) : ((l.take (i + 1)).map f).sum = ((l.take i).map f).sum + f y := by
  obtain ⟨hi, he⟩ := List.getElem?_eq_some_iff.1 h
  rw [List.take_succ_eq_append_getElem hi, List.map_append, List.sum_append, he]; simp

end Go.Proofs.Ytbbmhppkhcodfaa
