/-
  A thing is held by another: plain laws.
  A tree grows: Make, New.
-/
import Derived.Test.YtbbmhppkhcodfaaTrW
namespace Go.Proofs.Ytbbmhppkhcodfaa
open Go.Sx
set_option linter.unusedVariables false
set_option linter.unusedSimpArgs false
set_option maxRecDepth 100000
set_option maxHeartbeats 4000000

theorem nds_open {ns : List Nd} {i : Nat} {x : Nd} (h : ns[i]? = some x) : nds ns = star (nd x) (nds (ns.eraseIdx i)) := by
  unfold nds
  rw [St_pick (L := ns.map nd) (i := i) (A := nd x) (by rw [List.getElem?_map, h]; rfl), map_eraseIdx]
theorem nds_close {ns : List Nd} {i : Nat} {x y : Nd} (h : ns[i]? = some x) : nds (ns.set i y) = star (nd y) (nds (ns.eraseIdx i)) := by
  unfold nds
  rw [List.map_set, St_set (L := ns.map nd) (i := i) (A := nd x) (by rw [List.getElem?_map, h]; rfl), map_eraseIdx]
theorem nd_parts (x : Nd) : nd x = star (own x.blk (.cells x.cs.toArray 85 (0, 0))) (star (rowP x.kp x.kc x.kids) (rowD x.dp x.dc x.data)) := by
  unfold nd ndL; rw [St_cons, St_cons, St_cons, St_nil, star_emp]
/-- the thing that lies at b is turned -/
def turnB (b : Nat) (f : Nd → Nd) (ns : List Nd) : List Nd := ns.map fun y => if y.blk = b then f y else y
theorem set_turn {f : Nd → Nd} : ∀ {ns : List Nd} {i : Nat} {x : Nd}, (ns.map Nd.blk).Nodup → ns[i]? = some x → ns.set i (f x) = turnB x.blk f ns
  | y :: r, 0, x, h, hi => by
    injection hi with hi; subst hi
    rw [List.map_cons, List.nodup_cons] at h
    show f y :: r = (if y.blk = y.blk then f y else y) :: r.map _
    rw [if_pos rfl]
    congr 1
    conv => lhs; rw [← List.map_id r]
    exact List.map_congr_left fun z hz => by rw [if_neg (fun e : z.blk = y.blk => h.1 (List.mem_map.2 ⟨z, hz, e⟩))]; rfl
  | y :: r, i + 1, x, h, hi => by
    rw [List.map_cons, List.nodup_cons] at h
    have hx : x ∈ r := List.mem_of_getElem? (by simpa using hi)
    show y :: r.set i (f x) = (if y.blk = x.blk then f y else y) :: r.map _
    rw [if_neg (fun e => h.1 (List.mem_map.2 ⟨x, hx, e.symm⟩)), set_turn h.2 (by simpa using hi)]; rfl
/-- f keeps what others hang on -/
structure Keeps (f : Nd → Nd) : Prop where
  blk : ∀ y, (f y).blk = y.blk
  id : ∀ y, (f y).id = y.id
  par : ∀ y, (f y).par = y.par
  name : ∀ y, (f y).name = y.name
theorem turn_blk {f : Nd → Nd} (h : Keeps f) (b : Nat) (ns : List Nd) : (turnB b f ns).map Nd.blk = ns.map Nd.blk := by
  unfold turnB; rw [List.map_map]
  exact List.map_congr_left fun y _ => by show (if y.blk = b then f y else y).blk = y.blk; split; exact h.blk y; rfl
theorem turn_mem {f : Nd → Nd} {b : Nat} {ns : List Nd} {z : Nd} (h : z ∈ turnB b f ns) : ∃ y ∈ ns, z = if y.blk = b then f y else y := by
  obtain ⟨y, h1, h2⟩ := List.mem_map.1 h; exact ⟨y, h1, h2.symm⟩
theorem turn_in {f : Nd → Nd} {b : Nat} {ns : List Nd} {y : Nd} (h : y ∈ ns) : (if y.blk = b then f y else y) ∈ turnB b f ns := List.mem_map.2 ⟨y, h, rfl⟩
theorem turn_eq {f : Nd → Nd} (h : Keeps f) {b : Nat} (y : Nd) : (if y.blk = b then f y else y).blk = y.blk ∧ (if y.blk = b then f y else y).id = y.id ∧ (if y.blk = b then f y else y).par = y.par ∧ (if y.blk = b then f y else y).name = y.name := by
  split
  · exact ⟨h.blk y, h.id y, h.par y, h.name y⟩
  · exact ⟨rfl, rfl, rfl, rfl⟩
theorem turn_find {f : Nd → Nd} (p : Nd → Bool) (hp : ∀ y, p (f y) = p y) (b : Nat) : ∀ ns : List Nd, (turnB b f ns).find? p = (ns.find? p).map (fun y => if y.blk = b then f y else y)
  | [] => rfl
  | y :: r => by
    have e : p (if y.blk = b then f y else y) = p y := by split; exact hp y; rfl
    show List.find? p ((if y.blk = b then f y else y) :: turnB b f r) = _
    rw [List.find?_cons, List.find?_cons, e, turn_find p hp b r]
    cases p y <;> rfl
theorem nmB_turn {f : Nd → Nd} (h : Keeps f) (b : Nat) (ns : List Nd) (k : Nat) : nmB (turnB b f ns) k = nmB ns k := by
  unfold nmB
  rw [turn_find (fun x => decide (x.blk = k)) (fun y => by rw [h.blk]) b ns]
  cases ns.find? fun x => decide (x.blk = k) with
  | none => rfl
  | some y => exact (turn_eq h y).2.2.2
/-- things change, but not what they hold -/
theorem kd_turn {f : Nd → Nd} (h : Keeps f) (hk : ∀ y, (f y).kids = y.kids) (b : Nat) {ns : List Nd} (hK : Kd ns) : Kd (turnB b f ns) := by
  have kd : ∀ y : Nd, (if y.blk = b then f y else y).kids = y.kids := fun y => by split; exact hk y; rfl
  refine ⟨by rw [turn_blk h]; exact hK.blks, fun z hz k hkk => ?_, fun z hz u hu hp => ?_, fun z hz => ?_, fun z hz => ?_⟩
  · obtain ⟨x, hx, rfl⟩ := turn_mem hz
    rw [kd] at hkk
    obtain ⟨y, h1, h2, h3⟩ := hK.sub x hx k hkk
    exact ⟨_, turn_in h1, by rw [(turn_eq h y).1]; exact h2, by rw [(turn_eq h y).2.2.1, (turn_eq h x).2.1]; exact h3⟩
  · obtain ⟨x, hx, rfl⟩ := turn_mem hz
    obtain ⟨y, hy, rfl⟩ := turn_mem hu
    rw [kd, (turn_eq h y).1]
    rw [(turn_eq h y).2.2.1, (turn_eq h x).2.1] at hp
    exact hK.all x hx y hy hp
  · obtain ⟨x, hx, rfl⟩ := turn_mem hz
    rw [kd, show nmB (turnB b f ns) = nmB ns from funext fun k => nmB_turn h b ns k]
    exact hK.rise x hx
  · obtain ⟨x, hx, rfl⟩ := turn_mem hz
    rw [kd]; exact hK.few x hx
theorem plc_lt : ∀ {l : List (List UInt8)} {s : List UInt8} {j : Nat} (hj : j < l.length), j < plc l s → cmp l[j] s < 0
  | x :: r, s, 0, _, h => by
    by_cases h1 : cmp x s < 0
    · exact h1
    · simp [plc, List.takeWhile_cons, h1] at h
  | x :: r, s, j + 1, hj, h => by
    by_cases h1 : cmp x s < 0
    · refine plc_lt (l := r) (s := s) (j := j) (by simpa using hj) ?_
      simpa [plc, List.takeWhile_cons, h1] using h
    · simp [plc, List.takeWhile_cons, h1] at h
theorem plc_gt : ∀ {l : List (List UInt8)} {s : List UInt8} {i : Nat} (hi : i < l.length), (∀ j (hj : j < l.length), j < i → cmp l[j] s < 0) → cmp l[i] s < 0 → i < plc l s
  | x :: r, s, 0, _, _, h => by
    have h : cmp x s < 0 := h
    simp [plc, List.takeWhile_cons, h]
  | x :: r, s, i + 1, hi, h1, h2 => by
    have h3 : cmp x s < 0 := h1 0 (by simp) (by omega)
    have h4 := plc_gt (l := r) (s := s) (i := i) (by simpa using hi) (fun j hj hji => h1 (j + 1) (by simpa using hj) (by omega)) h2
    unfold plc at h4 ⊢
    rw [List.takeWhile_cons, if_pos (by simpa using h3), List.length_cons]; omega
theorem rise_ins {l : List (List UInt8)} {s : List UInt8} (h : Rise l) (hs : l[plc l s]? ≠ some s) : Rise (l.take (plc l s) ++ s :: l.drop (plc l s)) := by
  have hle := plc_le l s
  have hlo : ∀ j (hj : j < l.length), j < plc l s → cmp l[j] s < 0 := fun j hj hjp => plc_lt hj hjp
  have hhi : ∀ j (hj : j < l.length), plc l s ≤ j → cmp s l[j] < 0 := fun j hj hjp => by
    have h0 : plc l s < l.length := by omega
    have h1 : ¬ cmp l[plc l s] s < 0 := fun hlt => by
      have h2 : plc l s = plc l s + 1 + (plc l s - plc l s - 1 + 0) ∨ True := .inr trivial
      have h3 := plc_gt h0 hlo hlt
      omega
    have h2 : cmp l[plc l s] s ≠ 0 := fun e => hs (by rw [List.getElem?_eq_getElem h0, cmp_zero e])
    have h3 : cmp s l[plc l s] < 0 := by rw [cmp_anti]; omega
    by_cases e : plc l s = j
    · subst e; exact h3
    · exact cmp_trans h3 (rise_lt h (by omega) hj)
  unfold Rise
  rw [List.pairwise_append, List.pairwise_cons]
  refine ⟨List.Pairwise.sublist (List.take_sublist _ _) h, ⟨fun x hx => ?_, List.Pairwise.sublist (List.drop_sublist _ _) h⟩, fun x hx y hy => ?_⟩
  · obtain ⟨j, hj⟩ := List.mem_iff_getElem?.1 hx
    rw [List.getElem?_drop] at hj
    obtain ⟨h1, h2⟩ := List.getElem?_eq_some_iff.1 hj
    rw [← h2]; exact hhi _ h1 (by omega)
  · have hxs : cmp x s < 0 := by
      obtain ⟨j, hj⟩ := List.mem_iff_getElem?.1 hx
      have hjl := (List.getElem?_eq_some_iff.1 hj).1
      rw [List.length_take] at hjl
      rw [List.getElem?_take_of_lt (by omega)] at hj
      obtain ⟨h1, h2⟩ := List.getElem?_eq_some_iff.1 hj
      rw [← h2]; exact hlo _ h1 (by omega)
    rcases List.mem_cons.1 hy with hy | hy
    · rw [hy]; exact hxs
    · obtain ⟨j, hj⟩ := List.mem_iff_getElem?.1 hy
      rw [List.getElem?_drop] at hj
      obtain ⟨h1, h2⟩ := List.getElem?_eq_some_iff.1 hj
      rw [← h2]; exact cmp_trans hxs (hhi _ h1 (by omega))


theorem insAt_mem {l : List Nat} {i y k : Nat} : k ∈ insAt l i y ↔ k = y ∨ k ∈ l := by
  unfold insAt
  rw [List.mem_append, List.mem_cons]
  conv => rhs; rw [← List.take_append_drop i l, List.mem_append]
  constructor
  · rintro (h | h | h)
    · exact .inr (.inl h)
    · exact .inl h
    · exact .inr (.inr h)
  · rintro (h | h | h)
    · exact .inr (.inl h)
    · exact .inl h
    · exact .inr (.inr h)
theorem nmB_snoc_old {ns : List Nd} {z : Nd} {k : Nat} (hk : z.blk ≠ k) : nmB (ns ++ [z]) k = nmB ns k := by
  unfold nmB
  rw [List.find?_append]
  cases ns.find? fun x => decide (x.blk = k) with
  | some y => rfl
  | none =>
    rw [Option.none_or, List.find?_cons, decide_eq_false hk]; rfl
theorem nmB_snoc_new {ns : List Nd} {z : Nd} (h : ∀ y ∈ ns, y.blk ≠ z.blk) : nmB (ns ++ [z]) z.blk = z.name := by
  unfold nmB
  rw [List.find?_append, List.find?_eq_none.2 fun y hy => by simpa using h y hy, Option.none_or, List.find?_cons, decide_eq_true rfl]; rfl
theorem nmId {ns : List Nd} (h : (ns.map Nd.id).Nodup) {x y : Nd} (hx : x ∈ ns) (hy : y ∈ ns) (e : x.id = y.id) : x = y := by
  have h1 := find_nodup h hx
  rw [e, find_nodup h hy] at h1
  injection h1 with h1; exact h1.symm
/-- a new thing is held by x -/
theorem kd_put {ns : List Nd} (hK : Kd ns) (hid : (ns.map Nd.id).Nodup) {x : Nd} (hx : x ∈ ns) {nm : List UInt8} (hno : kid ns x.id nm = none) {z : Nd} (hz : z.kids = []) (hzp : z.par = x.id) (hzn : z.name = nm)
    (hzb : ∀ y ∈ ns, y.blk ≠ z.blk) (hzp2 : ∀ y ∈ ns, y.par ≠ z.id) (hzz : x.id ≠ z.id) (hfew : x.kids.length < 100000) {f : Nd → Nd} (hf : Keeps f) (hfk : ∀ y, (f y).kids = insAt y.kids (kpl ns x nm) z.blk) : Kd (turnB x.blk f ns ++ [z]) := by
  have hkl := plc_le (x.kids.map (nmB ns)) nm
  rw [List.length_map] at hkl
  have xof : ∀ u ∈ ns, u.blk = x.blk → u = x := fun u hu e => nmB_mem hK.blks hu hx e
  have kd : ∀ u ∈ ns, (if u.blk = x.blk then f u else u).kids = if u.blk = x.blk then insAt u.kids (kpl ns x nm) z.blk else u.kids := fun u _ => by split; exact hfk u; rfl
  have old : ∀ u ∈ ns, ∀ k ∈ u.kids, z.blk ≠ k := fun u hu k hk => by
    obtain ⟨y, h1, h2, _⟩ := hK.sub u hu k hk
    rw [← h2]; exact (hzb y h1).symm
  have nmo : ∀ k, z.blk ≠ k → nmB (turnB x.blk f ns ++ [z]) k = nmB ns k := fun k hk => by rw [nmB_snoc_old hk, nmB_turn hf]
  have nmz : nmB (turnB x.blk f ns ++ [z]) z.blk = nm := by
    rw [nmB_snoc_new fun y hy => ?_, hzn]
    obtain ⟨u, hu, rfl⟩ := turn_mem hy
    rw [(turn_eq hf u).1]; exact hzb u hu
  refine ⟨?_, fun u hu k hk => ?_, fun u hu y hy hp => ?_, fun u hu => ?_, fun u hu => ?_⟩
  · rw [List.map_append, turn_blk hf, List.nodup_append]
    refine ⟨hK.blks, by simp, fun a ha b hb e => ?_⟩
    obtain ⟨y, h1, h2⟩ := List.mem_map.1 ha
    rw [List.map_cons, List.map_nil, List.mem_singleton] at hb
    exact hzb y h1 (by rw [h2, e, hb])
  · rcases List.mem_append.1 hu with hu | hu
    · obtain ⟨w, hw, rfl⟩ := turn_mem hu
      rw [kd w hw] at hk
      rw [(turn_eq hf w).2.1]
      by_cases e : w.blk = x.blk
      · rw [if_pos e, insAt_mem] at hk
        rcases hk with hk | hk
        · exact ⟨z, List.mem_append_right _ (by simp), hk.symm, by rw [hzp, xof w hw e]⟩
        · obtain ⟨y, h1, h2, h3⟩ := hK.sub w hw k hk
          exact ⟨_, List.mem_append_left _ (turn_in h1), by rw [(turn_eq hf y).1]; exact h2, by rw [(turn_eq hf y).2.2.1]; exact h3⟩
      · rw [if_neg e] at hk
        obtain ⟨y, h1, h2, h3⟩ := hK.sub w hw k hk
        exact ⟨_, List.mem_append_left _ (turn_in h1), by rw [(turn_eq hf y).1]; exact h2, by rw [(turn_eq hf y).2.2.1]; exact h3⟩
    · rw [List.mem_singleton] at hu
      rw [hu, hz] at hk; cases hk
  · rcases List.mem_append.1 hu with hu | hu
    · obtain ⟨w, hw, rfl⟩ := turn_mem hu
      rw [(turn_eq hf w).2.1] at hp
      rw [kd w hw]
      rcases List.mem_append.1 hy with hy | hy
      · obtain ⟨v, hv, rfl⟩ := turn_mem hy
        rw [(turn_eq hf v).2.2.1] at hp
        rw [(turn_eq hf v).1]
        have h1 := hK.all w hw v hv hp
        split
        · exact insAt_mem.2 (.inr h1)
        · exact h1
      · rw [List.mem_singleton] at hy
        rw [hy, hzp] at hp
        have e : w = x := nmId hid hw hx (by omega)
        rw [hy, e, if_pos rfl]; exact insAt_mem.2 (.inl rfl)
    · rw [List.mem_singleton] at hu
      rw [hu] at hp
      rcases List.mem_append.1 hy with hy | hy
      · obtain ⟨v, hv, rfl⟩ := turn_mem hy
        rw [(turn_eq hf v).2.2.1] at hp
        exact absurd hp (hzp2 v hv)
      · rw [List.mem_singleton] at hy
        rw [hy, hzp] at hp
        exact absurd (by omega) hzz
  · rcases List.mem_append.1 hu with hu | hu
    · obtain ⟨w, hw, rfl⟩ := turn_mem hu
      rw [kd w hw]
      have e0 : ∀ v ∈ ns, v.kids.map (nmB (turnB x.blk f ns ++ [z])) = v.kids.map (nmB ns) := fun v hv => List.map_congr_left fun k hk => nmo k (old v hv k hk)
      by_cases e : w.blk = x.blk
      · rw [if_pos e]
        obtain rfl := xof w hw e
        have e1 : (insAt w.kids (kpl ns w nm) z.blk).map (nmB (turnB w.blk f ns ++ [z])) = (w.kids.map (nmB ns)).take (kpl ns w nm) ++ nm :: (w.kids.map (nmB ns)).drop (kpl ns w nm) := by
          unfold insAt
          rw [List.map_append, List.map_cons, nmz, List.map_take, List.map_drop, e0 w hw]
        rw [e1]
        exact rise_ins (hK.rise w hw) (kid_miss hK hw hno)
      · rw [if_neg e, e0 w hw]; exact hK.rise w hw
    · rw [List.mem_singleton] at hu
      rw [hu, hz]; exact List.Pairwise.nil
  · rcases List.mem_append.1 hu with hu | hu
    · obtain ⟨w, hw, rfl⟩ := turn_mem hu
      rw [kd w hw]
      by_cases e : w.blk = x.blk
      · rw [if_pos e]
        obtain rfl := xof w hw e
        rw [insAt_len hkl]; omega
      · rw [if_neg e]; exact hK.few w hw
    · rw [List.mem_singleton] at hu
      rw [hu, hz]; exact Nat.zero_le _


theorem holdO_inv {ns : List Nd} {r x : Nd} {p : List (List UInt8)} {k : Nat} {e : Int} (h : holdO ns r p = ((some x, k), e)) : fnd ns r (p.take (p.length - 1)) = some x ∧ x.dir = true ∧ kid ns x.id (lastN p) = none ∧ k = kpl ns x (lastN p) ∧ ptOk (lastN p) = true ∧ e = 0 := by
  unfold holdO at h
  by_cases h1 : ptOk (lastN p) = true
  · rw [if_pos h1] at h
    cases h2 : fnd ns r (p.take (p.length - 1)) with
    | none => rw [h2] at h; simp at h
    | some y =>
      rw [h2] at h
      simp only at h
      by_cases h3 : y.dir = true
      · rw [if_pos h3] at h
        cases h4 : kid ns y.id (lastN p) with
        | none =>
          rw [h4] at h
          simp only [Option.isSome_none, Bool.false_eq_true, if_false, Prod.mk.injEq, Option.some.injEq] at h
          obtain ⟨⟨rfl, h6⟩, h7⟩ := h
          exact ⟨rfl, h3, h4, h6.symm, h1, h7.symm⟩
        | some z => rw [h4] at h; simp at h
      · rw [if_neg h3] at h; simp at h
  · rw [if_neg h1] at h; simp at h
theorem holdO_bad {ns : List Nd} {r : Nd} {p : List (List UInt8)} : (∃ e, holdO ns r p = ((none, 0), e) ∧ e ≠ 0) ∨ ∃ x k, holdO ns r p = ((some x, k), 0) := by
  unfold holdO
  by_cases h1 : ptOk (lastN p) = true
  · rw [if_pos h1]
    cases h2 : fnd ns r (p.take (p.length - 1)) with
    | none => exact .inl ⟨22, rfl, by decide⟩
    | some y =>
      simp only
      by_cases h3 : y.dir = true
      · rw [if_pos h3]
        by_cases h4 : (kid ns y.id (lastN p)).isSome = true
        · rw [if_pos h4]; exact .inl ⟨21, rfl, by decide⟩
        · rw [if_neg h4]; exact .inr ⟨y, _, rfl⟩
      · rw [if_neg h3]; exact .inl ⟨23, rfl, by decide⟩
  · rw [if_neg h1]; exact .inl ⟨20, rfl, by decide⟩
def newNd (b ck nx : Nat) (par : Int) (dir : Bool) (nm : List UInt8) : Nd := ⟨b, ck, nx, par, dir, nm, none, 0, [], none, 0, [], mkA dir⟩
/-- x holds b, too -/
def heldF (kp : Option Addr) (kc k b : Nat) (y : Nd) : Nd := { y with kp := kp, kc := kc, kids := insAt y.kids k b }
theorem heldF_keeps (kp : Option Addr) (kc k b : Nat) : Keeps (heldF kp kc k b) := ⟨fun _ => rfl, fun _ => rfl, fun _ => rfl, fun _ => rfl⟩
def made (t : Tr) (x : Nd) (nm : List UInt8) (dir : Bool) (b : Nat) (kp : Option Addr) (kc : Nat) : Tr :=
  { t with ck := t.ck + 1, next := t.next + 1, ns := turnB x.blk (heldF kp kc (kpl t.ns x nm) b) t.ns ++ [newNd b t.ck t.next x.id dir nm] }
theorem mkA_ok (dir : Bool) : (mkA dir).Ok ∧ (mkA dir).s = 0 := by
  unfold mkA; split <;> exact ⟨⟨by decide, by decide, by decide, by decide, by decide, by decide, by decide⟩, rfl⟩
theorem Wf.parlt {t : Tr} {r : Nd} (h : Wf t r) {x : Nd} (hx : x ∈ t.ns) : x.par < (t.next : Int) := by
  rcases h.par x hx with h1 | ⟨y, h1, h2, _⟩
  · have : x = r := nmId h.ids hx h.root (by rw [h1, h.rid])
    rw [this, h.rpar]; omega
  · have := h.lt y h1; omega
theorem heldG (kp : Option Addr) (kc k b bb : Nat) (y : Nd) : ∃ g : Nd, (if y.blk = bb then heldF kp kc k b y else y) = g ∧ g.id = y.id ∧ g.par = y.par ∧ g.dir = y.dir ∧ g.name = y.name ∧ g.data = y.data ∧ g.a = y.a := by
  refine ⟨_, rfl, ?_⟩
  split <;> exact ⟨rfl, rfl, rfl, rfl, rfl, rfl⟩
theorem kids_nodup {ns : List Nd} (h : Kd ns) {x : Nd} (hx : x ∈ ns) : x.kids.Nodup := by
  have h1 := h.rise x hx
  unfold Rise at h1
  rw [List.pairwise_map] at h1
  refine List.Pairwise.imp (fun {a b} hab e => ?_) h1
  rw [e, cmp_self] at hab; cases hab
theorem nodup_le : ∀ {l m : List Nat}, l.Nodup → (∀ x ∈ l, x ∈ m) → l.length ≤ m.length
  | [], _, _, _ => Nat.zero_le _
  | x :: l, m, h, hs => by
    rw [List.nodup_cons] at h
    have hx := hs x (by simp)
    have h1 := nodup_le (m := m.erase x) h.2 fun y hy => (List.mem_erase_of_ne (fun e : y = x => h.1 (by rw [← e]; exact hy))).2 (hs y (by simp [hy]))
    rw [List.length_erase_of_mem hx] at h1
    have h2 := List.length_pos_of_mem hx
    rw [List.length_cons]; omega
theorem kids_le {ns : List Nd} (h : Kd ns) {x : Nd} (hx : x ∈ ns) : x.kids.length ≤ ns.length := by
  have h2 := nodup_le (kids_nodup h hx) (m := ns.map Nd.blk) fun k hk => by
    obtain ⟨y, h1, h2, _⟩ := h.sub x hx k hk
    exact List.mem_map.2 ⟨y, h1, h2⟩
  rwa [List.length_map] at h2
theorem wf_made {t : Tr} {r x : Nd} {nm : List UInt8} {dir : Bool} {b : Nat} {kp : Option Addr} {kc : Nat} (hW : Wf t r) (hx : x ∈ t.ns) (hd : x.dir = true) (hno : kid t.ns x.id nm = none) (hok : ptOk nm = true) (hfew : t.ns.length < 200) (hb : ∀ y ∈ t.ns, y.blk ≠ b) :
    Wf (made t x nm dir b kp kc) (if r.blk = x.blk then heldF kp kc (kpl t.ns x nm) b r else r) := by
  have hF := heldF_keeps kp kc (kpl t.ns x nm) b
  have hxl := hW.lt x hx
  have hkf : x.kids.length < 100000 := by
    have h1 := kids_le hW.kd hx
    omega
  have gof : ∀ u ∈ (made t x nm dir b kp kc).ns, u = newNd b t.ck t.next x.id dir nm ∨ ∃ y ∈ t.ns, u = (if y.blk = x.blk then heldF kp kc (kpl t.ns x nm) b y else y) := fun u hu => by
    rcases List.mem_append.1 hu with hu | hu
    · exact .inr (turn_mem hu)
    · exact .inl (List.mem_singleton.1 hu)
  have gin : ∀ y ∈ t.ns, (if y.blk = x.blk then heldF kp kc (kpl t.ns x nm) b y else y) ∈ (made t x nm dir b kp kc).ns := fun y hy => List.mem_append_left _ (turn_in hy)
  have zin : newNd b t.ck t.next x.id dir nm ∈ (made t x nm dir b kp kc).ns := List.mem_append_right _ (List.mem_singleton_self _)
  refine ⟨kd_put hW.kd hW.ids hx hno rfl rfl rfl hb (fun y hy e => ?_) (fun e => ?_) hkf hF (fun _ => rfl), gin r hW.root, ?_, ?_, ?_, ?_, ?_, fun u hu => ?_, fun u hu => ?_, fun u hu => ?_, ?_, ?_, fun u hu hdu => ?_, ?_, hW.max, fun u hu => ?_⟩
  · have := hW.parlt hy
    have e : y.par = (t.next : Int) := e
    omega
  · have e : x.id = t.next := e
    omega
  · show t.rb = _; rw [hW.rb, (turn_eq hF r).1]
  · rw [(turn_eq hF r).2.1]; exact hW.rid
  · rw [(turn_eq hF r).2.2.1]; exact hW.rpar
  · obtain ⟨g, e, _, _, h3, _⟩ := heldG kp kc (kpl t.ns x nm) b x.blk r
    rw [e, h3]; exact hW.rdir
  · show ((turnB x.blk _ t.ns ++ [_]).map Nd.id).Nodup
    rw [List.map_append, List.nodup_append]
    have e1 : (turnB x.blk (heldF kp kc (kpl t.ns x nm) b) t.ns).map Nd.id = t.ns.map Nd.id := by
      unfold turnB; rw [List.map_map]
      exact List.map_congr_left fun y _ => (turn_eq hF y).2.1
    rw [e1]
    refine ⟨hW.ids, by simp, fun c hc d hd' e => ?_⟩
    obtain ⟨y, h1, h2⟩ := List.mem_map.1 hc
    have h3 := hW.lt y h1
    rw [List.map_cons, List.map_nil, List.mem_singleton] at hd'
    have h4 : d = t.next := hd'
    omega
  · show u.id < t.next + 1
    rcases gof u hu with rfl | ⟨y, hy, rfl⟩
    · show t.next < _; omega
    · rw [(turn_eq hF y).2.1]; have := hW.lt y hy; omega
  · rcases gof u hu with rfl | ⟨y, hy, rfl⟩
    · obtain ⟨g, e, h1, _, h3, _⟩ := heldG kp kc (kpl t.ns x nm) b x.blk x
      exact .inr ⟨_, gin x hx, by rw [e, h1]; rfl, by rw [e, h3]; exact hd⟩
    · rw [(turn_eq hF y).2.1, (turn_eq hF y).2.2.1]
      rcases hW.par y hy with h1 | ⟨v, h1, h2, h3⟩
      · exact .inl h1
      · obtain ⟨g, e, g1, _, g3, _⟩ := heldG kp kc (kpl t.ns x nm) b x.blk v
        exact .inr ⟨_, gin v h1, by rw [e, g1]; exact h2, by rw [e, g3]; exact h3⟩
  · rcases gof u hu with rfl | ⟨y, hy, rfl⟩
    · exact .inr hok
    · rw [(turn_eq hF y).2.1, (turn_eq hF y).2.2.2]; exact hW.nm y hy
  · obtain ⟨d, hd1⟩ := hW.rk
    refine ⟨fun k => if k = t.next then d x.id + 1 else d k, fun u hu v hv hp => ?_⟩
    rcases gof u hu with rfl | ⟨y, hy, rfl⟩
    · exfalso
      have hp : v.par = (t.next : Int) := hp
      rcases gof v hv with rfl | ⟨w, hw, rfl⟩
      · have hp : (x.id : Int) = t.next := hp
        omega
      · rw [(turn_eq hF w).2.2.1] at hp
        have := hW.parlt hw; omega
    · have hyl := hW.lt y hy
      rw [(turn_eq hF y).2.1] at hp ⊢
      rcases gof v hv with rfl | ⟨w, hw, rfl⟩
      · have hp : (x.id : Int) = y.id := hp
        have e : y = x := nmId hW.ids hy hx (by omega)
        show (if t.next = t.next then _ else _) = (if y.id = t.next then _ else _) + 1
        rw [if_pos rfl, if_neg (by omega), e]
      · rw [(turn_eq hF w).2.2.1] at hp
        rw [(turn_eq hF w).2.1]
        have hwl := hW.lt w hw
        show (if w.id = t.next then _ else _) = (if y.id = t.next then _ else _) + 1
        rw [if_neg (by omega), if_neg (by omega)]
        exact hd1 y hy w hw hp
  · show (turnB x.blk _ t.ns ++ [_]).length ≤ 200
    rw [List.length_append, turnB, List.length_map]; simp; omega
  · rcases gof u hu with rfl | ⟨y, hy, rfl⟩
    · rfl
    · obtain ⟨g, e, _, _, g3, _, g5, _⟩ := heldG kp kc (kpl t.ns x nm) b x.blk y
      rw [e] at hdu ⊢
      rw [g5]; exact hW.dat y hy (by rw [← g3]; exact hdu)
  · show t.bytes = ((turnB x.blk _ t.ns ++ [_]).map fun x : Nd => x.data.length).sum
    rw [hW.sum, List.map_append, List.sum_append]
    have e1 : (turnB x.blk (heldF kp kc (kpl t.ns x nm) b) t.ns).map (fun x : Nd => x.data.length) = t.ns.map fun x : Nd => x.data.length := by
      unfold turnB; rw [List.map_map]
      exact List.map_congr_left fun y _ => by
        obtain ⟨g, e, _, _, _, _, g5, _⟩ := heldG kp kc (kpl t.ns x nm) b x.blk y
        show (if y.blk = x.blk then _ else y).data.length = _
        rw [e, g5]
    rw [e1]; rfl
  · rcases gof u hu with rfl | ⟨y, hy, rfl⟩
    · exact mkA_ok dir
    · obtain ⟨g, e, _, _, _, _, _, g6⟩ := heldG kp kc (kpl t.ns x nm) b x.blk y
      rw [e, g6]; exact hW.a y hy

end Go.Proofs.Ytbbmhppkhcodfaa
namespace Go.Proofs.Ytbbmhppkhcodfaa
open Go.Sx
set_option linter.unusedVariables false
set_option linter.unusedSimpArgs false
set_option maxRecDepth 100000
set_option maxHeartbeats 4000000

theorem tree_open {t : Tr} {L : List HProp} {w : World} {F : HProp} (s : sat w (star (St (tree t :: L)) F)) : sat w (star (St (trL t ++ L)) F) := by
  rw [St_cons, tree, ← St_append] at s; exact s
theorem tree_shut {t : Tr} {L : List HProp} {w : World} {F : HProp} (s : sat w (star (St (trL t ++ L)) F)) : sat w (star (St (tree t :: L)) F) := by
  rw [St_cons, tree, ← St_append]; exact s
theorem nds_op {ns : List Nd} {i : Nat} {x : Nd} {L : List HProp} (h : ns[i]? = some x) {w : World} {F : HProp} (s : sat w (star (St (nds ns :: L)) F)) : sat w (star (St (own x.blk (.cells x.cs.toArray 85 (0, 0)) :: rowP x.kp x.kc x.kids :: rowD x.dp x.dc x.data :: nds (ns.eraseIdx i) :: L)) F) := by
  rw [St_cons, nds_open h, nd_parts] at s
  simp only [St_cons, star_assoc] at s ⊢
  exact s
theorem nds_cl {ns : List Nd} {i : Nat} {x y : Nd} {L : List HProp} (h : ns[i]? = some x) {w : World} {F : HProp} (s : sat w (star (St (own y.blk (.cells y.cs.toArray 85 (0, 0)) :: rowP y.kp y.kc y.kids :: rowD y.dp y.dc y.data :: nds (ns.eraseIdx i) :: L)) F)) : sat w (star (St (nds (ns.set i y) :: L)) F) := by
  rw [St_cons, nds_close h, nd_parts]
  simp only [St_cons, star_assoc] at s ⊢
  exact s
theorem turn_me {f : Nd → Nd} (h : ∀ y, (f y).me = y.me) (b : Nat) (ns : List Nd) : (turnB b f ns).map Nd.me = ns.map Nd.me := by
  unfold turnB; rw [List.map_map]
  exact List.map_congr_left fun y _ => by show (if y.blk = b then f y else y).me = y.me; split; exact h y; rfl
theorem made_in {t : Tr} {x : Nd} {nm : List UInt8} {dir : Bool} {b : Nat} {kp : Option Addr} {kc : Nat} : newNd b t.ck t.next x.id dir nm ∈ (made t x nm dir b kp kc).ns := List.mem_append_right _ (List.mem_singleton_self _)
theorem make_close {t : Tr} {x : Nd} {nm : List UInt8} {dir : Bool} {b i : Nat} {kp : Option Addr} {kc : Nat} {L : List HProp} (hb : (t.ns.map Nd.blk).Nodup) (h : t.ns[i]? = some x) {w : World} {F : HProp}
    (s : sat w (star (St (own x.blk (.cells (Nd.cs (heldF kp kc (kpl t.ns x nm) b x)).toArray 85 (0, 0)) :: rowP kp kc (insAt x.kids (kpl t.ns x nm) b) :: rowD x.dp x.dc x.data :: nds ((t.ns ++ [newNd b t.ck t.next x.id dir nm]).eraseIdx i) :: own t.tb (.cells ([.pointer (some ⟨t.rb, 0, none⟩), .map (some t.mb), .int .i64 ((t.next + 1 : Nat) : Int), .int .i64 (t.bytes : Int)] : List Value).toArray 78 (0, 0)) :: own t.mb (mapO ((t.ns ++ [newNd b t.ck t.next x.id dir nm]).map Nd.me) (t.ck + 1)) :: L)) F)) :
    sat w (star (St (tree (made t x nm dir b kp kc) :: L)) F) := by
  have hi := (List.getElem?_eq_some_iff.1 h).1
  have h2 : (t.ns ++ [newNd b t.ck t.next x.id dir nm])[i]? = some x := by rw [List.getElem?_append_left hi]; exact h
  have s1 := nds_cl (y := heldF kp kc (kpl t.ns x nm) b x) h2 s
  rw [List.set_append_left _ _ hi, set_turn hb h] at s1
  have e1 : (t.ns ++ [newNd b t.ck t.next x.id dir nm]).map Nd.me = (made t x nm dir b kp kc).ns.map Nd.me := by
    show _ = (turnB x.blk (heldF kp kc (kpl t.ns x nm) b) t.ns ++ [_]).map Nd.me
    rw [List.map_append, List.map_append, turn_me (f := heldF kp kc (kpl t.ns x nm) b) (fun _ => rfl)]
  rw [e1] at s1
  refine tree_shut (t := made t x nm dir b kp kc) ?_
  have s2 : sat w (star (St (nds (made t x nm dir b kp kc).ns :: own (made t x nm dir b kp kc).tb (.cells (made t x nm dir b kp kc).cs.toArray 78 (0, 0)) :: own (made t x nm dir b kp kc).mb (mapO ((made t x nm dir b kp kc).ns.map Nd.me) (made t x nm dir b kp kc).ck) :: L)) F) := s1
  have hs : SubH (nds (made t x nm dir b kp kc).ns :: own (made t x nm dir b kp kc).tb (.cells (made t x nm dir b kp kc).cs.toArray 78 (0, 0)) :: own (made t x nm dir b kp kc).mb (mapO ((made t x nm dir b kp kc).ns.map Nd.me) (made t x nm dir b kp kc).ck) :: L) (trL (made t x nm dir b kp kc) ++ L) :=
    SubH.cons 1 rfl (SubH.cons 1 rfl (SubH.cons 0 rfl (SubH.refl _)))
  exact hs w F s2
def MakeR (t : Tr) (r : Nd) (p : List (List UInt8)) (dir : Bool) (t' : Tr) (r' : Nd) (i e : Int) : Prop :=
  (t' = t ∧ r' = r ∧ i = 0 ∧ ((p = [] ∧ e = 1) ∨ (p ≠ [] ∧ (∃ x k, holdO t.ns r p = ((some x, k), 0)) ∧ 200 ≤ t.ns.length ∧ e = 13) ∨ (p ≠ [] ∧ holdO t.ns r p = ((none, 0), e) ∧ e ≠ 0))) ∨
  (p ≠ [] ∧ ∃ x, holdO t.ns r p = ((some x, kpl t.ns x (lastN p)), 0) ∧ t.ns.length < 200 ∧ i = t.next ∧ e = 0 ∧ ∃ b kp kc, (∀ y ∈ t.ns, y.blk ≠ b) ∧ t' = made t x (lastN p) dir b kp kc ∧ r' = (if r.blk = x.blk then heldF kp kc (kpl t.ns x (lastN p)) b r else r))
theorem make_spec {V : HProp} {t : Tr} {r : Nd} (hW : Wf t r) (hnx : t.next ≤ 9223372036854775806) (q : Option Addr) (cq : Nat) (p : List (List UInt8)) (hV : Vw V (.slice q p.length cq) p.length (txs p)) (hcq : p.length ≤ cq) (hl : p.length ≤ 100000) (hln : (lastN p).length ≤ 9223372036854775807) (dir : Bool) :
    Tri Try.prog 11 [t.v, .slice q p.length cq, .bool dir] [tree t, V] (fun v H' => ∃ t' r' i e, v = .tuple #[.int .i64 i, .int .i64 e] ∧ MakeR t r p dir t' r' i e ∧ Wf t' r' ∧ H' = [tree t', V]) := by
  by_cases hp : p = []
  · have hp0 : p.length = 0 := by rw [hp]; rfl
    refine tri_of_wpS Try.func11 rfl Try.ntmps11 (by simp) ?_
    refine wp_seq' ?_
    refine wp_region' ?_
    refine ops_ro' rfl (ro_assign rfl) rfl ?_
    refine ops_ro' rfl (ro_assign rfl) rfl ?_
    refine ops_nil ?_
    refine Then_normal ?_
    refine wp_seq' ?_
    refine wp_seq' ?_
    refine wp_region' ?_
    refine ops_ro' rfl (ro_move rfl) rfl ?_
    refine ops_ro' rfl (ro_sliceLen Try.underlying29 rfl) rfl ?_
    refine ops_ro' rfl (ro_eql rfl rfl (decide_eq_true (by omega))) rfl ?_
    refine ops_nil ?_
    refine Then_normal ?_
    refine wp_condT rfl ?_
    refine wp_seq' ?_
    refine wp_region' ?_
    refine ops_ro' rfl (ro_assign rfl) rfl ?_
    refine ops_ro' rfl (ro_assign rfl) rfl ?_
    refine ops_nil ?_
    refine Then_normal ?_
    refine wp_ret' ?_
    refine Then_ret ?_
    refine' doneS_ret (res2 rfl rfl rfl) ?_ ?_
    rotate_left 1
    exact ⟨t, r, 0, 1, rfl, .inl ⟨rfl, rfl, rfl, .inl ⟨hp, rfl⟩⟩, hW, rfl⟩
    exact SubH.refl _
  · have hp1 := List.length_pos_iff.2 hp
    have hlast := lastN_at hp
    have hfr : ∀ y ∈ t.ns.map Nd.me, y.k ≠ (t.next : Int) := fun y hy => by
      obtain ⟨z, hz, rfl⟩ := List.mem_map.1 hy
      have := hW.lt z hz
      show (z.id : Int) ≠ _; omega
    refine tri_know (fun w F s => vw_ptr (Vw.pick (H := [tree t, V]) 1 rfl hV) s (by omega)) ?_
    rintro ⟨b0, o0, rfl⟩
    rcases holdO_bad (ns := t.ns) (r := r) (p := p) with ⟨e, hh, he⟩ | ⟨x, k, hh⟩
    · skip
      refine tri_of_wpS Try.func11 rfl Try.ntmps11 (by simp) ?_
      refine wp_seq' ?_
      refine wp_region' ?_
      refine ops_ro' rfl (ro_assign rfl) rfl ?_
      refine ops_ro' rfl (ro_assign rfl) rfl ?_
      refine ops_nil ?_
      refine Then_normal ?_
      refine wp_seq' ?_
      refine wp_seq' ?_
      refine wp_region' ?_
      refine ops_ro' rfl (ro_move rfl) rfl ?_
      refine ops_ro' rfl (ro_sliceLen Try.underlying29 rfl) rfl ?_
      refine ops_ro' rfl (ro_eql rfl rfl (decide_eq_false (by omega))) rfl ?_
      refine ops_nil ?_
      refine Then_normal ?_
      refine wp_condF rfl ?_
      refine wp_skip' ?_
      refine Then_normal ?_
      refine wp_seq' ?_
      refine wp_region' ?_
      refine ops_ro' rfl (ro_move rfl) rfl ?_
      refine ops_ro' rfl (ro_move rfl) rfl ?_
      refine ops_eff' rfl (eff_callM (Pre := []) Try.call36 rfl rfl (Split.nil _) (holder_spec (Tv.pick 0 rfl (tree_tv t)) hW _ cq p (by first | exact (Vw.pick 0 rfl hV) | exact (Vw.pick 1 rfl hV) | exact (Vw.pick 2 rfl hV) | exact Vw.pick 0 rfl Vw.row | exact Vw.pick 1 rfl Vw.row | exact Vw.pick 2 rfl Vw.row | exact Vw.nil _ | exact Vw.empty _ _) hcq hl hp hln)) rfl ?_
      rintro _ H' ⟨_, ⟨rfl, rfl⟩, hH⟩
      simp only [List.cons_append, List.nil_append, List.eraseIdx_cons_zero, List.eraseIdx_cons_succ, List.set_cons_zero, List.set_cons_succ] at hH
      subst hH
      rw [hh]
      dsimp only [ptrO, Option.map]
      refine ops_ro' rfl (ro_move rfl) rfl ?_
      refine ops_ro' rfl (ro_extract rfl rfl) rfl ?_
      refine ops_ro' rfl (ro_extract rfl rfl) rfl ?_
      refine ops_ro' rfl (ro_extract rfl rfl) rfl ?_
      refine ops_ro' rfl (ro_assign rfl) rfl ?_
      refine ops_ro' rfl (ro_assign rfl) rfl ?_
      refine ops_ro' rfl (ro_assign rfl) rfl ?_
      refine ops_nil ?_
      refine Then_normal ?_
      refine wp_seq' ?_
      refine wp_block' ?_
      refine wp_seq' ?_
      refine wp_region' ?_
      refine ops_ro' rfl (ro_move rfl) rfl ?_
      refine ops_ro' rfl (ro_neq rfl rfl (decide_eq_true (by omega))) rfl ?_
      refine ops_ro' rfl (ro_assign rfl) rfl ?_
      refine ops_nil ?_
      refine Then_normal ?_
      refine wp_condT rfl ?_
      refine wp_seq' ?_
      refine wp_region' ?_
      refine ops_ro' rfl (ro_move rfl) rfl ?_
      refine ops_ro' rfl (ro_assign rfl) rfl ?_
      refine ops_ro' rfl (ro_assign rfl) rfl ?_
      refine ops_nil ?_
      refine Then_normal ?_
      refine wp_ret' ?_
      refine InBlock_ret ?_
      refine Then_ret ?_
      refine' doneS_ret (res2 rfl rfl rfl) ?_ ?_
      rotate_left 1
      exact ⟨t, r, 0, e, rfl, .inl ⟨rfl, rfl, rfl, .inr (.inr ⟨hp, hh, he⟩)⟩, hW, rfl⟩
      exact SubH.refl _
    · obtain ⟨h1, hdir, hno, rfl, hok, _⟩ := holdO_inv hh
      have hx := fnd_mem hW.root h1
      obtain ⟨ix, hix⟩ := List.mem_iff_getElem?.1 hx
      have hkl : kpl t.ns x (lastN p) ≤ x.kids.length := by have := plc_le (x.kids.map (nmB t.ns)) (lastN p); rwa [List.length_map] at this
      refine tri_of_wpS Try.func11 rfl Try.ntmps11 (by simp) ?_
      refine wp_seq' ?_
      refine wp_region' ?_
      refine ops_ro' rfl (ro_assign rfl) rfl ?_
      refine ops_ro' rfl (ro_assign rfl) rfl ?_
      refine ops_nil ?_
      refine Then_normal ?_
      refine wp_seq' ?_
      refine wp_seq' ?_
      refine wp_region' ?_
      refine ops_ro' rfl (ro_move rfl) rfl ?_
      refine ops_ro' rfl (ro_sliceLen Try.underlying29 rfl) rfl ?_
      refine ops_ro' rfl (ro_eql rfl rfl (decide_eq_false (by omega))) rfl ?_
      refine ops_nil ?_
      refine Then_normal ?_
      refine wp_condF rfl ?_
      refine wp_skip' ?_
      refine Then_normal ?_
      refine wp_seq' ?_
      refine wp_region' ?_
      refine ops_ro' rfl (ro_move rfl) rfl ?_
      refine ops_ro' rfl (ro_move rfl) rfl ?_
      refine ops_eff' rfl (eff_callM (Pre := []) Try.call36 rfl rfl (Split.nil _) (holder_spec (Tv.pick 0 rfl (tree_tv t)) hW _ cq p (by first | exact (Vw.pick 0 rfl hV) | exact (Vw.pick 1 rfl hV) | exact (Vw.pick 2 rfl hV) | exact (Vw.pick 3 rfl hV) | exact (Vw.pick 4 rfl hV) | exact (Vw.pick 5 rfl hV) | exact (Vw.pick 6 rfl hV) | exact (Vw.pick 7 rfl hV) | exact Vw.pick 0 rfl Vw.row | exact Vw.pick 1 rfl Vw.row | exact Vw.pick 2 rfl Vw.row | exact Vw.pick 3 rfl Vw.row | exact Vw.pick 4 rfl Vw.row | exact Vw.pick 5 rfl Vw.row | exact Vw.pick 6 rfl Vw.row | exact Vw.pick 7 rfl Vw.row | exact Vw.nil _ | exact Vw.empty _ _) hcq hl hp hln)) rfl ?_
      rintro _ H' ⟨_, ⟨rfl, rfl⟩, hH⟩
      simp only [List.cons_append, List.nil_append, List.eraseIdx_cons_zero, List.eraseIdx_cons_succ, List.set_cons_zero, List.set_cons_succ] at hH
      subst hH
      rw [hh]
      dsimp only [ptrO, Option.map]
      refine ops_ro' rfl (ro_move rfl) rfl ?_
      refine ops_ro' rfl (ro_extract rfl rfl) rfl ?_
      refine ops_ro' rfl (ro_extract rfl rfl) rfl ?_
      refine ops_ro' rfl (ro_extract rfl rfl) rfl ?_
      refine ops_ro' rfl (ro_assign rfl) rfl ?_
      refine ops_ro' rfl (ro_assign rfl) rfl ?_
      refine ops_ro' rfl (ro_assign rfl) rfl ?_
      refine ops_nil ?_
      refine Then_normal ?_
      refine wp_seq' ?_
      refine wp_block' ?_
      refine wp_seq' ?_
      refine wp_region' ?_
      refine ops_ro' rfl (ro_move rfl) rfl ?_
      refine ops_ro' rfl (ro_neq rfl rfl (decide_eq_false (by omega))) rfl ?_
      refine ops_ro' rfl (ro_assign rfl) rfl ?_
      refine ops_nil ?_
      refine Then_normal ?_
      refine wp_condF rfl ?_
      refine wp_seq' ?_
      refine wp_region' ?_
      refine ops_ro' rfl (ro_move rfl) rfl ?_
      refine ops_ro' rfl (ro_nilCheck rfl) rfl ?_
      refine ops_ro' rfl (ro_fieldAddr fa78_1 rfl) rfl ?_
      refine ops_ro' rfl (ro_load sc75 rfl (Rd.pick 0 rfl (((tree_tv t).cs 1 _ rfl)))) rfl ?_
      refine ops_ro' rfl (ro_mapLen Try.underlying75 rfl (Mp.pick 0 rfl (tree_tv t).mp)) rfl ?_
      rw [List.length_map]
      refine ops_ro' rfl (ro_geq rfl rfl rfl) rfl ?_
      refine ops_ro' rfl (ro_assign rfl) rfl ?_
      refine ops_nil ?_
      refine Then_normal ?_
      refine wp_cond' rfl (fun hc26 => ?_) (fun hc26 => ?_)
      · replace hc26 := of_decide_eq_true hc26
        refine wp_seq' ?_
        refine wp_region' ?_
        refine ops_ro' rfl (ro_assign rfl) rfl ?_
        refine ops_ro' rfl (ro_assign rfl) rfl ?_
        refine ops_nil ?_
        refine Then_normal ?_
        refine wp_ret' ?_
        refine InBlock_ret ?_
        refine Then_ret ?_
        refine' doneS_ret (res2 rfl rfl rfl) ?_ ?_
        rotate_left 1
        exact ⟨t, r, 0, 13, rfl, .inl ⟨rfl, rfl, rfl, .inr (.inl ⟨hp, ⟨x, _, hh⟩, by omega, rfl⟩)⟩, hW, rfl⟩
        exact SubH.refl _
      · replace hc26 := of_decide_eq_false hc26
        refine wp_skip' ?_
        refine InBlock_normal ?_
        refine Then_normal ?_
        refine wp_seq' ?_
        refine wp_heap (H' := trL t ++ [V]) (fun w F s => tree_open s) ?_
        simp only [trL, List.cons_append, List.nil_append]
        refine wp_region' ?_
        refine ops_ro' rfl (ro_move rfl) rfl ?_
        refine ops_ro' rfl (ro_move rfl) rfl ?_
        refine ops_ro' rfl (ro_move rfl) rfl ?_
        refine ops_ro' rfl (ro_sliceLen Try.underlying29 rfl) rfl ?_
        refine ops_ro' rfl (ro_sub rfl rfl (wrap_dec (by omega) (by omega))) rfl ?_
        refine ops_ro' rfl (ro_indexSlice sl29 rfl rfl rfl (by omega)) rfl ?_
        refine ops_ro' rfl (ro_load sc9 rfl (Rd.pick 3 rfl (Rd.elem (j := 0) (vw_rdn hV) Tx.len hlast rfl))) rfl ?_
        refine ops_ro' rfl (ro_move rfl) rfl ?_
        refine ops_eff' rfl (eff_call Try.call35 rfl rfl (by repeat (first | exact Split.nil _ | apply Split.cons 0 rfl | apply Split.cons 1 rfl | apply Split.cons 2 rfl | apply Split.cons 3 rfl | apply Split.cons 4 rfl | apply Split.cons 5 rfl | apply Split.cons 6 rfl | apply Split.cons 7 rfl | apply Split.cons 8 rfl | apply Split.cons 9 rfl | apply Split.cons 10 rfl | apply Split.cons 11 rfl)) (made_spec t.tb t.mb t.ck t.next t.bytes (.pointer (some ⟨t.rb, 0, none⟩)) rfl t.ns (lastN p) dir (x.id : Int) hnx hfr)) rfl ?_
        rintro _ H' ⟨_, ⟨b41, rfl, hb41, rfl⟩, hH⟩
        simp only [List.cons_append, List.nil_append, List.eraseIdx_cons_zero, List.eraseIdx_cons_succ, List.set_cons_zero, List.set_cons_succ] at hH
        subst hH
        refine ops_ro' rfl (ro_assign rfl) rfl ?_
        refine ops_nil ?_
        refine Then_normal ?_
        refine wp_seq' ?_
        have hix2 : (t.ns ++ [newNd b41 t.ck t.next x.id dir (lastN p)])[ix]? = some x := by rw [List.getElem?_append_left (List.getElem?_eq_some_iff.1 hix).1]; exact hix
        refine wp_sub' (L := [nds (t.ns ++ [newNd b41 t.ck t.next x.id dir (lastN p)]), own t.tb (.cells ([.pointer (some ⟨t.rb, 0, none⟩), .map (some t.mb), .int .i64 ((t.next + 1 : Nat) : Int), .int .i64 (t.bytes : Int)] : List Value).toArray 78 (0, 0)), own t.mb (mapO ((t.ns ++ [newNd b41 t.ck t.next x.id dir (lastN p)]).map Nd.me) (t.ck + 1)), V]) (by repeat (first | exact SubH.nil _ | refine SubH.cons 0 rfl ?_ | refine SubH.cons 1 rfl ?_ | refine SubH.cons 2 rfl ?_ | refine SubH.cons 3 rfl ?_ | refine SubH.cons 4 rfl ?_ | refine SubH.cons 5 rfl ?_ | refine SubH.cons 6 rfl ?_ | refine SubH.cons 7 rfl ?_ | refine SubH.cons 8 rfl ?_ | refine SubH.cons 9 rfl ?_ | refine SubH.cons 10 rfl ?_ | refine SubH.cons 11 rfl ?_ | refine SubH.cons 12 rfl ?_ | refine SubH.cons 13 rfl ?_ | refine SubH.rown ?_)) ?_
        refine wp_heap (fun w F s => nds_op hix2 s) ?_
        refine wp_region' ?_
        refine ops_ro' rfl (ro_move rfl) rfl ?_
        refine ops_ro' rfl (ro_move rfl) rfl ?_
        refine ops_ro' rfl (ro_nilCheck rfl) rfl ?_
        refine ops_ro' rfl (ro_fieldAddr fa85_3 rfl) rfl ?_
        refine ops_ro' rfl (ro_load sc82 rfl (Rd.pick 0 rfl (Rd.own rfl))) rfl ?_
        refine ops_ro' rfl (ro_move rfl) rfl ?_
        refine ops_ro' rfl (ro_move rfl) rfl ?_
        refine ops_eff' rfl (eff_buildSlice rfl (sbld (cs := [_]) [(.pointer none)] sl82 (by decide) (by kernel_rfl) rfl)) rfl ?_
        rintro _ _ ⟨b49, rfl, rfl⟩
        refine ops_eff' rfl (eff_call Try.call37 rfl rfl (by repeat (first | exact Split.nil _ | apply Split.cons 0 rfl | apply Split.cons 1 rfl | apply Split.cons 2 rfl | apply Split.cons 3 rfl | apply Split.cons 4 rfl | apply Split.cons 5 rfl | apply Split.cons 6 rfl | apply Split.cons 7 rfl | apply Split.cons 8 rfl | apply Split.cons 9 rfl | apply Split.cons 10 rfl | apply Split.cons 11 rfl)) (ins_spec x.kp x.kc x.kids (hW.kd.few x hx) (kpl t.ns x (lastN p)) hkl b41 b49)) rfl ?_
        rintro _ H' ⟨_, ⟨p50, c50, rfl, rfl⟩, hH⟩
        simp only [List.cons_append, List.nil_append, List.eraseIdx_cons_zero, List.eraseIdx_cons_succ, List.set_cons_zero, List.set_cons_succ] at hH
        subst hH
        refine ops_ro' rfl (ro_nilCheck rfl) rfl ?_
        refine ops_ro' rfl (ro_fieldAddr fa85_3 rfl) rfl ?_
        refine ops_eff0 rfl (eff_store 1 sc82 rfl rfl rfl rfl (Nat.le_of_ble_eq_true rfl) (warm_zero _)) rfl ?_
        rintro _ _ rfl
        refine ops_nil ?_
        refine Then_normal ?_
        refine wp_seq' ?_
        refine wp_sub' (L := [own x.blk (.cells (Nd.cs (heldF p50 c50 (kpl t.ns x (lastN p)) b41 x)).toArray 85 (0, 0)), rowP p50 c50 (insAt x.kids (kpl t.ns x (lastN p)) b41), rowD x.dp x.dc x.data, nds ((t.ns ++ [newNd b41 t.ck t.next x.id dir (lastN p)]).eraseIdx ix), own t.tb (.cells ([.pointer (some ⟨t.rb, 0, none⟩), .map (some t.mb), .int .i64 ((t.next + 1 : Nat) : Int), .int .i64 (t.bytes : Int)] : List Value).toArray 78 (0, 0)), own t.mb (mapO ((t.ns ++ [newNd b41 t.ck t.next x.id dir (lastN p)]).map Nd.me) (t.ck + 1)), V]) (by repeat (first | exact SubH.nil _ | refine SubH.cons 0 rfl ?_ | refine SubH.cons 1 rfl ?_ | refine SubH.cons 2 rfl ?_ | refine SubH.cons 3 rfl ?_ | refine SubH.cons 4 rfl ?_ | refine SubH.cons 5 rfl ?_ | refine SubH.cons 6 rfl ?_ | refine SubH.cons 7 rfl ?_ | refine SubH.cons 8 rfl ?_ | refine SubH.cons 9 rfl ?_ | refine SubH.cons 10 rfl ?_ | refine SubH.cons 11 rfl ?_ | refine SubH.cons 12 rfl ?_ | refine SubH.cons 13 rfl ?_ | refine SubH.rown ?_)) ?_
        refine wp_heap (fun w F s => make_close (kp := p50) (kc := c50) hW.kd.blks hix s) ?_
        refine wp_region' ?_
        refine ops_ro' rfl (ro_move rfl) rfl ?_
        refine ops_ro' rfl (ro_nilCheck rfl) rfl ?_
        refine ops_ro' rfl (ro_fieldAddr fa85_0 rfl) rfl ?_
        refine ops_ro' rfl (ro_load sc3 rfl (Rd.pick 0 rfl (((tree_tv (made t x (lastN p) dir b41 p50 c50)).nd (newNd b41 t.ck t.next x.id dir (lastN p)) made_in 0 _ rfl)))) rfl ?_
        refine ops_ro' rfl (ro_assign rfl) rfl ?_
        refine ops_ro' rfl (ro_assign rfl) rfl ?_
        refine ops_nil ?_
        refine Then_normal ?_
        refine wp_ret' ?_
        refine' doneS_ret (res2 rfl rfl rfl) ?_ ?_
        rotate_left 1
        exact ⟨(made t x (lastN p) dir b41 p50 c50), _, (t.next : Int), 0, rfl, .inr ⟨hp, x, hh, by omega, rfl, rfl, b41, p50, c50, hb41, rfl, rfl⟩, wf_made hW hx hdir hno hok (by omega) hb41, rfl⟩
        exact SubH.refl _

end Go.Proofs.Ytbbmhppkhcodfaa
