/-
  strings.Split and strings.Join.
  Package path, and package strongroomref13.
  A tree's model, and how it lies.
  A tree's find, Look.
  A tree is read.
  A tree grows: holder, made, New.
  A thing is held by another: plain laws.
-/
import Derived.Test.YtlefpllcgcicpaaGreatDoorPPath
import Derived.Test.YtlefpllcgcicpaaGreatDoorLib
import Derived.Test.YtlefpllcgcicpaaGreatDoorTrJ
import Derived.Test.YtlefpllcgcicpaaGreatDoorWire
import Derived.Test.YtlefpllcgcicpaaGreatDoorAttr
set_option linter.unusedVariables false
set_option linter.unusedSimpArgs false
namespace Go.Proofs.YtlefpllcgcicpaaGreatDoor
open Go.Sx
set_option maxRecDepth 100000
set_option maxHeartbeats 4000000
open Go.RowKit
/-- the library's number of the longest text that is sought at once can be read -/
def Ml (V : HProp) : Prop := ∀ w R, sat w (star V R) → ∃ m, w.cell? ⟨0, 0, none⟩ = some (.int .i64 m)
theorem Ml.pick {V : HProp} {H : List HProp} (i : Nat) (hi : H[i]? = some V) (h : Ml V) : Ml (St H) := fun w R s => by
 rw [yS hi, zv] at s; exact h w _ s
theorem split_spec (V : HProp) (hM : Ml V) (s : List UInt8) (c : UInt8) (hs : s.length < 4294967281) :
 Tri Tryz.prog 73 [.string (str s), .string (str [c])] [V] (fun v H' => ∃ K, (∃ b, v = .slice (some ⟨b, 0, none⟩) (parts c s).length (parts c s).length ∧ K = [row 9 1 (.slice (some ⟨b, 0, none⟩) (parts c s).length (parts c s).length) (parts c s).length (txs (parts c s))]) ∧ H' = K ++ [V]) := fun w F hw => by
 have hw' : sat w (star V F) := by rwa [qJ, yV, qt] at hw
 obtain ⟨m, hm⟩ := hM w F hw'
 refine (Tryz.strings_Split (str s) (str [c]) m w (by rw [xN]; exact hs) hm (by rw [xN]; exact Nat.le_refl _)).mono ?_; rintro e w' ⟨rfl, rfl⟩; rw [countB_parts, splitB_parts, ← txs_map]; refine ⟨_, _, rfl, ⟨_, ⟨w.heap.size, rfl, rfl⟩, rfl⟩, ?_⟩; simp only [zA, zB, qJ, yV, qt, zv]; have hl := parts_length_le c s
 exact row_mk (cs := txs (parts c s)) (fr := (0, 0)) (Nat.le_refl _) (by simp only [maxLen]; omega) (by rw [yh Tx.len]) (by rw [← yh Tx.len]; exact List.take_length) (zg _) (sat_alloc (w := w) rfl hw' rfl)
theorem sat_below {w w' : World} (h : Below w.heap.size w w') {A : HProp} (s : sat w A) : sat w' A := by
 obtain ⟨k, hk, f⟩ := s
 have hc : cx w' = cx w := by unfold cx; rw [h.os, h.output]
 refine ⟨k, hc ▸ hk, fun b x hx => ?_⟩; have h1 := f b x hx
 rw [h.block b (Array.getElem?_eq_some_iff.1 h1).1]; exact h1
theorem tri_below {f : FuncId} {args : List Value} {Pre : List HProp} {v : Value} (h : ∀ w F, sat w (star (St Pre) F) → Calls Tryz.prog f args.toArray w fun e w' => e = .returned v ∧ Below w.heap.size w w') : Tri Tryz.prog f args Pre (fun v' H' => v' = v ∧ H' = Pre) := fun w F s =>
 (h w F s).mono fun e w' ⟨he, hb⟩ => ⟨v, Pre, he, ⟨rfl, rfl⟩, sat_below hb s⟩
theorem libjoin_c (c : UInt8) : ∀ xs : List (List UInt8), Lib.join xs [c] = joinc c xs
 | [] => rfl
 | [x] => by rw [Lib.join_one]; rfl
 | x :: y :: r => by
  have h := libjoin_c c (y :: r)
  rw [Lib.join_cons] at h ⊢; rw [joinc_cons c x (by simp), ← h]; simp [Lib.joinTail]
theorem join1_spec (V : HProp) (q : Option Addr) (cq : Nat) (xs : List (List UInt8)) (c : UInt8) (hV0 : Vw V (.slice q xs.length cq) xs.length (txs xs)) (hcq : xs.length ≤ cq) (hn : xs.length ≤ 140737488355328) (hj : (joinc c xs).length ≤ 35184372088000) :
 Tri Tryz.prog 82 [.slice q xs.length cq, .string (str [c])] [V] (fun v H' => v = .string (str (joinc c xs)) ∧ H' = [V]) := by
 rw [← libjoin_c c xs] at hj ⊢; refine tri_below fun w F s => ?_
 have hV := hV0
 rw [txs_map] at hV; rw [qJ, yV, zv] at s
 rcases hV w _ s with ⟨q', h1, h2, _⟩ | ⟨b, o, cap, h1, hc⟩
 ·have h0 : xs = [] := List.eq_nil_of_length_eq_zero h2
  subst h0; refine (Tryz.strings_Join_none q cq (str [c]) w).mono fun e w' ⟨he, hw⟩ => ⟨he, hw ▸ Below.refl _ _⟩
 ·injection h1 with h1 _ h3; subst h1; subst h3
  by_cases h0 : xs = []
  ·subst h0; refine (Tryz.strings_Join_none _ cq (str [c]) w).mono fun e w' ⟨he, hw⟩ => ⟨he, hw ▸ Below.refl _ _⟩
  ·have hcell : ∀ (j : Nat) x, (xs.map str)[j]? = some x → w.cell? ⟨b, o + j, none⟩ = some (.string x) := fun j x hx => hc j _ (by
    rw [List.getElem?_map] at hx ⊢
    cases hh : xs[j]? with
    | none => rw [hh] at hx; cases hx
    | some y => rw [hh] at hx; injection hx with hx; rw [← hx]; rfl)
   have hbk : b < w.heap.size := by
    obtain ⟨y, ys, rfl⟩ := List.exists_cons_of_ne_nil h0
    have h2 := hcell 0 (str y) rfl
    refine Classical.byContradiction fun hn => ?_
    have : w.heap[b]? = none := by simp; omega
    simp [World.cell?, this] at h2
   have e1 : (xs.map str).map (·.data.toList) = xs := by rw [List.map_map]; conv => rhs; rw [← List.map_id xs]
                                                         exact List.map_congr_left fun x _ => rfl
   have hk := Tryz.strings_Join b o cq (xs.map str) (str [c]) w hcell hbk (by simpa using hn) (by simpa using hcq) (by rw [e1]; show (Lib.join xs [c]).length ≤ _; omega)
   rw [e1, List.length_map] at hk; exact hk
theorem ptOk_bad {s : List UInt8} {i : Nat} (hi : i < s.length) (h : s[i].toNat = 0 ∨ s[i].toNat = 47) : ptOk s = false := by
 cases hh : ptOk s with
 | false => rfl
 | true =>
  unfold ptOk at hh; simp only [Bool.and_eq_true] at hh; have h1 := List.all_eq_true.1 hh.1.1.1.1 s[i] (List.getElem_mem hi)
  simp only [ptB, Bool.and_eq_true, decide_eq_true_eq] at h1; omega
theorem ptOk_no {s : List UInt8} (h : ¬ (s ≠ [] ∧ ((s.length : Nat) : Int) ≤ 30 ∧ s ≠ [46])) : ptOk s = false := by
 cases hh : ptOk s with
 | false => rfl
 | true =>
  unfold ptOk at hh; simp only [Bool.and_eq_true, decide_eq_true_eq] at hh; exact absurd ⟨List.length_pos_iff.1 hh.1.1.1.2, by omega, hh.1.2⟩ h
theorem ptOk_fin {s : List UInt8} (h : s.all ptB = true) (h1 : s ≠ []) (h2 : ((s.length : Nat) : Int) ≤ 30) (h3 : s ≠ [46]) : ptOk s = decide (s ≠ [46, 46]) := by
 unfold ptOk; rw [h, decide_eq_true h3, decide_eq_true (show 1 ≤ s.length from List.length_pos_iff.2 h1), decide_eq_true (show s.length ≤ 30 by omega)]; rfl
theorem run_nx {l out : List (List UInt8)} {i : Nat} (hi : i < l.length) (h : pRun (some []) (l.take i) = some out) : pRun (some []) (l.take (i + 1)) = pStep (some out) l[i] := by
 rw [List.take_succ_eq_append_getElem hi, pRun_append, h]; rfl
theorem run_bad {l out : List (List UInt8)} {i : Nat} (hi : i < l.length) (h : pRun (some []) (l.take i) = some out) (hb : pStep (some out) l[i] = none) : pRun (some []) l = none := by
 have e : l = l.take i ++ l[i] :: l.drop (i + 1) := by rw [← List.drop_eq_getElem_cons hi, List.take_append_drop]
 rw [e, pRun_append, h, pRun_cons, hb, pRun_none]
theorem trunc_tx (out : List (List UInt8)) : (txs out).take ((out.length - 1) * 1) = txs out.dropLast := by
 rw [txs, txs, Nat.mul_one, List.dropLast_eq_take]; have := flat_take Tx.len out (out.length - 1)
 rwa [Nat.mul_one] at this
theorem len_last (out : List (List UInt8)) : out.length - 1 = out.dropLast.length := by simp
theorem part_le {s : List UInt8} {i : Nat} (hi : i < (parts 47 s).length) : (parts 47 s)[i].length ≤ s.length := (parts_mem 47 s _ (List.getElem_mem hi)).1
theorem ptRight_spec (s : List UInt8) (hs : s.length ≤ 9223372036854775807) : Tri Tryz.prog 74 [.string (str s)] [] (fun v H' => v = .bool (ptOk s) ∧ H' = []) := by
 refine zt Tryz.func74 rfl Tryz.ntmps74 (by simp) ?_; refine zM (zK (zH rfl (zO rfl) rfl (zN (zI (zM ?_))))); refine zM (zK (zH rfl (zL rfl) rfl (zH rfl (ro_lenS (t' := 0) Tryz.underlying9 rfl) rfl (zH rfl (zL rfl) rfl (zN ?_))))); refine zI (qA ?_); refine yQ 2 (fun m Δ LL => ∃ (i : Nat), (i + m = s.length ∧ (s.take i).all ptB = true) ∧ Δ = [(6, .int .i64 (i : Nat))] ∧ LL = []) (m := s.length) (zS (k := 0) rfl (zS (k := 5) rfl (zf _))) (qn ⟨0, ⟨by omega, by simp⟩, rfl, rfl⟩ (by repeat (first | exact zf _ | refine zS rfl ?_)) (by repeat (first | exact zf _ | refine zS rfl ?_)) (by repeat (first | exact zY _ | refine zJ 0 rfl ?_ | refine zJ 1 rfl ?_ | refine zJ 2 rfl ?_ | refine zJ 3 rfl ?_ | refine zJ 4 rfl ?_ | refine zJ 5 rfl ?_ | refine zJ 6 rfl ?_ | refine zJ 7 rfl ?_ | refine SubH.rown ?_))) ?_; rintro m Δ LL ⟨i, ⟨hm, ht⟩, rfl, rfl⟩; simp only [zA, zB]; refine zM (zK (zH rfl (yP rfl rfl rfl) rfl (zN (zI (zM ?_))))); refine zq rfl (fun hc7 => ?_) (fun hc7 => ?_)
 ·replace hc7 := zy2 hc7
  have hi : i < s.length := by omega
  have hb := UInt8.toNat_lt s[i]
  refine zl ?_; refine zI (zM (qA ?_)); refine zM (zK (zH rfl (zL rfl) rfl (zH rfl (zO rfl) rfl (zN (zI ?_))))); refine zM (qZ 11 (by kernel_rfl) (Split.all _) ?_); refine zRO (i := 0) (by kernel_rfl) rfl rfl (zL rfl) rfl (zRO (i := 1) (by kernel_rfl) rfl rfl (zL rfl) rfl (zRO (i := 2) (by kernel_rfl) rfl rfl (ro_indexS Tryz.underlying9 rfl rfl rfl (by omega)) rfl (zRO (i := 3) (by kernel_rfl) rfl rfl (qQ rfl rfl rfl) rfl (yA (i := 4) (by kernel_rfl) rfl rfl rfl rfl (fun _ _ _ h => h) (fun hg13 => ?_) (fun hg13 => ?_)))))
  ·replace hg13 := zy2 hg13
   refine zSK (i := 5) (by kernel_rfl) rfl rfl rfl (zSK (i := 6) (by kernel_rfl) rfl rfl rfl (zSK (i := 7) (by kernel_rfl) rfl rfl rfl (zSK (i := 8) (by kernel_rfl) rfl rfl rfl (zSK (i := 9) (by kernel_rfl) rfl rfl rfl (zRO (i := 10) (by kernel_rfl) rfl rfl (zr rfl rfl) rfl ?_))))); refine xW (by kernel_rfl) ?_; refine zI (qG rfl ?_); refine zM (zK (zH rfl (zO rfl) rfl (zN (zI (zi ?_))))); refine zn ?_; refine zh ?_; refine zh ?_; refine zn ?_; refine zh ?_; refine' zX (qk rfl rfl) ?_ ?_
   rotate_left 1
   exact ⟨by rw [ptOk_bad hi (by omega)], rfl⟩
   exact zj _
  ·replace hg13 := zy3 hg13
   refine zRO (i := 5) (by kernel_rfl) rfl rfl (zL rfl) rfl (zRO (i := 6) (by kernel_rfl) rfl rfl (zL rfl) rfl (zRO (i := 7) (by kernel_rfl) rfl rfl (ro_indexS Tryz.underlying9 rfl rfl rfl (by omega)) rfl (zRO (i := 8) (by kernel_rfl) rfl rfl (show RO _ _ _ _ _ (.int .u8 47) from ro_indexS (l := [47]) (i := 0) Tryz.underlying9 rfl rfl rfl (by decide)) rfl (zRO (i := 9) (by kernel_rfl) rfl rfl (qQ rfl rfl rfl) rfl (zRO (i := 10) (by kernel_rfl) rfl rfl (zr rfl rfl) rfl ?_))))); refine xW (by kernel_rfl) ?_; refine zI (zq rfl (fun hc19 => ?_) (fun hc19 => ?_))
   ·replace hc19 := zy2 hc19
    refine zM (zK (zH rfl (zO rfl) rfl (zN (zI (zi ?_))))); refine zn ?_; refine zh ?_; refine zh ?_; refine zn ?_; refine zh ?_; refine' zX (qk rfl rfl) ?_ ?_
    rotate_left 1
    exact ⟨by rw [ptOk_bad hi (by omega)], rfl⟩
    exact zj _
   ·replace hc19 := zy3 hc19
    refine zl ?_; refine zQ ?_; refine zI (zK (zH rfl (ql rfl rfl (qo (by omega))) rfl (zH rfl (zL rfl) rfl (zN (zI ?_))))); refine back (m - 1) (by omega) (qn ⟨i + 1, ⟨by omega, by rw [List.take_succ_eq_append_getElem hi, List.all_append, ht]; simp [ptB]; omega⟩, rfl, rfl⟩ ?_ ?_ ?_)
    ·exact (by repeat (first | exact zf _ | refine zS rfl ?_))
    ·exact (by repeat (first | exact zf _ | refine zS rfl ?_))
    ·exact zj _
 ·replace hc7 := zy3 hc7
  rw [List.take_of_length_le (by omega)] at ht; refine yJ ?_; refine qV ?_; refine qV ?_; refine qe ?_; refine zI (zM (zK (zH rfl (zL rfl) rfl (zH rfl (ro_neqS rfl rfl rfl) rfl (qi rfl rfl rfl (fun hg23 => ?_) (fun hg23 => ?_))))))
  ·replace hg23 := zy2 hg23
   refine zH rfl (zL rfl) rfl (zH rfl (ro_lenS (t' := 0) Tryz.underlying9 rfl) rfl (zH rfl (ro_leq rfl rfl rfl) rfl (zH rfl (zr rfl rfl) rfl (qi rfl rfl rfl (fun hg28 => ?_) (fun hg28 => ?_)))))
   ·replace hg28 := zy2 hg28
    refine zH rfl (zL rfl) rfl (zH rfl (ro_neqS rfl rfl rfl) rfl (zH rfl (zr rfl rfl) rfl (qi rfl rfl rfl (fun hg32 => ?_) (fun hg32 => ?_))))
    ·replace hg32 := zy2 hg32
     refine zH rfl (zL rfl) rfl (zH rfl (ro_neqS rfl rfl rfl) rfl (zH rfl (zr rfl rfl) rfl (zH rfl (zO rfl) rfl (zN (zI ?_))))); refine zi ?_; refine' zX (qk rfl rfl) ?_ ?_
     rotate_left 1
     exact ⟨by rw [ptOk_fin ht hg23 hg28 hg32], rfl⟩
     exact zj _
    ·replace hg32 := zy3 hg32
     refine zZ rfl rfl (zZ rfl rfl (zH rfl (zr rfl rfl) rfl (zH rfl (zO rfl) rfl (zN (zI ?_))))); refine zi ?_; refine' zX (qk rfl rfl) ?_ ?_
     rotate_left 1
     exact ⟨by rw [ptOk_no (fun h => hg32 h.2.2)], rfl⟩
     exact zj _
   ·replace hg28 := zy3 hg28
    refine zZ rfl rfl (zZ rfl rfl (zH rfl (zr rfl rfl) rfl (zH rfl (zL (v := .bool false) rfl) rfl (zZ rfl rfl (zZ rfl rfl ?_))))); refine zH rfl (zr rfl rfl) rfl (zH rfl (zO rfl) rfl (zN (zI (zi ?_)))); refine' zX (qk rfl rfl) ?_ ?_
    rotate_left 1
    exact ⟨by rw [ptOk_no (fun h => hg28 h.2.1)], rfl⟩
    exact zj _
  ·replace hg23 := zy3 hg23
   refine zZ rfl rfl (zZ rfl rfl (zZ rfl rfl (zH rfl (zr rfl rfl) rfl (zH rfl (zL (v := .bool false) rfl) rfl (zZ rfl rfl ?_))))); refine zZ rfl rfl (zH rfl (zr rfl rfl) rfl (zH rfl (zL (v := .bool false) rfl) rfl (zZ rfl rfl (zZ rfl rfl (zH rfl (zr rfl rfl) rfl ?_))))); refine zH rfl (zO rfl) rfl (zN (zI (zi ?_))); refine' zX (qk rfl rfl) ?_ ?_
   rotate_left 1
   exact ⟨by rw [ptOk_no (fun h => hg23 h.1)], rfl⟩
   exact zj _
/-- a thing, as it lies; par: the number of what holds it -/
structure Nd where
 blk : Nat
 born : Nat
 id : Nat
 par : Int
 dir : Bool
 name : List UInt8
 kp : Option Addr
 kc : Nat
 kids : List Nat
 dp : Option Addr
 dc : Nat
 data : List UInt8
 a : At
def Nd.cs (x : Nd) : List Value := [.int .i64 (x.id : Int), .bool x.dir, .string (str x.name), .slice x.kp x.kids.length x.kc, .slice x.dp x.data.length x.dc] ++ x.a.cs
def Nd.me (x : Nd) : Me := ⟨x.id, .pointer (some ⟨x.blk, 0, none⟩), x.born⟩
abbrev rowD (p : Option Addr) (c : Nat) (l : List UInt8) : HProp := row 5 1 (.slice p l.length c) l.length (cel l)
def ndL (x : Nd) : List HProp := [own x.blk (.cells x.cs.toArray 98 (0, 0)), rowP x.kp x.kc x.kids, rowD x.dp x.dc x.data]
def nd (x : Nd) : HProp := St (ndL x)
def nds (ns : List Nd) : HProp := St (ns.map nd)
structure Tr where
 tb : Nat
 mb : Nat
 ck : Nat
 rb : Nat
 next : Nat
 bytes : Nat
 ns : List Nd
def Tr.cs (t : Tr) : List Value := [.pointer (some ⟨t.rb, 0, none⟩), .map (some t.mb), .int .i64 (t.next : Int), .int .i64 (t.bytes : Int)]
def trL (t : Tr) : List HProp := [own t.tb (.cells t.cs.toArray 95 (0, 0)), own t.mb (mapO (t.ns.map Nd.me) t.ck), nds t.ns]
def tree (t : Tr) : HProp := St (trL t)
abbrev Tr.v (t : Tr) : Value := .pointer (some ⟨t.tb, 0, none⟩)
theorem nds_pick {ns : List Nd} {x : Nd} (h : x ∈ ns) : ∃ i : Nat, (ns.map nd)[i]? = some (nd x) := by
 obtain ⟨i, hi⟩ := List.mem_iff_getElem?.1 h
 exact ⟨i, by rw [List.getElem?_map, hi]; rfl⟩
/-- V lets a tree be read -/
structure Tv (V : HProp) (t : Tr) : Prop where
 cs : RdN V t.tb 0 t.cs
 mp : Mp V t.mb (t.ns.map Nd.me)
 nd : ∀ x ∈ t.ns, RdN V x.blk 0 x.cs
 kids : ∀ x ∈ t.ns, Vw V (.slice x.kp x.kids.length x.kc) x.kids.length (pts x.kids)
 data : ∀ x ∈ t.ns, Vw V (.slice x.dp x.data.length x.dc) x.data.length (cel x.data)
 caps : ∀ w R, sat w (star V R) → ∀ x ∈ t.ns, x.data.length ≤ x.dc
theorem Tv.pick {H : List HProp} {A : HProp} {t : Tr} (i : Nat) (hi : H[i]? = some A) (h : Tv A t) : Tv (St H) t :=
 ⟨zy6 i hi h.cs, Mp.pick i hi h.mp, fun x hx => zy6 i hi (h.nd x hx), fun x hx => zy5 i hi (h.kids x hx), fun x hx => zy5 i hi (h.data x hx), fun w R s => by rw [yS hi, zv] at s; exact h.caps w _ s⟩
theorem nds_rdn {ns : List Nd} {x : Nd} (h : x ∈ ns) : RdN (nds ns) x.blk 0 x.cs := by
 obtain ⟨i, hi⟩ := nds_pick h
 exact zy6 i hi (zy6 0 rfl zx)
theorem nds_kids {ns : List Nd} {x : Nd} (h : x ∈ ns) : Vw (nds ns) (.slice x.kp x.kids.length x.kc) x.kids.length (pts x.kids) := by
 obtain ⟨i, hi⟩ := nds_pick h
 exact zy5 i hi (zy5 1 rfl Vw.row)
theorem nds_data {ns : List Nd} {x : Nd} (h : x ∈ ns) : Vw (nds ns) (.slice x.dp x.data.length x.dc) x.data.length (cel x.data) := by
 obtain ⟨i, hi⟩ := nds_pick h
 exact zy5 i hi (zy5 2 rfl Vw.row)
theorem nds_caps {ns : List Nd} {x : Nd} (h : x ∈ ns) {w : World} {R : HProp} (s : sat w (star (nds ns) R)) : x.data.length ≤ x.dc := by
 obtain ⟨i, hi⟩ := nds_pick h
 rw [nds, yS hi, zv] at s; exact row_caps (H := ndL x) 2 rfl s
theorem qh (t : Tr) : Tv (tree t) t :=
 ⟨zy6 0 rfl zx, Mp.pick 1 rfl Mp.own, fun x hx => zy6 2 rfl (nds_rdn hx), fun x hx => zy5 2 rfl (nds_kids hx), fun x hx => zy5 2 rfl (nds_data hx), fun w R s x hx => by
  rw [tree, yS (L := trL t) (i := 2) rfl, zv] at s; exact nds_caps hx s⟩
/-- the name of what lies there -/
def nmB (ns : List Nd) (k : Nat) : List UInt8 := ((ns.find? (fun x => decide (x.blk = k))).map Nd.name).getD []
def kid (ns : List Nd) (i : Int) (s : List UInt8) : Option Nd := ns.find? (fun y => decide (y.par = i) && decide (y.name = s))
/-- what stands at a path, from x on -/
def fnd (ns : List Nd) : Nd → List (List UInt8) → Option Nd
 | x, [] => some x
 | x, s :: r => match kid ns x.id s with
  | some y => fnd ns y r
  | none => none
/-- each thing holds what stands in it, by their names -/
structure Kd (ns : List Nd) : Prop where
 blks : (ns.map Nd.blk).Nodup
 sub : ∀ x ∈ ns, ∀ k ∈ x.kids, ∃ y ∈ ns, y.blk = k ∧ y.par = x.id
 all : ∀ x ∈ ns, ∀ y ∈ ns, y.par = x.id → y.blk ∈ x.kids
 rise : ∀ x ∈ ns, Rise (x.kids.map (nmB ns))
 few : ∀ x ∈ ns, x.kids.length ≤ 100000
theorem yK {α : Type} [DecidableEq α] {f : Nd → α} : ∀ {ns : List Nd} {x : Nd}, (ns.map f).Nodup → x ∈ ns → ns.find? (fun y => decide (f y = f x)) = some x
 | y :: r, x, h, hx => by
  rw [List.map_cons, List.nodup_cons] at h; rw [List.find?_cons]
  by_cases e : f y = f x
  ·rw [decide_eq_true e]
   rcases List.mem_cons.1 hx with hx | hx
   ·rw [hx]
   ·exact absurd (List.mem_map.2 ⟨x, hx, e.symm⟩) h.1
  ·rw [decide_eq_false e]
   rcases List.mem_cons.1 hx with hx | hx
   ·rw [hx] at e; exact absurd rfl e
   ·exact yK h.2 hx
theorem xU {ns : List Nd} (h : (ns.map Nd.blk).Nodup) {x : Nd} (hx : x ∈ ns) : nmB ns x.blk = x.name := by
 unfold nmB; rw [yK h hx]; rfl
theorem xA {ns : List Nd} (h : (ns.map Nd.blk).Nodup) {x y : Nd} (hx : x ∈ ns) (hy : y ∈ ns) (e : x.blk = y.blk) : x = y := by
 have h1 := yK h hx
 rw [e, yK h hy] at h1
 injection h1 with h1; exact h1.symm
theorem xM {ns : List Nd} {i : Int} {s : List UInt8} {y : Nd} (h : kid ns i s = some y) : y ∈ ns ∧ y.par = i ∧ y.name = s := by
 have h1 := List.find?_some h
 simp only [Bool.and_eq_true, decide_eq_true_eq] at h1; exact ⟨List.mem_of_find?_eq_some h, h1.1, h1.2⟩
theorem kid_none {ns : List Nd} {i : Int} {s : List UInt8} (h : kid ns i s = none) {y : Nd} (hy : y ∈ ns) (hp : y.par = i) : y.name ≠ s := fun e => by
 have h1 := List.find?_eq_none.1 h y hy
 simp only [Bool.and_eq_true, decide_eq_true_eq, not_and] at h1; exact h1 hp e
/-- where a name stands -/
abbrev kpl (ns : List Nd) (x : Nd) (s : List UInt8) : Nat := plc (x.kids.map (nmB ns)) s
theorem plc_at {l : List (List UInt8)} (h : Rise l) {j : Nat} (hj : j < l.length) : plc l l[j] = j :=
 plc_eq (by omega) (fun i hi hij => rise_lt h hij hj) (fun hi => by rw [cmp_self]; decide)
theorem kid_hit {ns : List Nd} (h : Kd ns) {x : Nd} (hx : x ∈ ns) {s : List UInt8} {y : Nd} (hk : kid ns x.id s = some y) : (x.kids.map (nmB ns))[kpl ns x s]? = some s ∧ x.kids[kpl ns x s]? = some y.blk := by
 obtain ⟨h1, h2, h3⟩ := xM hk
 obtain ⟨j, hj⟩ := List.mem_iff_getElem?.1 (h.all x hx y h1 h2)
 obtain ⟨hlt, he⟩ := List.getElem?_eq_some_iff.1 hj
 have e1 : (x.kids.map (nmB ns))[j]? = some s := by rw [List.getElem?_map, hj]; show some (nmB ns y.blk) = _; rw [xU h.blks h1, h3]
 obtain ⟨hlt2, he2⟩ := List.getElem?_eq_some_iff.1 e1
 have e2 : kpl ns x s = j := by
  have := plc_at (h.rise x hx) hlt2
  rw [he2] at this; exact this
 rw [e2]; exact ⟨e1, hj⟩
theorem kid_miss {ns : List Nd} (h : Kd ns) {x : Nd} (hx : x ∈ ns) {s : List UInt8} (hk : kid ns x.id s = none) : (x.kids.map (nmB ns))[kpl ns x s]? ≠ some s := fun e => by
 rw [List.getElem?_map] at e
 cases hj : x.kids[kpl ns x s]? with
 | none => rw [hj] at e; cases e
 | some k =>
  rw [hj] at e
  injection e with e
  obtain ⟨y, h1, h2, h3⟩ := h.sub x hx k (List.mem_of_getElem? hj)
  rw [← h2, xU h.blks h1] at e; exact kid_none hk h1 h3 e
theorem kids_names {V : HProp} {t : Tr} (hT : Tv V t) (hK : Kd t.ns) {x : Nd} (hx : x ∈ t.ns) : ∀ k ∈ x.kids, Rd V k (0 + 2) (.string (str (nmB t.ns k))) := fun k hk => by
 obtain ⟨y, h1, h2, _⟩ := hK.sub x hx k hk
 have h3 := hT.nd y h1 2 _ rfl
 rw [← h2, xU hK.blks h1]; exact h3
def ptrO (o : Option Nd) : Value := .pointer (o.map fun x => ⟨x.blk, 0, none⟩)
/-- enough of it stands for paths to be followed -/
structure Wk (t : Tr) (r : Nd) : Prop where
 kd : Kd t.ns
 root : r ∈ t.ns
 rb : t.rb = r.blk
/-- the tree stands -/
structure Wf (t : Tr) (r : Nd) : Prop where
 kd : Kd t.ns
 root : r ∈ t.ns
 rb : t.rb = r.blk
 rid : r.id = 0
 rpar : r.par = -1
 rdir : r.dir = true
 ids : (t.ns.map Nd.id).Nodup
 lt : ∀ x ∈ t.ns, x.id < t.next
 par : ∀ x ∈ t.ns, x.id = 0 ∨ ∃ y ∈ t.ns, x.par = (y.id : Int) ∧ y.dir = true
 nm : ∀ x ∈ t.ns, x.id = 0 ∨ ptOk x.name = true
 rk : ∃ d : Nat → Nat, ∀ x ∈ t.ns, ∀ y ∈ t.ns, y.par = (x.id : Int) → d y.id = d x.id + 1
 few : t.ns.length ≤ 200
 dat : ∀ x ∈ t.ns, x.dir = true → x.data = []
 sum : t.bytes = (t.ns.map fun x => x.data.length).sum
 max : t.bytes ≤ 1048576
 a : ∀ x ∈ t.ns, x.a.Ok ∧ x.a.s = 0
theorem Wf.wk {t : Tr} {r : Nd} (h : Wf t r) : Wk t r := ⟨h.kd, h.root, h.rb⟩
theorem findK_spec {V : HProp} {t : Tr} {r : Nd} (hT : Tv V t) (hW : Wk t r) (q : Option Addr) (cq : Nat) (p : List (List UInt8)) (hV : Vw V (.slice q p.length cq) p.length (txs p)) (hl : p.length ≤ 100000) : Tri Tryz.prog 75 [t.v, .slice q p.length cq] [V] (fun v H' => ∃ K, (v = ptrO (fnd t.ns r p) ∧ K = []) ∧ H' = K ++ [V]) := by
 refine zt Tryz.func75 rfl Tryz.ntmps75 (by simp) ?_; refine zM (zK (zH rfl (zO rfl) rfl (zN (zI (zM ?_))))); refine zK (zH rfl (zL rfl) rfl (zH rfl (zU rfl) rfl (zH rfl (zP fa95_0 rfl) rfl (zH rfl (zW sc92 rfl (zy4 0 rfl (hT.cs 0 _ rfl))) rfl ?_)))); rw [hW.rb]; refine zH rfl (zO rfl) rfl (zN (zI (zM (zM (zK ?_))))); refine zH rfl (zL rfl) rfl (zH rfl (zw Tryz.underlying47 rfl) rfl (zH rfl (zL rfl) rfl (zN (zI (qA ?_))))); refine yQ 3 (fun m Δ LL => ∃ (i : Nat) (x : Nd), (i + m = p.length ∧ x ∈ t.ns ∧ fnd t.ns r p = fnd t.ns x (p.drop i)) ∧ Δ = [(5, .pointer (some ⟨x.blk, 0, none⟩)), (16, .int .i64 (i : Nat))] ∧ LL = [V]) (m := p.length) (zS (k := 14) rfl (zS (k := 15) rfl (zf _))) (qn ⟨0, r, ⟨by omega, hW.root, rfl⟩, rfl, rfl⟩ (by repeat (first | exact zf _ | refine zS rfl ?_)) (by repeat (first | exact zf _ | refine zS rfl ?_)) (by repeat (first | exact zY _ | refine zJ 0 rfl ?_ | refine zJ 1 rfl ?_ | refine zJ 2 rfl ?_ | refine zJ 3 rfl ?_ | refine zJ 4 rfl ?_ | refine zJ 5 rfl ?_ | refine zJ 6 rfl ?_ | refine zJ 7 rfl ?_ | refine SubH.rown ?_))) ?_; rintro m Δ LL ⟨i, x, ⟨hm, hx, hf⟩, rfl, rfl⟩; simp only [zA, zB]; refine zM (zK (zH rfl (yP rfl rfl rfl) rfl (zN (zI (zM ?_))))); refine zq rfl (fun hc17 => ?_) (fun hc17 => ?_)
 ·replace hc17 := zy2 hc17
  have hi : i < p.length := by omega
  have hdr : p.drop i = p[i] :: p.drop (i + 1) := List.drop_eq_getElem_cons hi
  refine yN (fun w F s => vw_ptr (zy5 (H := [V]) 0 rfl hV) s (by omega)) ?_; rintro ⟨b0, o0, rfl⟩; refine zl ?_; refine zI (zM (qA ?_)); refine zM (zK (zH rfl (qO sl47 rfl rfl rfl (by omega)) rfl (zH rfl (zW sc9 rfl (zy4 0 rfl (Rd.elem (j := 0) (ym hV) Tx.len (List.getElem?_eq_getElem hi) rfl))) rfl ?_))); refine zH rfl (zO rfl) rfl (zN (zI (zM (zK (zH rfl (zL rfl) rfl ?_))))); refine zH rfl (zL rfl) rfl (zT rfl (zb Tryz.call131 rfl rfl (by repeat (first | exact zR _ | apply zG 0 rfl | apply zG 1 rfl | apply zG 2 rfl | apply zG 3 rfl | apply zG 4 rfl | apply zG 5 rfl | apply zG 6 rfl | apply zG 7 rfl)) (place_spec x.blk x.kp x.kc x.kids (hT.nd x hx 3 _ rfl) (hT.kids x hx) (hW.kd.few x hx) (nmB t.ns) (kids_names hT hW.kd hx) (hW.kd.rise x hx) p[i])) rfl ?_); rintro _ H' ⟨_, ⟨_, ⟨rfl, rfl⟩, rfl⟩, hH⟩; simp only [zy7] at hH; subst hH; refine zH rfl (zL rfl) rfl (zH rfl (zu rfl rfl) rfl (zH rfl (zu rfl rfl) rfl (zH rfl (zO rfl) rfl (zH rfl (zO rfl) rfl (zN ?_))))); refine zI (zM (zM (zK (zH rfl (zL rfl) rfl (zH rfl (qy rfl rfl) rfl ?_))))); refine zN (zI (zq rfl (fun hc27 => ?_) (fun hc27 => ?_)))
  ·simp only [Bool.and_eq_true, decide_eq_true_eq, Bool.not_eq_true', decide_eq_false_iff_not, bne_iff_ne, ne_eq] at hc27
   have hk : kid t.ns x.id p[i] = none := by
    cases h : kid t.ns x.id p[i] with
    | none => rfl
    | some y => exact absurd (kid_hit hW.kd hx h).1 hc27
   refine zM (zK (zH rfl (zO rfl) rfl (zN (zI (zi ?_))))); refine zh ?_; refine zn ?_; refine zh ?_; refine zh ?_; refine zn ?_; refine zh ?_; refine' zX (qk rfl rfl) ?_ ?_
   rotate_left 1
   exact ⟨_, ⟨by rw [hf, hdr]; simp only [fnd, hk]; rfl, rfl⟩, rfl⟩
   exact zj _
  ·simp only [Bool.and_eq_false_iff, decide_eq_false_iff_not, Bool.not_eq_false', decide_eq_true_eq] at hc27
   obtain ⟨y, hk⟩ : ∃ y, kid t.ns x.id p[i] = some y := by
    cases h : kid t.ns x.id p[i] with
    | none => exact absurd hc27 (kid_miss hW.kd hx h)
    | some y => exact ⟨y, rfl⟩
   have hy1 := (xM hk).1
   have hkid := (kid_hit hW.kd hx hk).2
   obtain ⟨hklt, hke⟩ := List.getElem?_eq_some_iff.1 hkid
   have hxk := hT.kids x hx
   have hfew := hW.kd.few x hx
   refine yN (fun w F s => vw_ptr (zy5 (H := [V]) 0 rfl hxk) s (by omega)) ?_; rintro ⟨b1, o1, hkp⟩; rw [hkp] at hxk; refine zl ?_; refine zI (zK (zH rfl (zL rfl) rfl (zH rfl (zU rfl) rfl (zH rfl (zP xP rfl) rfl (zH rfl (zW sc96 rfl (zy4 0 rfl (hT.nd x hx 3 _ rfl))) rfl ?_))))); rw [hkp]; refine zH rfl (zL rfl) rfl (zH rfl (qO sl96 rfl rfl rfl (by omega)) rfl (zH rfl (zW sc92 rfl (zy4 0 rfl (Rd.elem (j := 0) (ym hxk) Pq.len hkid rfl))) rfl (zH rfl (zO rfl) rfl (zN (zQ ?_))))); refine zI (zK (zH rfl (ql rfl rfl (qo (by omega))) rfl (zH rfl (zL rfl) rfl (zN (zI ?_))))); refine back (m - 1) (by omega) (qn ⟨i + 1, y, ⟨by omega, hy1, by rw [hf, hdr]; simp only [fnd, hk]⟩, rfl, rfl⟩ ?_ ?_ ?_)
   ·exact (by repeat (first | exact zf _ | refine zS rfl ?_))
   ·exact (by repeat (first | exact zf _ | refine zS rfl ?_))
   ·exact zj _
 ·replace hc17 := zy3 hc17
  refine yJ ?_; refine qV ?_; refine qV ?_; refine qe ?_; refine zI (zM (zK (zH rfl (zL rfl) rfl (zH rfl (zO rfl) rfl (zN ?_))))); refine zI (zi ?_); refine' zX (qk rfl rfl) ?_ ?_
  rotate_left 1
  exact ⟨_, ⟨by rw [hf, List.drop_of_length_le (by omega)]; rfl, rfl⟩, rfl⟩
  exact zj _
theorem xa {V : HProp} {t : Tr} {r : Nd} (hT : Tv V t) (hW : Wf t r) (q : Option Addr) (cq : Nat) (p : List (List UInt8)) (hV : Vw V (.slice q p.length cq) p.length (txs p)) (hl : p.length ≤ 100000) : Tri Tryz.prog 75 [t.v, .slice q p.length cq] [V] (fun v H' => ∃ K, (v = ptrO (fnd t.ns r p) ∧ K = []) ∧ H' = K ++ [V]) := findK_spec hT hW.wk q cq p hV hl
def byId (ns : List Nd) (k : Int) : Option Nd := ns.find? (fun x => decide ((x.id : Int) = k))
theorem xT (ns : List Nd) (k : Int) : mget (ns.map Nd.me) k (.pointer none) = ptrO (byId ns k) := by
 unfold mget byId; rw [List.find?_map]
 have e : ((fun x : Me => x.k == k) ∘ Nd.me) = fun x : Nd => decide ((x.id : Int) = k) := by
  funext x; show ((x.id : Int) == k) = _
  by_cases h : (x.id : Int) = k
  ·rw [decide_eq_true h]; simpa using h
  ·rw [decide_eq_false h]; simpa using h
 rw [e]; cases ns.find? fun x => decide ((x.id : Int) = k) <;> rfl
theorem yD {ns : List Nd} {k : Int} {x : Nd} (h : byId ns k = some x) : x ∈ ns ∧ (x.id : Int) = k := ⟨List.mem_of_find?_eq_some h, by simpa using List.find?_some h⟩
theorem yu {ns : List Nd} : ∀ {p : List (List UInt8)} {r x : Nd}, r ∈ ns → fnd ns r p = some x → x ∈ ns
 | [], r, x, hr, h => by injection h with h; rw [← h]; exact hr
 | s :: p, r, x, hr, h => by
  unfold fnd at h
  cases hk : kid ns r.id s with
  | none => rw [hk] at h; cases h
  | some y => rw [hk] at h; exact yu (xM hk).1 h
def lookO : Option Nd → Int × Int
 | some x => (x.id, 0)
 | none => (0, 22)
theorem look_spec {V : HProp} {t : Tr} (hT : Tv V t) {r : Nd} (hW : Wf t r) (q : Option Addr) (cq : Nat) (p : List (List UInt8)) (hV : Vw V (.slice q p.length cq) p.length (txs p)) (hl : p.length ≤ 100000) : Tri Tryz.prog 39 [t.v, .slice q p.length cq] [V] (fun v H' => ∃ K, (v = .tuple #[.int .i64 (lookO (fnd t.ns r p)).1, .int .i64 (lookO (fnd t.ns r p)).2] ∧ K = []) ∧ H' = K ++ [V]) := by
 cases hb : fnd t.ns r p with
 | none =>
  refine zt Tryz.func39 rfl Tryz.ntmps39 (by simp) ?_; refine zM (zK (zH rfl (zO rfl) rfl (zH rfl (zO rfl) rfl (zN (zI ?_))))); refine zM (zK (zH rfl (zL rfl) rfl (zH rfl (zL rfl) rfl (zT rfl (zb Tryz.call75 rfl rfl (by repeat (first | exact zR _ | apply zG 0 rfl | apply zG 1 rfl | apply zG 2 rfl | apply zG 3 rfl | apply zG 4 rfl | apply zG 5 rfl | apply zG 6 rfl | apply zG 7 rfl)) (xa hT hW q cq p hV hl)) rfl ?_)))); rintro _ H' ⟨_, ⟨_, ⟨rfl, rfl⟩, rfl⟩, hH⟩; simp only [zy7] at hH; subst hH; rw [hb]; dsimp only [ptrO, Option.map]; refine zH rfl (zO rfl) rfl (zN (zI (zM (zM (zK ?_))))); refine zH rfl (zL rfl) rfl (zH rfl (qI Tryz.underlying92 rfl rfl rfl) rfl (zN (zI (qG rfl ?_)))); refine zM (zK (zH rfl (zO rfl) rfl (zH rfl (zO rfl) rfl (zN (zI ?_))))); refine zi ?_; refine zh ?_; refine' zX (res2 rfl rfl rfl) ?_ ?_
  rotate_left 1
  exact ⟨_, ⟨rfl, rfl⟩, rfl⟩
  exact zj _
 | some x =>
  have hx := yu hW.root hb
  refine zt Tryz.func39 rfl Tryz.ntmps39 (by simp) ?_; refine zM (zK (zH rfl (zO rfl) rfl (zH rfl (zO rfl) rfl (zN (zI ?_))))); refine zM (zK (zH rfl (zL rfl) rfl (zH rfl (zL rfl) rfl (zT rfl (zb Tryz.call75 rfl rfl (by repeat (first | exact zR _ | apply zG 0 rfl | apply zG 1 rfl | apply zG 2 rfl | apply zG 3 rfl | apply zG 4 rfl | apply zG 5 rfl | apply zG 6 rfl | apply zG 7 rfl)) (xa hT hW q cq p hV hl)) rfl ?_)))); rintro _ H' ⟨_, ⟨_, ⟨rfl, rfl⟩, rfl⟩, hH⟩; simp only [zy7] at hH; subst hH; rw [hb]; dsimp only [ptrO, Option.map]; refine zH rfl (zO rfl) rfl (zN (zI (zM (zM (zK ?_))))); refine zH rfl (zL rfl) rfl (zH rfl (qI Tryz.underlying92 rfl rfl rfl) rfl (zN (zI (qC rfl ?_)))); refine zl ?_; refine zI (zM (zK (zH rfl (zL rfl) rfl (zH rfl (zU rfl) rfl (zH rfl (zP fa98_0 rfl) rfl ?_))))); refine zH rfl (zW sc3 rfl (zy4 0 rfl (hT.nd x hx 0 _ rfl))) rfl (zH rfl (zO rfl) rfl (zH rfl (zO rfl) rfl (zN (zI (zi ?_))))); refine' zX (res2 rfl rfl rfl) ?_ ?_
  rotate_left 1
  exact ⟨_, ⟨rfl, rfl⟩, rfl⟩
  exact zj _
/-- a file by its number -/
def fileO : Option Nd → Option Nd × Int
 | none => (none, 22)
 | some x => if x.dir = true then (none, 23) else (some x, 0)
theorem file_spec {V : HProp} {t : Tr} (hT : Tv V t) (id : Int) : Tri Tryz.prog 160 [t.v, .int .i64 id] [V] (fun v H' => ∃ K, (v = .tuple #[ptrO (fileO (byId t.ns id)).1, .int .i64 (fileO (byId t.ns id)).2] ∧ K = []) ∧ H' = K ++ [V]) := by
 cases hb : byId t.ns id with
 | none =>
  refine zt Tryz.func160 rfl Tryz.ntmps160 (by simp) ?_; refine zM (zK (zH rfl (zO rfl) rfl (zH rfl (zO rfl) rfl (zN (zI ?_))))); refine zM (zK (zH rfl (zL rfl) rfl (zH rfl (zU rfl) rfl (zH rfl (zP fa95_1 rfl) rfl (zH rfl (zW sc93 rfl (zy4 0 rfl (hT.cs 1 _ rfl))) rfl ?_))))); refine zH rfl (zL rfl) rfl (zH rfl (xB Tryz.underlying93 Tryz.underlying3 z92 rfl rfl (Mp.pick 0 rfl hT.mp)) rfl ?_); rw [xT, hb]; dsimp only [ptrO, Option.map]; refine zH rfl (zO rfl) rfl (zN (zI (zM (qA ?_)))); refine zM (zK (zH rfl (zL rfl) rfl (zH rfl (qI Tryz.underlying92 rfl rfl rfl) rfl (zH rfl (zO rfl) rfl (zN ?_))))); refine zI (qG rfl ?_); refine zM (zK (zH rfl (zO rfl) rfl (zH rfl (zO rfl) rfl (zN (zI ?_))))); refine zi ?_; refine zn ?_; refine zh ?_; refine' zX (res2 rfl rfl rfl) ?_ ?_
  rotate_left 1
  exact ⟨_, ⟨rfl, rfl⟩, rfl⟩
  exact zj _
 | some x =>
  have hx := (yD hb).1
  unfold fileO; refine zt Tryz.func160 rfl Tryz.ntmps160 (by simp) ?_; refine zM (zK (zH rfl (zO rfl) rfl (zH rfl (zO rfl) rfl (zN (zI ?_))))); refine zM (zK (zH rfl (zL rfl) rfl (zH rfl (zU rfl) rfl (zH rfl (zP fa95_1 rfl) rfl (zH rfl (zW sc93 rfl (zy4 0 rfl (hT.cs 1 _ rfl))) rfl ?_))))); refine zH rfl (zL rfl) rfl (zH rfl (xB Tryz.underlying93 Tryz.underlying3 z92 rfl rfl (Mp.pick 0 rfl hT.mp)) rfl ?_); rw [xT, hb]; dsimp only [ptrO, Option.map]; refine zH rfl (zO rfl) rfl (zN (zI (zM (qA ?_)))); refine zM (zK (zH rfl (zL rfl) rfl (zH rfl (qI Tryz.underlying92 rfl rfl rfl) rfl (zH rfl (zO rfl) rfl (zN ?_))))); refine zI (qC rfl ?_); refine zM (zK (zH rfl (zL rfl) rfl (zH rfl (zU rfl) rfl (zH rfl (zP fa98_1 rfl) rfl (zH rfl (zW sc4 rfl (zy4 0 rfl (hT.nd x hx 1 _ rfl))) rfl ?_))))); refine zH rfl (zO rfl) rfl (zN (zI (zq rfl (fun hc16 => ?_) (fun hc16 => ?_))))
  ·skip; refine zM (zK (zH rfl (zO rfl) rfl (zH rfl (zO rfl) rfl (zN (zI ?_))))); refine zi ?_; refine zn ?_; refine zh ?_; refine' zX (res2 rfl rfl rfl) ?_ ?_
   rotate_left 1
   exact ⟨_, ⟨by rw [if_pos hc16], rfl⟩, rfl⟩
   exact zj _
  ·skip; refine zl ?_; refine zQ ?_; refine zI (zM (zK (zH rfl (zL rfl) rfl (zH rfl (zO rfl) rfl (zH rfl (zO rfl) rfl ?_))))); refine zN (zI (zi ?_)); refine' zX (res2 rfl rfl rfl) ?_ ?_
   rotate_left 1
   exact ⟨_, ⟨by rw [if_neg (by rw [hc16]; decide)], rfl⟩, rfl⟩
   exact zj _
def dirO : Option Nd → Bool
 | none => false
 | some x => x.dir
theorem dir_spec {V : HProp} {t : Tr} (hT : Tv V t) (id : Int) : Tri Tryz.prog 100 [t.v, .int .i64 id] [V] (fun v H' => ∃ K, (v = .bool (dirO (byId t.ns id)) ∧ K = []) ∧ H' = K ++ [V]) := by
 cases hb : byId t.ns id with
 | none =>
  refine zt Tryz.func100 rfl Tryz.ntmps100 (by simp) ?_; refine zM (zK (zH rfl (zO rfl) rfl (zN (zI (zM ?_))))); refine zK (zH rfl (zL rfl) rfl (zH rfl (zU rfl) rfl (zH rfl (zP fa95_1 rfl) rfl (zH rfl (zW sc93 rfl (zy4 0 rfl (hT.cs 1 _ rfl))) rfl (zH rfl (zL rfl) rfl ?_))))); refine zH rfl (xB Tryz.underlying93 Tryz.underlying3 z92 rfl rfl (Mp.pick 0 rfl hT.mp)) rfl ?_; rw [xT, hb]; dsimp only [ptrO, Option.map]; refine zH rfl (zO rfl) rfl (zN (zI (zM (zK (zH rfl (zL rfl) rfl ?_))))); refine zH rfl (xR Tryz.underlying92 rfl rfl rfl) rfl (zH rfl (zL (v := .bool false) rfl) rfl (zZ rfl rfl (zZ rfl rfl (zZ rfl rfl (zZ rfl rfl ?_))))); refine zH rfl (zr rfl rfl) rfl (zH rfl (zO rfl) rfl (zN (zI (zi ?_)))); refine' zX (qk rfl rfl) ?_ ?_
  rotate_left 1
  exact ⟨_, ⟨rfl, rfl⟩, rfl⟩
  exact zj _
 | some x =>
  have hx := (yD hb).1
  refine zt Tryz.func100 rfl Tryz.ntmps100 (by simp) ?_; refine zM (zK (zH rfl (zO rfl) rfl (zN (zI (zM ?_))))); refine zK (zH rfl (zL rfl) rfl (zH rfl (zU rfl) rfl (zH rfl (zP fa95_1 rfl) rfl (zH rfl (zW sc93 rfl (zy4 0 rfl (hT.cs 1 _ rfl))) rfl (zH rfl (zL rfl) rfl ?_))))); refine zH rfl (xB Tryz.underlying93 Tryz.underlying3 z92 rfl rfl (Mp.pick 0 rfl hT.mp)) rfl ?_; rw [xT, hb]; dsimp only [ptrO, Option.map]; refine zH rfl (zO rfl) rfl (zN (zI (zM (zK (zH rfl (zL rfl) rfl ?_))))); refine zH rfl (xR Tryz.underlying92 rfl rfl rfl) rfl (zH rfl (zL (v := .bool true) rfl) rfl (zH rfl (zL rfl) rfl (zH rfl (zU rfl) rfl (zH rfl (zP fa98_1 rfl) rfl (zH rfl (zW sc4 rfl (zy4 0 rfl (hT.nd x hx 1 _ rfl))) rfl ?_))))); refine zH rfl (zr rfl rfl) rfl (zH rfl (zO rfl) rfl (zN (zI (zi ?_)))); refine' zX (qk rfl rfl) ?_ ?_
  rotate_left 1
  exact ⟨_, ⟨rfl, rfl⟩, rfl⟩
  exact zj _
theorem nd_at {V : HProp} {x : Nd} (h : RdN V x.blk 0 x.cs) : RdN V x.blk (0 + 5) x.a.cs := fun j v hj => by
 have := h (5 + j) v (by rw [Nd.cs, List.getElem?_append_right (by simp)]; simpa using hj)
 rw [Nat.zero_add] at this ⊢; exact this
def Nd.told (x : Nd) : At := { x.a with s := x.data.length }
theorem told_spec {V : HProp} {t : Tr} (hT : Tv V t) (x : Nd) (hx : x ∈ t.ns) (hl : x.data.length ≤ 100000000) : Tri Tryz.prog 45 [.pointer (some ⟨x.blk, 0, none⟩)] [V] (fun v H' => ∃ K, (v = x.told.v ∧ K = []) ∧ H' = K ++ [V]) := by
 refine zt Tryz.func45 rfl Tryz.ntmps45 (by simp) ?_; refine zM (zK (zT rfl (qL z30) rfl ?_)); rintro _ _ ⟨b2, rfl, rfl⟩; refine zN (zI (zM (zK (zH rfl (zL rfl) rfl (zH rfl (zU rfl) rfl ?_))))); refine zH rfl (zP fa98_5 rfl) rfl (zH rfl (qX ag30 rfl (zy6 1 rfl ((nd_at (hT.nd x hx)))) rfl) rfl (zT rfl (qL z30) rfl ?_)); rintro _ _ ⟨b3, rfl, rfl⟩; refine zo rfl (zm 0 ag30 rfl rfl rfl rfl rfl (zy1 rfl) (zg _)) rfl ?_; rintro _ _ rfl; refine zN (zI (zM (zK (zH rfl (zL rfl) rfl (zH rfl (zU rfl) rfl ?_))))); refine zH rfl (zP fa98_4 rfl) rfl (zH rfl (zW sc25 rfl (zy4 2 rfl ((hT.nd x hx 4 _ rfl)))) rfl (zH rfl (zw Tryz.underlying25 rfl) rfl (zH rfl (yF Tryz.underlying3 Tryz.underlying28 rfl (yI (by omega) (by omega))) rfl (zH rfl (zP fa30_1 rfl) rfl (zo rfl (qP 0 sc28 rfl rfl rfl rfl (zy1 rfl) (zg _)) rfl ?_))))); rintro _ _ rfl; simp only [zE, zF]; refine zN (zI (zM (zK (zH rfl (qX ag30 rfl (zy6 0 rfl zx) rfl) rfl (zo rfl (zm 1 ag30 rfl rfl rfl rfl rfl (zy1 rfl) (zg _)) rfl ?_))))); rintro _ _ rfl; refine zN (zI (zi ?_)); refine' zX (qg rfl (qB ag30 rfl (zy6 1 rfl zx) rfl)) ?_ ?_
 rotate_left 1
 exact ⟨_, ⟨rfl, rfl⟩, rfl⟩
 exact (zJ 2 rfl (zY _))
def attO : Option Nd → At × Int
 | none => (At.zero, 22)
 | some x => (x.told, 0)
theorem xI {V : HProp} {t : Tr} (hT : Tv V t) (id : Int) (hl : ∀ x ∈ t.ns, x.data.length ≤ 100000000) : Tri Tryz.prog 83 [t.v, .int .i64 id] [V] (fun v H' => ∃ K, (v = .tuple #[(attO (byId t.ns id)).1.v, .int .i64 (attO (byId t.ns id)).2] ∧ K = []) ∧ H' = K ++ [V]) := by
 cases hb : byId t.ns id with
 | none =>
  refine zt Tryz.func83 rfl Tryz.ntmps83 (by simp) ?_; refine zM (zK (zT rfl (qL z30) rfl ?_)); rintro _ _ ⟨b4, rfl, rfl⟩; refine zH rfl (zO rfl) rfl (zN (zI (zM (zK (zH rfl (zL rfl) rfl ?_))))); refine zH rfl (zU rfl) rfl (zH rfl (zP fa95_1 rfl) rfl (zH rfl (zW sc93 rfl (zy4 1 rfl ((hT.cs 1 _ rfl)))) rfl (zH rfl (zL rfl) rfl (zH rfl (xB Tryz.underlying93 Tryz.underlying3 z92 rfl rfl (Mp.pick 1 rfl hT.mp)) rfl ?_)))); rw [xT, hb]; dsimp only [ptrO, Option.map]; refine zH rfl (zO rfl) rfl (zN (zI (zM (zM (zK ?_))))); refine zH rfl (zL rfl) rfl (zH rfl (qI Tryz.underlying92 rfl rfl rfl) rfl (zN (zI (qG rfl ?_)))); refine zM (zK (zH rfl (qY rfl (qK (cs := [_, _, _, _, _, _, _]) st30 rfl)) rfl (zo rfl (zm 0 ag30 rfl rfl rfl rfl rfl (zy1 rfl) (zg _)) rfl ?_))); rintro _ _ rfl; refine zH rfl (zO rfl) rfl (zN (zI (zi ?_))); refine zh ?_; refine' zX (resv2 rfl (qB ag30 rfl (zy6 0 rfl zx) rfl) (yn rfl)) ?_ ?_
  rotate_left 1
  exact ⟨_, ⟨rfl, rfl⟩, rfl⟩
  exact (zJ 1 rfl (zY _))
 | some x =>
  have hx := (yD hb).1
  have hxl := hl x hx
  refine zt Tryz.func83 rfl Tryz.ntmps83 (by simp) ?_; refine zM (zK (zT rfl (qL z30) rfl ?_)); rintro _ _ ⟨b4, rfl, rfl⟩; refine zH rfl (zO rfl) rfl (zN (zI (zM (zK (zH rfl (zL rfl) rfl ?_))))); refine zH rfl (zU rfl) rfl (zH rfl (zP fa95_1 rfl) rfl (zH rfl (zW sc93 rfl (zy4 1 rfl ((hT.cs 1 _ rfl)))) rfl (zH rfl (zL rfl) rfl (zH rfl (xB Tryz.underlying93 Tryz.underlying3 z92 rfl rfl (Mp.pick 1 rfl hT.mp)) rfl ?_)))); rw [xT, hb]; dsimp only [ptrO, Option.map]; refine zH rfl (zO rfl) rfl (zN (zI (zM (zM (zK ?_))))); refine zH rfl (zL rfl) rfl (zH rfl (qI Tryz.underlying92 rfl rfl rfl) rfl (zN (zI (qC rfl ?_)))); refine zl ?_; refine zI (zM (zK (zH rfl (zL rfl) rfl (zT rfl (zy (Pre := []) Tryz.call45 rfl rfl (zR _) (told_spec (Tv.pick 1 rfl hT) x hx (by omega))) rfl ?_)))); rintro _ H' ⟨_, ⟨rfl, rfl⟩, hH⟩; simp only [zy7] at hH; subst hH; refine zo rfl (zm 0 ag30 rfl rfl rfl rfl rfl (zy1 rfl) (zg _)) rfl ?_; rintro _ _ rfl; refine zH rfl (zO rfl) rfl (zN (zI (zi ?_))); refine' zX (resv2 rfl (qB ag30 rfl (zy6 0 rfl zx) rfl) (yn rfl)) ?_ ?_
  rotate_left 1
  exact ⟨_, ⟨rfl, rfl⟩, rfl⟩
  exact (zJ 1 rfl (zY _))
theorem fileO_cases (o : Option Nd) : (∃ e, fileO o = (none, e) ∧ e ≠ 0) ∨ ∃ x, o = some x ∧ x.dir = false ∧ fileO o = (some x, 0) := by
 cases o with
 | none => exact .inl ⟨22, rfl, by decide⟩
 | some x =>
  by_cases h : x.dir = true
  ·exact .inl ⟨23, by simp [fileO, h], by decide⟩
  ·have h' : x.dir = false := by simpa using h
   exact .inr ⟨x, rfl, h', by simp [fileO, h']⟩
def readX (x : Nd) (a n : Nat) : List UInt8 × Int := if x.data.length ≤ a then ([], 10) else ((x.data.drop a).take (min (x.data.drop a).length (min n 32768)), 0)
def readO (o : Option Nd) (a n : Nat) : List UInt8 × Int := match fileO o with
 | (none, e) => ([], e)
 | (some x, _) => readX x a n
theorem read_spec {V : HProp} {t : Tr} (hT : Tv V t) (id : Int) (at' : Nat) (ha : at' < 18446744073709551616) (n : Nat) (hn : n < 4294967296) (hl : ∀ x ∈ t.ns, x.data.length ≤ 100000000) : Tri Tryz.prog 126 [t.v, .int .i64 id, .int .u64 (at' : Int), .int .u32 (n : Int)] [V]
 (fun v H' => ∃ K, (∃ p c, v = .tuple #[.slice p (readO (byId t.ns id) at' n).1.length c, .int .i64 (readO (byId t.ns id) at' n).2] ∧ K = [rowD p c (readO (byId t.ns id) at' n).1]) ∧ H' = K ++ [V]) := by
 rcases fileO_cases (byId t.ns id) with ⟨e, hf, he⟩ | ⟨x, hb, hd, hf⟩
 ·have h1 : readO (byId t.ns id) at' n = ([], e) := by unfold readO; rw [hf]
  rw [h1]; refine zt Tryz.func126 rfl Tryz.ntmps126 (by simp) ?_; refine zM (zK (zH rfl (zO rfl) rfl (zH rfl (zO rfl) rfl (zN (zI ?_))))); refine zM (zK (zH rfl (zL rfl) rfl (zH rfl (zL rfl) rfl (zT rfl (zb Tryz.call160 rfl rfl (by repeat (first | exact zR _ | apply zG 0 rfl | apply zG 1 rfl | apply zG 2 rfl | apply zG 3 rfl | apply zG 4 rfl | apply zG 5 rfl | apply zG 6 rfl | apply zG 7 rfl)) (file_spec hT id)) rfl ?_)))); rintro _ H' ⟨_, ⟨_, ⟨rfl, rfl⟩, rfl⟩, hH⟩; simp only [zy7] at hH; subst hH; rw [hf]; dsimp only [ptrO, Option.map]; refine zH rfl (zL rfl) rfl (zH rfl (zu rfl rfl) rfl (zH rfl (zu rfl rfl) rfl (zH rfl (zO rfl) rfl (zH rfl (zO rfl) rfl (zN ?_))))); refine zI (zM (qA ?_)); refine zM (zK (zH rfl (zL rfl) rfl (zH rfl (q9 rfl rfl (decide_eq_true (by omega))) rfl (zH rfl (zO rfl) rfl (zN ?_))))); refine zI (qG rfl ?_); refine zM (qD (fun w F s => qv 5 1 w F s) ?_); refine zK (zH rfl (zL rfl) rfl (zH rfl (zO rfl) rfl (zH rfl (zO rfl) rfl (zN (zI ?_))))); refine zi ?_; refine zn ?_; refine zh ?_; refine' zX (res2 rfl rfl rfl) ?_ ?_
  rotate_left 1
  exact ⟨_, ⟨none, 0, rfl, rfl⟩, rfl⟩
  exact zj _
 ·have h1 : readO (byId t.ns id) at' n = readX x at' n := by unfold readO; rw [hf]
  rw [h1]; have hx := (yD hb).1
  have hxl := hl x hx
  unfold readX; refine zt Tryz.func126 rfl Tryz.ntmps126 (by simp) ?_; refine zM (zK (zH rfl (zO rfl) rfl (zH rfl (zO rfl) rfl (zN (zI ?_))))); refine zM (zK (zH rfl (zL rfl) rfl (zH rfl (zL rfl) rfl (zT rfl (zb Tryz.call160 rfl rfl (by repeat (first | exact zR _ | apply zG 0 rfl | apply zG 1 rfl | apply zG 2 rfl | apply zG 3 rfl | apply zG 4 rfl | apply zG 5 rfl | apply zG 6 rfl | apply zG 7 rfl)) (file_spec hT id)) rfl ?_)))); rintro _ H' ⟨_, ⟨_, ⟨rfl, rfl⟩, rfl⟩, hH⟩; simp only [zy7] at hH; subst hH; rw [hf]; dsimp only [ptrO, Option.map]; refine zH rfl (zL rfl) rfl (zH rfl (zu rfl rfl) rfl (zH rfl (zu rfl rfl) rfl (zH rfl (zO rfl) rfl (zH rfl (zO rfl) rfl (zN ?_))))); refine zI (zM (qA ?_)); refine zM (zK (zH rfl (zL rfl) rfl (zH rfl (q9 rfl rfl (decide_eq_false (by omega))) rfl (zH rfl (zO rfl) rfl (zN ?_))))); refine zI (qC rfl ?_); refine zM (zK (zH rfl (zL rfl) rfl (zH rfl (zL rfl) rfl (zH rfl (zU rfl) rfl (zH rfl (zP fa98_4 rfl) rfl ?_))))); refine zH rfl (zW sc25 rfl (zy4 0 rfl ((hT.nd x hx 4 _ rfl)))) rfl (zH rfl (zw Tryz.underlying25 rfl) rfl (zH rfl (yF Tryz.underlying3 Tryz.underlying28 rfl (yI (by omega) (by omega))) rfl (zH rfl (ro_geq rfl rfl rfl) rfl (zH rfl (zO rfl) rfl (zN ?_))))); refine zI (zq rfl (fun hc23 => ?_) (fun hc23 => ?_))
  ·replace hc23 := zy2 hc23
   refine zM (qD (fun w F s => qv 5 1 w F s) ?_); refine zK (zH rfl (zO rfl) rfl (zH rfl (zO rfl) rfl (zN (zI (zi ?_))))); refine zn ?_; refine zh ?_; refine' zX (res2 rfl rfl rfl) ?_ ?_
   rotate_left 1
   exact ⟨_, ⟨none, 0, by rw [if_pos (by omega)] <;> rfl, by rw [if_pos (by omega)] <;> rfl⟩, rfl⟩
   exact zj _
  ·replace hc23 := zy3 hc23
   refine zl ?_; refine zQ ?_; refine zI (zM (yN (fun w F s => hT.caps w F (by rwa [qJ, yV, qt] at s) x hx) ?_)); intro hcx; refine zK (zH rfl (zL rfl) rfl (zH rfl (zU rfl) rfl (zH rfl (zP fa98_4 rfl) rfl (zH rfl (zW sc25 rfl (zy4 0 rfl ((hT.nd x hx 4 _ rfl)))) rfl (zH rfl (zL rfl) rfl ?_))))); refine zT rfl (eff_sliceB 0 rfl sl25 rfl ((hT.data x hx)) (yZ rfl rfl) rfl (by omega) (by omega) hcx) rfl ?_; rintro _ _ ⟨p37, rfl, hv37, hn37, rfl⟩; have hda : List.take (x.data.length - at') (List.drop at' x.data) = x.data.drop at' := List.take_of_length_le (by simp)
   rw [hda] at hv37 ⊢; have hll : (x.data.drop at').length = x.data.length - at' := List.length_drop
   refine zH rfl (zO rfl) rfl (zN (zI (zM (zK (zH rfl (zL rfl) rfl ?_))))); refine zH rfl (zL rfl) rfl (zH rfl (zw Tryz.underlying25 rfl) rfl (zH rfl (zL rfl) rfl ?_)); refine zH rfl (ro_min rfl rfl (show (if (32768 : Int) < ((n : Nat) : Int) then (32768 : Int) else ((n : Nat) : Int)) = ((min n 32768 : Nat) : Int) by split <;> omega)) rfl (zH rfl (yF Tryz.underlying27 Tryz.underlying3 rfl (wrap_natN (by omega))) rfl ?_); refine zH rfl (ro_min rfl rfl (show (if ((min n 32768 : Nat) : Int) < (((x.data.drop at').length : Nat) : Int) then ((min n 32768 : Nat) : Int) else (((x.data.drop at').length : Nat) : Int)) = ((min (x.data.drop at').length (min n 32768) : Nat) : Int) by split <;> omega)) rfl (zT rfl (eff_sliceB 0 rfl sl25 rfl (hv37) rfl (yZ rfl rfl) (by omega) (by omega) (by omega)) rfl ?_); rintro _ _ ⟨p45, rfl, hv45, hn45, rfl⟩; rw [Nat.sub_zero, List.drop_zero] at hv45 ⊢; refine zT rfl (zb Tryz.call93 rfl rfl (by repeat (first | exact zR _ | apply zG 0 rfl | apply zG 1 rfl | apply zG 2 rfl | apply zG 3 rfl | apply zG 4 rfl | apply zG 5 rfl | apply zG 6 rfl | apply zG 7 rfl)) (clone_spec V p45 _ _ (cel ((x.data.drop at').take (min (x.data.drop at').length (min n 32768)))) hv45 (yx _) (cel_one _) (by rw [List.length_take]; omega))) rfl ?_; rintro _ H' ⟨_, ⟨p', c', rfl, hp, rfl⟩, hH⟩; simp only [zy7] at hH; subst hH; refine zH rfl (zO rfl) rfl (zH rfl (zO rfl) rfl (zN (zI (zi ?_)))); refine' zX (res2 rfl rfl rfl) ?_ ?_
   rotate_left 1
   exact ⟨_, ⟨p', c', by rw [if_neg (by omega)], by rw [if_neg (by omega)]⟩, rfl⟩
   exact zj _
def lastN (p : List (List UInt8)) : List UInt8 := (p[p.length - 1]?).getD []
theorem lastN_at {p : List (List UInt8)} (h : p ≠ []) : p[p.length - 1]? = some (lastN p) := by
 have h1 := List.length_pos_iff.2 h
 unfold lastN; rw [List.getElem?_eq_getElem (show p.length - 1 < p.length by omega)]; rfl
/-- what should hold a path, and where -/
def holdO (ns : List Nd) (r : Nd) (p : List (List UInt8)) : (Option Nd × Nat) × Int :=
 if ptOk (lastN p) = true then
  match fnd ns r (p.take (p.length - 1)) with
  | none => ((none, 0), 22)
  | some x => if x.dir = true then (if (kid ns x.id (lastN p)).isSome = true then ((none, 0), 21) else ((some x, kpl ns x (lastN p)), 0)) else ((none, 0), 23)
 else ((none, 0), 20)
theorem holdO_name {ns : List Nd} {r : Nd} {p : List (List UInt8)} (h : ptOk (lastN p) = false) : holdO ns r p = ((none, 0), 20) := by unfold holdO; rw [if_neg (by rw [h]; decide)]
theorem holdO_none {ns : List Nd} {r : Nd} {p : List (List UInt8)} (h : ptOk (lastN p) = true) (h1 : fnd ns r (p.take (p.length - 1)) = none) : holdO ns r p = ((none, 0), 22) := by unfold holdO; rw [if_pos h, h1]
theorem holdO_file {ns : List Nd} {r x : Nd} {p : List (List UInt8)} (h : ptOk (lastN p) = true) (h1 : fnd ns r (p.take (p.length - 1)) = some x) (h2 : x.dir = false) : holdO ns r p = ((none, 0), 23) := by unfold holdO; rw [if_pos h, h1]; simp only; rw [if_neg (by rw [h2]; decide)]
theorem holdO_had {ns : List Nd} {r x : Nd} {p : List (List UInt8)} (hK : Kd ns) (hx : x ∈ ns) (h : ptOk (lastN p) = true) (h1 : fnd ns r (p.take (p.length - 1)) = some x) (h2 : x.dir = true) (h3 : (x.kids.map (nmB ns))[kpl ns x (lastN p)]? = some (lastN p)) : holdO ns r p = ((none, 0), 21) := by
 unfold holdO; rw [if_pos h, h1]; simp only
 rw [if_pos h2]
 cases hk : kid ns x.id (lastN p) with
 | none => exact absurd h3 (kid_miss hK hx hk)
 | some y => rfl
theorem holdO_ok {ns : List Nd} {r x : Nd} {p : List (List UInt8)} (hK : Kd ns) (hx : x ∈ ns) (h : ptOk (lastN p) = true) (h1 : fnd ns r (p.take (p.length - 1)) = some x) (h2 : x.dir = true) (h3 : ¬ (x.kids.map (nmB ns))[kpl ns x (lastN p)]? = some (lastN p)) : holdO ns r p = ((some x, kpl ns x (lastN p)), 0) := by
 unfold holdO; rw [if_pos h, h1]; simp only
 rw [if_pos h2]
 cases hk : kid ns x.id (lastN p) with
 | none => rfl
 | some y => exact absurd (kid_hit hK hx hk).1 h3
theorem holderK_spec {V : HProp} {t : Tr} (hT : Tv V t) {r : Nd} (hW : Wk t r) (q : Option Addr) (cq : Nat) (p : List (List UInt8)) (hV : Vw V (.slice q p.length cq) p.length (txs p)) (hcq : p.length ≤ cq) (hl : p.length ≤ 100000) (hp : p ≠ []) (hln : (lastN p).length ≤ 9223372036854775807) : Tri Tryz.prog 77 [t.v, .slice q p.length cq] [V] (fun v H' => ∃ K, (v = .tuple #[ptrO (holdO t.ns r p).1.1, .int .i64 ((holdO t.ns r p).1.2 : Int), .int .i64 (holdO t.ns r p).2] ∧ K = []) ∧ H' = K ++ [V]) := by
 have hp1 := List.length_pos_iff.2 hp
 have hlast := lastN_at hp
 refine tri_know (fun w F s => vw_ptr (zy5 (H := [V]) 0 rfl hV) s (by omega)) ?_; rintro ⟨b0, o0, rfl⟩
 cases hb : fnd t.ns r (p.take (p.length - 1)) with
 | none =>
  refine zt Tryz.func77 rfl Tryz.ntmps77 (by simp) ?_; refine zM (zK (zH rfl (zO rfl) rfl (zH rfl (zO rfl) rfl (zH rfl (zO rfl) rfl (zN ?_))))); refine zI (zM (zK (zH rfl (zL rfl) rfl (zH rfl (zL rfl) rfl (zH rfl (zw Tryz.underlying47 rfl) rfl ?_))))); refine zH rfl (yi rfl rfl (xV (by omega) (by omega))) rfl (zH rfl (qO sl47 rfl rfl rfl (by omega)) rfl (zH rfl (zW sc9 rfl (zy4 0 rfl (Rd.elem (j := 0) (ym hV) Tx.len hlast rfl))) rfl (zH rfl (zO rfl) rfl (zN (zI ?_))))); refine zM (zM (zK (zH rfl (zL rfl) rfl (zT rfl (zb Tryz.call74 rfl rfl (by repeat (first | exact zR _ | apply zG 0 rfl | apply zG 1 rfl | apply zG 2 rfl | apply zG 3 rfl | apply zG 4 rfl | apply zG 5 rfl | apply zG 6 rfl | apply zG 7 rfl)) (ptRight_spec (lastN p) hln)) rfl ?_)))); rintro _ H' ⟨_, ⟨rfl, rfl⟩, hH⟩; simp only [zy7] at hH; subst hH; refine zH rfl (qy rfl rfl) rfl (zN (zI (zq rfl (fun hc19 => ?_) (fun hc19 => ?_))))
  ·simp only [Bool.and_eq_true, decide_eq_true_eq, Bool.not_eq_true', decide_eq_false_iff_not, bne_iff_ne, ne_eq] at hc19; refine zM (zK (zH rfl (zO rfl) rfl (zH rfl (zO rfl) rfl (zH rfl (zO rfl) rfl (zN ?_))))); refine zI (zi ?_); refine zh ?_; refine' zX (res3 rfl rfl rfl rfl) ?_ ?_
   rotate_left 1
   exact ⟨_, ⟨by rw [holdO_name (by simpa using hc19)] <;> rfl, rfl⟩, rfl⟩
   exact zj _
  ·simp only [Bool.and_eq_false_iff, decide_eq_false_iff_not, Bool.not_eq_false', decide_eq_true_eq] at hc19; have hok : ptOk (lastN p) = true := by simpa using hc19
   refine zl ?_; refine zI (zM (zK (zH rfl (zL rfl) rfl (zH rfl (zL rfl) rfl (zH rfl (zL rfl) rfl ?_))))); refine zH rfl (zw Tryz.underlying47 rfl) rfl (zH rfl (yi rfl rfl (xV (by omega) (by omega))) rfl (zT rfl (eff_sliceF 0 rfl Tx.len sl47 rfl (hV) rfl (yZ rfl rfl) (by omega) (by omega) hcq) rfl ?_)); rintro _ _ ⟨p25, rfl, hv25, hn25, rfl⟩; rw [show List.take (p.length - 1 - 0) (List.drop 0 p) = p.take (p.length - 1) from by simp] at hv25 ⊢; refine zT rfl (zb Tryz.call75 rfl rfl (by repeat (first | exact zR _ | apply zG 0 rfl | apply zG 1 rfl | apply zG 2 rfl | apply zG 3 rfl | apply zG 4 rfl | apply zG 5 rfl | apply zG 6 rfl | apply zG 7 rfl)) (findK_spec hT hW p25 _ (p.take (p.length - 1)) hv25 (by rw [List.length_take]; omega))) rfl ?_; rintro _ H' ⟨_, ⟨_, ⟨rfl, rfl⟩, rfl⟩, hH⟩; simp only [zy7] at hH; subst hH; rw [hb]; dsimp only [ptrO, Option.map]; refine zH rfl (zO rfl) rfl (zN (zI (zM (qA ?_)))); refine zM (zK (zH rfl (zL rfl) rfl (zH rfl (qI Tryz.underlying92 rfl rfl rfl) rfl (zH rfl (zO rfl) rfl (zN ?_))))); refine zI (qG rfl ?_); refine zM (zK (zH rfl (zO rfl) rfl (zH rfl (zO rfl) rfl (zH rfl (zO rfl) rfl (zN ?_))))); refine zI (zi ?_); refine zn ?_; refine zh ?_; refine' zX (res3 rfl rfl rfl rfl) ?_ ?_
   rotate_left 1
   exact ⟨_, ⟨by rw [holdO_none hok hb] <;> rfl, rfl⟩, rfl⟩
   exact zj _
 | some x =>
  have hx := yu hW.root hb
  refine zt Tryz.func77 rfl Tryz.ntmps77 (by simp) ?_; refine zM (zK (zH rfl (zO rfl) rfl (zH rfl (zO rfl) rfl (zH rfl (zO rfl) rfl (zN ?_))))); refine zI (zM (zK (zH rfl (zL rfl) rfl (zH rfl (zL rfl) rfl (zH rfl (zw Tryz.underlying47 rfl) rfl ?_))))); refine zH rfl (yi rfl rfl (xV (by omega) (by omega))) rfl (zH rfl (qO sl47 rfl rfl rfl (by omega)) rfl (zH rfl (zW sc9 rfl (zy4 0 rfl (Rd.elem (j := 0) (ym hV) Tx.len hlast rfl))) rfl (zH rfl (zO rfl) rfl (zN (zI ?_))))); refine zM (zM (zK (zH rfl (zL rfl) rfl (zT rfl (zb Tryz.call74 rfl rfl (by repeat (first | exact zR _ | apply zG 0 rfl | apply zG 1 rfl | apply zG 2 rfl | apply zG 3 rfl | apply zG 4 rfl | apply zG 5 rfl | apply zG 6 rfl | apply zG 7 rfl)) (ptRight_spec (lastN p) hln)) rfl ?_)))); rintro _ H' ⟨_, ⟨rfl, rfl⟩, hH⟩; simp only [zy7] at hH; subst hH; refine zH rfl (qy rfl rfl) rfl (zN (zI (zq rfl (fun hc19 => ?_) (fun hc19 => ?_))))
  ·simp only [Bool.and_eq_true, decide_eq_true_eq, Bool.not_eq_true', decide_eq_false_iff_not, bne_iff_ne, ne_eq] at hc19; refine zM (zK (zH rfl (zO rfl) rfl (zH rfl (zO rfl) rfl (zH rfl (zO rfl) rfl (zN ?_))))); refine zI (zi ?_); refine zh ?_; refine' zX (res3 rfl rfl rfl rfl) ?_ ?_
   rotate_left 1
   exact ⟨_, ⟨by rw [holdO_name (by simpa using hc19)] <;> rfl, rfl⟩, rfl⟩
   exact zj _
  ·simp only [Bool.and_eq_false_iff, decide_eq_false_iff_not, Bool.not_eq_false', decide_eq_true_eq] at hc19; have hok : ptOk (lastN p) = true := by simpa using hc19
   refine zl ?_; refine zI (zM (zK (zH rfl (zL rfl) rfl (zH rfl (zL rfl) rfl (zH rfl (zL rfl) rfl ?_))))); refine zH rfl (zw Tryz.underlying47 rfl) rfl (zH rfl (yi rfl rfl (xV (by omega) (by omega))) rfl (zT rfl (eff_sliceF 0 rfl Tx.len sl47 rfl (hV) rfl (yZ rfl rfl) (by omega) (by omega) hcq) rfl ?_)); rintro _ _ ⟨p25, rfl, hv25, hn25, rfl⟩; rw [show List.take (p.length - 1 - 0) (List.drop 0 p) = p.take (p.length - 1) from by simp] at hv25 ⊢; refine zT rfl (zb Tryz.call75 rfl rfl (by repeat (first | exact zR _ | apply zG 0 rfl | apply zG 1 rfl | apply zG 2 rfl | apply zG 3 rfl | apply zG 4 rfl | apply zG 5 rfl | apply zG 6 rfl | apply zG 7 rfl)) (findK_spec hT hW p25 _ (p.take (p.length - 1)) hv25 (by rw [List.length_take]; omega))) rfl ?_; rintro _ H' ⟨_, ⟨_, ⟨rfl, rfl⟩, rfl⟩, hH⟩; simp only [zy7] at hH; subst hH; rw [hb]; dsimp only [ptrO, Option.map]; refine zH rfl (zO rfl) rfl (zN (zI (zM (qA ?_)))); refine zM (zK (zH rfl (zL rfl) rfl (zH rfl (qI Tryz.underlying92 rfl rfl rfl) rfl (zH rfl (zO rfl) rfl (zN ?_))))); refine zI (qC rfl ?_); refine zM (zK (zH rfl (zL rfl) rfl (zH rfl (zU rfl) rfl (zH rfl (zP fa98_1 rfl) rfl (zH rfl (zW sc4 rfl (zy4 0 rfl ((hT.nd x hx 1 _ rfl)))) rfl ?_))))); refine zH rfl (qy rfl rfl) rfl (zH rfl (zO rfl) rfl (zN (zI (zq rfl (fun hc30 => ?_) (fun hc30 => ?_)))))
   ·simp only [Bool.and_eq_true, decide_eq_true_eq, Bool.not_eq_true', decide_eq_false_iff_not, bne_iff_ne, ne_eq] at hc30; refine zM (zK (zH rfl (zO rfl) rfl (zH rfl (zO rfl) rfl (zH rfl (zO rfl) rfl (zN ?_))))); refine zI (zi ?_); refine zn ?_; refine zh ?_; refine' zX (res3 rfl rfl rfl rfl) ?_ ?_
    rotate_left 1
    exact ⟨_, ⟨by rw [holdO_file hok hb (by simpa using hc30)] <;> rfl, rfl⟩, rfl⟩
    exact zj _
   ·simp only [Bool.and_eq_false_iff, decide_eq_false_iff_not, Bool.not_eq_false', decide_eq_true_eq] at hc30; have hdir : x.dir = true := by simpa using hc30
    refine zl ?_; refine zQ ?_; refine zI (zM (zK (zH rfl (zL rfl) rfl (zH rfl (zL rfl) rfl (zT rfl (zb Tryz.call131 rfl rfl (by repeat (first | exact zR _ | apply zG 0 rfl | apply zG 1 rfl | apply zG 2 rfl | apply zG 3 rfl | apply zG 4 rfl | apply zG 5 rfl | apply zG 6 rfl | apply zG 7 rfl)) (place_spec x.blk x.kp x.kc x.kids (hT.nd x hx 3 _ rfl) (hT.kids x hx) (hW.kd.few x hx) (nmB t.ns) (kids_names hT hW.kd hx) (hW.kd.rise x hx) (lastN p))) rfl ?_))))); rintro _ H' ⟨_, ⟨_, ⟨rfl, rfl⟩, rfl⟩, hH⟩; simp only [zy7] at hH; subst hH; refine zH rfl (zL rfl) rfl (zH rfl (zu rfl rfl) rfl (zH rfl (zu rfl rfl) rfl (zH rfl (zO rfl) rfl (zH rfl (zO rfl) rfl (zN ?_))))); refine zI (zM (zM (zK (zH rfl (zL rfl) rfl (zN ?_))))); refine zI (zq rfl (fun hc42 => ?_) (fun hc42 => ?_))
    ·replace hc42 := zy2 hc42
     refine zM (zK (zH rfl (zO rfl) rfl (zH rfl (zO rfl) rfl (zH rfl (zO rfl) rfl (zN ?_))))); refine zI (zi ?_); refine zh ?_; refine' zX (res3 rfl rfl rfl rfl) ?_ ?_
     rotate_left 1
     exact ⟨_, ⟨by rw [holdO_had hW.kd hx hok hb hdir hc42] <;> rfl, rfl⟩, rfl⟩
     exact zj _
    ·replace hc42 := zy3 hc42
     refine zl ?_; refine zI (zM (zK (zH rfl (zL rfl) rfl (zH rfl (zL rfl) rfl (zH rfl (zO rfl) rfl ?_))))); refine zH rfl (zO rfl) rfl (zH rfl (zO rfl) rfl (zN (zI (zi ?_)))); refine' zX (res3 rfl rfl rfl rfl) ?_ ?_
     rotate_left 1
     exact ⟨_, ⟨by rw [holdO_ok hW.kd hx hok hb hdir hc42] <;> rfl, rfl⟩, rfl⟩
     exact zj _
theorem holder_spec {V : HProp} {t : Tr} (hT : Tv V t) {r : Nd} (hW : Wf t r) (q : Option Addr) (cq : Nat) (p : List (List UInt8)) (hV : Vw V (.slice q p.length cq) p.length (txs p)) (hcq : p.length ≤ cq) (hl : p.length ≤ 100000) (hp : p ≠ []) (hln : (lastN p).length ≤ 9223372036854775807) : Tri Tryz.prog 77 [t.v, .slice q p.length cq] [V] (fun v H' => ∃ K, (v = .tuple #[ptrO (holdO t.ns r p).1.1, .int .i64 ((holdO t.ns r p).1.2 : Int), .int .i64 (holdO t.ns r p).2] ∧ K = []) ∧ H' = K ++ [V]) := holderK_spec hT hW.wk q cq p hV hcq hl hp hln
def mkA (dir : Bool) : At := if dir = true then (⟨15, 0, 0, 0, 16877, 0, 0⟩ : At) else (⟨15, 0, 0, 0, 33188, 0, 0⟩ : At)
theorem ndL_nil (x : Nd) (hk : x.kp = none ∧ x.kc = 0 ∧ x.kids = []) (hd : x.dp = none ∧ x.dc = 0 ∧ x.data = []) {w : World} {F : HProp} (s : sat w (star (own x.blk (.cells x.cs.toArray 98 (0, 0))) F)) : sat w (star (nd x) F) := by
 obtain ⟨blk, born, id, par, dir, name, kp, kc, kids, dp, dc, data, a⟩ := x
 obtain ⟨rfl, rfl, rfl⟩ := hk
 obtain ⟨rfl, rfl, rfl⟩ := hd
 unfold nd ndL; simp only [qJ, yV, qt, zv]; rw [qH]; refine row_nil ?_; rw [qH]; exact row_nil s
theorem nds_snoc (ns : List Nd) (x : Nd) : nds (ns ++ [x]) = star (nds ns) (nd x) := by
 unfold nds; rw [List.map_append, yC]
 show star _ (St [nd x]) = _
 rw [qJ, yV, qt]
theorem made_new {b : Nat} {o : Obj} {A B : HProp} {ns : List Nd} {w : World} {F : HProp} (s : sat w (star (St [own b o, A, B, nds ns]) F)) : ∀ x ∈ ns, x.blk ≠ b := fun x hx => by
 obtain ⟨i, hi⟩ := nds_pick hx
 simp only [qJ, yV, qt, zv] at s; rw [qH A, qH A] at s
 have s1 : sat w (star (own b o) (star (nds ns) (star A (star B F)))) := by
  rw [qH (nds ns) A, qH (nds ns) B]; simpa only [qH A] using s
 rw [nds, yS hi, zv, nd, ndL, qJ, zv] at s1; exact (own_ne s1).symm
theorem made_pack {x : Nd} (hk : x.kp = none ∧ x.kc = 0 ∧ x.kids = []) (hd : x.dp = none ∧ x.dc = 0 ∧ x.data = []) {A : HProp} {m : Obj} {mb : Nat} {m2 : Obj} {ns : List Nd} {w : World} {F : HProp} (hm : m = m2) (s : sat w (star (St [own x.blk (.cells x.cs.toArray 98 (0, 0)), A, own mb m, nds ns]) F)) : sat w (star (St [A, own mb m2, nds (ns ++ [x])]) F) := by
 subst hm; rw [nds_snoc]; simp only [qJ, yV, qt, zv] at s ⊢; have s1 := ndL_nil x hk hd s
 rw [qH (nd x) A, qH (nd x), qH (nd x)] at s1; exact s1
theorem made_spec (tb mb ck nx bs : Nat) (rv : Value) (hrv : rv.oneCell' = true) (ns : List Nd) (nm : List UInt8) (dir : Bool) (par : Int) (hn : nx ≤ 9223372036854775806) (hfr : ∀ y ∈ ns.map Nd.me, y.k ≠ (nx : Int)) :
 Tri Tryz.prog 63 [.pointer (some ⟨tb, 0, none⟩), .string (str nm), .bool dir] [own tb (.cells ([rv, .map (some mb), .int .i64 (nx : Int), .int .i64 (bs : Int)] : List Value).toArray 95 (0, 0)), own mb (mapO ((ns).map Nd.me) ck), nds ns] (fun v H' => ∃ b, v = .pointer (some ⟨b, 0, none⟩) ∧ (∀ x ∈ ns, x.blk ≠ b) ∧ H' = [own tb (.cells ([rv, .map (some mb), .int .i64 ((nx + 1 : Nat) : Int), .int .i64 (bs : Int)] : List Value).toArray 95 (0, 0)), own mb (mapO ((ns ++ [(⟨b, ck, nx, par, dir, nm, none, 0, [], none, 0, [], mkA dir⟩ : Nd)]).map Nd.me) (ck + 1)), nds (ns ++ [(⟨b, ck, nx, par, dir, nm, none, 0, [], none, 0, [], mkA dir⟩ : Nd)])]) := by
 refine zt Tryz.func63 rfl Tryz.ntmps63 (by simp) ?_; refine zM (zK (zH rfl (zO rfl) rfl (zN (zI (zM ?_))))); refine zK (zH rfl (zL rfl) rfl (zH rfl (zU rfl) rfl (zH rfl (zP fa95_2 rfl) rfl (zH rfl (zW sc3 rfl (zy4 0 rfl (Rd.own rfl))) rfl (zH rfl (zL rfl) rfl ?_))))); refine zH rfl (zL rfl) rfl (zH rfl (qY rfl (qK (cs := At.cs (⟨15, 0, 0, 0, 33188, 0, 0⟩ : At)) st30 rfl)) rfl (zH rfl (qY rfl (qK (cs := Nd.cs (⟨0, ck, nx, par, dir, nm, none, 0, [], none, 0, [], (⟨15, 0, 0, 0, 33188, 0, 0⟩ : At)⟩ : Nd)) st98 rfl)) rfl (zT rfl (qj rfl) rfl ?_))); rintro _ _ ⟨b16, rfl, rfl⟩; refine zH rfl (zO rfl) rfl (zN (zI ?_)); refine yO 1004 (fun Δ LL => ∃ (a : At), (a = mkA dir) ∧ Δ = [] ∧ LL = [own b16 (.cells (Nd.cs (⟨b16, ck, nx, par, dir, nm, none, 0, [], none, 0, [], a⟩ : Nd)).toArray 98 (0, 0)), own tb (.cells ([rv, .map (some mb), .int .i64 (nx : Int), .int .i64 (bs : Int)] : List Value).toArray 95 (0, 0)), own mb (mapO ((ns).map Nd.me) ck), nds ns]) (zS (k := 0) rfl (zS (k := 7) rfl (zf _))) ?_ ?_
 ·refine zM (zK (zH rfl (zL rfl) rfl (zN (zI (zq rfl (fun hc17 => ?_) (fun hc17 => ?_))))))
  ·skip; refine zK (zH rfl (zL rfl) rfl (zH rfl (zU rfl) rfl (zH rfl (zP fa98_5 rfl) rfl (zH rfl (zP fa30_4 rfl) rfl (zo rfl (qP 0 yB rfl rfl rfl rfl (zy1 rfl) (zg _)) rfl ?_))))); rintro _ _ rfl; refine zN (zI (qc (qn ⟨(⟨15, 0, 0, 0, 16877, 0, 0⟩ : At), by rw [mkA, if_pos hc17], rfl, rfl⟩ ?_ ?_ ?_)))
   ·exact (by repeat (first | exact zf _ | refine zS rfl ?_))
   ·exact (by repeat (first | exact zf _ | refine zS rfl ?_))
   ·exact zj _
  ·skip; refine zl ?_; refine zI (qc (qn ⟨(⟨15, 0, 0, 0, 33188, 0, 0⟩ : At), by rw [mkA, if_neg (by simpa using hc17)], rfl, rfl⟩ ?_ ?_ ?_))
   ·exact (by repeat (first | exact zf _ | refine zS rfl ?_))
   ·exact (by repeat (first | exact zf _ | refine zS rfl ?_))
   ·exact zj _
 ·rintro Δ LL ⟨a, ha, rfl, rfl⟩; simp only [zA, zB]; refine zM (qZ 9 (by kernel_rfl) (Split.all _) ?_); refine zRO (i := 0) (by kernel_rfl) rfl rfl (zL rfl) rfl (zRO (i := 1) (by kernel_rfl) rfl rfl (zU rfl) rfl (zRO (i := 2) (by kernel_rfl) rfl rfl (zP fa95_1 rfl) rfl (zRO (i := 3) (by kernel_rfl) rfl rfl (zW sc93 rfl (zy4 1 rfl (Rd.own rfl))) rfl (zRO (i := 4) (by kernel_rfl) rfl rfl (zL rfl) rfl (zRO (i := 5) (by kernel_rfl) rfl rfl (zU rfl) rfl ?_))))); refine zRO (i := 6) (by kernel_rfl) rfl rfl (zP fa98_0 rfl) rfl (zRO (i := 7) (by kernel_rfl) rfl rfl (zW sc3 rfl (zy4 0 rfl (Rd.own rfl))) rfl (zRO (i := 8) (by kernel_rfl) rfl rfl (zL rfl) rfl (qR (m' := 10) (L' := []) (by kernel_rfl) qx ?_))); simp only [zA, zB, List.append_nil]; refine qq (i := 9) (by kernel_rfl) rfl rfl (eff_mapUpdate 2 Tryz.underlying93 Tryz.underlying3 rfl rfl rfl rfl hfr) rfl ?_; rintro _ _ rfl; simp only [zE, zF]; refine qT (by kernel_rfl) ?_; refine zI (zM (zK (zH rfl (zL rfl) rfl (zH rfl (zU rfl) rfl (zH rfl (zP fa95_2 rfl) rfl ?_))))); refine zH rfl (zW sc3 rfl (zy4 1 rfl (Rd.own rfl))) rfl (zH rfl (ql rfl rfl (qo (by omega))) rfl (zH rfl (zU rfl) rfl (zH rfl (zP fa95_2 rfl) rfl (zo rfl (qP 1 sc3 rfl rfl rfl rfl (zy1 rfl) (zg _)) rfl ?_)))); rintro _ _ rfl; refine zN (zI (zM (yN (fun w F s => made_new s) ?_))); intro hnew; refine qD (H' := [own tb (.cells ([rv, .map (some mb), .int .i64 ((nx + 1 : Nat) : Int), .int .i64 (bs : Int)] : List Value).toArray 95 (0, 0)), own mb (mapO ((ns ++ [(⟨b16, ck, nx, par, dir, nm, none, 0, [], none, 0, [], a⟩ : Nd)]).map Nd.me) (ck + 1)), nds (ns ++ [(⟨b16, ck, nx, par, dir, nm, none, 0, [], none, 0, [], a⟩ : Nd)])]) (fun w F s => made_pack (x := (⟨b16, ck, nx, par, dir, nm, none, 0, [], none, 0, [], a⟩ : Nd)) ⟨rfl, rfl, rfl⟩ ⟨rfl, rfl, rfl⟩ (by rw [List.map_append]; rfl) s) ?_; refine zK (zH rfl (zL rfl) rfl (zH rfl (zO rfl) rfl (zN (zI (zi ?_))))); refine' zX (qk rfl rfl) ?_ ?_
  rotate_left 1
  exact ⟨b16, rfl, hnew, by rw [← ha]⟩
  exact zj _
theorem nds_open {ns : List Nd} {i : Nat} {x : Nd} (h : ns[i]? = some x) : nds ns = star (nd x) (nds (ns.eraseIdx i)) := by
 unfold nds; rw [yS (L := ns.map nd) (i := i) (A := nd x) (by rw [List.getElem?_map, h]; rfl), map_eraseIdx]
theorem nds_close {ns : List Nd} {i : Nat} {x y : Nd} (h : ns[i]? = some x) : nds (ns.set i y) = star (nd y) (nds (ns.eraseIdx i)) := by
 unfold nds; rw [List.map_set, St_set (L := ns.map nd) (i := i) (A := nd x) (by rw [List.getElem?_map, h]; rfl), map_eraseIdx]
theorem nd_parts (x : Nd) : nd x = star (own x.blk (.cells x.cs.toArray 98 (0, 0))) (star (rowP x.kp x.kc x.kids) (rowD x.dp x.dc x.data)) := by
 unfold nd ndL; rw [qJ, qJ, qJ, yV, qt]
/-- the thing that lies at b is turned -/
def turnB (b : Nat) (f : Nd → Nd) (ns : List Nd) : List Nd := ns.map fun y => if y.blk = b then f y else y
theorem set_turn {f : Nd → Nd} : ∀ {ns : List Nd} {i : Nat} {x : Nd}, (ns.map Nd.blk).Nodup → ns[i]? = some x → ns.set i (f x) = turnB x.blk f ns
 | y :: r, 0, x, h, hi => by
  injection hi with hi; subst hi
  rw [List.map_cons, List.nodup_cons] at h
  show f y :: r = (if y.blk = y.blk then f y else y) :: r.map _
  rw [if_pos rfl]
  congr 1
  conv => lhs; rw [← List.map_id r]
  exact List.map_congr_left fun z hz => by rw [if_neg (fun e : z.blk = y.blk => h.1 (List.mem_map.2 ⟨z, hz, e⟩))]; rfl
 | y :: r, i + 1, x, h, hi => by
  rw [List.map_cons, List.nodup_cons] at h; have hx : x ∈ r := List.mem_of_getElem? (by simpa using hi)
  show y :: r.set i (f x) = (if y.blk = x.blk then f y else y) :: r.map _
  rw [if_neg (fun e => h.1 (List.mem_map.2 ⟨x, hx, e.symm⟩)), set_turn h.2 (by simpa using hi)]; rfl
/-- f keeps what others hang on -/
structure Keeps (f : Nd → Nd) : Prop where
 blk : ∀ y, (f y).blk = y.blk
 id : ∀ y, (f y).id = y.id
 par : ∀ y, (f y).par = y.par
 name : ∀ y, (f y).name = y.name
theorem turn_blk {f : Nd → Nd} (h : Keeps f) (b : Nat) (ns : List Nd) : (turnB b f ns).map Nd.blk = ns.map Nd.blk := by
 unfold turnB; rw [List.map_map]; exact List.map_congr_left fun y _ => by show (if y.blk = b then f y else y).blk = y.blk; split; exact h.blk y; rfl
theorem yj {f : Nd → Nd} {b : Nat} {ns : List Nd} {z : Nd} (h : z ∈ turnB b f ns) : ∃ y ∈ ns, z = if y.blk = b then f y else y := by
 obtain ⟨y, h1, h2⟩ := List.mem_map.1 h; exact ⟨y, h1, h2.symm⟩
theorem turn_in {f : Nd → Nd} {b : Nat} {ns : List Nd} {y : Nd} (h : y ∈ ns) : (if y.blk = b then f y else y) ∈ turnB b f ns := List.mem_map.2 ⟨y, h, rfl⟩
theorem qN {f : Nd → Nd} (h : Keeps f) {b : Nat} (y : Nd) : (if y.blk = b then f y else y).blk = y.blk ∧ (if y.blk = b then f y else y).id = y.id ∧ (if y.blk = b then f y else y).par = y.par ∧ (if y.blk = b then f y else y).name = y.name := by
 split
 ·exact ⟨h.blk y, h.id y, h.par y, h.name y⟩
 ·exact ⟨rfl, rfl, rfl, rfl⟩
theorem turn_find {f : Nd → Nd} (p : Nd → Bool) (hp : ∀ y, p (f y) = p y) (b : Nat) : ∀ ns : List Nd, (turnB b f ns).find? p = (ns.find? p).map (fun y => if y.blk = b then f y else y)
 | [] => rfl
 | y :: r => by
  have e : p (if y.blk = b then f y else y) = p y := by split; exact hp y; rfl
  show List.find? p ((if y.blk = b then f y else y) :: turnB b f r) = _
  rw [List.find?_cons, List.find?_cons, e, turn_find p hp b r]; cases p y <;> rfl
theorem nmB_turn {f : Nd → Nd} (h : Keeps f) (b : Nat) (ns : List Nd) (k : Nat) : nmB (turnB b f ns) k = nmB ns k := by
 unfold nmB; rw [turn_find (fun x => decide (x.blk = k)) (fun y => by rw [h.blk]) b ns]
 cases ns.find? fun x => decide (x.blk = k) with
 | none => rfl
 | some y => exact (qN h y).2.2.2
/-- things change, but not what they hold -/
theorem kd_turn {f : Nd → Nd} (h : Keeps f) (hk : ∀ y, (f y).kids = y.kids) (b : Nat) {ns : List Nd} (hK : Kd ns) : Kd (turnB b f ns) := by
 have kd : ∀ y : Nd, (if y.blk = b then f y else y).kids = y.kids := fun y => by split; exact hk y; rfl
 refine ⟨by rw [turn_blk h]; exact hK.blks, fun z hz k hkk => ?_, fun z hz u hu hp => ?_, fun z hz => ?_, fun z hz => ?_⟩
 ·obtain ⟨x, hx, rfl⟩ := yj hz
  rw [kd] at hkk; obtain ⟨y, h1, h2, h3⟩ := hK.sub x hx k hkk
  exact ⟨_, turn_in h1, by rw [(qN h y).1]; exact h2, by rw [(qN h y).2.2.1, (qN h x).2.1]; exact h3⟩
 ·obtain ⟨x, hx, rfl⟩ := yj hz
  obtain ⟨y, hy, rfl⟩ := yj hu
  rw [kd, (qN h y).1]; rw [(qN h y).2.2.1, (qN h x).2.1] at hp; exact hK.all x hx y hy hp
 ·obtain ⟨x, hx, rfl⟩ := yj hz
  rw [kd, show nmB (turnB b f ns) = nmB ns from funext fun k => nmB_turn h b ns k]; exact hK.rise x hx
 ·obtain ⟨x, hx, rfl⟩ := yj hz
  rw [kd]; exact hK.few x hx
theorem plc_lt : ∀ {l : List (List UInt8)} {s : List UInt8} {j : Nat} (hj : j < l.length), j < plc l s → cmp l[j] s < 0
 | x :: r, s, 0, _, h => by
  by_cases h1 : cmp x s < 0
  ·exact h1
  ·simp [plc, List.takeWhile_cons, h1] at h
 | x :: r, s, j + 1, hj, h => by
  by_cases h1 : cmp x s < 0
  ·refine plc_lt (l := r) (s := s) (j := j) (by simpa using hj) ?_; simpa [plc, List.takeWhile_cons, h1] using h
  ·simp [plc, List.takeWhile_cons, h1] at h
theorem plc_gt : ∀ {l : List (List UInt8)} {s : List UInt8} {i : Nat} (hi : i < l.length), (∀ j (hj : j < l.length), j < i → cmp l[j] s < 0) → cmp l[i] s < 0 → i < plc l s
 | x :: r, s, 0, _, _, h => by
  have h : cmp x s < 0 := h
  simp [plc, List.takeWhile_cons, h]
 | x :: r, s, i + 1, hi, h1, h2 => by
  have h3 : cmp x s < 0 := h1 0 (by simp) (by omega)
  have h4 := plc_gt (l := r) (s := s) (i := i) (by simpa using hi) (fun j hj hji => h1 (j + 1) (by simpa using hj) (by omega)) h2
  unfold plc at h4 ⊢; rw [List.takeWhile_cons, if_pos (by simpa using h3), List.length_cons]; omega
theorem rise_ins {l : List (List UInt8)} {s : List UInt8} (h : Rise l) (hs : l[plc l s]? ≠ some s) : Rise (l.take (plc l s) ++ s :: l.drop (plc l s)) := by
 have hle := plc_le l s
 have hlo : ∀ j (hj : j < l.length), j < plc l s → cmp l[j] s < 0 := fun j hj hjp => plc_lt hj hjp
 have hhi : ∀ j (hj : j < l.length), plc l s ≤ j → cmp s l[j] < 0 := fun j hj hjp => by
  have h0 : plc l s < l.length := by omega
  have h1 : ¬ cmp l[plc l s] s < 0 := fun hlt => by
   have h2 : plc l s = plc l s + 1 + (plc l s - plc l s - 1 + 0) ∨ True := .inr trivial
   have h3 := plc_gt h0 hlo hlt
   omega
  have h2 : cmp l[plc l s] s ≠ 0 := fun e => hs (by rw [List.getElem?_eq_getElem h0, cmp_zero e])
  have h3 : cmp s l[plc l s] < 0 := by rw [cmp_anti]; omega
  by_cases e : plc l s = j
  ·subst e; exact h3
  ·exact cmp_trans h3 (rise_lt h (by omega) hj)
 unfold Rise; rw [List.pairwise_append, List.pairwise_cons]; refine ⟨List.Pairwise.sublist (List.take_sublist _ _) h, ⟨fun x hx => ?_, List.Pairwise.sublist (List.drop_sublist _ _) h⟩, fun x hx y hy => ?_⟩
 ·obtain ⟨j, hj⟩ := List.mem_iff_getElem?.1 hx
  rw [List.getElem?_drop] at hj; obtain ⟨h1, h2⟩ := List.getElem?_eq_some_iff.1 hj
  rw [← h2]; exact hhi _ h1 (by omega)
 ·have hxs : cmp x s < 0 := by
   obtain ⟨j, hj⟩ := List.mem_iff_getElem?.1 hx
   have hjl := (List.getElem?_eq_some_iff.1 hj).1
   rw [List.length_take] at hjl; rw [List.getElem?_take_of_lt (by omega)] at hj; obtain ⟨h1, h2⟩ := List.getElem?_eq_some_iff.1 hj
   rw [← h2]; exact hlo _ h1 (by omega)
  rcases List.mem_cons.1 hy with hy | hy
  ·rw [hy]; exact hxs
  ·obtain ⟨j, hj⟩ := List.mem_iff_getElem?.1 hy
   rw [List.getElem?_drop] at hj; obtain ⟨h1, h2⟩ := List.getElem?_eq_some_iff.1 hj
   rw [← h2]; exact cmp_trans hxs (hhi _ h1 (by omega))
theorem insAt_mem {l : List Nat} {i y k : Nat} : k ∈ insAt l i y ↔ k = y ∨ k ∈ l := by
 unfold insAt; rw [List.mem_append, List.mem_cons]
 conv => rhs; rw [← List.take_append_drop i l, List.mem_append]
 constructor
 ·rintro (h | h | h)
  ·exact .inr (.inl h)
  ·exact .inl h
  ·exact .inr (.inr h)
 ·rintro (h | h | h)
  ·exact .inr (.inl h)
  ·exact .inl h
  ·exact .inr (.inr h)
theorem nmB_snoc_old {ns : List Nd} {z : Nd} {k : Nat} (hk : z.blk ≠ k) : nmB (ns ++ [z]) k = nmB ns k := by
 unfold nmB; rw [List.find?_append]
 cases ns.find? fun x => decide (x.blk = k) with
 | some y => rfl
 | none =>
  rw [Option.none_or, List.find?_cons, decide_eq_false hk]; rfl
theorem nmB_snoc_new {ns : List Nd} {z : Nd} (h : ∀ y ∈ ns, y.blk ≠ z.blk) : nmB (ns ++ [z]) z.blk = z.name := by
 unfold nmB; rw [List.find?_append, List.find?_eq_none.2 fun y hy => by simpa using h y hy, Option.none_or, List.find?_cons, decide_eq_true rfl]; rfl
theorem nmId {ns : List Nd} (h : (ns.map Nd.id).Nodup) {x y : Nd} (hx : x ∈ ns) (hy : y ∈ ns) (e : x.id = y.id) : x = y := by
 have h1 := yK h hx
 rw [e, yK h hy] at h1
 injection h1 with h1; exact h1.symm
/-- a new thing is held by x -/
theorem kd_put {ns : List Nd} (hK : Kd ns) (hid : (ns.map Nd.id).Nodup) {x : Nd} (hx : x ∈ ns) {nm : List UInt8} (hno : kid ns x.id nm = none) {z : Nd} (hz : z.kids = []) (hzp : z.par = x.id) (hzn : z.name = nm)
 (hzb : ∀ y ∈ ns, y.blk ≠ z.blk) (hzp2 : ∀ y ∈ ns, y.par ≠ z.id) (hzz : x.id ≠ z.id) (hfew : x.kids.length < 100000) {f : Nd → Nd} (hf : Keeps f) (hfk : ∀ y, (f y).kids = insAt y.kids (kpl ns x nm) z.blk) : Kd (turnB x.blk f ns ++ [z]) := by
 have hkl := plc_le (x.kids.map (nmB ns)) nm
 rw [List.length_map] at hkl; have xof : ∀ u ∈ ns, u.blk = x.blk → u = x := fun u hu e => xA hK.blks hu hx e
 have kd : ∀ u ∈ ns, (if u.blk = x.blk then f u else u).kids = if u.blk = x.blk then insAt u.kids (kpl ns x nm) z.blk else u.kids := fun u _ => by split; exact hfk u; rfl
 have old : ∀ u ∈ ns, ∀ k ∈ u.kids, z.blk ≠ k := fun u hu k hk => by
  obtain ⟨y, h1, h2, _⟩ := hK.sub u hu k hk
  rw [← h2]; exact (hzb y h1).symm
 have nmo : ∀ k, z.blk ≠ k → nmB (turnB x.blk f ns ++ [z]) k = nmB ns k := fun k hk => by rw [nmB_snoc_old hk, nmB_turn hf]
 have nmz : nmB (turnB x.blk f ns ++ [z]) z.blk = nm := by
  rw [nmB_snoc_new fun y hy => ?_, hzn]; obtain ⟨u, hu, rfl⟩ := yj hy
  rw [(qN hf u).1]; exact hzb u hu
 refine ⟨?_, fun u hu k hk => ?_, fun u hu y hy hp => ?_, fun u hu => ?_, fun u hu => ?_⟩
 ·rw [List.map_append, turn_blk hf, List.nodup_append]; refine ⟨hK.blks, by simp, fun a ha b hb e => ?_⟩; obtain ⟨y, h1, h2⟩ := List.mem_map.1 ha
  rw [List.map_cons, List.map_nil, List.mem_singleton] at hb; exact hzb y h1 (by rw [h2, e, hb])
 ·rcases List.mem_append.1 hu with hu | hu
  ·obtain ⟨w, hw, rfl⟩ := yj hu
   rw [kd w hw] at hk; rw [(qN hf w).2.1]
   by_cases e : w.blk = x.blk
   ·rw [if_pos e, insAt_mem] at hk
    rcases hk with hk | hk
    ·exact ⟨z, List.mem_append_right _ (by simp), hk.symm, by rw [hzp, xof w hw e]⟩
    ·obtain ⟨y, h1, h2, h3⟩ := hK.sub w hw k hk
     exact ⟨_, List.mem_append_left _ (turn_in h1), by rw [(qN hf y).1]; exact h2, by rw [(qN hf y).2.2.1]; exact h3⟩
   ·rw [if_neg e] at hk; obtain ⟨y, h1, h2, h3⟩ := hK.sub w hw k hk
    exact ⟨_, List.mem_append_left _ (turn_in h1), by rw [(qN hf y).1]; exact h2, by rw [(qN hf y).2.2.1]; exact h3⟩
  ·rw [List.mem_singleton] at hu; rw [hu, hz] at hk; cases hk
 ·rcases List.mem_append.1 hu with hu | hu
  ·obtain ⟨w, hw, rfl⟩ := yj hu
   rw [(qN hf w).2.1] at hp; rw [kd w hw]
   rcases List.mem_append.1 hy with hy | hy
   ·obtain ⟨v, hv, rfl⟩ := yj hy
    rw [(qN hf v).2.2.1] at hp; rw [(qN hf v).1]; have h1 := hK.all w hw v hv hp
    split
    ·exact insAt_mem.2 (.inr h1)
    ·exact h1
   ·rw [List.mem_singleton] at hy; rw [hy, hzp] at hp; have e : w = x := nmId hid hw hx (by omega)
    rw [hy, e, if_pos rfl]; exact insAt_mem.2 (.inl rfl)
  ·rw [List.mem_singleton] at hu; rw [hu] at hp
   rcases List.mem_append.1 hy with hy | hy
   ·obtain ⟨v, hv, rfl⟩ := yj hy
    rw [(qN hf v).2.2.1] at hp; exact absurd hp (hzp2 v hv)
   ·rw [List.mem_singleton] at hy; rw [hy, hzp] at hp; exact absurd (by omega) hzz
 ·rcases List.mem_append.1 hu with hu | hu
  ·obtain ⟨w, hw, rfl⟩ := yj hu
   rw [kd w hw]; have e0 : ∀ v ∈ ns, v.kids.map (nmB (turnB x.blk f ns ++ [z])) = v.kids.map (nmB ns) := fun v hv => List.map_congr_left fun k hk => nmo k (old v hv k hk)
   by_cases e : w.blk = x.blk
   ·rw [if_pos e]; obtain rfl := xof w hw e
    have e1 : (insAt w.kids (kpl ns w nm) z.blk).map (nmB (turnB w.blk f ns ++ [z])) = (w.kids.map (nmB ns)).take (kpl ns w nm) ++ nm :: (w.kids.map (nmB ns)).drop (kpl ns w nm) := by
     unfold insAt; rw [List.map_append, List.map_cons, nmz, List.map_take, List.map_drop, e0 w hw]
    rw [e1]; exact rise_ins (hK.rise w hw) (kid_miss hK hw hno)
   ·rw [if_neg e, e0 w hw]; exact hK.rise w hw
  ·rw [List.mem_singleton] at hu; rw [hu, hz]; exact List.Pairwise.nil
 ·rcases List.mem_append.1 hu with hu | hu
  ·obtain ⟨w, hw, rfl⟩ := yj hu
   rw [kd w hw]
   by_cases e : w.blk = x.blk
   ·rw [if_pos e]; obtain rfl := xof w hw e
    rw [insAt_len hkl]; omega
   ·rw [if_neg e]; exact hK.few w hw
  ·rw [List.mem_singleton] at hu; rw [hu, hz]; exact Nat.zero_le _
theorem x9 {ns : List Nd} {r x : Nd} {p : List (List UInt8)} {k : Nat} {e : Int} (h : holdO ns r p = ((some x, k), e)) : fnd ns r (p.take (p.length - 1)) = some x ∧ x.dir = true ∧ kid ns x.id (lastN p) = none ∧ k = kpl ns x (lastN p) ∧ ptOk (lastN p) = true ∧ e = 0 := by
 unfold holdO at h
 by_cases h1 : ptOk (lastN p) = true
 ·rw [if_pos h1] at h
  cases h2 : fnd ns r (p.take (p.length - 1)) with
  | none => rw [h2] at h; simp at h
  | some y =>
   rw [h2] at h; simp only at h
   by_cases h3 : y.dir = true
   ·rw [if_pos h3] at h
    cases h4 : kid ns y.id (lastN p) with
    | none =>
     rw [h4] at h; simp only [Option.isSome_none, Bool.false_eq_true, if_false, Prod.mk.injEq, Option.some.injEq] at h; obtain ⟨⟨rfl, h6⟩, h7⟩ := h
     exact ⟨rfl, h3, h4, h6.symm, h1, h7.symm⟩
    | some z => rw [h4] at h; simp at h
   ·rw [if_neg h3] at h; simp at h
 ·rw [if_neg h1] at h; simp at h
theorem holdO_bad {ns : List Nd} {r : Nd} {p : List (List UInt8)} : (∃ e, holdO ns r p = ((none, 0), e) ∧ e ≠ 0) ∨ ∃ x k, holdO ns r p = ((some x, k), 0) := by
 unfold holdO
 by_cases h1 : ptOk (lastN p) = true
 ·rw [if_pos h1]
  cases h2 : fnd ns r (p.take (p.length - 1)) with
  | none => exact .inl ⟨22, rfl, by decide⟩
  | some y =>
   simp only
   by_cases h3 : y.dir = true
   ·rw [if_pos h3]
    by_cases h4 : (kid ns y.id (lastN p)).isSome = true
    ·rw [if_pos h4]; exact .inl ⟨21, rfl, by decide⟩
    ·rw [if_neg h4]; exact .inr ⟨y, _, rfl⟩
   ·rw [if_neg h3]; exact .inl ⟨23, rfl, by decide⟩
 ·rw [if_neg h1]; exact .inl ⟨20, rfl, by decide⟩
def newNd (b ck nx : Nat) (par : Int) (dir : Bool) (nm : List UInt8) : Nd := ⟨b, ck, nx, par, dir, nm, none, 0, [], none, 0, [], mkA dir⟩
/-- x holds b, too -/
def heldF (kp : Option Addr) (kc k b : Nat) (y : Nd) : Nd := { y with kp := kp, kc := kc, kids := insAt y.kids k b }
theorem heldF_keeps (kp : Option Addr) (kc k b : Nat) : Keeps (heldF kp kc k b) := ⟨fun _ => rfl, fun _ => rfl, fun _ => rfl, fun _ => rfl⟩
def made (t : Tr) (x : Nd) (nm : List UInt8) (dir : Bool) (b : Nat) (kp : Option Addr) (kc : Nat) : Tr :=
 { t with ck := t.ck + 1, next := t.next + 1, ns := turnB x.blk (heldF kp kc (kpl t.ns x nm) b) t.ns ++ [newNd b t.ck t.next x.id dir nm] }
theorem mkA_ok (dir : Bool) : (mkA dir).Ok ∧ (mkA dir).s = 0 := by
 unfold mkA; split <;> exact ⟨⟨by decide, by decide, by decide, by decide, by decide, by decide, by decide⟩, rfl⟩
theorem Wf.parlt {t : Tr} {r : Nd} (h : Wf t r) {x : Nd} (hx : x ∈ t.ns) : x.par < (t.next : Int) := by
 rcases h.par x hx with h1 | ⟨y, h1, h2, _⟩
 ·have : x = r := nmId h.ids hx h.root (by rw [h1, h.rid])
  rw [this, h.rpar]; omega
 ·have := h.lt y h1; omega
theorem heldG (kp : Option Addr) (kc k b bb : Nat) (y : Nd) : ∃ g : Nd, (if y.blk = bb then heldF kp kc k b y else y) = g ∧ g.id = y.id ∧ g.par = y.par ∧ g.dir = y.dir ∧ g.name = y.name ∧ g.data = y.data ∧ g.a = y.a := by
 refine ⟨_, rfl, ?_⟩
 split <;> exact ⟨rfl, rfl, rfl, rfl, rfl, rfl⟩
theorem kids_nodup {ns : List Nd} (h : Kd ns) {x : Nd} (hx : x ∈ ns) : x.kids.Nodup := by
 have h1 := h.rise x hx
 unfold Rise at h1; rw [List.pairwise_map] at h1; refine List.Pairwise.imp (fun {a b} hab e => ?_) h1; rw [e, cmp_self] at hab; cases hab
theorem nodup_le : ∀ {l m : List Nat}, l.Nodup → (∀ x ∈ l, x ∈ m) → l.length ≤ m.length
 | [], _, _, _ => Nat.zero_le _
 | x :: l, m, h, hs => by
  rw [List.nodup_cons] at h; have hx := hs x (by simp)
  have h1 := nodup_le (m := m.erase x) h.2 fun y hy => (List.mem_erase_of_ne (fun e : y = x => h.1 (by rw [← e]; exact hy))).2 (hs y (by simp [hy]))
  rw [List.length_erase_of_mem hx] at h1; have h2 := List.length_pos_of_mem hx
  rw [List.length_cons]; omega
theorem kids_le {ns : List Nd} (h : Kd ns) {x : Nd} (hx : x ∈ ns) : x.kids.length ≤ ns.length := by
 have h2 := nodup_le (kids_nodup h hx) (m := ns.map Nd.blk) fun k hk => by
  obtain ⟨y, h1, h2, _⟩ := h.sub x hx k hk
  exact List.mem_map.2 ⟨y, h1, h2⟩
 rwa [List.length_map] at h2
theorem wf_made {t : Tr} {r x : Nd} {nm : List UInt8} {dir : Bool} {b : Nat} {kp : Option Addr} {kc : Nat} (hW : Wf t r) (hx : x ∈ t.ns) (hd : x.dir = true) (hno : kid t.ns x.id nm = none) (hok : ptOk nm = true) (hfew : t.ns.length < 200) (hb : ∀ y ∈ t.ns, y.blk ≠ b) :
 Wf (made t x nm dir b kp kc) (if r.blk = x.blk then heldF kp kc (kpl t.ns x nm) b r else r) := by
 have hF := heldF_keeps kp kc (kpl t.ns x nm) b
 have hxl := hW.lt x hx
 have hkf : x.kids.length < 100000 := by
  have h1 := kids_le hW.kd hx
  omega
 have gof : ∀ u ∈ (made t x nm dir b kp kc).ns, u = newNd b t.ck t.next x.id dir nm ∨ ∃ y ∈ t.ns, u = (if y.blk = x.blk then heldF kp kc (kpl t.ns x nm) b y else y) := fun u hu => by
  rcases List.mem_append.1 hu with hu | hu
  ·exact .inr (yj hu)
  ·exact .inl (List.mem_singleton.1 hu)
 have gin : ∀ y ∈ t.ns, (if y.blk = x.blk then heldF kp kc (kpl t.ns x nm) b y else y) ∈ (made t x nm dir b kp kc).ns := fun y hy => List.mem_append_left _ (turn_in hy)
 have zin : newNd b t.ck t.next x.id dir nm ∈ (made t x nm dir b kp kc).ns := List.mem_append_right _ (List.mem_singleton_self _)
 refine ⟨kd_put hW.kd hW.ids hx hno rfl rfl rfl hb (fun y hy e => ?_) (fun e => ?_) hkf hF (fun _ => rfl), gin r hW.root, ?_, ?_, ?_, ?_, ?_, fun u hu => ?_, fun u hu => ?_, fun u hu => ?_, ?_, ?_, fun u hu hdu => ?_, ?_, hW.max, fun u hu => ?_⟩
 ·have := hW.parlt hy
  have e : y.par = (t.next : Int) := e
  omega
 ·have e : x.id = t.next := e
  omega
 ·show t.rb = _; rw [hW.rb, (qN hF r).1]
 ·rw [(qN hF r).2.1]; exact hW.rid
 ·rw [(qN hF r).2.2.1]; exact hW.rpar
 ·obtain ⟨g, e, _, _, h3, _⟩ := heldG kp kc (kpl t.ns x nm) b x.blk r
  rw [e, h3]; exact hW.rdir
 ·show ((turnB x.blk _ t.ns ++ [_]).map Nd.id).Nodup
  rw [List.map_append, List.nodup_append]
  have e1 : (turnB x.blk (heldF kp kc (kpl t.ns x nm) b) t.ns).map Nd.id = t.ns.map Nd.id := by
   unfold turnB; rw [List.map_map]; exact List.map_congr_left fun y _ => (qN hF y).2.1
  rw [e1]; refine ⟨hW.ids, by simp, fun c hc d hd' e => ?_⟩; obtain ⟨y, h1, h2⟩ := List.mem_map.1 hc
  have h3 := hW.lt y h1
  rw [List.map_cons, List.map_nil, List.mem_singleton] at hd'; have h4 : d = t.next := hd'
  omega
 ·show u.id < t.next + 1
  rcases gof u hu with rfl | ⟨y, hy, rfl⟩
  ·show t.next < _; omega
  ·rw [(qN hF y).2.1]; have := hW.lt y hy; omega
 ·rcases gof u hu with rfl | ⟨y, hy, rfl⟩
  ·obtain ⟨g, e, h1, _, h3, _⟩ := heldG kp kc (kpl t.ns x nm) b x.blk x
   exact .inr ⟨_, gin x hx, by rw [e, h1]; rfl, by rw [e, h3]; exact hd⟩
  ·rw [(qN hF y).2.1, (qN hF y).2.2.1]
   rcases hW.par y hy with h1 | ⟨v, h1, h2, h3⟩
   ·exact .inl h1
   ·obtain ⟨g, e, g1, _, g3, _⟩ := heldG kp kc (kpl t.ns x nm) b x.blk v
    exact .inr ⟨_, gin v h1, by rw [e, g1]; exact h2, by rw [e, g3]; exact h3⟩
 ·rcases gof u hu with rfl | ⟨y, hy, rfl⟩
  ·exact .inr hok
  ·rw [(qN hF y).2.1, (qN hF y).2.2.2]; exact hW.nm y hy
 ·obtain ⟨d, hd1⟩ := hW.rk
  refine ⟨fun k => if k = t.next then d x.id + 1 else d k, fun u hu v hv hp => ?_⟩
  rcases gof u hu with rfl | ⟨y, hy, rfl⟩
  ·exfalso
   have hp : v.par = (t.next : Int) := hp
   rcases gof v hv with rfl | ⟨w, hw, rfl⟩
   ·have hp : (x.id : Int) = t.next := hp
    omega
   ·rw [(qN hF w).2.2.1] at hp; have := hW.parlt hw; omega
  ·have hyl := hW.lt y hy
   rw [(qN hF y).2.1] at hp ⊢
   rcases gof v hv with rfl | ⟨w, hw, rfl⟩
   ·have hp : (x.id : Int) = y.id := hp
    have e : y = x := nmId hW.ids hy hx (by omega)
    show (if t.next = t.next then _ else _) = (if y.id = t.next then _ else _) + 1
    rw [if_pos rfl, if_neg (by omega), e]
   ·rw [(qN hF w).2.2.1] at hp; rw [(qN hF w).2.1]; have hwl := hW.lt w hw
    show (if w.id = t.next then _ else _) = (if y.id = t.next then _ else _) + 1
    rw [if_neg (by omega), if_neg (by omega)]; exact hd1 y hy w hw hp
 ·show (turnB x.blk _ t.ns ++ [_]).length ≤ 200
  rw [List.length_append, turnB, List.length_map]; simp; omega
 ·rcases gof u hu with rfl | ⟨y, hy, rfl⟩
  ·rfl
  ·obtain ⟨g, e, _, _, g3, _, g5, _⟩ := heldG kp kc (kpl t.ns x nm) b x.blk y
   rw [e] at hdu ⊢; rw [g5]; exact hW.dat y hy (by rw [← g3]; exact hdu)
 ·show t.bytes = ((turnB x.blk _ t.ns ++ [_]).map fun x : Nd => x.data.length).sum
  rw [hW.sum, List.map_append, List.sum_append]
  have e1 : (turnB x.blk (heldF kp kc (kpl t.ns x nm) b) t.ns).map (fun x : Nd => x.data.length) = t.ns.map fun x : Nd => x.data.length := by
   unfold turnB; rw [List.map_map]
   exact List.map_congr_left fun y _ => by
    obtain ⟨g, e, _, _, _, _, g5, _⟩ := heldG kp kc (kpl t.ns x nm) b x.blk y
    show (if y.blk = x.blk then _ else y).data.length = _
    rw [e, g5]
  rw [e1]; rfl
 ·rcases gof u hu with rfl | ⟨y, hy, rfl⟩
  ·exact mkA_ok dir
  ·obtain ⟨g, e, _, _, _, _, _, g6⟩ := heldG kp kc (kpl t.ns x nm) b x.blk y
   rw [e, g6]; exact hW.a y hy
end Go.Proofs.YtlefpllcgcicpaaGreatDoor
