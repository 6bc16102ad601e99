/-
  Split, Join, Clean, by both.
  Join, Clean, by both; the runs of chapter 13.
  Package fsm: what requests are answered: the model.
  Package fsm: what only reads: bare, look, file, told, read.
-/
import Derived.Test.YtlefpllcgcicpaaGreatDoorTrX
import Derived.Test.YtlefpllcgcicpaaGreatDoorFrM
import Derived.Test.YtlefpllcgcicpaaGreatDoorTrTb
import Derived.Test.YtlefpllcgcicpaaGreatDoorTrK
import Derived.Test.YtlefpllcgcicpaaGreatDoorTrH
import Derived.Test.YtlefpllcgcicpaaGreatDoorSxFork
set_option linter.unusedVariables false
set_option linter.unusedSimpArgs false
namespace Go.Proofs.YtlefpllcgcicpaaGreatDoor
open Go.Sx
set_option maxRecDepth 100000
set_option maxHeartbeats 4000000
/-- a text is cut at c: `out` is what was cut off, at fr the next part begins, i is where the look is -/
def Pst (c : UInt8) (s : List UInt8) (out : List (List UInt8)) (fr i : Nat) : Prop := fr ≤ i ∧ i ≤ s.length ∧ parts c s = out ++ pre ((s.drop fr).take (i - fr)) (parts c (s.drop i))
theorem Pst.go {c : UInt8} {s : List UInt8} {out : List (List UInt8)} {fr i : Nat} (h : Pst c s out fr i) (hi : i < s.length) (hc : s[i] ≠ c) : Pst c s out fr (i + 1) := by
 obtain ⟨h1, h2, h3⟩ := h
 refine ⟨by omega, by omega, ?_⟩; rw [h3, List.drop_eq_getElem_cons hi, parts_cons hc, pre_pre]
 congr 1
 congr 1
 rw [show i + 1 - fr = (i - fr) + 1 by omega, List.take_succ_eq_append_getElem (by rw [List.length_drop]; omega)]
 congr 1
 rw [List.getElem_drop]
 congr 2; omega
theorem Pst.cut {c : UInt8} {s : List UInt8} {out : List (List UInt8)} {fr i : Nat} (h : Pst c s out fr i) (hc : i = s.length ∨ ∃ hi : i < s.length, s[i] = c) :
 (s.drop fr).take (i - fr) ∈ parts c s ∧ (i + 1 ≤ s.length → Pst c s (out ++ [(s.drop fr).take (i - fr)]) (i + 1) (i + 1)) ∧ (i + 1 = s.length + 1 → parts c s = out ++ [(s.drop fr).take (i - fr)]) := by
 obtain ⟨h1, h2, h3⟩ := h
 rcases hc with hc | ⟨hi, hc⟩
 ·have e : s.drop i = [] := List.drop_eq_nil_of_le (by omega)
  rw [e] at h3; have h4 : parts c s = out ++ [(s.drop fr).take (i - fr)] := by rw [h3]; simp [parts, pre]
  exact ⟨by rw [h4]; simp, fun hh => by omega, fun _ => h4⟩
 ·rw [List.drop_eq_getElem_cons hi, hc, parts_hit] at h3; have h4 : parts c s = out ++ ((s.drop fr).take (i - fr) :: parts c (s.drop (i + 1))) := by rw [h3]; simp [pre]
  refine ⟨by rw [h4]; simp, fun hh => ⟨Nat.le_refl _, hh, ?_⟩, fun hh => by omega⟩; rw [h4]; simp [pre_nil (parts_ne c _)]
theorem pSplit_long {s : List UInt8} (h : 200 < s.length) : pSplit s = ([], 3) := by unfold pSplit; rw [if_pos h]
theorem ptSplit_spec (V : HProp) (hM : Ml V) (s : List UInt8) (hs : s.length ≤ 1000000) : Tri Tryz.prog 31 [.string (str s)] [V] (fun v H' => ∃ K, (∃ p c, v = .tuple #[.slice p (pSplit s).1.length c, .int .i64 (pSplit s).2] ∧ K = [row 9 1 (.slice p (pSplit s).1.length c) (pSplit s).1.length (txs (pSplit s).1)]) ∧ H' = K ++ [V]) := by
 refine zt Tryz.func31 rfl Tryz.ntmps31 (by simp) ?_; refine zM (zK (zH rfl (zO rfl) rfl (zH rfl (zO rfl) rfl (zN (zI ?_))))); refine zM (zM (zK (zH rfl (zL rfl) rfl (zH rfl (ro_lenS (t' := 0) Tryz.underlying9 rfl) rfl (zH rfl (yd rfl rfl rfl) rfl ?_))))); refine zN (zI (zq rfl (fun hc9 => ?_) (fun hc9 => ?_)))
 ·replace hc9 := zy2 hc9
  refine zM (zK (zH rfl (zO rfl) rfl (zH rfl (zO rfl) rfl (zN (zI ?_))))); refine zi ?_; refine zh ?_; refine' zX (res2 rfl rfl rfl) ?_ ?_
  rotate_left 1
  exact ⟨_, ⟨none, 0, by rw [pSplit_long (by omega)]; first | done | exact rfl, by rw [pSplit_long (by omega)]; first | done | exact rfl⟩, rfl⟩
  exact (SubH.rown (zJ 0 rfl (zY _)))
 ·replace hc9 := zy3 hc9
  refine zl ?_; refine zI (zM ?_); have hcut := parts_length_le 47 s
  refine zK (zH rfl (zO rfl) rfl (zN (zI (zM (zM ?_))))); refine zK (zH rfl (zL rfl) rfl (zT rfl (zy (Pre := []) Tryz.call73 rfl rfl (zR _) (split_spec _ (Ml.pick 0 rfl hM) s 47 (by omega))) rfl ?_)); rintro _ H' ⟨_, ⟨bq, rfl, rfl⟩, hH⟩; simp only [zy7] at hH; subst hH; refine zH rfl (zw Tryz.underlying47 rfl) rfl (zH rfl (zL rfl) rfl (zN (zI (qA ?_)))); refine yQ 5 (fun m Δ LL => ∃ (i : Nat) (out : List (List UInt8)) (p4 : Option Addr) (c4 : Nat), (i + m = (parts 47 s).length ∧ pRun (some []) ((parts 47 s).take i) = some out ∧ out.length ≤ i) ∧ Δ = [(4, .slice p4 out.length c4), (13, .int .i64 (i : Nat))] ∧ LL = [row 9 1 (.slice p4 out.length c4) out.length (txs out), row 9 1 (.slice (some ⟨bq, 0, none⟩) (parts 47 s).length (parts 47 s).length) (parts 47 s).length (txs (parts 47 s)), V]) (m := (parts 47 s).length) (zS (k := 11) rfl (zS (k := 12) rfl (zf _))) (qn ⟨0, [], none, 0, ⟨by omega, rfl, by simp⟩, rfl, rfl⟩ (by repeat (first | exact zf _ | refine zS rfl ?_)) (by repeat (first | exact zf _ | refine zS rfl ?_)) (by repeat (first | exact zY _ | refine zJ 0 rfl ?_ | refine zJ 1 rfl ?_ | refine zJ 2 rfl ?_ | refine zJ 3 rfl ?_ | refine zJ 4 rfl ?_ | refine zJ 5 rfl ?_ | refine zJ 6 rfl ?_ | refine zJ 7 rfl ?_ | refine SubH.rown ?_))) ?_; rintro m Δ LL ⟨i, out, p4, c4, ⟨hm, hr, hol⟩, rfl, rfl⟩; simp only [zA, zB]; refine zM (zK (zH rfl (yP rfl rfl rfl) rfl (zN (zI (zM ?_))))); refine zq rfl (fun hc14 => ?_) (fun hc14 => ?_)
  ·replace hc14 := zy2 hc14
   have hi : i < (parts 47 s).length := by omega
   have hpl := part_le hi
   refine zl ?_; refine zI (zM (qA ?_)); refine zM (zK (zH rfl (qO sl47 rfl rfl rfl (by omega)) rfl (zH rfl (zW sc9 rfl (zy4 1 rfl (Rd.elem (j := 0) (RdN.row) Tx.len (List.getElem?_eq_getElem hi) rfl))) rfl ?_))); refine zH rfl (zO rfl) rfl (zN (zI (qA ?_))); refine zM (zK (zH rfl (zL rfl) rfl (zH rfl (ro_eqlS (b := []) rfl rfl rfl) rfl (qi rfl rfl rfl (fun hg24 => ?_) (fun hg24 => ?_)))))
   ·replace hg24 := zy2 hg24
    refine zZ rfl rfl (zZ rfl rfl (zH rfl (zr rfl rfl) rfl (zH rfl (zO rfl) rfl (zN (zI ?_))))); refine qG rfl ?_; refine zl ?_; refine zQ ?_; refine zQ ?_; refine zI (zK (zH rfl (ql rfl rfl (qo (by omega))) rfl (zH rfl (zL rfl) rfl (zN (zI ?_))))); refine back (m - 1) (by omega) (qn ⟨i + 1, out, p4, c4, ⟨by omega, by rw [run_nx hi hr]; first | exact pStep_dot (.inl hg24) | exact pStep_dot (.inr hc21), by omega⟩, rfl, rfl⟩ ?_ ?_ ?_)
    ·exact (by repeat (first | exact zf _ | refine zS rfl ?_))
    ·exact (by repeat (first | exact zf _ | refine zS rfl ?_))
    ·exact zj _
   ·replace hg24 := zy3 hg24
    refine zH rfl (zL rfl) rfl (zH rfl (ro_eqlS (b := [46]) rfl rfl rfl) rfl (zH rfl (zr rfl rfl) rfl (zH rfl (zO rfl) rfl (zN (zI ?_))))); refine zq rfl (fun hc21 => ?_) (fun hc21 => ?_)
    ·replace hc21 := zy2 hc21
     refine zl ?_; refine zQ ?_; refine zQ ?_; refine zI (zK (zH rfl (ql rfl rfl (qo (by omega))) rfl (zH rfl (zL rfl) rfl (zN (zI ?_))))); refine back (m - 1) (by omega) (qn ⟨i + 1, out, p4, c4, ⟨by omega, by rw [run_nx hi hr]; first | exact pStep_dot (.inl hg24) | exact pStep_dot (.inr hc21), by omega⟩, rfl, rfl⟩ ?_ ?_ ?_)
     ·exact (by repeat (first | exact zf _ | refine zS rfl ?_))
     ·exact (by repeat (first | exact zf _ | refine zS rfl ?_))
     ·exact zj _
    ·replace hc21 := zy3 hc21
     refine zM (zK (zH rfl (zL rfl) rfl (zH rfl (ro_eqlS (b := [46, 46]) rfl rfl rfl) rfl (zH rfl (zO rfl) rfl (zN ?_))))); refine zI (zq rfl (fun hc28 => ?_) (fun hc28 => ?_))
     ·replace hc28 := zy2 hc28
      refine zK (zH rfl (zL rfl) rfl (zH rfl (zL rfl) rfl (zH rfl (zw Tryz.underlying47 rfl) rfl (zH rfl (yi rfl rfl (qU (by omega) (by omega))) rfl ?_)))); refine zH rfl (ro_max rfl rfl (show (if (0 : Int) > ((out.length : Int) - 1) then (0 : Int) else ((out.length : Int) - 1)) = ((out.length - 1 : Nat) : Int) by split <;> omega)) rfl (zT rfl (eff_trunc 0 sl47 rfl rfl (yZ rfl rfl) (by omega)) rfl ?_); rintro _ _ ⟨rfl, rfl⟩; simp only [zE, zF]; rw [trunc_tx, len_last]; refine zH rfl (zO rfl) rfl (zN (zQ ?_)); refine zQ ?_; refine zI (zK (zH rfl (ql rfl rfl (qo (by omega))) rfl (zH rfl (zL rfl) rfl (zN (zI ?_))))); refine back (m - 1) (by omega) (qn ⟨i + 1, out.dropLast, p4, c4, ⟨by omega, by rw [run_nx hi hr, hc28]; exact pStep_up out, by simp; omega⟩, rfl, rfl⟩ ?_ ?_ ?_)
      ·exact (by repeat (first | exact zf _ | refine zS rfl ?_))
      ·exact (by repeat (first | exact zf _ | refine zS rfl ?_))
      ·exact zj _
     ·replace hc28 := zy3 hc28
      refine zM (zK (zH rfl (zL rfl) rfl (zT rfl (zb Tryz.call74 rfl rfl (by repeat (first | exact zR _ | apply zG 0 rfl | apply zG 1 rfl | apply zG 2 rfl | apply zG 3 rfl | apply zG 4 rfl | apply zG 5 rfl | apply zG 6 rfl | apply zG 7 rfl)) (ptRight_spec _ (by first | omega | (have := part_le hi; omega)))) rfl ?_))); rintro _ H' ⟨_, ⟨rfl, rfl⟩, hH⟩; simp only [zy7] at hH; subst hH; refine zH rfl (qy rfl rfl) rfl (zH rfl (zO rfl) rfl (zN (zI (zq rfl (fun hc37 => ?_) (fun hc37 => ?_)))))
      ·simp only [Bool.and_eq_true, decide_eq_true_eq, Bool.not_eq_true', decide_eq_false_iff_not, bne_iff_ne, ne_eq] at hc37; refine zM (zK (zH rfl (zO rfl) rfl (zH rfl (zO rfl) rfl (zN (zI ?_))))); refine zi ?_; refine zn ?_; refine zn ?_; refine zh ?_; refine zh ?_; refine zn ?_; refine zh ?_; refine' zX (res2 rfl rfl rfl) ?_ ?_
       rotate_left 1
       exact ⟨_, ⟨none, 0, by rw [pSplit_none (by omega) (run_bad hi hr (pStep_bad out (by rintro (h | h); exact hg24 h; exact hc21 h) hc28 (by simpa using hc37)))]; first | done | exact rfl, by rw [pSplit_none (by omega) (run_bad hi hr (pStep_bad out (by rintro (h | h); exact hg24 h; exact hc21 h) hc28 (by simpa using hc37)))]; first | done | exact rfl⟩, rfl⟩
       exact (SubH.rown (zJ 2 rfl (zY _)))
      ·simp only [Bool.and_eq_false_iff, decide_eq_false_iff_not, Bool.not_eq_false', decide_eq_true_eq] at hc37; refine zK (zH rfl (zL rfl) rfl (zH rfl (zL rfl) rfl (zT rfl (eff_lit sl47 rfl (sbld (cs := [_]) [(.string ByteArray.empty)] sl47 (by decide) (by kernel_rfl) rfl) rfl (by decide)) rfl ?_))); rintro _ _ ⟨b19, rfl, rfl⟩; refine zT rfl (eff_appF (f := Tx.cs) (l2 := [(parts 47 s)[i]]) 1 sl47 (.inl ⟨9, Tryz.underlying47⟩) rfl rfl rfl (Src.flatv Tx.len Tx.one (zy5 0 rfl Vw.row)) (by simp only [List.length_cons, List.length_nil]; omega) (by simp only [List.length_cons, List.length_nil]; omega)) rfl ?_; rintro _ _ ⟨p20, c20, rfl, hn20, rfl⟩; simp only [zE, zF]; refine zH rfl (zO rfl) rfl (zN (zQ ?_)); refine zQ ?_; refine zI (zK (zH rfl (ql rfl rfl (qo (by omega))) rfl (zH rfl (zL rfl) rfl (zN (zI ?_))))); refine back (m - 1) (by omega) (qn ⟨i + 1, out ++ [(parts 47 s)[i]], p20, c20, ⟨by omega, by rw [run_nx hi hr]; exact pStep_ok out (by simpa using hc37), by simp; omega⟩, rfl, rfl⟩ ?_ ?_ ?_)
       ·exact (by repeat (first | exact zf _ | refine zS rfl ?_))
       ·exact (by repeat (first | exact zf _ | refine zS rfl ?_))
       ·exact (zJ 1 rfl (zJ 1 rfl (zJ 1 rfl (zY _))))
  ·replace hc14 := zy3 hc14
   rw [List.take_of_length_le (by omega)] at hr; refine yJ ?_; refine qV ?_; refine qV ?_; refine qe ?_; refine zI (zM (zK (zH rfl (zL rfl) rfl (zH rfl (zO rfl) rfl (zH rfl (zO rfl) rfl ?_))))); refine zN (zI (zi ?_)); refine' zX (res2 rfl rfl rfl) ?_ ?_
   rotate_left 1
   exact ⟨_, ⟨p4, c4, by rw [pSplit_some (by omega) hr], by rw [pSplit_some (by omega) hr]⟩, rfl⟩
   exact (zJ 0 rfl (zJ 1 rfl (zY _)))
def jns (l : List (List UInt8)) : List UInt8 := l.flatMap fun x => 47 :: x
theorem jns_le (l : List (List UInt8)) (hx : ∀ x ∈ l, x.length ≤ 300) : ∀ i, (jns (l.take i)).length ≤ 301 * l.length := fun i => by
 have h : ∀ m : List (List UInt8), (∀ x ∈ m, x.length ≤ 300) → (jns m).length ≤ 301 * m.length := fun m => by
  induction m with
  | nil => intro _; simp [jns]
  | cons x r ih =>
   intro h; have h1 := h x (by simp)
   have h2 := ih fun y hy => h y (List.mem_cons_of_mem _ hy)
   have e : jns (x :: r) = 47 :: x ++ jns r := by simp [jns]
   rw [e]; simp only [List.length_append, List.length_cons]; omega
 have h1 := h (l.take i) fun x hx' => hx x (List.mem_of_mem_take hx')
 rw [List.length_take] at h1; omega
theorem jc_jns : ∀ l : List (List UInt8), l ≠ [] → 47 :: joinc 47 l = jns l
 | [], h => absurd rfl h
 | [x], _ => by simp [joinc, jns]
 | x :: y :: r, _ => by
  have h := jc_jns (y :: r) (by simp)
  rw [joinc_cons 47 x (by simp), h]; simp [jns]
theorem jc_le (l : List (List UInt8)) (hx : ∀ x ∈ l, x.length ≤ 300) : (joinc 47 l).length ≤ 301 * l.length := by
 by_cases h : l = []
 ·subst h; simp [joinc]
 ·have h1 := jns_le l hx l.length
  rw [List.take_length, ← jc_jns l h, List.length_cons] at h1; omega
theorem pJoin_nil {l : List (List UInt8)} (h : l.length = 0) : pJoin l = [47] := by rw [List.eq_nil_of_length_eq_zero h]; rfl
theorem pJoin_cons {l : List (List UInt8)} (h : l.length ≠ 0) : pJoin l = [47] ++ joinc 47 l := by unfold pJoin; rw [if_neg (fun e => h (by rw [e]; rfl))]; rfl
theorem ptJoin_spec (V : HProp) (q : Option Addr) (cq : Nat) (l : List (List UInt8)) (hV : Vw V (.slice q l.length cq) l.length (txs l)) (hcq : l.length ≤ cq) (hl : l.length ≤ 100000000) (hx : ∀ x ∈ l, x.length ≤ 300) : Tri Tryz.prog 38 [.slice q l.length cq] [V] (fun v H' => ∃ K, (v = .string (str (pJoin l)) ∧ K = []) ∧ H' = K ++ [V]) := by
 refine zt Tryz.func38 rfl Tryz.ntmps38 (by simp) ?_; refine zM (zK (zH rfl (zO rfl) rfl (zN (zI (zM ?_))))); refine zM (zK (zH rfl (zL rfl) rfl (zH rfl (zw Tryz.underlying47 rfl) rfl (zH rfl (qQ rfl rfl rfl) rfl (zN ?_))))); refine zI (zq rfl (fun hc5 => ?_) (fun hc5 => ?_))
 ·replace hc5 := zy2 hc5
  refine zM (zK (zH rfl (zO rfl) rfl (zN (zI (zi ?_))))); refine zh ?_; refine' zX (qk rfl rfl) ?_ ?_
  rotate_left 1
  exact ⟨_, ⟨by rw [pJoin_nil (by omega)]; first | done | exact rfl, rfl⟩, rfl⟩
  exact zj _
 ·replace hc5 := zy3 hc5
  refine zl ?_; refine zI (zM (zK (zH rfl (zL rfl) rfl (zT rfl (zb Tryz.call82 rfl rfl (by repeat (first | exact zR _ | apply zG 0 rfl | apply zG 1 rfl | apply zG 2 rfl | apply zG 3 rfl | apply zG 4 rfl | apply zG 5 rfl | apply zG 6 rfl | apply zG 7 rfl)) (join1_spec V q cq l 47 hV hcq (by omega) (by have := jc_le l hx; omega))) rfl ?_)))); rintro _ H' ⟨_, ⟨rfl, rfl⟩, hH⟩; simp only [zy7] at hH; subst hH; refine zH rfl (ro_addS rfl rfl (by have := jc_le l hx; simp only [List.length_cons, List.length_nil]; omega)) rfl (zH rfl (zO rfl) rfl (zN (zI (zi ?_)))); refine' zX (qk rfl rfl) ?_ ?_
  rotate_left 1
  exact ⟨_, ⟨by rw [pJoin_cons (by omega)]; first | done | exact rfl, rfl⟩, rfl⟩
  exact zj _
structure Qr.Ok (q : Qr) : Prop where
 off : q.off < 18446744073709551616
 len : q.len < 4294967296
 fl : q.flags < 4294967296
 a : q.a.Ok
 path : q.path.length ≤ 9223372036854775807
 dest : q.dest.length ≤ 9223372036854775807
 data : q.data.length ≤ 1000000
/-- what a reply says -/
structure Rk where
 kind : Int
 status : Int
 handle : List UInt8
 data : List UInt8
 names : List Nm
 a : At
deriving DecidableEq
def Rep.core (x : Rep) : Rk := ⟨x.kind, x.status, x.handle, x.data, x.names, x.a⟩
def Rk.rep (k : Rk) (dp : Option Addr) (dc : Nat) (np : Option Addr) (nc : Nat) : Rep := ⟨k.kind, k.status, k.handle, dp, dc, k.data, np, nc, k.names, k.a⟩
def Rk.stat (k : Int) : Rk := ⟨1, k, [], [], [], At.zero⟩
def ofK (e : Int) : Rk := if e = 0 then Rk.stat 0 else if e = 22 then Rk.stat 2 else Rk.stat 4
theorem ye (e : Int) : ofE e = (ofK e).rep none 0 none 0 := by
 unfold ofE ofK
 split
 ·rfl
 ·split <;> rfl
/-- V shows a machine: its handles, its tree -/
structure Mq (V : HProp) (mb tb : Nat) (t : Tr) (hs : List Hd) : Prop where
 hv : Hv V mb hs
 pt : Rd V mb (0 + 0) (.pointer (some ⟨tb, 0, none⟩))
 tv : Tv V t
 tb : t.tb = tb
abbrev oMa (mb tb : Nat) (hs : List Hd) : HProp := own mb (.cells (.pointer (some ⟨tb, 0, none⟩) :: flat Hd.cs hs).toArray 71 (0, 0))
theorem Mq.of {H : List HProp} {mb tb : Nat} {t : Tr} {hs : List Hd} (i j : Nat) (hi : H[i]? = some (oMa mb tb hs)) (hj : H[j]? = some (tree t)) (h : t.tb = tb) : Mq (St H) mb tb t hs :=
 ⟨xX i hi yL, zy4 i hi (Rd.own rfl), Tv.pick j hj (qh t), h⟩
theorem Mq.pick {H : List HProp} {A : HProp} {mb tb : Nat} {t : Tr} {hs : List Hd} (i : Nat) (hi : H[i]? = some A) (h : Mq A mb tb t hs) : Mq (St H) mb tb t hs := ⟨xX i hi h.hv, zy4 i hi h.pt, Tv.pick i hi h.tv, h.tb⟩
theorem yo {V : HProp} {mb s i : Nat} {hs : List Hd} (h : Hv V mb hs) (hl : hs.length = 256) (h16 : s < 16) (hi : i < 16) (k : Nat) (v : Value) (hv : (hdA hs s i).cs[k]? = some v) : Rd V mb (0 + 1 + s * 80 + i * 5 + k) v := hd_rd h hl h16 hi k v hv
/-- a file's handle -/
def fileI (t : Tr) (hs : List Hd) (s : Nat) (nm : List UInt8) : Option Nat := match findH hs s nm with
 | some i => if (hdA hs s i).dir = false ∧ (attO (byId t.ns (hdA hs s i).id)).2 = 0 then some i else none
 | none => none
theorem fileI_lt {t : Tr} {hs : List Hd} {s i : Nat} {nm : List UInt8} (h : fileI t hs s nm = some i) : i < 16 ∧ findH hs s nm = some i ∧ (hdA hs s i).dir = false ∧ (attO (byId t.ns (hdA hs s i).id)).2 = 0 := by
 unfold fileI at h
 cases hf : findH hs s nm with
 | none => rw [hf] at h; cases h
 | some j =>
  rw [hf] at h; simp only at h
  split at h
  ·rename_i hc
   injection h with h; subst h
   exact ⟨find_lt hf, rfl, hc.1, hc.2⟩
  ·cases h
def readK (t : Tr) (hs : List Hd) (s : Nat) (q : Qr) : Rk := match fileI t hs s q.handle with
 | none => Rk.stat 4
 | some i => if (hdA hs s i).flags &&& 1 = 0 then Rk.stat 3 else if (readO (byId t.ns (hdA hs s i).id) q.off q.len).2 ≠ 0 ∨ q.len = 0 then Rk.stat 1 else ⟨3, 0, [], (readO (byId t.ns (hdA hs s i).id) q.off q.len).1, [], At.zero⟩
def toldK (t : Tr) (id e : Int) : Rk := if e ≠ 0 then ofK e else if (attO (byId t.ns id)).2 ≠ 0 then Rk.stat 4 else ⟨5, 0, [], [], [], (attO (byId t.ns id)).1⟩
def look16 (t : Tr) (r : Nd) (p : List UInt8) : Int × Int := if (pSplit p).2 ≠ 0 then (0, (pSplit p).2) else lookO (fnd t.ns r (pSplit p).1)
def sameR (t : Tr) (r : Nd) (hs : List Hd) (t' : Tr) (r' : Nd) (hs' : List Hd) : Prop := t' = t ∧ r' = r ∧ hs' = hs
def writeR (t : Tr) (hs : List Hd) (s : Nat) (q : Qr) (t' : Tr) (k : Rk) : Prop := match fileI t hs s q.handle with
 | none => t' = t ∧ k = Rk.stat 4
 | some i => if (hdA hs s i).flags &&& 2 = 0 then t' = t ∧ k = Rk.stat 3 else if 32768 < q.data.length then t' = t ∧ k = Rk.stat 4 else
  ∃ e, WriteR t (hdA hs s i).id (if (hdA hs s i).flags &&& 4 ≠ 0 then (attO (byId t.ns (hdA hs s i).id)).1.s else q.off) q.data t' e ∧ k = ofK e
def setR (t : Tr) (hs : List Hd) (s : Nat) (q : Qr) (t' : Tr) (k : Rk) : Prop := match findH hs s q.handle with
 | none => t' = t ∧ k = Rk.stat 4
 | some i => if (attO (byId t.ns (hdA hs s i).id)).2 ≠ 0 then t' = t ∧ k = Rk.stat 4 else if q.a.f &&& 1 ≠ 0 ∧ (hdA hs s i).dir = false ∧ (hdA hs s i).flags &&& 2 = 0 then t' = t ∧ k = Rk.stat 3 else
  ∃ e, SetR t (hdA hs s i).id q.a t' e ∧ k = ofK e
def hdlK (n : Nat) : Rk := ⟨2, 0, hname n, [], [], At.zero⟩
def opendirR (t : Tr) (r : Nd) (hs : List Hd) (s : Nat) (q : Qr) (hs' : List Hd) (k : Rk) : Prop := match freeH hs s with
 | none => hs' = hs ∧ k = Rk.stat 4
 | some n => if (look16 t r q.path).2 ≠ 0 then hs' = hs ∧ k = ofK (look16 t r q.path).2 else if (listO t.ns (byId t.ns (look16 t r q.path).1)).2 ≠ 0 then hs' = hs ∧ k = Rk.stat 4 else
  ∃ np nc, (listO t.ns (byId t.ns (look16 t r q.path).1)).1.length ≤ nc ∧ hs' = hs.set (s * 16 + n) ⟨true, (look16 t r q.path).1, true, 0, np, nc, (listO t.ns (byId t.ns (look16 t r q.path).1)).1⟩ ∧ k = hdlK n
def readdirR (hs : List Hd) (s : Nat) (q : Qr) (hs' : List Hd) (k : Rk) : Prop := match findH hs s q.handle with
 | none => hs' = hs ∧ k = Rk.stat 4
 | some i => if (hdA hs s i).dir = false then hs' = hs ∧ k = Rk.stat 4 else if (hdA hs s i).names = [] then hs' = hs ∧ k = Rk.stat 1 else
  ∃ np nc, ((hdA hs s i).names.drop 8).length ≤ nc ∧ hs' = hs.set (s * 16 + i) { hdA hs s i with np := np, nc := nc, names := (hdA hs s i).names.drop 8 } ∧ k = ⟨4, 0, [], [], (hdA hs s i).names.take 8, At.zero⟩
def closeR (hs : List Hd) (s : Nat) (q : Qr) (hs' : List Hd) (k : Rk) : Prop := match findH hs s q.handle with
 | none => hs' = hs ∧ k = Rk.stat 4
 | some i => hs' = hs.set (s * 16 + i) Hd.zero ∧ k = Rk.stat 0
def bareA (a : At) : At := { a with f := a.f &&& 4294967294, s := 0 }
def openT (t2 : Tr) (hs : List Hd) (s n : Nat) (q : Qr) (id : Int) (t' : Tr) (hs' : List Hd) (k : Rk) : Prop :=
 (if q.flags &&& 18 = 18 then ∃ e, SetR t2 id ⟨1, 0, 0, 0, 0, 0, 0⟩ t' e else t' = t2) ∧ hs' = hs.set (s * 16 + n) ⟨true, id, false, q.flags &&& 7, none, 0, []⟩ ∧ k = hdlK n
def openR (t : Tr) (r : Nd) (hs : List Hd) (s : Nat) (q : Qr) (t' : Tr) (hs' : List Hd) (k : Rk) : Prop := match freeH hs s with
 | none => t' = t ∧ hs' = hs ∧ k = Rk.stat 4
 | some n => if q.flags &&& 3 = 0 ∨ q.a.right = false ∨ (pSplit q.path).2 ≠ 0 then t' = t ∧ hs' = hs ∧ k = Rk.stat 4 else
  if (lookO (fnd t.ns r (pSplit q.path).1)).2 = 0 then (if dirO (byId t.ns (lookO (fnd t.ns r (pSplit q.path).1)).1) = true ∨ q.flags &&& 40 = 40 then t' = t ∧ hs' = hs ∧ k = Rk.stat 4 else openT t hs s n q (lookO (fnd t.ns r (pSplit q.path).1)).1 t' hs' k)
  else if q.flags &&& 8 = 0 then t' = t ∧ hs' = hs ∧ k = Rk.stat 2 else
   ∃ t1 r1 i e, MakeR t r (pSplit q.path).1 false t1 r1 i e ∧ if e ≠ 0 then t' = t1 ∧ hs' = hs ∧ k = ofK e else ∃ t2 e2, SetR t1 i (bareA q.a) t2 e2 ∧ openT t2 hs s n q i t' hs' k
/-- what asks a handle -/
def byR (t : Tr) (r : Nd) (hs : List Hd) (s : Nat) (q : Qr) (t' : Tr) (hs' : List Hd) (k : Rk) : Prop :=
 if q.kind = 3 then openR t r hs s q t' hs' k else if q.kind = 4 then t' = t ∧ closeR hs s q hs' k else if q.kind = 5 then t' = t ∧ hs' = hs ∧ k = readK t hs s q else
 if q.kind = 6 then hs' = hs ∧ writeR t hs s q t' k else if q.kind = 8 then t' = t ∧ hs' = hs ∧ k = (match findH hs s q.handle with | none => Rk.stat 4 | some i => toldK t (hdA hs s i).id 0) else
 if q.kind = 10 then hs' = hs ∧ setR t hs s q t' k else if q.kind = 11 then t' = t ∧ opendirR t r hs s q hs' k else t' = t ∧ readdirR hs s q hs' k
def byH (k : Int) : Prop := k = 3 ∨ k = 4 ∨ k = 5 ∨ k = 6 ∨ k = 8 ∨ k = 10 ∨ k = 11 ∨ k = 12
instance (k : Int) : Decidable (byH k) := by unfold byH; infer_instance
/-- what asks a path -/
def pathR (t : Tr) (r : Nd) (q : Qr) (p : List (List UInt8)) (t' : Tr) (k : Rk) : Prop :=
 if q.kind = 13 then ∃ r' e, RemR t r p false t' r' e ∧ k = ofK e else if q.kind = 15 then ∃ r' e, RemR t r p true t' r' e ∧ k = ofK e else
 if q.kind = 14 then ∃ t1 r1 i e, MakeR t r p true t1 r1 i e ∧ k = ofK e ∧ (if e = 0 then ∃ e2, SetR t1 i (bareA q.a) t' e2 else t' = t1) else
 if q.kind = 18 then (if (pSplit q.dest).2 ≠ 0 then t' = t ∧ k = ofK (pSplit q.dest).2 else ∃ r' e, RenR t r p (pSplit q.dest).1 t' r' e ∧ k = ofK e) else
 if q.kind = 16 then t' = t ∧ k = ⟨4, 0, [], [], [⟨pJoin p, At.zero⟩], At.zero⟩ else
 if q.kind = 9 then (if (lookO (fnd t.ns r p)).2 = 0 then ∃ e, SetR t (lookO (fnd t.ns r p)).1 q.a t' e ∧ k = ofK e else t' = t ∧ k = ofK (lookO (fnd t.ns r p)).2) else
 t' = t ∧ k = toldK t (lookO (fnd t.ns r p)).1 (lookO (fnd t.ns r p)).2
/-- a machine's answer -/
def doR (t : Tr) (r : Nd) (hs : List Hd) (s : Int) (q : Qr) (t' : Tr) (hs' : List Hd) (k : Rk) : Prop :=
 if s < 0 ∨ 16 ≤ s then t' = t ∧ hs' = hs ∧ k = Rk.stat 4 else if byH q.kind then byR t r hs s.toNat q t' hs' k else
 if q.kind < 7 ∨ 18 < q.kind then t' = t ∧ hs' = hs ∧ k = Rk.stat 8 else if q.kind = 14 ∧ q.a.right = false then t' = t ∧ hs' = hs ∧ k = Rk.stat 4 else
 if (pSplit q.path).2 ≠ 0 then t' = t ∧ hs' = hs ∧ k = ofK (pSplit q.path).2 else hs' = hs ∧ pathR t r q (pSplit q.path).1 t' k
theorem andn32 {a : Nat} (ha : a < 4294967296) : bits .andNot .u32 (a : Int) 1 = ((a &&& 4294967294 : Nat) : Int) := by
 show IntKind.u32.wrap ((BitVec.ofInt 32 (a : Int) &&& ~~~ BitVec.ofInt 32 (1 : Int)).toNat : Int) = _
 have e1 : BitVec.ofInt 32 (a : Int) = BitVec.ofNat 32 a := by simp
 have e2 : ~~~ BitVec.ofInt 32 (1 : Int) = BitVec.ofNat 32 4294967294 := by decide
 rw [e1, e2, BitVec.toNat_and, BitVec.toNat_ofNat, BitVec.toNat_ofNat, Nat.mod_eq_of_lt ha, Nat.mod_eq_of_lt (by decide)]; have h1 : a &&& 4294967294 ≤ a := Nat.and_le_left
 exact xC (by omega) (by omega)
theorem fbare_spec (a : At) (ha : a.Ok) : Tri Tryz.prog 36 [a.v] [] (fun v H' => v = (bareA a).v ∧ H' = []) := by
 refine zt Tryz.func36 rfl Tryz.ntmps36 (by simp) ?_; refine zM (zK (zT rfl (qj rfl) rfl ?_)); rintro _ _ ⟨b1, rfl, rfl⟩; refine zT rfl (qL z30) rfl ?_; rintro _ _ ⟨b2, rfl, rfl⟩; refine zN (zI (zM (zK (zH rfl (zP yg rfl) rfl (zH rfl (zW yB rfl (zy4 1 rfl (Rd.own rfl))) rfl ?_))))); refine zH rfl (ro_andNot rfl rfl (andn32 ha.f)) rfl (zH rfl (zP yg rfl) rfl (zo rfl (qP 1 yB rfl rfl rfl rfl (zy1 rfl) (zg _)) rfl ?_)); rintro _ _ rfl; refine zN (zI (zM (zK (zH rfl (zP fa30_1 rfl) rfl (zo rfl (qP 1 sc28 rfl rfl rfl rfl (zy1 rfl) (zg _)) rfl ?_))))); rintro _ _ rfl; refine zN (zI (zM (zK (zH rfl (qX ag30 rfl (zy6 1 rfl zx) rfl) rfl (zo rfl (zm 0 ag30 rfl rfl rfl rfl rfl (zy1 rfl) (zg _)) rfl ?_))))); rintro _ _ rfl; refine zN (zI (zi ?_)); refine' zX (qg rfl (qB ag30 rfl (zy6 0 rfl zx) rfl)) ?_ ?_
 rotate_left 1
 exact ⟨rfl, rfl⟩
 exact (zY _)
theorem pRun_len : ∀ (l : List Tt) (o o' : List Tt), pRun (some o) l = some o' → o'.length ≤ o.length + l.length
 | [], o, o', h => by injection h with h; subst h; simp
 | y :: r, o, o', h => by
  rw [pRun_cons, pStep_some] at h; simp only [List.length_cons]
  split at h
  ·have := pRun_len r _ _ h; omega
  ·split at h
   ·have := pRun_len r _ _ h
    rw [List.length_dropLast] at this; omega
   ·split at h
    ·have := pRun_len r _ _ h
     rw [List.length_append] at this; simp only [List.length_cons, List.length_nil] at this; omega
    ·rw [pRun_none] at h; cases h
theorem pSplit_few (s : List UInt8) : (pSplit s).1.length ≤ 100000 := by
 unfold pSplit
 split
 ·simp
 ·have hp := parts_length_le 47 s
  cases e : pRun (some []) (parts 47 s) with
  | none => simp
  | some l =>
   have := pRun_len _ _ _ e
   simp only [List.length_nil] at this
   show l.length ≤ _; omega
theorem pSplit_right (s : List UInt8) : ∀ x ∈ (pSplit s).1, ptOk x = true := by
 unfold pSplit
 split
 ·intro x hx; cases hx
 ·cases e : pRun (some []) (parts 47 s) with
  | none => intro x hx; cases hx
  | some l => exact pRun_all _ _ _ (fun x hx => by cases hx) e
theorem ptOk_30 {x : List UInt8} (h : ptOk x = true) : x.length ≤ 30 := by
 unfold ptOk at h; simp only [Bool.and_eq_true, decide_eq_true_eq] at h; exact h.1.1.2
theorem pSplit_last (s : List UInt8) : (lastN (pSplit s).1).length ≤ 30 := by
 by_cases h : (pSplit s).1 = []
 ·rw [h]; decide
 ·have h1 : lastN (pSplit s).1 ∈ (pSplit s).1 := List.mem_of_getElem? (lastN_at h)
  exact ptOk_30 (pSplit_right s _ h1)
theorem xb (V : HProp) (hM : Ml V) (s : List UInt8) (hs : s.length ≤ 9223372036854775807) : Tri Tryz.prog 31 [.string (str s)] [V] (fun v H' => ∃ K, (∃ p c, v = .tuple #[.slice p (pSplit s).1.length c, .int .i64 (pSplit s).2] ∧ K = [row 9 1 (.slice p (pSplit s).1.length c) (pSplit s).1.length (txs (pSplit s).1)]) ∧ H' = K ++ [V]) := by
 by_cases hl : s.length ≤ 1000000
 ·exact ptSplit_spec V hM s hl
 ·skip; refine zt Tryz.func31 rfl Tryz.ntmps31 (by simp) ?_; refine zM (zK (zH rfl (zO rfl) rfl (zH rfl (zO rfl) rfl (zN (zI ?_))))); refine zM (zM (zK (zH rfl (zL rfl) rfl (zH rfl (ro_lenS (t' := 0) Tryz.underlying9 rfl) rfl (zH rfl (yd rfl rfl (decide_eq_true (by omega))) rfl ?_))))); refine zN (zI (qG rfl ?_)); refine zM (qD (fun w F sw => qv 9 1 w F sw) ?_); refine zK (zH rfl (zO rfl) rfl (zH rfl (zO rfl) rfl (zN (zI (zi ?_))))); refine zh ?_; refine' zX (res2 rfl rfl rfl) ?_ ?_
  rotate_left 1
  exact ⟨_, ⟨none, 0, by rw [pSplit_long (by omega)]; first | done | exact rfl, by rw [pSplit_long (by omega)]; first | done | exact rfl⟩, rfl⟩
  exact zj _
theorem flook_spec {V : HProp} {mb tb : Nat} {t : Tr} {hs : List Hd} (hM : Mq V mb tb t hs) {r : Nd} (hW : Wf t r) (hP : Ml V) (nm : List UInt8) (hn : nm.length ≤ 9223372036854775807) : Tri Tryz.prog 128 [.pointer (some ⟨mb, 0, none⟩), .string (str nm)] [V] (fun v H' => ∃ K, (v = .tuple #[.int .i64 (look16 t r nm).1, .int .i64 (look16 t r nm).2] ∧ K = []) ∧ H' = K ++ [V]) := by
 refine zt Tryz.func128 rfl Tryz.ntmps128 (by simp) ?_; refine zM (zK (zH rfl (zO rfl) rfl (zH rfl (zO rfl) rfl (zN (zI ?_))))); refine zM (zK (zH rfl (zL rfl) rfl (zT rfl (zb Tryz.call31 rfl rfl (by repeat (first | exact zR _ | apply zG 0 rfl | apply zG 1 rfl | apply zG 2 rfl | apply zG 3 rfl | apply zG 4 rfl | apply zG 5 rfl | apply zG 6 rfl | apply zG 7 rfl)) (xb V hP nm hn)) rfl ?_))); rintro _ H' ⟨_, ⟨_, ⟨p10, c10, rfl, rfl⟩, rfl⟩, hH⟩; simp only [zy7] at hH; subst hH; obtain ⟨pp, hpp⟩ : ∃ z, z = pSplit nm := ⟨_, rfl⟩
 rw [← hpp]; have hpl : pp.1.length ≤ 100000 := by rw [hpp]; exact pSplit_few _
 refine zH rfl (zL rfl) rfl (zH rfl (zu rfl rfl) rfl (zH rfl (zu rfl rfl) rfl (zH rfl (zO rfl) rfl (zH rfl (zO rfl) rfl (zN ?_))))); refine zI (zM (zM (zK (zH rfl (zL rfl) rfl (zH rfl (q9 rfl rfl rfl) rfl ?_))))); refine zN (zI (zq rfl (fun hc14 => ?_) (fun hc14 => ?_)))
 ·replace hc14 := zy2 hc14
  refine zM (zK (zH rfl (zL rfl) rfl (zH rfl (zO rfl) rfl (zH rfl (zO rfl) rfl (zN ?_))))); refine zI (zi ?_); refine zh ?_; refine' zX (res2 rfl rfl rfl) ?_ ?_
  rotate_left 1
  exact ⟨[], ⟨(by unfold look16; rw [← hpp, if_pos (by omega)]), rfl⟩, rfl⟩
  exact (zJ 1 rfl (zY _))
 ·replace hc14 := zy3 hc14
  refine zl ?_; refine zI (zM (zK (zH rfl (zL rfl) rfl (zH rfl (zU rfl) rfl (zH rfl (zP yT rfl) rfl ?_))))); refine zH rfl (zW sc51 rfl (zy4 1 rfl (hM.pt))) rfl (zH rfl (zL rfl) rfl (zT rfl (zy (Pre := []) Tryz.call39 rfl rfl (zR _) (qf hM.tb (look_spec (Tv.pick 1 rfl hM.tv) hW _ _ pp.1 (zy5 0 rfl Vw.row) hpl))) rfl ?_)); rintro _ H' ⟨_, ⟨rfl, rfl⟩, hH⟩; simp only [zy7] at hH; subst hH; refine zH rfl (zu rfl rfl) rfl (zH rfl (zu rfl rfl) rfl (zH rfl (zO rfl) rfl (zH rfl (zO rfl) rfl (zN (zI ?_))))); refine zi ?_; refine' zX (res2 rfl rfl rfl) ?_ ?_
  rotate_left 1
  exact ⟨[], ⟨(by unfold look16; rw [← hpp, if_neg (by omega)]), rfl⟩, rfl⟩
  exact (zJ 1 rfl (zY _))
theorem ffile_spec {V : HProp} {mb tb : Nat} {t : Tr} {hs : List Hd} (hM : Mq V mb tb t hs) (hl : hs.length = 256) (hdl : ∀ x ∈ t.ns, x.data.length ≤ 100000000) (s : Nat) (hs16 : s < 16) (nm : List UInt8) : Tri Tryz.prog 125 [.pointer (some ⟨mb, 0, none⟩), .int .i64 (s : Int), .string (str nm)] [V] (fun v H' => ∃ K, (v = findV mb s (fileI t hs s nm) ∧ K = []) ∧ H' = K ++ [V]) := by
 cases hf : findH hs s nm with
 | none =>
  refine zt Tryz.func125 rfl Tryz.ntmps125 (by simp) ?_; refine zM (zK (zH rfl (zO rfl) rfl (zN (zI (zM ?_))))); refine zK (zH rfl (zL rfl) rfl (zH rfl (zL rfl) rfl (zH rfl (zL rfl) rfl (zT rfl (zb Tryz.call68 rfl rfl (by repeat (first | exact zR _ | apply zG 0 rfl | apply zG 1 rfl | apply zG 2 rfl | apply zG 3 rfl | apply zG 4 rfl | apply zG 5 rfl | apply zG 6 rfl | apply zG 7 rfl)) (xJ hM.hv hl s hs16 nm)) rfl ?_)))); rintro _ H' ⟨_, ⟨_, ⟨rfl, rfl⟩, rfl⟩, hH⟩; simp only [zy7] at hH; subst hH; rw [hf]; dsimp only [findV]; refine zH rfl (zO rfl) rfl (zN (zI (zM (zM (zK ?_))))); refine zH rfl (zL rfl) rfl (zH rfl (qI Tryz.underlying116 rfl rfl rfl) rfl (zH rfl (zL (v := .bool true) rfl) rfl (zZ rfl rfl (zZ rfl rfl (zZ rfl rfl ?_))))); refine zZ rfl rfl (zH rfl (zr rfl rfl) rfl (zN (zI (qG rfl ?_)))); refine zM (zK (zH rfl (zO rfl) rfl (zN (zI (zi ?_))))); refine zh ?_; refine' zX (qk rfl rfl) ?_ ?_
  rotate_left 1
  exact ⟨[], ⟨(by unfold fileI; rw [hf] <;> rfl), rfl⟩, rfl⟩
  exact zj _
 | some i =>
  have hi := find_lt hf
  refine zt Tryz.func125 rfl Tryz.ntmps125 (by simp) ?_; refine zM (zK (zH rfl (zO rfl) rfl (zN (zI (zM ?_))))); refine zK (zH rfl (zL rfl) rfl (zH rfl (zL rfl) rfl (zH rfl (zL rfl) rfl (zT rfl (zb Tryz.call68 rfl rfl (by repeat (first | exact zR _ | apply zG 0 rfl | apply zG 1 rfl | apply zG 2 rfl | apply zG 3 rfl | apply zG 4 rfl | apply zG 5 rfl | apply zG 6 rfl | apply zG 7 rfl)) (xJ hM.hv hl s hs16 nm)) rfl ?_)))); rintro _ H' ⟨_, ⟨_, ⟨rfl, rfl⟩, rfl⟩, hH⟩; simp only [zy7] at hH; subst hH; rw [hf]; dsimp only [findV]; refine zH rfl (zO rfl) rfl (zN (zI (zM (zM (zK ?_))))); refine zH rfl (zL rfl) rfl (zH rfl (qI Tryz.underlying116 rfl rfl rfl) rfl (zH rfl (zL (v := .bool false) rfl) rfl (zH rfl (zL rfl) rfl (zH rfl (zU rfl) rfl (zH rfl (zP fa67_2 rfl) rfl ?_))))); refine zH rfl (zW sc4 rfl (zy4 0 rfl ((yo hM.hv hl hs16 hi 2 _ rfl)))) rfl (zH rfl (zr rfl rfl) rfl (zN (zI (zq rfl (fun hc21 => ?_) (fun hc21 => ?_)))))
  ·skip; refine zM (zK (zH rfl (zO rfl) rfl (zN (zI (zi ?_))))); refine zh ?_; refine' zX (qk rfl rfl) ?_ ?_
   rotate_left 1
   exact ⟨[], ⟨(by unfold fileI; rw [hf]; simp only; rw [if_neg (fun h => by rw [h.1] at hc21; cases hc21)] <;> rfl), rfl⟩, rfl⟩
   exact zj _
  ·skip; refine zl ?_; refine zI (zM (zM (qZ 14 (by kernel_rfl) (zG 0 rfl (zR _)) ?_))); refine zRO (i := 0) (by kernel_rfl) rfl rfl (zL rfl) rfl (zRO (i := 1) (by kernel_rfl) rfl rfl (zU rfl) rfl (zRO (i := 2) (by kernel_rfl) rfl rfl (zP yT rfl) rfl (zRO (i := 3) (by kernel_rfl) rfl rfl (zW sc51 rfl (zy4 0 rfl (hM.pt))) rfl (zRO (i := 4) (by kernel_rfl) rfl rfl (zL rfl) rfl (zRO (i := 5) (by kernel_rfl) rfl rfl (zU rfl) rfl ?_))))); refine zRO (i := 6) (by kernel_rfl) rfl rfl (zP fa67_1 rfl) rfl (zRO (i := 7) (by kernel_rfl) rfl rfl (zW sc3 rfl (zy4 0 rfl ((yo hM.hv hl hs16 hi 1 _ rfl)))) rfl (any_two (i := 8) (j := 12) (by kernel_rfl) ?_ ?_))
   ·refine at_callL' rfl rfl (zy (Pre := []) Tryz.call83 rfl rfl (zR _) (qf hM.tb (xI (Tv.pick 0 rfl hM.tv) _ hdl))) rfl ?_; rintro _ _ ⟨rfl, rfl⟩; simp only [zA, zB]; refine zRO (i := 9) (by kernel_rfl) rfl rfl (zL rfl) rfl (zRO (i := 10) (by kernel_rfl) rfl rfl (zu rfl rfl) rfl (zRO (i := 11) (by kernel_rfl) rfl rfl (zu rfl rfl) rfl (qM (i := 12) (by kernel_rfl) rfl rfl (qL z30) rfl ?_))); rintro _ _ ⟨b8, rfl, rfl⟩; refine qq (i := 13) (by kernel_rfl) rfl rfl (zm 0 ag30 rfl rfl rfl rfl rfl (zy1 rfl) (zg _)) rfl ?_; rintro _ _ rfl; simp only [zE, zF]; refine qR (m' := 15) (L' := []) (by kernel_rfl) qx ?_; simp only [zA, zB, List.append_nil]; refine zRO (i := 14) (by kernel_rfl) rfl rfl (zO rfl) rfl (qT (by kernel_rfl) ?_); refine zI (zM (zK (zH rfl (zL rfl) rfl (zH rfl (q9 rfl rfl rfl) rfl (zN ?_))))); refine zI (zq rfl (fun hc35 => ?_) (fun hc35 => ?_))
    ·replace hc35 := zy2 hc35
     refine zM (zK (zH rfl (zO rfl) rfl (zN (zI (zi ?_))))); refine zh ?_; refine' zX (qk rfl rfl) ?_ ?_
     rotate_left 1
     exact ⟨[], ⟨(by unfold fileI; rw [hf]; simp only; rw [if_neg (fun h => by have := h.2; omega)] <;> rfl), rfl⟩, rfl⟩
     exact (zJ 0 rfl (zY _))
    ·replace hc35 := zy3 hc35
     refine zl ?_; refine zI (zM (zK (zH rfl (zL rfl) rfl (zH rfl (zO rfl) rfl (zN ?_))))); refine zI (zi ?_); refine' zX (qk rfl rfl) ?_ ?_
     rotate_left 1
     exact ⟨[], ⟨(by unfold fileI; rw [hf]; simp only; rw [if_pos ⟨by simpa using hc21, by omega⟩] <;> rfl), rfl⟩, rfl⟩
     exact (zJ 0 rfl (zY _))
   ·refine at_eff' rfl rfl (qL z30) rfl ?_; rintro _ _ ⟨b8, rfl, rfl⟩; refine yb (i := 8) (by kernel_rfl) rfl rfl (zy (Pre := []) Tryz.call83 rfl rfl (zR _) (qf hM.tb (xI (Tv.pick 0 rfl hM.tv) _ hdl))) rfl ?_; rintro _ _ ⟨rfl, rfl⟩; simp only [zA, zB]; refine zRO (i := 9) (by kernel_rfl) rfl rfl (zL rfl) rfl (zRO (i := 10) (by kernel_rfl) rfl rfl (zu rfl rfl) rfl (zRO (i := 11) (by kernel_rfl) rfl rfl (zu rfl rfl) rfl (qq (i := 13) (by kernel_rfl) rfl rfl (zm 0 ag30 rfl rfl rfl rfl rfl (zy1 rfl) (zg _)) rfl ?_))); rintro _ _ rfl; simp only [zE, zF]; refine qR (m' := 15) (L' := []) (by kernel_rfl) qx ?_; simp only [zA, zB, List.append_nil]; refine zRO (i := 14) (by kernel_rfl) rfl rfl (zO rfl) rfl (qT (by kernel_rfl) ?_); refine zI (zM (zK (zH rfl (zL rfl) rfl (zH rfl (q9 rfl rfl rfl) rfl (zN ?_))))); refine zI (zq rfl (fun hc35 => ?_) (fun hc35 => ?_))
    ·replace hc35 := zy2 hc35
     refine zM (zK (zH rfl (zO rfl) rfl (zN (zI (zi ?_))))); refine zh ?_; refine' zX (qk rfl rfl) ?_ ?_
     rotate_left 1
     exact ⟨[], ⟨(by unfold fileI; rw [hf]; simp only; rw [if_neg (fun h => by have := h.2; omega)] <;> rfl), rfl⟩, rfl⟩
     exact (zJ 0 rfl (zY _))
    ·replace hc35 := zy3 hc35
     refine zl ?_; refine zI (zM (zK (zH rfl (zL rfl) rfl (zH rfl (zO rfl) rfl (zN ?_))))); refine zI (zi ?_); refine' zX (qk rfl rfl) ?_ ?_
     rotate_left 1
     exact ⟨[], ⟨(by unfold fileI; rw [hf]; simp only; rw [if_pos ⟨by simpa using hc21, by omega⟩] <;> rfl), rfl⟩, rfl⟩
     exact (zJ 0 rfl (zY _))
theorem told16_spec {V : HProp} {mb tb : Nat} {t : Tr} {hs : List Hd} (hM : Mq V mb tb t hs) (hdl : ∀ x ∈ t.ns, x.data.length ≤ 100000000) (id e : Int) : Tri Tryz.prog 40 [.pointer (some ⟨mb, 0, none⟩), .int .i64 id, .int .i64 e] [V] (fun v H' => ∃ K, (v = ((toldK t id e).rep none 0 none 0).v ∧ K = []) ∧ H' = K ++ [V]) := by
 refine zt Tryz.func40 rfl Tryz.ntmps40 (by simp) ?_; refine zM (zK (zT rfl (qL z32) rfl ?_)); rintro _ _ ⟨b6, rfl, rfl⟩; refine zN (zI (zM (zM (zK (zH rfl (zL rfl) rfl ?_))))); refine zH rfl (q9 rfl rfl rfl) rfl (zN (zI (zq rfl (fun hc9 => ?_) (fun hc9 => ?_))))
 ·replace hc9 := zy2 hc9
  refine zM (zK (zH rfl (zL rfl) rfl (zT rfl (zb Tryz.call32 rfl rfl (by repeat (first | exact zR _ | apply zG 0 rfl | apply zG 1 rfl | apply zG 2 rfl | apply zG 3 rfl | apply zG 4 rfl | apply zG 5 rfl | apply zG 6 rfl | apply zG 7 rfl)) (yz e)) rfl ?_))); rintro _ H' ⟨_, ⟨rfl, rfl⟩, hH⟩; simp only [zy7] at hH; subst hH; refine zo rfl (zm 0 qW rfl rfl rfl rfl rfl (zy1 rfl) (zg _)) rfl ?_; rintro _ _ rfl; simp only [zE, zF]; refine zN (zI (zi ?_)); refine zh ?_; refine' zX (qg rfl (qB qW rfl (zy6 0 rfl zx) rfl)) ?_ ?_
  rotate_left 1
  exact ⟨[], ⟨(by unfold toldK; rw [if_pos (by omega), ← ye]; rfl), rfl⟩, rfl⟩
  exact (zJ 1 rfl (zY _))
 ·replace hc9 := zy3 hc9
  refine zl ?_; refine zI (zM (zK (zH rfl (zL rfl) rfl (zH rfl (zU rfl) rfl (zH rfl (zP yT rfl) rfl ?_))))); refine zH rfl (zW sc51 rfl (zy4 1 rfl (hM.pt))) rfl (zH rfl (zL rfl) rfl (zT rfl (zb Tryz.call83 rfl rfl (by repeat (first | exact zR _ | apply zG 0 rfl | apply zG 1 rfl | apply zG 2 rfl | apply zG 3 rfl | apply zG 4 rfl | apply zG 5 rfl | apply zG 6 rfl | apply zG 7 rfl)) (qf hM.tb (xI hM.tv id hdl))) rfl ?_)); rintro _ H' ⟨_, ⟨_, ⟨rfl, rfl⟩, rfl⟩, hH⟩; simp only [zy7] at hH; subst hH; refine zH rfl (zL rfl) rfl (zH rfl (zu rfl rfl) rfl (zH rfl (zu rfl rfl) rfl (zT rfl (qL z30) rfl ?_))); rintro _ _ ⟨b7, rfl, rfl⟩; refine zo rfl (zm 0 ag30 rfl rfl rfl rfl rfl (zy1 rfl) (zg _)) rfl ?_; rintro _ _ rfl; simp only [zE, zF]; refine zH rfl (zO rfl) rfl (zN (zI (zM (zM (zK ?_))))); refine zH rfl (zL rfl) rfl (zH rfl (q9 rfl rfl rfl) rfl (zN (zI (zq rfl (fun hc22 => ?_) (fun hc22 => ?_)))))
  ·replace hc22 := zy2 hc22
   refine zM (zK (zT rfl (zb Tryz.call28 rfl rfl (by repeat (first | exact zR _ | apply zG 0 rfl | apply zG 1 rfl | apply zG 2 rfl | apply zG 3 rfl | apply zG 4 rfl | apply zG 5 rfl | apply zG 6 rfl | apply zG 7 rfl)) (qS 4)) rfl ?_)); rintro _ H' ⟨_, ⟨rfl, rfl⟩, hH⟩; simp only [zy7] at hH; subst hH; refine zo rfl (zm 2 qW rfl rfl rfl rfl rfl (zy1 rfl) (zg _)) rfl ?_; rintro _ _ rfl; simp only [zE, zF]; refine zN (zI (zi ?_)); refine zh ?_; refine' zX (qg rfl (qB qW rfl (zy6 2 rfl zx) rfl)) ?_ ?_
   rotate_left 1
   exact ⟨[], ⟨(by unfold toldK; rw [if_neg (by omega), if_pos (by omega)] <;> rfl), rfl⟩, rfl⟩
   exact (zJ 1 rfl (zY _))
  ·replace hc22 := zy3 hc22
   refine zl ?_; refine zI (zM (zK (zH rfl (qX ag30 rfl (zy6 0 rfl zx) rfl) rfl (zH rfl (qY rfl (qK (cs := (Rk.rep ⟨5, 0, [], [], [], (attO (byId t.ns id)).1⟩ none 0 none 0).cs) st32 rfl)) rfl (zo rfl (zm 2 qW rfl rfl rfl rfl rfl (zy1 rfl) (zg _)) rfl ?_))))); rintro _ _ rfl; simp only [zE, zF]; refine zN (zI (zi ?_)); refine' zX (qg rfl (qB qW rfl (zy6 2 rfl zx) rfl)) ?_ ?_
   rotate_left 1
   exact ⟨[], ⟨(by unfold toldK; rw [if_neg (by omega), if_neg (by omega)]; rfl), rfl⟩, rfl⟩
   exact (zJ 1 rfl (zY _))
end Go.Proofs.YtlefpllcgcicpaaGreatDoor
