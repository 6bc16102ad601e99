/-
  A tree as bytes: put, Save.
  A tree is loaded: Load.
  A tree and the document's that hold the same things: what they tell is the same.
  What is told of a thing is set: Set.
-/
import Derived.Test.YtlefpllcgcicpaaGreatDoorTrTb
import Derived.Test.YtlefpllcgcicpaaGreatDoorTrHw
import Derived.Test.YtlefpllcgcicpaaGreatDoorLib
import Derived.Test.YtlefpllcgcicpaaGreatDoorTrE1
import Derived.Test.YtlefpllcgcicpaaGreatDoorTrH
set_option linter.unusedVariables false
set_option linter.unusedSimpArgs false
namespace Go.Proofs.YtlefpllcgcicpaaGreatDoor
open Go.Sx
set_option maxRecDepth 100000
set_option maxHeartbeats 4000000
theorem text_at (pw : Nat) (p : Option Addr) (c : Nat) (l s : List UInt8) (hs : l.length + 4 + s.length ≤ 140737488355328) :
 Tri Tryz.prog 47 [.pointer (some ⟨pw, 0, none⟩), .string (str s)] (wr pw p c l) (fun r H' => ∃ p' c', r = .tuple #[] ∧ H' = wr pw p' c' (l ++ be s.length 4 ++ s)) := by
 have h := text_run pw p c l (str s) (by rw [xN]; exact hs)
 rw [xN] at h; exact h
theorem wbool_spec (pw : Nat) (p : Option Addr) (c : Nat) (l : List UInt8) (b : Bool) (hl : l.length ≤ 70368744177664) :
 Tri Tryz.prog 141 [.pointer (some ⟨pw, 0, none⟩), .bool b] (wr pw p c l) (fun v H' => ∃ p' c', v = .tuple #[] ∧ H' = wr pw p' c' (l ++ [b8 (if b then 1 else 0)])) := by
 cases b
 ·skip; refine qd Tryz.func141 rfl Tryz.ntmps141 (by simp) ?_; refine zM (zK (zH rfl (zO rfl) rfl (zN ?_)))
  repeat (first | refine zQ ?_ | refine zV ?_ | refine ze ?_)
  refine zI (zM (zM (zK (zH rfl (zL rfl) rfl (zN ?_)))))
  repeat (first | refine zQ ?_ | refine zV ?_ | refine ze ?_)
  refine zI (qC rfl ?_); refine zl ?_
  repeat (first | refine zQ ?_ | refine zV ?_ | refine ze ?_)
  refine zI (zK (zH rfl (zL rfl) rfl (zH rfl (zL rfl) rfl (zT rfl (zb Tryz.call91 rfl rfl (zG 0 rfl (zG 0 rfl (zR _))) (byte_spec pw p c l 0 (by omega))) rfl ?_)))); rintro _ H' ⟨_, ⟨p', c', rfl, rfl⟩, hH⟩; simp only [zy7] at hH; subst hH; refine zN ?_
  repeat (first | refine zQ ?_ | refine zV ?_ | refine ze ?_)
  refine yX (res0 rfl) ?_; exact ⟨p', c', rfl, rfl⟩
 ·skip; refine qd Tryz.func141 rfl Tryz.ntmps141 (by simp) ?_; refine zM (zK (zH rfl (zO rfl) rfl (zN ?_)))
  repeat (first | refine zQ ?_ | refine zV ?_ | refine ze ?_)
  refine zI (zM (zM (zK (zH rfl (zL rfl) rfl (zN ?_)))))
  repeat (first | refine zQ ?_ | refine zV ?_ | refine ze ?_)
  refine zI (qG rfl ?_); refine zK (zH rfl (zO rfl) rfl (zN ?_))
  repeat (first | refine zQ ?_ | refine zV ?_ | refine ze ?_)
  refine zI (zK (zH rfl (zL rfl) rfl (zH rfl (zL rfl) rfl (zT rfl (zb Tryz.call91 rfl rfl (zG 0 rfl (zG 0 rfl (zR _))) (byte_spec pw p c l 1 (by omega))) rfl ?_)))); rintro _ H' ⟨_, ⟨p', c', rfl, rfl⟩, hH⟩; simp only [zy7] at hH; subst hH; refine zN ?_
  repeat (first | refine zQ ?_ | refine zV ?_ | refine ze ?_)
  refine yX (res0 rfl) ?_; exact ⟨p', c', rfl, rfl⟩
theorem five_get (a : At) {i : Nat} (hi : i < (five a).length) : ([.int .u32 a.u, .int .u32 a.g, .int .u32 a.m, .int .u32 a.a, .int .u32 a.t] : List Value)[0 + i * 1]? = some (.int .u32 ((five a)[i] : Nat)) := by
 have e : ([.int .u32 a.u, .int .u32 a.g, .int .u32 a.m, .int .u32 a.a, .int .u32 a.t] : List Value) = (five a).map fun n : Nat => Value.int .u32 (n : Int) := rfl
 rw [e, Nat.zero_add, Nat.mul_one, List.getElem?_map, List.getElem?_eq_getElem hi]; rfl
theorem five_lt {a : At} (h : a.Ok) {i : Nat} (hi : i < (five a).length) : (five a)[i] < 4294967296 := by
 have : ∀ n ∈ five a, n < 4294967296 := by
  intro n hn; simp only [five, List.mem_cons, List.not_mem_nil, or_false] at hn
  rcases hn with rfl | rfl | rfl | rfl | rfl
  ·exact h.u
  ·exact h.g
  ·exact h.m
  ·exact h.a
  ·exact h.t
 exact this _ (List.getElem_mem hi)
theorem flat_take_le (f : Nd → List UInt8) (l : List Nd) (i : Nat) : ((l.take i).flatMap f).length ≤ (l.flatMap f).length := by
 conv => rhs; rw [← List.take_append_drop i l, List.flatMap_append, List.length_append]
 omega
def PutOk (t : Tr) (n : Nat) : Prop := ∀ (V : HProp), Tv V t → ∀ x ∈ t.ns, Deep t.ns n x → ∀ (pw : Nat) (p : Option Addr) (c : Nat) (l : List UInt8), l.length + (encN t.ns n x).length ≤ 1000000000000 →
 Tri Tryz.prog 89 [.pointer (some ⟨pw, 0, none⟩), .pointer (some ⟨x.blk, 0, none⟩)] (wr pw p c l ++ [V]) (fun v H' => ∃ K, (∃ p' c', v = .tuple #[] ∧ K = wr pw p' c' (l ++ encN t.ns n x)) ∧ H' = K ++ [V])
theorem put_step {t : Tr} {r : Nd} (hW : Wf t r) (hN : t.next ≤ 9223372036854775807) (n : Nat) (IH : PutOk t n) : PutOk t (n + 1) := fun V hT x hx hDp pw p c l hl => by
 have hxa := (hW.a x hx).1
 have hxl := wf_dl hW x hx
 have hkl := kids_le hW.kd hx
 have hfew := hW.few
 have hlt := hW.lt x hx
 cases hd : x.dir with
 | true =>
  refine zt Tryz.func89 rfl Tryz.ntmps89 (by simp) ?_; refine zM (zK (zH rfl (zL rfl) rfl (zH rfl (zL rfl) rfl (zH rfl (zU rfl) rfl (zH rfl (zP fa98_0 rfl) rfl ?_))))); refine zH rfl (zW sc3 rfl (zy4 2 rfl ((hT.nd x hx 0 _ rfl)))) rfl (zH rfl (yF Tryz.underlying3 Tryz.underlying28 rfl (yI (by omega) (by omega))) rfl (zT rfl (zb Tryz.call88 rfl rfl (by repeat (first | exact zR _ | apply zG 0 rfl | apply zG 1 rfl | apply zG 2 rfl | apply zG 3 rfl | apply zG 4 rfl | apply zG 5 rfl | apply zG 6 rfl | apply zG 7 rfl)) (u64_at pw p c l x.id _ rfl (by omega))) rfl ?_)); rintro _ H' ⟨_, ⟨p1, c1, rfl, rfl⟩, hH⟩; simp only [zy7] at hH; subst hH; generalize hl1 : l ++ be x.id 8 = l1
  have hn1 : l1.length = l.length + 8 := by rw [← hl1, List.length_append, qE]
  refine zN (zI (zM (zK (zH rfl (zL rfl) rfl (zH rfl (zL rfl) rfl ?_))))); refine zH rfl (zU rfl) rfl (zH rfl (zP fa98_1 rfl) rfl (zH rfl (zW sc4 rfl (zy4 2 rfl ((hT.nd x hx 1 _ rfl)))) rfl (zT rfl (zb Tryz.call141 rfl rfl (by repeat (first | exact zR _ | apply zG 0 rfl | apply zG 1 rfl | apply zG 2 rfl | apply zG 3 rfl | apply zG 4 rfl | apply zG 5 rfl | apply zG 6 rfl | apply zG 7 rfl)) (wbool_spec pw p1 c1 l1 x.dir (by omega))) rfl ?_))); rintro _ H' ⟨_, ⟨p2, c2, rfl, rfl⟩, hH⟩; simp only [zy7] at hH; subst hH; generalize hl2 : l1 ++ [b8 (if x.dir then 1 else 0)] = l2
  have hn2 : l2.length = l.length + 9 := by rw [← hl2, List.length_append, hn1]; rfl
  refine zN (zI (zM (zM (qZ 28 (by kernel_rfl) (zG 2 rfl (zR _)) ?_)))); refine zRO (i := 0) (by kernel_rfl) rfl rfl (zL rfl) rfl (zRO (i := 1) (by kernel_rfl) rfl rfl (zU rfl) rfl (zRO (i := 2) (by kernel_rfl) rfl rfl (zP fa98_5 rfl) rfl (zRO (i := 3) (by kernel_rfl) rfl rfl (zP fa30_2 rfl) rfl (zRO (i := 4) (by kernel_rfl) rfl rfl (zW yB rfl (zy4 0 rfl ((nd_at (hT.nd x hx) 2 _ rfl)))) rfl (zRO (i := 5) (by kernel_rfl) rfl rfl (zL rfl) rfl ?_))))); refine zRO (i := 6) (by kernel_rfl) rfl rfl (zU rfl) rfl (zRO (i := 7) (by kernel_rfl) rfl rfl (zP fa98_5 rfl) rfl (zRO (i := 8) (by kernel_rfl) rfl rfl (zP fa30_3 rfl) rfl (zRO (i := 9) (by kernel_rfl) rfl rfl (zW yB rfl (zy4 0 rfl ((nd_at (hT.nd x hx) 3 _ rfl)))) rfl (zRO (i := 10) (by kernel_rfl) rfl rfl (zL rfl) rfl (zRO (i := 11) (by kernel_rfl) rfl rfl (zU rfl) rfl ?_))))); refine zRO (i := 12) (by kernel_rfl) rfl rfl (zP fa98_5 rfl) rfl (zRO (i := 13) (by kernel_rfl) rfl rfl (zP fa30_4 rfl) rfl (zRO (i := 14) (by kernel_rfl) rfl rfl (zW yB rfl (zy4 0 rfl ((nd_at (hT.nd x hx) 4 _ rfl)))) rfl (zRO (i := 15) (by kernel_rfl) rfl rfl (zL rfl) rfl (zRO (i := 16) (by kernel_rfl) rfl rfl (zU rfl) rfl (zRO (i := 17) (by kernel_rfl) rfl rfl (zP fa98_5 rfl) rfl ?_))))); refine zRO (i := 18) (by kernel_rfl) rfl rfl (zP fa30_5 rfl) rfl (zRO (i := 19) (by kernel_rfl) rfl rfl (zW yB rfl (zy4 0 rfl ((nd_at (hT.nd x hx) 5 _ rfl)))) rfl (zRO (i := 20) (by kernel_rfl) rfl rfl (zL rfl) rfl (zRO (i := 21) (by kernel_rfl) rfl rfl (zU rfl) rfl (zRO (i := 22) (by kernel_rfl) rfl rfl (zP fa98_5 rfl) rfl (zRO (i := 23) (by kernel_rfl) rfl rfl (zP fa30_6 rfl) rfl ?_))))); refine zRO (i := 24) (by kernel_rfl) rfl rfl (zW yB rfl (zy4 0 rfl ((nd_at (hT.nd x hx) 6 _ rfl)))) rfl (zRO (i := 27) (by kernel_rfl) rfl rfl (zL rfl) rfl (qM (i := 25) (by kernel_rfl) rfl rfl (eff_lit sl194 rfl (sbld (cs := [_, _, _, _, _]) [(.int .u32 0), (.int .u32 0), (.int .u32 0), (.int .u32 0), (.int .u32 0)] sl194 (by decide) (by kernel_rfl) rfl) rfl (by decide)) rfl ?_)); rintro _ _ ⟨b46, rfl, rfl⟩; refine zRO (i := 26) (by kernel_rfl) rfl rfl (zw Tryz.underlying194 rfl) rfl (qm (by kernel_rfl) ?_); refine zI (qA ?_); refine yQ 3 (fun m Δ LL => ∃ (i : Nat) (z : List UInt8) (p3 : Option Addr) (c3 : Nat), (i + m = (five x.a).length ∧ z = l2 ++ enc4 ((five x.a).take i)) ∧ Δ = [(48, .int .i64 (i : Nat))] ∧ LL = [own pw (.cells [Value.slice p3 (z).length c3].toArray 135 (0, 0)), row 5 1 (.slice p3 (z).length c3) (z).length (cel (z)), row 27 1 (.slice (some ⟨b46, 0, none⟩) 5 5) 5 [.int .u32 x.a.u, .int .u32 x.a.g, .int .u32 x.a.m, .int .u32 x.a.a, .int .u32 x.a.t], V]) (m := (five x.a).length) (zS (k := 0) rfl (zS (k := 1) rfl (zS (k := 46) rfl (zS (k := 47) rfl (zf _))))) (qn ⟨0, l2, p2, c2, ⟨by omega, by simp [enc4]⟩, rfl, rfl⟩ (by repeat (first | exact zf _ | refine zS rfl ?_)) (by repeat (first | exact zf _ | refine zS rfl ?_)) (by repeat (first | exact zY _ | refine zJ 0 rfl ?_ | refine zJ 1 rfl ?_ | refine zJ 2 rfl ?_ | refine zJ 3 rfl ?_ | refine zJ 4 rfl ?_ | refine zJ 5 rfl ?_ | refine zJ 6 rfl ?_ | refine zJ 7 rfl ?_ | refine SubH.rown ?_))) ?_; rintro m Δ LL ⟨i, z, p3, c3, ⟨hm, hz⟩, rfl, rfl⟩; simp only [zA, zB]; refine zM (zK (zH rfl (yP rfl rfl rfl) rfl (zN (zI (zM ?_))))); refine zq rfl (fun hc49 => ?_) (fun hc49 => ?_)
  ·replace hc49 := zy2 hc49
   have e5 : (five x.a).length = 5 := rfl
   have hi : i < (five x.a).length := by omega
   have h4 := five_lt hxa hi
   have he := enc4_len ((five x.a).take i)
   have hel : z.length ≤ l.length + 29 := by rw [hz, List.length_append, he, List.length_take]; omega
   refine zl ?_; refine zI (zM (qA ?_)); refine zM (zK (zH rfl (qO sl194 rfl rfl rfl (by omega)) rfl (zH rfl (zW yB rfl (zy4 2 rfl (Rd.row (five_get x.a hi)))) rfl (zH rfl (zO rfl) rfl (zN ?_))))); refine zI (zK (zH rfl (zL rfl) rfl (zH rfl (zL rfl) rfl (zT rfl (zb Tryz.call90 rfl rfl (by repeat (first | exact zR _ | apply zG 0 rfl | apply zG 1 rfl | apply zG 2 rfl | apply zG 3 rfl | apply zG 4 rfl | apply zG 5 rfl | apply zG 6 rfl | apply zG 7 rfl)) (u32_at pw p3 c3 z (five x.a)[i] _ rfl h4 (by omega))) rfl ?_)))); rintro _ H' ⟨_, ⟨p4, c4, rfl, rfl⟩, hH⟩; simp only [zy7] at hH; subst hH; refine zN (zQ ?_); refine zI (zK (zH rfl (ql rfl rfl (qo (by omega))) rfl (zH rfl (zL rfl) rfl (zN (zI ?_))))); refine back (m - 1) (by omega) (qn ⟨i + 1, z ++ be (five x.a)[i] 4, p4, c4, ⟨by omega, by rw [hz, enc4_take _ hi, List.append_assoc]⟩, rfl, rfl⟩ ?_ ?_ ?_)
   ·exact (by repeat (first | exact zf _ | refine zS rfl ?_))
   ·exact (by repeat (first | exact zf _ | refine zS rfl ?_))
   ·exact zj _
  ·replace hc49 := zy3 hc49
   have e5 : (five x.a).length = 5 := rfl
   have hi : (five x.a).take i = five x.a := List.take_of_length_le (by omega)
   rw [hi] at hz; have hzh : z = l ++ hdr x := by rw [hz, ← hl2, ← hl1]; simp only [hdr, List.append_assoc]
   have hzl : z.length = l.length + 29 := by rw [hzh, List.length_append, hdr_len]
   clear hz; refine yJ ?_; refine qV ?_; refine qV ?_; refine qe ?_; refine zI (zM (zM (zK (zH rfl (zL rfl) rfl (zH rfl (zU rfl) rfl ?_))))); refine zH rfl (zP fa98_1 rfl) rfl (zH rfl (zW sc4 rfl (zy4 3 rfl ((hT.nd x hx 1 _ rfl)))) rfl ?_); rw [hd]; refine zH rfl (qy rfl rfl) rfl ?_
   try simp only [Bool.not_true, Bool.not_false]
   refine zN (zI (qC rfl ?_)); refine zl ?_; refine zI (zM (zK (zH rfl (zL rfl) rfl (zH rfl (zL rfl) rfl (zH rfl (zU rfl) rfl ?_))))); refine zH rfl (zP xP rfl) rfl (zH rfl (zW sc96 rfl (zy4 3 rfl ((hT.nd x hx 3 _ rfl)))) rfl (zH rfl (zw Tryz.underlying96 rfl) rfl (zH rfl (yF Tryz.underlying3 Tryz.underlying27 rfl (xC (by omega) (by omega))) rfl (zT rfl (zb Tryz.call90 rfl rfl (by repeat (first | exact zR _ | apply zG 0 rfl | apply zG 1 rfl | apply zG 2 rfl | apply zG 3 rfl | apply zG 4 rfl | apply zG 5 rfl | apply zG 6 rfl | apply zG 7 rfl)) (u32_at pw p3 c3 z x.kids.length _ rfl (by omega) (by omega))) rfl ?_)))); rintro _ H' ⟨_, ⟨p5, c5, rfl, rfl⟩, hH⟩; simp only [zy7] at hH; subst hH; generalize hl6 : z ++ be x.kids.length 4 = l6
   have hn6 : l6.length = l.length + 33 := by rw [← hl6, List.length_append, qE]; omega
   refine zN (zI (zM (zK (zH rfl (zL rfl) rfl (zH rfl (zU rfl) rfl ?_))))); refine zH rfl (zP xP rfl) rfl (zH rfl (zW sc96 rfl (zy4 3 rfl ((hT.nd x hx 3 _ rfl)))) rfl (zH rfl (zw Tryz.underlying96 rfl) rfl (zH rfl (zL rfl) rfl (zN (zI ?_))))); refine qA ?_; refine yQ 11 (fun m Δ LL => ∃ (i : Nat) (z6 : List UInt8) (p6 : Option Addr) (c6 : Nat), (i + m = x.kids.length ∧ z6 = l6 ++ ((kidsN t.ns x).take i).flatMap (kidB t.ns n)) ∧ Δ = [(81, .int .i64 (i : Nat))] ∧ LL = [own pw (.cells [Value.slice p6 (z6).length c6].toArray 135 (0, 0)), row 5 1 (.slice p6 (z6).length c6) (z6).length (cel (z6)), V]) (m := x.kids.length) (zS (k := 0) rfl (zS (k := 79) rfl (zS (k := 80) rfl (zf _)))) (qn ⟨0, l6, p5, c5, ⟨by omega, by simp⟩, rfl, rfl⟩ (by repeat (first | exact zf _ | refine zS rfl ?_)) (by repeat (first | exact zf _ | refine zS rfl ?_)) (by repeat (first | exact zY _ | refine zJ 0 rfl ?_ | refine zJ 1 rfl ?_ | refine zJ 2 rfl ?_ | refine zJ 3 rfl ?_ | refine zJ 4 rfl ?_ | refine zJ 5 rfl ?_ | refine zJ 6 rfl ?_ | refine zJ 7 rfl ?_ | refine SubH.rown ?_))) ?_; rintro m Δ LL ⟨i, z6, p6, c6, ⟨hm, hz6⟩, rfl, rfl⟩; simp only [zA, zB]; refine zM (zK (zH rfl (yP rfl rfl rfl) rfl (zN (zI (zM ?_))))); refine zq rfl (fun hc82 => ?_) (fun hc82 => ?_)
   ·replace hc82 := zy2 hc82
    have hi : i < x.kids.length := by omega
    obtain ⟨y, hy, hyb, hyp, hky⟩ := kidsN_at hW.kd hx hi
    have hyk : y ∈ kidsN t.ns x := List.mem_of_getElem? hky
    have hyn : y.name.length ≤ 30 := by
     rcases hW.nm y hy with h | h
     ·exact absurd h (kid_not_root hW hx hyk)
     ·exact ptOk_len h
    have hyd := hDp y hyk
    have hz6l : z6.length + 4 + y.name.length + (encN t.ns n y).length ≤ l.length + (encN t.ns (n + 1) x).length := by
     have h1 := flat_take_le (kidB t.ns n) (kidsN t.ns x) (i + 1)
     have h3 : (kidB t.ns n y).length = 4 + y.name.length + (encN t.ns n y).length := by simp only [kidB, List.length_append, qE]
     have h4 := hdr_len x
     rw [kidB_snoc hky, List.length_append] at h1; rw [encN_dir hd, hz6]; simp only [List.length_append, qE]; omega
    have hxk := hT.kids x hx
    refine yN (fun w F s => vw_ptr (zy5 (H := [_, _, V]) 2 rfl hxk) s (by omega)) ?_; rintro ⟨b1, o1, hkp⟩; rw [hkp] at hxk; refine zl ?_; refine zI (zM (qA ?_)); refine zM (zK ?_); rw [hkp]; refine zH rfl (qO sl96 rfl rfl rfl (by omega)) rfl (zH rfl (zW sc92 rfl (zy4 2 rfl (Rd.elem (j := 0) (ym hxk) Pq.len (List.getElem?_eq_getElem hi) rfl))) rfl ?_); rw [← hyb]; refine zH rfl (zO rfl) rfl (zN (zI (zM (zK (zH rfl (zL rfl) rfl ?_))))); refine zH rfl (zL rfl) rfl (zH rfl (zU rfl) rfl (zH rfl (zP fa98_2 rfl) rfl (zH rfl (zW sc9 rfl (zy4 2 rfl ((hT.nd y hy 2 _ rfl)))) rfl (zT rfl (zb Tryz.call47 rfl rfl (by repeat (first | exact zR _ | apply zG 0 rfl | apply zG 1 rfl | apply zG 2 rfl | apply zG 3 rfl | apply zG 4 rfl | apply zG 5 rfl | apply zG 6 rfl | apply zG 7 rfl)) (text_at pw p6 c6 z6 y.name (by omega))) rfl ?_)))); rintro _ H' ⟨_, ⟨p7, c7, rfl, rfl⟩, hH⟩; simp only [zy7] at hH; subst hH; generalize hz7 : z6 ++ be y.name.length 4 ++ y.name = z7
    have hn7 : z7.length = z6.length + 4 + y.name.length := by rw [← hz7]; simp only [List.length_append, qE]
    refine zN (zI (zK (zH rfl (zL rfl) rfl (zH rfl (zL rfl) rfl (zT rfl (zb Tryz.call89 rfl rfl (by repeat (first | exact zR _ | apply zG 0 rfl | apply zG 1 rfl | apply zG 2 rfl | apply zG 3 rfl | apply zG 4 rfl | apply zG 5 rfl | apply zG 6 rfl | apply zG 7 rfl)) (IH V hT y hy hyd pw p7 c7 z7 (by omega))) rfl ?_))))); rintro _ H' ⟨_, ⟨_, ⟨p8, c8, rfl, rfl⟩, rfl⟩, hH⟩; simp only [zy7] at hH; subst hH; refine zN (zQ ?_); refine zI (zK (zH rfl (ql rfl rfl (qo (by omega))) rfl (zH rfl (zL rfl) rfl (zN (zI ?_))))); refine back (m - 1) (by omega) (qn ⟨i + 1, z7 ++ encN t.ns n y, p8, c8, ⟨by omega, by rw [kidB_snoc hky, ← List.append_assoc, ← hz6, ← hz7]; simp only [kidB, List.append_assoc]⟩, rfl, rfl⟩ ?_ ?_ ?_)
    ·exact (by repeat (first | exact zf _ | refine zS rfl ?_))
    ·exact (by repeat (first | exact zf _ | refine zS rfl ?_))
    ·exact zj _
   ·replace hc82 := zy3 hc82
    refine yJ ?_; refine qV ?_; refine qV ?_; refine qe ?_; have hfin : z6 = l ++ encN t.ns (n + 1) x := by rw [encN_dir hd, ← List.append_assoc, ← List.append_assoc, ← hzh, hl6, hz6, List.take_of_length_le (by rw [kidsN_len hW.kd hx]; omega)]
    rw [hfin]; refine' doneS_normal (res0 rfl) ?_ ?_
    rotate_left 1
    exact ⟨_, ⟨p6, c6, rfl, rfl⟩, rfl⟩
    exact zj _
 | false =>
  refine zt Tryz.func89 rfl Tryz.ntmps89 (by simp) ?_; refine zM (zK (zH rfl (zL rfl) rfl (zH rfl (zL rfl) rfl (zH rfl (zU rfl) rfl (zH rfl (zP fa98_0 rfl) rfl ?_))))); refine zH rfl (zW sc3 rfl (zy4 2 rfl ((hT.nd x hx 0 _ rfl)))) rfl (zH rfl (yF Tryz.underlying3 Tryz.underlying28 rfl (yI (by omega) (by omega))) rfl (zT rfl (zb Tryz.call88 rfl rfl (by repeat (first | exact zR _ | apply zG 0 rfl | apply zG 1 rfl | apply zG 2 rfl | apply zG 3 rfl | apply zG 4 rfl | apply zG 5 rfl | apply zG 6 rfl | apply zG 7 rfl)) (u64_at pw p c l x.id _ rfl (by omega))) rfl ?_)); rintro _ H' ⟨_, ⟨p1, c1, rfl, rfl⟩, hH⟩; simp only [zy7] at hH; subst hH; generalize hl1 : l ++ be x.id 8 = l1
  have hn1 : l1.length = l.length + 8 := by rw [← hl1, List.length_append, qE]
  refine zN (zI (zM (zK (zH rfl (zL rfl) rfl (zH rfl (zL rfl) rfl ?_))))); refine zH rfl (zU rfl) rfl (zH rfl (zP fa98_1 rfl) rfl (zH rfl (zW sc4 rfl (zy4 2 rfl ((hT.nd x hx 1 _ rfl)))) rfl (zT rfl (zb Tryz.call141 rfl rfl (by repeat (first | exact zR _ | apply zG 0 rfl | apply zG 1 rfl | apply zG 2 rfl | apply zG 3 rfl | apply zG 4 rfl | apply zG 5 rfl | apply zG 6 rfl | apply zG 7 rfl)) (wbool_spec pw p1 c1 l1 x.dir (by omega))) rfl ?_))); rintro _ H' ⟨_, ⟨p2, c2, rfl, rfl⟩, hH⟩; simp only [zy7] at hH; subst hH; generalize hl2 : l1 ++ [b8 (if x.dir then 1 else 0)] = l2
  have hn2 : l2.length = l.length + 9 := by rw [← hl2, List.length_append, hn1]; rfl
  refine zN (zI (zM (zM (qZ 28 (by kernel_rfl) (zG 2 rfl (zR _)) ?_)))); refine zRO (i := 0) (by kernel_rfl) rfl rfl (zL rfl) rfl (zRO (i := 1) (by kernel_rfl) rfl rfl (zU rfl) rfl (zRO (i := 2) (by kernel_rfl) rfl rfl (zP fa98_5 rfl) rfl (zRO (i := 3) (by kernel_rfl) rfl rfl (zP fa30_2 rfl) rfl (zRO (i := 4) (by kernel_rfl) rfl rfl (zW yB rfl (zy4 0 rfl ((nd_at (hT.nd x hx) 2 _ rfl)))) rfl (zRO (i := 5) (by kernel_rfl) rfl rfl (zL rfl) rfl ?_))))); refine zRO (i := 6) (by kernel_rfl) rfl rfl (zU rfl) rfl (zRO (i := 7) (by kernel_rfl) rfl rfl (zP fa98_5 rfl) rfl (zRO (i := 8) (by kernel_rfl) rfl rfl (zP fa30_3 rfl) rfl (zRO (i := 9) (by kernel_rfl) rfl rfl (zW yB rfl (zy4 0 rfl ((nd_at (hT.nd x hx) 3 _ rfl)))) rfl (zRO (i := 10) (by kernel_rfl) rfl rfl (zL rfl) rfl (zRO (i := 11) (by kernel_rfl) rfl rfl (zU rfl) rfl ?_))))); refine zRO (i := 12) (by kernel_rfl) rfl rfl (zP fa98_5 rfl) rfl (zRO (i := 13) (by kernel_rfl) rfl rfl (zP fa30_4 rfl) rfl (zRO (i := 14) (by kernel_rfl) rfl rfl (zW yB rfl (zy4 0 rfl ((nd_at (hT.nd x hx) 4 _ rfl)))) rfl (zRO (i := 15) (by kernel_rfl) rfl rfl (zL rfl) rfl (zRO (i := 16) (by kernel_rfl) rfl rfl (zU rfl) rfl (zRO (i := 17) (by kernel_rfl) rfl rfl (zP fa98_5 rfl) rfl ?_))))); refine zRO (i := 18) (by kernel_rfl) rfl rfl (zP fa30_5 rfl) rfl (zRO (i := 19) (by kernel_rfl) rfl rfl (zW yB rfl (zy4 0 rfl ((nd_at (hT.nd x hx) 5 _ rfl)))) rfl (zRO (i := 20) (by kernel_rfl) rfl rfl (zL rfl) rfl (zRO (i := 21) (by kernel_rfl) rfl rfl (zU rfl) rfl (zRO (i := 22) (by kernel_rfl) rfl rfl (zP fa98_5 rfl) rfl (zRO (i := 23) (by kernel_rfl) rfl rfl (zP fa30_6 rfl) rfl ?_))))); refine zRO (i := 24) (by kernel_rfl) rfl rfl (zW yB rfl (zy4 0 rfl ((nd_at (hT.nd x hx) 6 _ rfl)))) rfl (zRO (i := 27) (by kernel_rfl) rfl rfl (zL rfl) rfl (qM (i := 25) (by kernel_rfl) rfl rfl (eff_lit sl194 rfl (sbld (cs := [_, _, _, _, _]) [(.int .u32 0), (.int .u32 0), (.int .u32 0), (.int .u32 0), (.int .u32 0)] sl194 (by decide) (by kernel_rfl) rfl) rfl (by decide)) rfl ?_)); rintro _ _ ⟨b46, rfl, rfl⟩; refine zRO (i := 26) (by kernel_rfl) rfl rfl (zw Tryz.underlying194 rfl) rfl (qm (by kernel_rfl) ?_); refine zI (qA ?_); refine yQ 3 (fun m Δ LL => ∃ (i : Nat) (z : List UInt8) (p3 : Option Addr) (c3 : Nat), (i + m = (five x.a).length ∧ z = l2 ++ enc4 ((five x.a).take i)) ∧ Δ = [(48, .int .i64 (i : Nat))] ∧ LL = [own pw (.cells [Value.slice p3 (z).length c3].toArray 135 (0, 0)), row 5 1 (.slice p3 (z).length c3) (z).length (cel (z)), row 27 1 (.slice (some ⟨b46, 0, none⟩) 5 5) 5 [.int .u32 x.a.u, .int .u32 x.a.g, .int .u32 x.a.m, .int .u32 x.a.a, .int .u32 x.a.t], V]) (m := (five x.a).length) (zS (k := 0) rfl (zS (k := 1) rfl (zS (k := 46) rfl (zS (k := 47) rfl (zf _))))) (qn ⟨0, l2, p2, c2, ⟨by omega, by simp [enc4]⟩, rfl, rfl⟩ (by repeat (first | exact zf _ | refine zS rfl ?_)) (by repeat (first | exact zf _ | refine zS rfl ?_)) (by repeat (first | exact zY _ | refine zJ 0 rfl ?_ | refine zJ 1 rfl ?_ | refine zJ 2 rfl ?_ | refine zJ 3 rfl ?_ | refine zJ 4 rfl ?_ | refine zJ 5 rfl ?_ | refine zJ 6 rfl ?_ | refine zJ 7 rfl ?_ | refine SubH.rown ?_))) ?_; rintro m Δ LL ⟨i, z, p3, c3, ⟨hm, hz⟩, rfl, rfl⟩; simp only [zA, zB]; refine zM (zK (zH rfl (yP rfl rfl rfl) rfl (zN (zI (zM ?_))))); refine zq rfl (fun hc49 => ?_) (fun hc49 => ?_)
  ·replace hc49 := zy2 hc49
   have e5 : (five x.a).length = 5 := rfl
   have hi : i < (five x.a).length := by omega
   have h4 := five_lt hxa hi
   have he := enc4_len ((five x.a).take i)
   have hel : z.length ≤ l.length + 29 := by rw [hz, List.length_append, he, List.length_take]; omega
   refine zl ?_; refine zI (zM (qA ?_)); refine zM (zK (zH rfl (qO sl194 rfl rfl rfl (by omega)) rfl (zH rfl (zW yB rfl (zy4 2 rfl (Rd.row (five_get x.a hi)))) rfl (zH rfl (zO rfl) rfl (zN ?_))))); refine zI (zK (zH rfl (zL rfl) rfl (zH rfl (zL rfl) rfl (zT rfl (zb Tryz.call90 rfl rfl (by repeat (first | exact zR _ | apply zG 0 rfl | apply zG 1 rfl | apply zG 2 rfl | apply zG 3 rfl | apply zG 4 rfl | apply zG 5 rfl | apply zG 6 rfl | apply zG 7 rfl)) (u32_at pw p3 c3 z (five x.a)[i] _ rfl h4 (by omega))) rfl ?_)))); rintro _ H' ⟨_, ⟨p4, c4, rfl, rfl⟩, hH⟩; simp only [zy7] at hH; subst hH; refine zN (zQ ?_); refine zI (zK (zH rfl (ql rfl rfl (qo (by omega))) rfl (zH rfl (zL rfl) rfl (zN (zI ?_))))); refine back (m - 1) (by omega) (qn ⟨i + 1, z ++ be (five x.a)[i] 4, p4, c4, ⟨by omega, by rw [hz, enc4_take _ hi, List.append_assoc]⟩, rfl, rfl⟩ ?_ ?_ ?_)
   ·exact (by repeat (first | exact zf _ | refine zS rfl ?_))
   ·exact (by repeat (first | exact zf _ | refine zS rfl ?_))
   ·exact zj _
  ·replace hc49 := zy3 hc49
   have e5 : (five x.a).length = 5 := rfl
   have hi : (five x.a).take i = five x.a := List.take_of_length_le (by omega)
   rw [hi] at hz; have hzh : z = l ++ hdr x := by rw [hz, ← hl2, ← hl1]; simp only [hdr, List.append_assoc]
   have hzl : z.length = l.length + 29 := by rw [hzh, List.length_append, hdr_len]
   clear hz; refine yJ ?_; refine qV ?_; refine qV ?_; refine qe ?_; refine zI (zM (zM (zK (zH rfl (zL rfl) rfl (zH rfl (zU rfl) rfl ?_))))); refine zH rfl (zP fa98_1 rfl) rfl (zH rfl (zW sc4 rfl (zy4 3 rfl ((hT.nd x hx 1 _ rfl)))) rfl ?_); rw [hd]; refine zH rfl (qy rfl rfl) rfl ?_
   try simp only [Bool.not_true, Bool.not_false]
   refine zN (zI (qG rfl ?_)); refine zM (zK (zH rfl (zL rfl) rfl (zH rfl (zL rfl) rfl (zH rfl (zU rfl) rfl (zH rfl (zP fa98_4 rfl) rfl ?_))))); refine zH rfl (zW sc25 rfl (zy4 3 rfl ((hT.nd x hx 4 _ rfl)))) rfl (zH rfl (yp Tryz.underlying25 Tryz.underlying5 Tryz.underlying9 rfl (zy5 3 rfl (hT.data x hx)) rfl) rfl (zT rfl (zb Tryz.call47 rfl rfl (by repeat (first | exact zR _ | apply zG 0 rfl | apply zG 1 rfl | apply zG 2 rfl | apply zG 3 rfl | apply zG 4 rfl | apply zG 5 rfl | apply zG 6 rfl | apply zG 7 rfl)) (text_at pw p3 c3 z x.data (by omega))) rfl ?_)); rintro _ H' ⟨_, ⟨p5, c5, rfl, rfl⟩, hH⟩; simp only [zy7] at hH; subst hH; refine zN (zI (zi ?_)); refine zh ?_; have hfin : z ++ be x.data.length 4 ++ x.data = l ++ encN t.ns (n + 1) x := by rw [encN_file hd, hzh]; simp only [List.append_assoc]
   rw [hfin]; refine' zX (res0 rfl) ?_ ?_
   rotate_left 1
   exact ⟨_, ⟨p5, c5, rfl, rfl⟩, rfl⟩
   exact (zJ 0 rfl (zJ 0 rfl (zJ 1 rfl (zY _))))
theorem put_ok {t : Tr} {r : Nd} (hW : Wf t r) (hN : t.next ≤ 9223372036854775807) : ∀ n, PutOk t n
 | 0 => fun V hT x hx hDp => hDp.elim
 | n + 1 => put_step hW hN n (put_ok hW hN n)
theorem save_spec {V : HProp} {t : Tr} {r : Nd} (hT : Tv V t) (hW : Wf t r) (hN : t.next ≤ 9223372036854775807) : Tri Tryz.prog 44 [t.v] [V] (fun v H' => ∃ K, (∃ b p' c', v = .slice p' b.length c' ∧ SaveR t r b ∧ b.length ≤ 1100008 ∧ K = [rowD p' c' b]) ∧ H' = K ++ [V]) := by
 obtain ⟨n, hn⟩ := wf_deep hW hW.root
 refine zt Tryz.func44 rfl Tryz.ntmps44 (by simp) ?_; refine zM (zK (zH rfl (zO rfl) rfl (zN (zI (zM ?_))))); refine zK (zT rfl (zb Tryz.call46 rfl rfl (by repeat (first | exact zR _ | apply zG 0 rfl | apply zG 1 rfl | apply zG 2 rfl | apply zG 3 rfl | apply zG 4 rfl | apply zG 5 rfl | apply zG 6 rfl | apply zG 7 rfl)) (newWriter_spec)) rfl ?_); rintro _ H' ⟨_, ⟨pw, rfl, rfl⟩, hH⟩; simp only [zy7] at hH; subst hH; refine zH rfl (zO rfl) rfl (zN (zI (zM (zK (zH rfl (zL rfl) rfl ?_))))); refine zH rfl (zL rfl) rfl (zH rfl (zU rfl) rfl (zH rfl (zP fa95_2 rfl) rfl (zH rfl (zW sc3 rfl (zy4 2 rfl ((hT.cs 2 _ rfl)))) rfl (zH rfl (yF Tryz.underlying3 Tryz.underlying28 rfl (yI (by omega) (by omega))) rfl (zT rfl (zb Tryz.call88 rfl rfl (by repeat (first | exact zR _ | apply zG 0 rfl | apply zG 1 rfl | apply zG 2 rfl | apply zG 3 rfl | apply zG 4 rfl | apply zG 5 rfl | apply zG 6 rfl | apply zG 7 rfl)) (u64_at pw none 0 [] t.next _ rfl (by simp))) rfl ?_))))); rintro _ H' ⟨_, ⟨p1, c1, rfl, rfl⟩, hH⟩; simp only [zy7] at hH; subst hH; refine zN (zI (zM (zK (zH rfl (zL rfl) rfl (zH rfl (zL rfl) rfl ?_))))); refine zH rfl (zU rfl) rfl (zH rfl (zP fa95_0 rfl) rfl (zH rfl (zW sc92 rfl (zy4 2 rfl ((hT.cs 0 _ rfl)))) rfl ?_)); rw [hW.rb]; have hel := enc_max hW n hW.root
 refine zT rfl (zb Tryz.call89 rfl rfl (by repeat (first | exact zR _ | apply zG 0 rfl | apply zG 1 rfl | apply zG 2 rfl | apply zG 3 rfl | apply zG 4 rfl | apply zG 5 rfl | apply zG 6 rfl | apply zG 7 rfl)) (put_ok hW hN n V hT r hW.root hn pw p1 c1 _ (by simp only [zB, qE]; omega))) rfl ?_; rintro _ H' ⟨_, ⟨_, ⟨p2, c2, rfl, rfl⟩, rfl⟩, hH⟩; simp only [zy7] at hH; subst hH; generalize hbb : be t.next 8 ++ encN t.ns n r = bb
 have hbl : bb.length ≤ 1100008 := by rw [← hbb, List.length_append, qE]; omega
 refine zN (zI (zM (zK (zH rfl (zL rfl) rfl (zT rfl (zb Tryz.call49 rfl rfl (by repeat (first | exact zR _ | apply zG 0 rfl | apply zG 1 rfl | apply zG 2 rfl | apply zG 3 rfl | apply zG 4 rfl | apply zG 5 rfl | apply zG 6 rfl | apply zG 7 rfl)) (done_spec pw p2 c2 bb (by omega))) rfl ?_))))); rintro _ H' ⟨_, ⟨p', c', rfl, hal, rfl⟩, hH⟩; simp only [zy7] at hH; subst hH; refine zH rfl (zO rfl) rfl (zN (zI (zi ?_))); refine' zX (qk rfl rfl) ?_ ?_
 rotate_left 1
 exact ⟨_, ⟨bb, p', c', rfl, ⟨n, hn, hbb.symm⟩, hbl, rfl⟩, rfl⟩
 exact (zJ 0 rfl (zJ 2 rfl (zY _)))
theorem equal_spec (W : HProp) (v1 v2 : Value) (n1 n2 : Nat) (l1 l2 : List UInt8) (h1 : Vw W v1 n1 (cel l1)) (h2 : Vw W v2 n2 (cel l2)) (e1 : l1.length = n1) (e2 : l2.length = n2) :
 Tri Tryz.prog 54 [v1, v2] [W] (fun v H' => ∃ K, (v = .bool (decide (l1 = l2)) ∧ K = []) ∧ H' = K ++ [W]) := fun w F s => by
 have s' : sat w (star W F) := by rw [qJ, yV, qt] at s; exact s
 refine (Tryz.bytes_Equal_strs v1 v2 (str l1) (str l2) w (vw_toStr Tryz.underlying25 Tryz.underlying5 Tryz.underlying9 h1 e1 w F s') (vw_toStr Tryz.underlying25 Tryz.underlying5 Tryz.underlying9 h2 e2 w F s')).mono fun e w' ⟨he, hw⟩ => ⟨_, [W], he, ⟨[], ⟨?_, rfl⟩, rfl⟩, hw ▸ s⟩
 congr 1
 show ((str l1).toList == (str l2).toList) = _
 rw [beqBytes]; exact decide_eq_decide.2 str_iff
theorem fin_here2 {q : R} (h : Here q []) : q.fin.1 = 0 := by
 have h1 := h.len
 rw [List.length_nil] at h1; unfold R.fin; rw [if_pos h.why, if_neg (by omega)]
theorem isNone_no {g : Option GetS} {s : GetS} {f : GetS → Addr} (hs : g = some s) (h : (g.map f).isNone = true) : False := by subst hs; cases h
theorem tri_arg0 {f : FuncId} {t : Tr} {tb : Nat} {args : List Value} {H : List HProp} {Ψ : Value → List HProp → Prop} (h : t.tb = tb) (hT : Tri Tryz.prog f (t.v :: args) H Ψ) : Tri Tryz.prog f (.pointer (some ⟨tb, 0, none⟩) :: args) H Ψ := by rw [← h]; exact hT
def LoadA : Option (Tr × Nd) → HProp
 | none => emp
 | some s => tree s.1
theorem load_none {L : List HProp} {w : World} {F : HProp} (s : sat w (star (St L) F)) : sat w (star (St (LoadA none :: L)) F) := by
 rw [qJ, show LoadA none = emp from rfl, emp_star]; exact s
theorem get_open2 {mb pr : Nat} {p : Option Addr} {c : Nat} {X : HProp} {k : GetS} {L : List HProp} {w : World} {F : HProp} (s : sat w (star (St (X :: GetA [] mb pr p c (some k) :: L)) F)) : sat w (star (St ([X, own mb (mapO ((([] : List Nd) ++ k.A).map Nd.me) k.ck), nds ([] ++ k.A), own pr (.cells [Value.slice p k.r.b.length c, .int .i64 k.r.pos, .int .i64 k.r.why, .int .i64 k.r.place].toArray 140 (0, 0)), row 5 1 (.slice p k.r.b.length c) k.r.b.length (cel k.r.b)] ++ L)) F) := get_open s
theorem load_tree {b10 b8 nn : Nat} {k : GetS} {L : List HProp} {w : World} {F : HProp} (s : sat w (star (St (own b10 (.cells ([.pointer (some ⟨k.x.blk, 0, none⟩), .map (some b8), .int .i64 (nn : Int), .int .i64 ((k.bs : Nat) : Int)] : List Value).toArray 95 (0, 0)) :: own b8 (mapO ((([] : List Nd) ++ k.A).map Nd.me) k.ck) :: nds ([] ++ k.A) :: L)) F)) : sat w (star (St (tree (⟨b10, b8, k.ck, k.x.blk, nn, k.bs, k.A⟩ : Tr) :: L)) F) :=
 xO (t := (⟨b10, b8, k.ck, k.x.blk, nn, k.bs, k.A⟩ : Tr)) s
theorem be_inj8 {a b : Nat} (ha : a < 18446744073709551616) (hb : b < 18446744073709551616) (h : be a 8 = be b 8) : a = b := by
 have h1 : val (be a 8) = val (be b 8) := by rw [h]
 rw [val_be, val_be] at h1; omega
theorem hdr_same {A B : List Nd} {m n : Nat} {x y : Nd} (hd : Deep A m x) (h : encN A m x = encN B (n + 1) y) (hx : x.id < 18446744073709551616) (hy : y.id < 18446744073709551616) : x.id = y.id ∧ x.dir = y.dir := by
 cases m with
 | zero => exact hd.elim
 | succ m =>
  have h1 : hdr x = hdr y := by
   have h2 : (hdr x ++ body A m x).take 29 = (hdr y ++ body B n y).take 29 := congrArg (List.take 29) h
   rw [List.take_append_of_le_length (by rw [hdr_len]; exact Nat.le_refl _), List.take_append_of_le_length (by rw [hdr_len]; exact Nat.le_refl _), List.take_of_length_le (by rw [hdr_len]; exact Nat.le_refl _), List.take_of_length_le (by rw [hdr_len]; exact Nat.le_refl _)] at h2; exact h2
  unfold hdr at h1; rw [List.append_assoc, List.append_assoc] at h1; have h3 := List.append_inj h1 (by rw [qE, qE])
  refine ⟨be_inj8 hx hy h3.1, ?_⟩; have h4 := (List.append_inj h3.2 rfl).1
  cases hxd : x.dir <;> cases hyd : y.dir <;> first | rfl | (rw [hxd, hyd] at h4; exact absurd h4 (by decide))
theorem load_fit {t0 : Tr} {r0 : Nd} {l : List UInt8} {z1 : R × Nat} (e1 : (R.new l).get 8 = z1) (hS : SaveR t0 r0 l) (hW0 : Wf t0 r0) (hn0 : t0.next ≤ 9223372036854775807) : z1.2 = t0.next ∧ ∃ n, ∀ nx : Int, nx = (t0.next : Int) → Fit t0 r0 r0 n [] [] 0 nx z1.1 := by
 obtain ⟨n, hn, hl⟩ := hS.ex
 have H := Here.new l
 rw [hl] at H; have g := yM H (show t0.next < 256 ^ 8 by omega)
 rw [← hl, e1] at g; have H2 := H.adv (n := 8) (by rw [qE])
 rw [← hl] at H2; refine ⟨by rw [g], ?_⟩
 cases n with
 | zero => exact hn.elim
 | succ n =>
  refine ⟨n, fun nx hx => ⟨hW0, hW0.root, hn, ?_, by omega, hn0, fun u hu => (by cases hu), ?_, ?_⟩⟩
  ·rw [List.append_nil, show z1.1 = (R.new l).adv 8 from by rw [g]]; exact H2
  ·have h1 := dfs_sum hW0 (fun _ => 1) (n + 1) hW0.root
   rw [sum_one, sum_one] at h1; have := hW0.few
   simp only [List.length_nil]; omega
  ·have h1 := dfs_sum hW0 (fun y => y.data.length) (n + 1) hW0.root
   rw [← hW0.sum] at h1; have := hW0.max
   unfold szs; omega
theorem save_same {t t0 : Tr} {r r0 : Nd} {a l : List UInt8} {m n : Nat} (h1 : SaveR t r a) (h2 : SaveR t0 r0 l) (hd : Deep t.ns m r) (he : encN t.ns m r = encN t0.ns (n + 1) r0) (hd2 : Deep t0.ns (n + 1) r0) (hnx : t.next = t0.next) : a = l := by
 obtain ⟨m1, h3, rfl⟩ := h1.ex
 obtain ⟨m2, h4, rfl⟩ := h2.ex
 rw [encN_same h3 hd, he, hnx, encN_same hd2 h4]
theorem load_spec {V : HProp} (q : Option Addr) (cq : Nat) (l : List UInt8) (hV : Vw V (.slice q l.length cq) l.length (cel l)) (hl : l.length ≤ 140737488355328) : Tri Tryz.prog 43 [.slice q l.length cq] [V]
 (fun v H' => ∃ K, (∃ o : Option (Tr × Nd), v = .tuple #[.pointer (o.map fun s => ⟨s.1.tb, 0, none⟩), .int .i64 (if o.isSome then 0 else 12)] ∧ (∀ s, o = some s → Wf s.1 s.2 ∧ SaveR s.1 s.2 l ∧ s.1.next ≤ 9223372036854775807 ∧ (∀ u ∈ s.1.ns, u.a.f = 15) ∧ s.2.name = []) ∧ (∀ t0 r0, Wf t0 r0 → t0.next ≤ 9223372036854775807 → SaveR t0 r0 l → ∃ s, o = some s) ∧ K = [LoadA o]) ∧ H' = K ++ [V]) := by
 refine zt Tryz.func43 rfl Tryz.ntmps43 (by simp) ?_; refine zM (zK (zH rfl (zO rfl) rfl (zH rfl (zO rfl) rfl (zN (zI ?_))))); refine zM (zK (zH rfl (zL rfl) rfl (zT rfl (zb Tryz.call50 rfl rfl (by repeat (first | exact zR _ | apply zG 0 rfl | apply zG 1 rfl | apply zG 2 rfl | apply zG 3 rfl | apply zG 4 rfl | apply zG 5 rfl | apply zG 6 rfl | apply zG 7 rfl)) (newReader_spec V q cq l hV hl)) rfl ?_))); rintro _ H' ⟨_, ⟨pr, p, c, rfl, rfl⟩, hH⟩; simp only [zy7] at hH; subst hH; refine zH rfl (zO rfl) rfl (zN (zI (zM (zK (zT rfl (eff_makeMap) rfl ?_))))); rintro _ _ ⟨b8, rfl, rfl⟩; refine zH rfl (qY rfl (qK (cs := [.pointer none, .map (some b8), .int .i64 0, .int .i64 0]) st95 rfl)) rfl (zT rfl (qj rfl) rfl ?_); rintro _ _ ⟨b10, rfl, rfl⟩; refine zH rfl (zO rfl) rfl (zN (zI (zM (zK (zH rfl (zL rfl) rfl ?_))))); refine zH rfl (zL rfl) rfl (zT rfl (zb Tryz.call86 rfl rfl (by repeat (first | exact zR _ | apply zG 0 rfl | apply zG 1 rfl | apply zG 2 rfl | apply zG 3 rfl | apply zG 4 rfl | apply zG 5 rfl | apply zG 6 rfl | apply zG 7 rfl)) (rU64_spec pr p c (R.new l) hl (Nat.zero_le _))) rfl ?_); rintro _ H' ⟨_, ⟨rfl, rfl⟩, hH⟩; simp only [zy7] at hH; subst hH; obtain ⟨z1, e1⟩ : ∃ z, (R.new l).get 8 = z := ⟨_, rfl⟩
 rw [e1]; have g1 : z1.1.Good := e1 ▸ R.good_get (R.good_new l hl) 8
 have l1 : z1.2 < 18446744073709551616 := by have h := yt (R.new l) 8; rw [e1] at h; simpa only [Nat.reducePow] using h
 refine zH rfl (yF Tryz.underlying28 Tryz.underlying3 rfl rfl) rfl ?_; have hw := wrap64 l1
 obtain ⟨nx, hnx⟩ : ∃ z : Int, IntKind.i64.wrap ((z1.2 : Nat) : Int) = z := ⟨_, rfl⟩
 rw [hnx] at hw ⊢; refine zH rfl (zU rfl) rfl (zH rfl (zP fa95_2 rfl) rfl (zo rfl (qP 2 sc3 rfl rfl rfl rfl (zy1 rfl) (zg _)) rfl ?_)); rintro _ _ rfl; refine zN (zI (zM (qD (fun w F s => nds_nil s) ?_))); refine zK (zH rfl (zL rfl) rfl (zH rfl (zL rfl) rfl (zH rfl (zL rfl) rfl (zT rfl (zb Tryz.call87 rfl rfl (by repeat (first | exact zR _ | apply zG 0 rfl | apply zG 1 rfl | apply zG 2 rfl | apply zG 3 rfl | apply zG 4 rfl | apply zG 5 rfl | apply zG 6 rfl | apply zG 7 rfl)) (get_ok 201 b10 b8 0 (.pointer none) nx 0 [] pr p c z1.1 [] (-1) (by simp) (by simp) (by omega) g1 (by simp) (by simp) (.inl rfl))) rfl ?_)))); rintro _ H' ⟨_, ⟨g, bs2, rfl, hgs, hgc, rfl⟩, hH⟩; simp only [zy7] at hH; subst hH; refine zH rfl (zU rfl) rfl (zH rfl (zP fa95_0 rfl) rfl (zo rfl (qP 0 sc92 rfl rfl rfl rfl (zy1 rfl) (zg _)) rfl ?_)); rintro _ _ rfl; refine zN (zI (zM (zM (zK (zH rfl (zL rfl) rfl ?_))))); refine zH rfl (zU rfl) rfl (zH rfl (zP fa95_0 rfl) rfl (zH rfl (zW sc92 rfl (zy4 0 rfl (Rd.own rfl))) rfl (zH rfl (qI Tryz.underlying92 rfl rfl rfl) rfl (qi rfl rfl rfl (fun hg28 => ?_) (fun hg28 => ?_)))))
 ·skip; refine zZ rfl rfl (zZ rfl rfl (zZ rfl rfl (zZ rfl rfl (zZ rfl rfl (zZ rfl rfl ?_))))); refine zZ rfl rfl (zZ rfl rfl (zH rfl (zr rfl rfl) rfl (zH rfl (zL (v := .bool true) rfl) rfl (zZ rfl rfl (zZ rfl rfl ?_))))); refine zZ rfl rfl (zZ rfl rfl (zZ rfl rfl (zZ rfl rfl (zZ rfl rfl (zZ rfl rfl ?_))))); refine zH rfl (zr rfl rfl) rfl (zH rfl (zL (v := .bool true) rfl) rfl (zZ rfl rfl (zZ rfl rfl (zZ rfl rfl (zH rfl (zr rfl rfl) rfl ?_))))); refine zH rfl (zL (v := .bool true) rfl) rfl (zZ rfl rfl (zZ rfl rfl (zZ rfl rfl (zZ rfl rfl (zZ rfl rfl ?_))))); refine zH rfl (zr rfl rfl) rfl (zN (zI (qG rfl ?_))); refine zM (q8 (L := [V]) (by repeat (first | exact zY _ | refine zJ 0 rfl ?_ | refine zJ 1 rfl ?_ | refine zJ 2 rfl ?_ | refine zJ 3 rfl ?_ | refine zJ 4 rfl ?_ | refine zJ 5 rfl ?_ | refine zJ 6 rfl ?_ | refine zJ 7 rfl ?_ | refine SubH.rown ?_)) ?_); refine qD (H' := [LoadA none, V]) (fun w F s => load_none s) ?_; refine zK (zH rfl (zO rfl) rfl (zH rfl (zO rfl) rfl (zN (zI (zi ?_))))); refine zh ?_; refine' zX (res2 rfl rfl rfl) ?_ ?_
  rotate_left 1
  refine ⟨_, ⟨none, rfl, fun s h => (by cases h), fun t0 r0 hW0 hn0 hS => ?_, rfl⟩, rfl⟩
  exfalso
  obtain ⟨hz1, n0, hF⟩ := load_fit e1 hS hW0 hn0
  rw [if_pos (by omega), hz1] at hw; obtain ⟨s, hs, q1, q2, q3, m2, q4, q5⟩ := hgc t0 r0 r0 n0 [] (hF _ hw)
  first
   | exact isNone_no hs hg28
   | (injection hs with hs
      subst hs; obtain ⟨q6, q7⟩ := hdr_same q4 q5 (by omega) (by have := hW0.lt r0 hW0.root; omega)
      first
       | exact absurd (q6.trans hW0.rid) (by omega)
       | (rw [q7, hW0.rdir] at hg48; exact absurd hg48 (by decide))
       | exact absurd (fin_here2 q1) (by simpa using hg53)
       | (refine absurd (save_same hsv hS (by rw [hta]; exact q4) (by rw [hta]; exact q5) (hF _ hw).deep (by omega)) (by simpa using hc59)))
  exact zj _
 ·skip
  obtain ⟨k, rfl⟩ : ∃ k, g = some k := by cases g with
   | none => exact absurd hg28 (by simp)
   | some k => exact ⟨k, rfl⟩
  obtain ⟨hG, rfl⟩ := hgs k rfl
  have hkx : k.x ∈ ([] : List Nd) ++ k.A := hG.sb.root
  have hklt := hG.sb.lt k.x hG.sb.root
  obtain ⟨nn, rfl⟩ : ∃ nn : Nat, nx = (nn : Int) := ⟨nx.toNat, by omega⟩
  refine qp (fun w F s => get_open2 s) ?_; simp only [zA, zB]; dsimp only [gptr, Option.map]; refine zH rfl (zL rfl) rfl (zH rfl (zU rfl) rfl (zH rfl (zP fa95_0 rfl) rfl (zH rfl (zW sc92 rfl (zy4 0 rfl (Rd.own rfl))) rfl (zH rfl (zU rfl) rfl (zH rfl (zP fa98_0 rfl) rfl ?_))))); refine zH rfl (zW sc3 rfl (zy4 2 rfl ((nds_rdn hkx 0 _ rfl)))) rfl (zH rfl (q9 rfl rfl rfl) rfl (zH rfl (zr rfl rfl) rfl (qi rfl rfl rfl (fun hg38 => ?_) (fun hg38 => ?_))))
  ·replace hg38 := zy2 hg38
   refine zZ rfl rfl (zZ rfl rfl (zZ rfl rfl (zZ rfl rfl (zZ rfl rfl (zZ rfl rfl ?_))))); refine zZ rfl rfl (zZ rfl rfl (zH rfl (zr rfl rfl) rfl (zH rfl (zL (v := .bool true) rfl) rfl (zZ rfl rfl (zZ rfl rfl ?_))))); refine zZ rfl rfl (zH rfl (zr rfl rfl) rfl (zH rfl (zL (v := .bool true) rfl) rfl (zZ rfl rfl (zZ rfl rfl (zZ rfl rfl ?_))))); refine zZ rfl rfl (zZ rfl rfl (zH rfl (zr rfl rfl) rfl (zN (zI (qG rfl ?_))))); refine zM (q8 (L := [V]) (by repeat (first | exact zY _ | refine zJ 0 rfl ?_ | refine zJ 1 rfl ?_ | refine zJ 2 rfl ?_ | refine zJ 3 rfl ?_ | refine zJ 4 rfl ?_ | refine zJ 5 rfl ?_ | refine zJ 6 rfl ?_ | refine zJ 7 rfl ?_ | refine SubH.rown ?_)) ?_); refine qD (H' := [LoadA none, V]) (fun w F s => load_none s) ?_; refine zK (zH rfl (zO rfl) rfl (zH rfl (zO rfl) rfl (zN (zI (zi ?_))))); refine zh ?_; refine' zX (res2 rfl rfl rfl) ?_ ?_
   rotate_left 1
   refine ⟨_, ⟨none, rfl, fun s h => (by cases h), fun t0 r0 hW0 hn0 hS => ?_, rfl⟩, rfl⟩
   exfalso
   obtain ⟨hz1, n0, hF⟩ := load_fit e1 hS hW0 hn0
   rw [if_pos (by omega), hz1] at hw; obtain ⟨s, hs, q1, q2, q3, m2, q4, q5⟩ := hgc t0 r0 r0 n0 [] (hF _ hw)
   first
    | exact isNone_no hs hg28
    | (injection hs with hs
       subst hs; obtain ⟨q6, q7⟩ := hdr_same q4 q5 (by omega) (by have := hW0.lt r0 hW0.root; omega)
       first
        | exact absurd (q6.trans hW0.rid) (by omega)
        | (rw [q7, hW0.rdir] at hg48; exact absurd hg48 (by decide))
        | exact absurd (fin_here2 q1) (by simpa using hg53)
        | (refine absurd (save_same hsv hS (by rw [hta]; exact q4) (by rw [hta]; exact q5) (hF _ hw).deep (by omega)) (by simpa using hc59)))
   exact zj _
  ·replace hg38 := zy3 hg38
   refine zH rfl (zL rfl) rfl (zH rfl (zU rfl) rfl (zH rfl (zP fa95_0 rfl) rfl (zH rfl (zW sc92 rfl (zy4 0 rfl (Rd.own rfl))) rfl (zH rfl (zU rfl) rfl (zH rfl (zP fa98_1 rfl) rfl ?_))))); refine zH rfl (zW sc4 rfl (zy4 2 rfl ((nds_rdn hkx 1 _ rfl)))) rfl (zH rfl (qy rfl rfl) rfl (zH rfl (zr rfl rfl) rfl (qi rfl rfl rfl (fun hg48 => ?_) (fun hg48 => ?_))))
   ·simp only [Bool.and_eq_true, decide_eq_true_eq, Bool.not_eq_true', decide_eq_false_iff_not, bne_iff_ne, ne_eq] at hg48; refine zZ rfl rfl (zZ rfl rfl (zZ rfl rfl (zH rfl (zr rfl rfl) rfl (zH rfl (zL (v := .bool true) rfl) rfl (zZ rfl rfl ?_))))); refine zZ rfl rfl (zZ rfl rfl (zZ rfl rfl (zZ rfl rfl (zH rfl (zr rfl rfl) rfl (zN ?_))))); refine zI (qG rfl ?_); refine zM (q8 (L := [V]) (by repeat (first | exact zY _ | refine zJ 0 rfl ?_ | refine zJ 1 rfl ?_ | refine zJ 2 rfl ?_ | refine zJ 3 rfl ?_ | refine zJ 4 rfl ?_ | refine zJ 5 rfl ?_ | refine zJ 6 rfl ?_ | refine zJ 7 rfl ?_ | refine SubH.rown ?_)) ?_); refine qD (H' := [LoadA none, V]) (fun w F s => load_none s) ?_; refine zK (zH rfl (zO rfl) rfl (zH rfl (zO rfl) rfl (zN (zI (zi ?_))))); refine zh ?_; refine' zX (res2 rfl rfl rfl) ?_ ?_
    rotate_left 1
    refine ⟨_, ⟨none, rfl, fun s h => (by cases h), fun t0 r0 hW0 hn0 hS => ?_, rfl⟩, rfl⟩
    exfalso
    obtain ⟨hz1, n0, hF⟩ := load_fit e1 hS hW0 hn0
    rw [if_pos (by omega), hz1] at hw; obtain ⟨s, hs, q1, q2, q3, m2, q4, q5⟩ := hgc t0 r0 r0 n0 [] (hF _ hw)
    first
     | exact isNone_no hs hg28
     | (injection hs with hs
        subst hs; obtain ⟨q6, q7⟩ := hdr_same q4 q5 (by omega) (by have := hW0.lt r0 hW0.root; omega)
        first
         | exact absurd (q6.trans hW0.rid) (by omega)
         | (rw [q7, hW0.rdir] at hg48; exact absurd hg48 (by decide))
         | exact absurd (fin_here2 q1) (by simpa using hg53)
         | (refine absurd (save_same hsv hS (by rw [hta]; exact q4) (by rw [hta]; exact q5) (hF _ hw).deep (by omega)) (by simpa using hc59)))
    exact zj _
   ·simp only [Bool.and_eq_false_iff, decide_eq_false_iff_not, Bool.not_eq_false', decide_eq_true_eq] at hg48; refine zH rfl (zL rfl) rfl (zT rfl (zb Tryz.call53 rfl rfl (by repeat (first | exact zR _ | apply zG 0 rfl | apply zG 1 rfl | apply zG 2 rfl | apply zG 3 rfl | apply zG 4 rfl | apply zG 5 rfl | apply zG 6 rfl | apply zG 7 rfl)) (all_spec pr p c k.r hG.good.len hG.good.pos)) rfl ?_); rintro _ H' ⟨_, ⟨rfl, rfl⟩, hH⟩; simp only [zy7] at hH; subst hH; refine zH rfl (qy rfl rfl) rfl (zH rfl (zr rfl rfl) rfl (qi rfl rfl rfl (fun hg53 => ?_) (fun hg53 => ?_)))
    ·simp only [Bool.and_eq_true, decide_eq_true_eq, Bool.not_eq_true', decide_eq_false_iff_not, bne_iff_ne, ne_eq] at hg53; refine zZ rfl rfl (zZ rfl rfl (zZ rfl rfl (zZ rfl rfl (zZ rfl rfl (zH rfl (zr rfl rfl) rfl ?_))))); refine zN (zI (qG rfl ?_)); refine zM (q8 (L := [V]) (by repeat (first | exact zY _ | refine zJ 0 rfl ?_ | refine zJ 1 rfl ?_ | refine zJ 2 rfl ?_ | refine zJ 3 rfl ?_ | refine zJ 4 rfl ?_ | refine zJ 5 rfl ?_ | refine zJ 6 rfl ?_ | refine zJ 7 rfl ?_ | refine SubH.rown ?_)) ?_); refine qD (H' := [LoadA none, V]) (fun w F s => load_none s) ?_; refine zK (zH rfl (zO rfl) rfl (zH rfl (zO rfl) rfl (zN (zI (zi ?_))))); refine zh ?_; refine' zX (res2 rfl rfl rfl) ?_ ?_
     rotate_left 1
     refine ⟨_, ⟨none, rfl, fun s h => (by cases h), fun t0 r0 hW0 hn0 hS => ?_, rfl⟩, rfl⟩
     exfalso
     obtain ⟨hz1, n0, hF⟩ := load_fit e1 hS hW0 hn0
     rw [if_pos (by omega), hz1] at hw; obtain ⟨s, hs, q1, q2, q3, m2, q4, q5⟩ := hgc t0 r0 r0 n0 [] (hF _ hw)
     first
      | exact isNone_no hs hg28
      | (injection hs with hs
         subst hs; obtain ⟨q6, q7⟩ := hdr_same q4 q5 (by omega) (by have := hW0.lt r0 hW0.root; omega)
         first
          | exact absurd (q6.trans hW0.rid) (by omega)
          | (rw [q7, hW0.rdir] at hg48; exact absurd hg48 (by decide))
          | exact absurd (fin_here2 q1) (by simpa using hg53)
          | (refine absurd (save_same hsv hS (by rw [hta]; exact q4) (by rw [hta]; exact q5) (hF _ hw).deep (by omega)) (by simpa using hc59)))
     exact zj _
    ·simp only [Bool.and_eq_false_iff, decide_eq_false_iff_not, Bool.not_eq_false', decide_eq_true_eq] at hg53; have hid : k.x.id = 0 := by omega
     have hdr1 : k.x.dir = true := by simpa using hg48
     have hW : Wf (⟨b10, b8, k.ck, k.x.blk, nn, k.bs, k.A⟩ : Tr) k.x := wf_load (nx := (nn : Int)) hG.sb hid hdr1 hG.len (by have h := hG.bs; rw [Nat.zero_add] at h; exact h) hG.max
     have hnn : nn ≤ 9223372036854775807 := by split at hw <;> omega
     refine ops_sub' (L := [own b10 (.cells ([.pointer (some ⟨k.x.blk, 0, none⟩), .map (some b8), .int .i64 (nn : Int), .int .i64 ((k.bs : Nat) : Int)] : List Value).toArray 95 (0, 0)), own b8 (mapO ((([] : List Nd) ++ k.A).map Nd.me) k.ck), nds (([] : List Nd) ++ k.A), V]) (by repeat (first | exact zY _ | refine zJ 0 rfl ?_ | refine zJ 1 rfl ?_ | refine zJ 2 rfl ?_ | refine zJ 3 rfl ?_ | refine zJ 4 rfl ?_ | refine zJ 5 rfl ?_ | refine zJ 6 rfl ?_ | refine zJ 7 rfl ?_ | refine SubH.rown ?_)) ?_; refine qp (fun w F s => load_tree (nn := nn) (k := k) s) ?_; obtain ⟨t1, ht1⟩ : ∃ t1 : Tr, t1 = (⟨b10, b8, k.ck, k.x.blk, nn, k.bs, k.A⟩ : Tr) := ⟨_, rfl⟩
     rw [← ht1] at hW ⊢; have htb : t1.tb = b10 := by rw [ht1]
     have htn : t1.next = nn := by rw [ht1]
     have hta : t1.ns = k.A := by rw [ht1]
     have h15 : ∀ u ∈ t1.ns, u.a.f = 15 := fun u hu => (hG.sb.a u (by rw [hta] at hu; exact hu)).2.2
     have hnm0 : k.x.name = [] := hG.sb.xname
     clear ht1; refine zH rfl (zL rfl) rfl (zT rfl (zy (Pre := []) Tryz.call44 rfl rfl (zR _) (tri_arg0 htb (save_spec (Tv.pick 0 rfl (qh t1)) hW (by omega)))) rfl ?_); rintro _ H' ⟨_, ⟨sb, p55, c55, rfl, hsv, hsl, rfl⟩, hH⟩; simp only [zy7] at hH; subst hH; refine zH rfl (zL rfl) rfl (zT rfl (zy (Pre := []) Tryz.call54 rfl rfl (zR _) (equal_spec _ _ _ _ _ sb l (zy5 0 rfl Vw.row) ((zy5 2 rfl hV)) rfl rfl)) rfl ?_); rintro _ H' ⟨_, ⟨rfl, rfl⟩, hH⟩; simp only [zy7] at hH; subst hH; refine zH rfl (qy rfl rfl) rfl (zH rfl (zr rfl rfl) rfl (zN (zI (zq rfl (fun hc59 => ?_) (fun hc59 => ?_)))))
     ·simp only [Bool.and_eq_true, decide_eq_true_eq, Bool.not_eq_true', decide_eq_false_iff_not, bne_iff_ne, ne_eq] at hc59; refine zM (q8 (L := [V]) (by repeat (first | exact zY _ | refine zJ 0 rfl ?_ | refine zJ 1 rfl ?_ | refine zJ 2 rfl ?_ | refine zJ 3 rfl ?_ | refine zJ 4 rfl ?_ | refine zJ 5 rfl ?_ | refine zJ 6 rfl ?_ | refine zJ 7 rfl ?_ | refine SubH.rown ?_)) ?_); refine qD (H' := [LoadA none, V]) (fun w F s => load_none s) ?_; refine zK (zH rfl (zO rfl) rfl (zH rfl (zO rfl) rfl (zN (zI (zi ?_))))); refine zh ?_; refine' zX (res2 rfl rfl rfl) ?_ ?_
      rotate_left 1
      refine ⟨_, ⟨none, rfl, fun s h => (by cases h), fun t0 r0 hW0 hn0 hS => ?_, rfl⟩, rfl⟩
      exfalso
      obtain ⟨hz1, n0, hF⟩ := load_fit e1 hS hW0 hn0
      rw [if_pos (by omega), hz1] at hw; obtain ⟨s, hs, q1, q2, q3, m2, q4, q5⟩ := hgc t0 r0 r0 n0 [] (hF _ hw)
      first
       | exact isNone_no hs hg28
       | (injection hs with hs
          subst hs; obtain ⟨q6, q7⟩ := hdr_same q4 q5 (by omega) (by have := hW0.lt r0 hW0.root; omega)
          first
           | exact absurd (q6.trans hW0.rid) (by omega)
           | (rw [q7, hW0.rdir] at hg48; exact absurd hg48 (by decide))
           | exact absurd (fin_here2 q1) (by simpa using hg53)
           | (refine absurd (save_same hsv hS (by rw [hta]; exact q4) (by rw [hta]; exact q5) (hF _ hw).deep (by omega)) (by simpa using hc59)))
      exact zj _
     ·simp only [Bool.and_eq_false_iff, decide_eq_false_iff_not, Bool.not_eq_false', decide_eq_true_eq] at hc59; refine zl ?_; refine zI (zM (q8 (L := [tree t1, V]) (by repeat (first | exact zY _ | refine zJ 0 rfl ?_ | refine zJ 1 rfl ?_ | refine zJ 2 rfl ?_ | refine zJ 3 rfl ?_ | refine zJ 4 rfl ?_ | refine zJ 5 rfl ?_ | refine zJ 6 rfl ?_ | refine zJ 7 rfl ?_ | refine SubH.rown ?_)) ?_)); refine qD (H' := [LoadA (some (t1, k.x)), V]) (fun w F s => s) ?_; refine zK (zH rfl (zL rfl) rfl (zH rfl (zO rfl) rfl (zH rfl (zO rfl) rfl (zN (zI ?_))))); refine zi ?_; refine' zX (res2 rfl rfl rfl) ?_ ?_
      rotate_left 1
      refine ⟨_, ⟨some (t1, k.x), by rw [← htb]; rfl, fun s h => ?_, fun t0 r0 hW0 hn0 hS => ⟨_, rfl⟩, rfl⟩, rfl⟩
      injection h with h
      subst h; exact ⟨hW, (by have h : sb = l := (by simpa using hc59); rw [← h]; exact hsv), by show t1.next ≤ _; omega, h15, hnm0⟩
      exact zj _
theorem nodup_from {α β : Type} {f : α → β} : ∀ {l : List α}, (l.map f).Nodup → l.Nodup
 | [], _ => List.nodup_nil
 | a :: l, h => by
  rw [List.map_cons, List.nodup_cons] at h; rw [List.nodup_cons]; exact ⟨fun ha => h.1 (List.mem_map.2 ⟨a, ha, rfl⟩), nodup_from h.2⟩
/-- the same things, the same next number -/
structure RelW (t : Tr) (w : Rt) : Prop where
 pm : (t.ns.map Nd.co).Perm (w.L.map Th.co)
 nx : t.next = w.next
 f15 : ∀ y ∈ w.L, y.a.f = 15
 rn : ∀ y ∈ w.L, y.id = 0 → y.name = []
section
variable {t : Tr} {w : Rt} {r : Nd} (hW : Wf t r) (h : RelW t w)
include h
theorem rel_tw {x : Nd} (hx : x ∈ t.ns) : ∃ y ∈ w.L, x.co = y.co := by
 obtain ⟨y, hy, e⟩ := List.mem_map.1 ((h.pm.mem_iff (a := x.co)).1 (List.mem_map.2 ⟨x, hx, rfl⟩))
 exact ⟨y, hy, e.symm⟩
include hW
omit h in
/-- what is said of where a thing would be put -/
def holdZ : (Option Nd × Nat) × Int → Int × Int
 | ((some y, _), _) => (y.id, 0)
 | ((none, _), e) => (0, e)
omit hW h in
omit hW h in
omit hW h in
omit hW h in
end
def attF (a : At) (y : Nd) : Nd := { y with a := a }
theorem attF_keeps (a : At) : Keeps (attF a) := ⟨fun _ => rfl, fun _ => rfl, fun _ => rfl, fun _ => rfl⟩
/-- this is told of x -/
def attT (t : Tr) (x : Nd) (a : At) : Tr := { t with ns := turnB x.blk (attF a) t.ns }
theorem nd_own {b : Nat} {x : Nd} : RdN (own b (.cells (Nd.cs x).toArray 98 (0, 0))) b (0 + 5) x.a.cs := fun j v hj => by
 refine Rd.own ?_; rw [Nd.cs, Nat.zero_add, List.getElem?_append_right (by simp)]; simpa using hj
theorem att_close {t : Tr} {x : Nd} {ix : Nat} {a : At} (hb : (t.ns.map Nd.blk).Nodup) (h : t.ns[ix]? = some x) {w : World} {F : HProp}
 (s : sat w (star (St [own x.blk (.cells (Nd.cs (attF a x)).toArray 98 (0, 0)), rowP x.kp x.kc x.kids, rowD x.dp x.dc x.data, nds (t.ns.eraseIdx ix), own t.tb (.cells ([.pointer (some ⟨t.rb, 0, none⟩), .map (some t.mb), .int .i64 ((t.next : Nat) : Int), .int .i64 ((t.bytes : Nat) : Int)] : List Value).toArray 95 (0, 0)), own t.mb (mapO (t.ns.map Nd.me) t.ck)]) F)) : sat w (star (St [tree (attT t x a)]) F) := by
 have s1 := nds_cl (y := attF a x) h s
 rw [set_turn hb h, ← turn_me (f := attF a) (fun _ => rfl) x.blk t.ns] at s1; refine xO (t := attT t x a) (L := []) ?_; have hs : SubH [nds (turnB x.blk (attF a) t.ns), own t.tb (.cells ([.pointer (some ⟨t.rb, 0, none⟩), .map (some t.mb), .int .i64 ((t.next : Nat) : Int), .int .i64 ((t.bytes : Nat) : Int)] : List Value).toArray 95 (0, 0)), own t.mb (mapO ((turnB x.blk (attF a) t.ns).map Nd.me) t.ck)] (trL (attT t x a) ++ []) := zJ 1 rfl (zJ 1 rfl (zJ 0 rfl (zY _)))
 exact hs w F s1
theorem wf_att {t : Tr} {r x : Nd} {a : At} (hW : Wf t r) (ha : a.Ok ∧ a.s = 0) : Wf (attT t x a) (if r.blk = x.blk then attF a r else r) := by
 have hF := attF_keeps a
 have same : ∀ y : Nd, (if y.blk = x.blk then attF a y else y).dir = y.dir ∧ (if y.blk = x.blk then attF a y else y).data = y.data ∧ ((if y.blk = x.blk then attF a y else y).a = y.a ∨ (if y.blk = x.blk then attF a y else y).a = a) := fun y => by
  split
  ·exact ⟨rfl, rfl, .inr rfl⟩
  ·exact ⟨rfl, rfl, .inl rfl⟩
 have gof : ∀ u ∈ (attT t x a).ns, ∃ y ∈ t.ns, u = (if y.blk = x.blk then attF a y else y) := fun u hu => yj hu
 refine ⟨kd_turn hF (fun _ => rfl) x.blk hW.kd, turn_in hW.root, by rw [(qN hF r).1]; exact hW.rb, by rw [(qN hF r).2.1]; exact hW.rid, by rw [(qN hF r).2.2.1]; exact hW.rpar, by rw [(same r).1]; exact hW.rdir, ?_, fun u hu => ?_, fun u hu => ?_, fun u hu => ?_, ?_, ?_, fun u hu hdu => ?_, ?_, hW.max, fun u hu => ?_⟩
 ·show ((turnB x.blk _ t.ns).map Nd.id).Nodup
  have e1 : (turnB x.blk (attF a) t.ns).map Nd.id = t.ns.map Nd.id := by
   unfold turnB; rw [List.map_map]; exact List.map_congr_left fun y _ => (qN hF y).2.1
  rw [e1]; exact hW.ids
 ·obtain ⟨y, hy, rfl⟩ := gof u hu
  rw [(qN hF y).2.1]; exact hW.lt y hy
 ·obtain ⟨y, hy, rfl⟩ := gof u hu
  rw [(qN hF y).2.1, (qN hF y).2.2.1]
  rcases hW.par y hy with h1 | ⟨v, h1, h2, h3⟩
  ·exact .inl h1
  ·exact .inr ⟨_, turn_in h1, by rw [(qN hF v).2.1]; exact h2, by rw [(same v).1]; exact h3⟩
 ·obtain ⟨y, hy, rfl⟩ := gof u hu
  rw [(qN hF y).2.1, (qN hF y).2.2.2]; exact hW.nm y hy
 ·obtain ⟨d, hd1⟩ := hW.rk
  refine ⟨d, fun u hu v hv hp => ?_⟩; obtain ⟨y, hy, rfl⟩ := gof u hu
  obtain ⟨z, hz, rfl⟩ := gof v hv
  rw [(qN hF z).2.2.1, (qN hF y).2.1] at hp; rw [(qN hF z).2.1, (qN hF y).2.1]; exact hd1 y hy z hz hp
 ·show (turnB x.blk _ t.ns).length ≤ 200
  rw [turnB, List.length_map]; exact hW.few
 ·obtain ⟨y, hy, rfl⟩ := gof u hu
  rw [(same y).1] at hdu; rw [(same y).2.1]; exact hW.dat y hy hdu
 ·show t.bytes = ((turnB x.blk (attF a) t.ns).map fun y : Nd => y.data.length).sum
  rw [hW.sum]; congr 1
  unfold turnB; rw [List.map_map]; exact List.map_congr_left fun y _ => by show _ = (if y.blk = x.blk then attF a y else y).data.length; rw [(same y).2.1]
 ·obtain ⟨y, hy, rfl⟩ := gof u hu
  rcases (same y).2.2 with h | h
  ·rw [h]; exact hW.a y hy
  ·rw [h]; exact ha
/-- the file has its size -/
structure SetP (t : Tr) (x : Nd) (bw : At) (t1 : Tr) (x1 : Nd) (ix : Nat) : Prop where
 at' : t1.ns[ix]? = some x1
 blk : x1.blk = x.blk
 a : x1.a = x.a
 ok : x1.a.Ok
 blks : (t1.ns.map Nd.blk).Nodup
 ri : bw.right = true
 fin : (bw.f &&& 1 ≠ 0 ∧ x.dir = false ∧ szE t x bw.s = 0 ∧ ∃ b, t1 = dataT t x (some ⟨b, 0, none⟩) bw.s (szd x.data bw.s) ∧ x1 = datF (some ⟨b, 0, none⟩) bw.s (szd x.data bw.s) x) ∨ (bw.f &&& 1 = 0 ∧ t1 = t ∧ x1 = x)
theorem setP_data {t : Tr} {r x : Nd} {bw : At} {ix b : Nat} (hW : Wf t r) (hix : t.ns[ix]? = some x) (hr : bw.right = true) (hf : bw.f &&& 1 ≠ 0) (hd : x.dir = false) (hz : szE t x bw.s = 0) : SetP t x bw (dataT t x (some ⟨b, 0, none⟩) bw.s (szd x.data bw.s)) (datF (some ⟨b, 0, none⟩) bw.s (szd x.data bw.s) x) ix :=
 ⟨data_at hW.kd.blks hix, rfl, rfl, (hW.a x (List.mem_of_getElem? hix)).1, by show ((turnB x.blk _ t.ns).map Nd.blk).Nodup; rw [turn_blk (datF_keeps _ _ _)]; exact hW.kd.blks, hr, .inl ⟨hf, hd, hz, b, rfl, rfl⟩⟩
theorem setP_same {t : Tr} {r x : Nd} {bw : At} {ix : Nat} (hW : Wf t r) (hix : t.ns[ix]? = some x) (hr : bw.right = true) (hf : bw.f &&& 1 = 0) : SetP t x bw t x ix :=
 ⟨hix, rfl, rfl, (hW.a x (List.mem_of_getElem? hix)).1, hW.kd.blks, hr, .inr ⟨hf, rfl, rfl⟩⟩
def SetR (t : Tr) (id : Int) (bw : At) (t' : Tr) (e : Int) : Prop :=
 (byId t.ns id = none ∧ e = 22 ∧ t' = t) ∨ ∃ x, byId t.ns id = some x ∧
  ((bw.right = false ∧ e = 1 ∧ t' = t) ∨ (bw.right = true ∧ bw.f &&& 1 ≠ 0 ∧ x.dir = true ∧ e = 23 ∧ t' = t) ∨ (bw.right = true ∧ bw.f &&& 1 ≠ 0 ∧ x.dir = false ∧ szE t x bw.s = e ∧ e ≠ 0 ∧ t' = t) ∨
   (bw.right = true ∧ e = 0 ∧ ∃ t1 x1, ((bw.f &&& 1 ≠ 0 ∧ x.dir = false ∧ szE t x bw.s = 0 ∧ ∃ b, t1 = dataT t x (some ⟨b, 0, none⟩) bw.s (szd x.data bw.s) ∧ x1 = datF (some ⟨b, 0, none⟩) bw.s (szd x.data bw.s) x) ∨ (bw.f &&& 1 = 0 ∧ t1 = t ∧ x1 = x)) ∧ x1.blk = x.blk ∧ x1.a = x.a ∧ t' = attT t1 x1 ({ x1.a.merge bw with s := 0 } : At)))
theorem szE_max {t : Tr} {x : Nd} {n : Nat} (h : szE t x n = 0) : n ≤ 1048576 ∧ t.bytes + n - x.data.length ≤ 1048576 := by
 unfold szE at h
 split at h
 ·cases h
 ·split at h
  ·cases h
  ·omega
theorem set_wf {t : Tr} {r : Nd} {id : Int} {bw : At} {t' : Tr} {e : Int} (hW : Wf t r) (hbw : bw.Ok) (h : SetR t id bw t' e) : (∃ r', Wf t' r') ∧ t'.next = t.next ∧ t'.tb = t.tb ∧ (e ≠ 0 → t' = t) := by
 rcases h with ⟨_, rfl, rfl⟩ | ⟨x, hb, ⟨_, rfl, rfl⟩ | ⟨_, _, _, rfl, rfl⟩ | ⟨_, _, _, _, he, rfl⟩ | ⟨_, rfl, t1, x1, h1, h2, h3, rfl⟩⟩
 ·exact ⟨⟨r, hW⟩, rfl, rfl, fun _ => rfl⟩
 ·exact ⟨⟨r, hW⟩, rfl, rfl, fun _ => rfl⟩
 ·exact ⟨⟨r, hW⟩, rfl, rfl, fun _ => rfl⟩
 ·exact ⟨⟨r, hW⟩, rfl, rfl, fun _ => rfl⟩
 ·have hx := (yD hb).1
  have ha : (({ x1.a.merge bw with s := 0 } : At)).Ok ∧ (({ x1.a.merge bw with s := 0 } : At)).s = 0 := by
   have := merge_ok (by rw [h3]; exact (hW.a x hx).1 : x1.a.Ok) hbw
   exact ⟨⟨this.f, (by show (0 : Nat) < 18446744073709551616; decide), this.u, this.g, this.m, this.a, this.t⟩, rfl⟩
  rcases h1 with ⟨_, hd, hz, b, rfl, rfl⟩ | ⟨_, rfl, rfl⟩
  ·have hm := szE_max hz
   exact ⟨⟨_, wf_att (wf_data hW hx hd (by rw [szd_len]; exact hm.2)) ha⟩, rfl, rfl, fun h => absurd rfl h⟩
  ·exact ⟨⟨_, wf_att hW ha⟩, rfl, rfl, fun h => absurd rfl h⟩
theorem set_spec {t : Tr} {r : Nd} (hW : Wf t r) (id : Int) (bw : At) (hbw : bw.Ok) : Tri Tryz.prog 35 [t.v, .int .i64 id, bw.v] [tree t] (fun v H' => ∃ t' e, v = .int .i64 e ∧ SetR t id bw t' e ∧ H' = [tree t']) := by
 cases hb : byId t.ns id with
 | none =>
  refine zt Tryz.func35 rfl Tryz.ntmps35 (by simp) ?_; refine zM (zK (zT rfl (qj rfl) rfl ?_)); rintro _ _ ⟨b5, rfl, rfl⟩; refine zH rfl (zO rfl) rfl (zN (zI (zM (zK (zH rfl (zL rfl) rfl ?_))))); refine zH rfl (zU rfl) rfl (zH rfl (zP fa95_1 rfl) rfl (zH rfl (zW sc93 rfl (zy4 1 rfl (((qh t).cs 1 _ rfl)))) rfl (zH rfl (zL rfl) rfl (zH rfl (xB Tryz.underlying93 Tryz.underlying3 z92 rfl rfl (Mp.pick 1 rfl (qh t).mp)) rfl ?_)))); rw [xT, hb]; dsimp only [ptrO, Option.map]; refine zH rfl (zO rfl) rfl (zN (zI (zM (qA ?_)))); refine zM (zK (zH rfl (zL rfl) rfl (zH rfl (qI Tryz.underlying92 rfl rfl rfl) rfl (zH rfl (zO rfl) rfl (zN ?_))))); refine zI (qG rfl ?_); refine zM (zK (zH rfl (zO rfl) rfl (zN (zI (zi ?_))))); refine zn ?_; refine zh ?_; refine' zX (qk rfl rfl) ?_ ?_
  rotate_left 1
  exact ⟨t, 22, rfl, .inl ⟨hb, rfl, rfl⟩, rfl⟩
  exact (zJ 1 rfl (zY _))
 | some x =>
  have hx := (yD hb).1
  obtain ⟨ix, hix⟩ := List.mem_iff_getElem?.1 hx
  refine zt Tryz.func35 rfl Tryz.ntmps35 (by simp) ?_; refine zM (zK (zT rfl (qj rfl) rfl ?_)); rintro _ _ ⟨b5, rfl, rfl⟩; refine zH rfl (zO rfl) rfl (zN (zI (zM (zK (zH rfl (zL rfl) rfl ?_))))); refine zH rfl (zU rfl) rfl (zH rfl (zP fa95_1 rfl) rfl (zH rfl (zW sc93 rfl (zy4 1 rfl (((qh t).cs 1 _ rfl)))) rfl (zH rfl (zL rfl) rfl (zH rfl (xB Tryz.underlying93 Tryz.underlying3 z92 rfl rfl (Mp.pick 1 rfl (qh t).mp)) rfl ?_)))); rw [xT, hb]; dsimp only [ptrO, Option.map]; refine zH rfl (zO rfl) rfl (zN (zI ?_)); refine yO 1008 (fun Δ LL => (bw.right = true ∧ (bw.f &&& 1 ≠ 0 → x.dir = false)) ∧ Δ = [] ∧ LL = [own b5 (.cells bw.cs.toArray 30 (0, 0)), tree t]) (zS (k := 0) rfl (zS (k := 5) rfl (zS (k := 7) rfl (zf _)))) ?_ ?_
  ·refine qA ?_; refine zM (zK (zH rfl (zL rfl) rfl (zH rfl (qI Tryz.underlying92 rfl rfl rfl) rfl (zH rfl (zO rfl) rfl (zN ?_))))); refine zI (qC rfl ?_); refine zM (zK (zH rfl (qX ag30 rfl (zy6 0 rfl zx) rfl) rfl (zT rfl (zb Tryz.call30 rfl rfl (by repeat (first | exact zR _ | apply zG 0 rfl | apply zG 1 rfl | apply zG 2 rfl | apply zG 3 rfl | apply zG 4 rfl | apply zG 5 rfl | apply zG 6 rfl | apply zG 7 rfl)) (right_spec bw hbw)) rfl ?_))); rintro _ H' ⟨_, ⟨rfl, rfl⟩, hH⟩; simp only [zy7] at hH; subst hH; refine zH rfl (qy rfl rfl) rfl (zH rfl (zO rfl) rfl (zN (zI (zq rfl (fun hc18 => ?_) (fun hc18 => ?_)))))
   ·simp only [Bool.and_eq_true, decide_eq_true_eq, Bool.not_eq_true', decide_eq_false_iff_not, bne_iff_ne, ne_eq] at hc18; have hr : bw.right = false := by simpa using hc18
    refine zM (zK (zH rfl (zO rfl) rfl (zN (zI (zi ?_))))); refine zn ?_; refine zh ?_; refine' zX (qk rfl rfl) ?_ ?_
    rotate_left 1
    exact ⟨t, 1, rfl, .inr ⟨x, hb, .inl ⟨hr, rfl, rfl⟩⟩, rfl⟩
    exact (zJ 1 rfl (zY _))
   ·simp only [Bool.and_eq_false_iff, decide_eq_false_iff_not, Bool.not_eq_false', decide_eq_true_eq] at hc18; have hr : bw.right = true := by simpa using hc18
    refine zM (zK (zH rfl (zP yg rfl) rfl (zH rfl (zW yB rfl (zy4 0 rfl (Rd.own rfl))) rfl (zH rfl (ya rfl rfl (xE hbw.f (by decide) rfl)) rfl (zH rfl (q9 rfl rfl rfl) rfl ?_))))); refine qi rfl rfl rfl (fun hg27 => ?_) (fun hg27 => ?_)
    ·replace hg27 := zy2 hg27
     dsimp only at hg27; refine zH rfl (zL rfl) rfl (zH rfl (zU rfl) rfl (zH rfl (zP fa98_1 rfl) rfl (zH rfl (zW sc4 rfl (zy4 1 rfl (((qh t).nd x hx 1 _ rfl)))) rfl (zH rfl (zr rfl rfl) rfl (zH rfl (zO rfl) rfl ?_))))); refine zN (zI (zq rfl (fun hc22 => ?_) (fun hc22 => ?_)))
     ·skip; refine zM (zK (zH rfl (zO rfl) rfl (zN (zI (zi ?_))))); refine zn ?_; refine zh ?_; refine' zX (qk rfl rfl) ?_ ?_
      rotate_left 1
      exact ⟨t, 23, rfl, .inr ⟨x, hb, .inr (.inl ⟨hr, by omega, by simpa using hc22, rfl, rfl⟩)⟩, rfl⟩
      exact (zJ 1 rfl (zY _))
     ·skip; refine zl ?_; refine zQ ?_; refine zI (qc (qn ⟨⟨hr, fun _ => by simpa using hc22⟩, rfl, rfl⟩ ?_ ?_ ?_))
      ·exact (by repeat (first | exact zf _ | refine zS rfl ?_))
      ·exact (by repeat (first | exact zf _ | refine zS rfl ?_))
      ·exact zj _
    ·replace hg27 := zy3 hg27
     dsimp only at hg27; refine zZ rfl rfl (zZ rfl rfl (zZ rfl rfl (zZ rfl rfl (zH rfl (zr rfl rfl) rfl (zH rfl (zO rfl) rfl ?_))))); refine zN (zI (qC rfl ?_)); refine zl ?_; refine zQ ?_; refine zI (qc (qn ⟨⟨hr, fun h => absurd h (by omega)⟩, rfl, rfl⟩ ?_ ?_ ?_))
     ·exact (by repeat (first | exact zf _ | refine zS rfl ?_))
     ·exact (by repeat (first | exact zf _ | refine zS rfl ?_))
     ·exact zj _
  ·rintro Δ LL ⟨⟨hr, hq⟩, rfl, rfl⟩; simp only [zA, zB]; refine yO 1012 (fun Δ LL => ∃ (t1 : Tr) (x1 : Nd), (SetP t x bw t1 x1 ix) ∧ Δ = [] ∧ LL = [own b5 (.cells bw.cs.toArray 30 (0, 0)), tree t1]) (zS (k := 5) rfl (zS (k := 7) rfl (zf _))) ?_ ?_
   ·refine zM (zK (zH rfl (zP yg rfl) rfl (zH rfl (zW yB rfl (zy4 0 rfl (Rd.own rfl))) rfl (zH rfl (ya rfl rfl (xE hbw.f (by decide) rfl)) rfl (zH rfl (q9 rfl rfl rfl) rfl ?_))))); refine zN (zI (zq rfl (fun hc36 => ?_) (fun hc36 => ?_)))
    ·replace hc36 := zy2 hc36
     dsimp only at hc36; have hd : x.dir = false := hq (by omega)
     refine zM (zK (zH rfl (zL rfl) rfl (zH rfl (zL rfl) rfl (zH rfl (zP fa30_1 rfl) rfl (zH rfl (zW sc28 rfl (zy4 0 rfl (Rd.own rfl))) rfl ?_))))); refine zT rfl (zb Tryz.call79 rfl rfl (by repeat (first | exact zR _ | apply zG 0 rfl | apply zG 1 rfl | apply zG 2 rfl | apply zG 3 rfl | apply zG 4 rfl | apply zG 5 rfl | apply zG 6 rfl | apply zG 7 rfl)) (sized_spec hW hx bw.s hbw.s)) rfl ?_; rintro _ H' ⟨_, ⟨t1, e, rfl, hR, rfl⟩, hH⟩; simp only [zy7] at hH; subst hH; refine zH rfl (zO rfl) rfl (zN (zI (zM (zK (zH rfl (zL rfl) rfl ?_))))); refine zH rfl (q9 rfl rfl rfl) rfl (zN (zI (zq rfl (fun hc43 => ?_) (fun hc43 => ?_))))
     ·replace hc43 := zy2 hc43
      refine zM (zK (zH rfl (zL rfl) rfl (zH rfl (zO rfl) rfl (zN (zI ?_))))); refine zi ?_; refine zh ?_; refine' zX (qk rfl rfl) ?_ ?_
      rotate_left 1
      rcases hR with ⟨h1, rfl, h3⟩ | ⟨h1, _⟩
      ·exact ⟨_, e, rfl, .inr ⟨x, hb, .inr (.inr (.inl ⟨hr, by omega, hd, h3, h1, rfl⟩))⟩, rfl⟩
      ·exact absurd h1 (by omega)
      exact (zJ 0 rfl (zY _))
     ·replace hc43 := zy3 hc43
      obtain ⟨hz, b0, rfl⟩ : szE t x bw.s = 0 ∧ ∃ b0, t1 = dataT t x (some ⟨b0, 0, none⟩) bw.s (szd x.data bw.s) := by
       rcases hR with ⟨h1, _⟩ | ⟨_, h2⟩
       ·exact absurd h1 (by omega)
       ·exact h2
      refine zl ?_; refine zI (qc (qn ⟨dataT t x (some ⟨b0, 0, none⟩) bw.s (szd x.data bw.s), datF (some ⟨b0, 0, none⟩) bw.s (szd x.data bw.s) x, (setP_data hW hix hr (by omega) hd hz), rfl, rfl⟩ ?_ ?_ ?_))
      ·exact (by repeat (first | exact zf _ | refine zS rfl ?_))
      ·exact (by repeat (first | exact zf _ | refine zS rfl ?_))
      ·exact (zJ 1 rfl (zJ 0 rfl (zY _)))
    ·replace hc36 := zy3 hc36
     dsimp only at hc36; refine zl ?_; refine zI (qc (qn ⟨t, x, (setP_same hW hix hr (by omega)), rfl, rfl⟩ ?_ ?_ ?_))
     ·exact (by repeat (first | exact zf _ | refine zS rfl ?_))
     ·exact (by repeat (first | exact zf _ | refine zS rfl ?_))
     ·exact zj _
   ·rintro Δ LL ⟨t1, x1, hP, rfl, rfl⟩; simp only [zA, zB]; refine zM ?_; rw [← hP.blk]; refine q8 (L := [tree t1, own b5 (.cells bw.cs.toArray 30 (0, 0))]) (by repeat (first | exact zY _ | refine zJ 0 rfl ?_ | refine zJ 1 rfl ?_ | refine zJ 2 rfl ?_ | refine zJ 3 rfl ?_ | refine zJ 4 rfl ?_ | refine zJ 5 rfl ?_ | refine zJ 6 rfl ?_ | refine zJ 7 rfl ?_ | refine SubH.rown ?_)) ?_; refine qD (H' := trL t1 ++ [own b5 (.cells bw.cs.toArray 30 (0, 0))]) (fun w F s => tree_open s) ?_; simp only [trL, zA, zB]; refine q8 (L := [nds t1.ns, own t1.tb (.cells ([.pointer (some ⟨t1.rb, 0, none⟩), .map (some t1.mb), .int .i64 ((t1.next : Nat) : Int), .int .i64 ((t1.bytes : Nat) : Int)] : List Value).toArray 95 (0, 0)), own t1.mb (mapO (t1.ns.map Nd.me) t1.ck), own b5 (.cells bw.cs.toArray 30 (0, 0))]) (by repeat (first | exact zY _ | refine zJ 0 rfl ?_ | refine zJ 1 rfl ?_ | refine zJ 2 rfl ?_ | refine zJ 3 rfl ?_ | refine zJ 4 rfl ?_ | refine zJ 5 rfl ?_ | refine zJ 6 rfl ?_ | refine zJ 7 rfl ?_ | refine SubH.rown ?_)) ?_; refine qD (fun w F s => nds_op hP.at' s) ?_; refine qZ 7 (by kernel_rfl) (zG 0 rfl (zG 5 rfl (zR _))) ?_; refine zRO (i := 0) (by kernel_rfl) rfl rfl (zL rfl) rfl (zRO (i := 1) (by kernel_rfl) rfl rfl (zL rfl) rfl (zRO (i := 2) (by kernel_rfl) rfl rfl (zU rfl) rfl (zRO (i := 3) (by kernel_rfl) rfl rfl (zP fa98_5 rfl) rfl (zRO (i := 4) (by kernel_rfl) rfl rfl (qX ag30 rfl (zy6 0 rfl (nd_own)) rfl) rfl (zRO (i := 5) (by kernel_rfl) rfl rfl (qX ag30 rfl (zy6 1 rfl zx) rfl) rfl ?_))))); refine qM (i := 6) (by kernel_rfl) rfl rfl (zb Tryz.call80 rfl rfl (by repeat (first | exact zR _ | apply zG 0 rfl | apply zG 1 rfl | apply zG 2 rfl | apply zG 3 rfl | apply zG 4 rfl | apply zG 5 rfl | apply zG 6 rfl | apply zG 7 rfl)) (merge_spec x1.a bw hP.ok hbw)) rfl ?_; rintro _ H' ⟨_, ⟨rfl, rfl⟩, hH⟩; simp only [zy7] at hH; subst hH; refine qR (m' := 10) (L' := []) (by kernel_rfl) qx ?_; simp only [zA, zB, List.append_nil]; refine zRO (i := 7) (by kernel_rfl) rfl rfl (zU rfl) rfl (zRO (i := 8) (by kernel_rfl) rfl rfl (zP fa98_5 rfl) rfl (qq (i := 9) (by kernel_rfl) rfl rfl (zm 0 ag30 rfl rfl rfl rfl rfl (zy1 rfl) (zg _)) rfl ?_)); rintro _ _ rfl; refine qT (by kernel_rfl) ?_; refine zI (zM (zK (zH rfl (zL rfl) rfl (zH rfl (zU rfl) rfl (zH rfl (zP fa98_5 rfl) rfl ?_))))); refine zH rfl (zP fa30_1 rfl) rfl (zo rfl (qP 0 sc28 rfl rfl rfl rfl (zy1 rfl) (zg _)) rfl ?_); rintro _ _ rfl; refine zN (zI (zM (q8 (L := [own x1.blk (.cells (Nd.cs (attF ({ x1.a.merge bw with s := 0 } : At) x1)).toArray 98 (0, 0)), rowP x1.kp x1.kc x1.kids, rowD x1.dp x1.dc x1.data, nds (t1.ns.eraseIdx ix), own t1.tb (.cells ([.pointer (some ⟨t1.rb, 0, none⟩), .map (some t1.mb), .int .i64 ((t1.next : Nat) : Int), .int .i64 ((t1.bytes : Nat) : Int)] : List Value).toArray 95 (0, 0)), own t1.mb (mapO (t1.ns.map Nd.me) t1.ck)]) (by repeat (first | exact zY _ | refine zJ 0 rfl ?_ | refine zJ 1 rfl ?_ | refine zJ 2 rfl ?_ | refine zJ 3 rfl ?_ | refine zJ 4 rfl ?_ | refine zJ 5 rfl ?_ | refine zJ 6 rfl ?_ | refine zJ 7 rfl ?_ | refine SubH.rown ?_)) ?_))); refine qD (H' := [tree (attT t1 x1 ({ x1.a.merge bw with s := 0 } : At))]) (fun w F s => att_close hP.blks hP.at' s) ?_; refine zK (zH rfl (zO rfl) rfl (zN (zI (zi ?_)))); refine' zX (qk rfl rfl) ?_ ?_
    rotate_left 1
    exact ⟨_, 0, rfl, .inr ⟨x, hb, .inr (.inr (.inr ⟨hP.ri, rfl, t1, x1, hP.fin, hP.blk, hP.a, rfl⟩))⟩, rfl⟩
    exact zj _
end Go.Proofs.YtlefpllcgcicpaaGreatDoor
