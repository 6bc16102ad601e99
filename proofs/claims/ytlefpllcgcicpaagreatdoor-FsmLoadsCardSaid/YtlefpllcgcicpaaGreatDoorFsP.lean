/-
  Package fsm: Save.
  What attr.Get does.
  Package fsm: handles read: plain laws.
  Package fsm: handles read: what each step tells.
  Law 16: a tree that has one file: what its machine answers.
-/
import Derived.Test.YtlefpllcgcicpaaGreatDoorFsPu
import Derived.Test.YtlefpllcgcicpaaGreatDoorSxFork
import Derived.Test.YtlefpllcgcicpaaGreatDoorAttr
import Derived.Test.YtlefpllcgcicpaaGreatDoorTrHw
import Derived.Test.YtlefpllcgcicpaaGreatDoorTrH
import Derived.Test.YtlefpllcgcicpaaGreatDoorTrK
set_option linter.unusedVariables false
set_option linter.unusedSimpArgs false
namespace Go.Proofs.YtlefpllcgcicpaaGreatDoor
open Go.Sx
set_option maxRecDepth 100000
set_option maxHeartbeats 4000000
theorem Hd.one (x : Hd) : ∀ v ∈ x.cs, v.oneCell' = true := fun v hv => by
 simp only [Hd.cs, List.mem_cons, List.not_mem_nil, or_false] at hv
 rcases hv with rfl | rfl | rfl | rfl | rfl <;> rfl
theorem flat_all {α : Type} {f : α → List Value} (h : ∀ x, ∀ v ∈ f x, v.oneCell' = true) (l : List α) : (flat f l).all Value.oneCell' = true := List.all_eq_true.2 fun v hv => by
 obtain ⟨x, _, hx⟩ := List.mem_flatMap.1 (show v ∈ l.flatMap f from hv)
 exact h x v hx
theorem yq {cs vs : List Value} (h : vs.length = cs.length) : yE cs 0 vs = vs := by
 unfold yE; rw [List.take_zero, List.nil_append, Nat.zero_add, h, List.drop_length, List.append_nil]
theorem seatL_len {hs : List Hd} {s : Nat} (hl : hs.length = 256) (h16 : s < 16) : (flat Hd.cs ((hs.drop (s * 16)).take 16)).length = 80 := by rw [yh Hd.len, List.length_take, List.length_drop]; omega
theorem seatL_eq {hs : List Hd} (s : Nat) : ((flat Hd.cs hs).drop (s * 80)).take 80 = flat Hd.cs ((hs.drop (s * 16)).take 16) := by
 rw [← flat_take Hd.len, ← flat_drop Hd.len, show s * 16 * 5 = s * 80 by omega]
theorem ro_indexD {P : Program} {n : Nat} {Γ : Env} {d : Option Tmp} {ty : TypeId} {pos : String} {aft : Array Edge} {g : Option (Nat × Bool)} {L : HProp} {k : Nat} {t e : TypeId} {m : Nat} {x ix : Operand} {kk : IntKind} {ii : Int} {i : Nat} {cs : List Value} (ht : P.underlying t = some (.array m e)) (he : Aggr P e k)
 (hx : ev Γ x = some (.agg cs.toArray)) (hi : ev Γ ix = some (.int kk ii)) (hj : ii = (i : Int)) (hlt : i < m) : RO P n L Γ ⟨d, .index t x ix, ty, pos, aft, g⟩ (.agg ((cs.drop (i * k)).take k).toArray) := fun a w R fi s => by
 subst hj; simp [execOp, fi.ev hx, fi.ev hi, Instr.index, asIntOf, run_underlying ht, hlt, he.size, part, he.agg]
theorem encS_take {hs : List Hd} {s i : Nat} (hl : hs.length = 256) (h16 : s < 16) (hi : i < 16) : (hs.take (s * 16 + i + 1)).flatMap encH = (hs.take (s * 16 + i)).flatMap encH ++ encH (hdA hs s i) := by
 have h := hd_some hl h16 hi
 obtain ⟨hlt, he⟩ := List.getElem?_eq_some_iff.1 h
 rw [List.take_succ_eq_append_getElem hlt, List.flatMap_append, List.flatMap_cons, List.flatMap_nil, List.append_nil, he]
theorem encS_len : ∀ {l : List Hd}, (∀ x ∈ l, HdS x) → (l.flatMap encH).length ≤ 70013 * l.length
 | [], _ => by simp
 | x :: l, h => by
  have h1 := encS_len (l := l) fun y hy => h y (List.mem_cons_of_mem _ hy)
  have h2 := encH_len (h x (by simp))
  rw [List.flatMap_cons, List.length_append, List.length_cons]; omega
theorem xH {V : HProp} {mb tb : Nat} {t : Tr} {hs : List Hd} (hM : Mq V mb tb t hs) {r : Nd} (hW : Wf t r) (hnx : t.next ≤ 9223372036854775807) (hl : hs.length = 256) (hSv : ∀ h ∈ hs, HdS h) (hVn : ∀ h ∈ hs, Vw V (.slice h.np h.names.length h.nc) h.names.length (flat Nm.cs h.names)) :
 Tri Tryz.prog 24 [.pointer (some ⟨mb, 0, none⟩)] [V] (fun v H' => ∃ K, (∃ b p c sb, v = .slice p b.length c ∧ SaveR t r sb ∧ sb.length ≤ 1100008 ∧ b = be sb.length 4 ++ sb ++ hs.flatMap encH ∧ b.length ≤ 1000000000 ∧ K = [rowD p c b]) ∧ H' = K ++ [V]) := by
 refine zt Tryz.func24 rfl Tryz.ntmps24 (by simp) ?_; refine zM (zK (zH rfl (zO rfl) rfl (zN (zI (zM ?_))))); refine zK (zT rfl (zb Tryz.call46 rfl rfl (by repeat (first | exact zR _ | apply zG 0 rfl | apply zG 1 rfl | apply zG 2 rfl | apply zG 3 rfl | apply zG 4 rfl | apply zG 5 rfl | apply zG 6 rfl | apply zG 7 rfl)) (newWriter_spec)) rfl ?_); rintro _ H' ⟨_, ⟨pw, rfl, rfl⟩, hH⟩; simp only [zy7] at hH; subst hH; refine zH rfl (zO rfl) rfl (zN (zI (zM (zK (zH rfl (zL rfl) rfl ?_))))); refine zH rfl (zL rfl) rfl (zH rfl (zU rfl) rfl (zH rfl (zP yT rfl) rfl (zH rfl (zW sc51 rfl (zy4 2 rfl (hM.pt))) rfl (zT rfl (zy (Pre := []) Tryz.call44 rfl rfl (zR _) (qf hM.tb (save_spec (Tv.pick 2 rfl hM.tv) hW hnx))) rfl ?_)))); rintro _ H' ⟨_, ⟨sb, p14, c14, rfl, hS, hsl, rfl⟩, hH⟩; simp only [zy7] at hH; subst hH; refine zH rfl (yp Tryz.underlying25 Tryz.underlying5 Tryz.underlying9 rfl (zy5 0 rfl Vw.row) rfl) rfl (zT rfl (zb Tryz.call47 rfl rfl (by repeat (first | exact zR _ | apply zG 0 rfl | apply zG 1 rfl | apply zG 2 rfl | apply zG 3 rfl | apply zG 4 rfl | apply zG 5 rfl | apply zG 6 rfl | apply zG 7 rfl)) (text_at pw none 0 [] sb (by simp only [List.length_nil]; omega))) rfl ?_); rintro _ H' ⟨_, ⟨p1, c1, rfl, rfl⟩, hH⟩; simp only [zy7] at hH; subst hH
 try rw [List.nil_append]
 generalize hl1 : be sb.length 4 ++ sb = l1
 have hn1 : l1.length = 4 + sb.length := by rw [← hl1]; simp only [List.length_append, qE]
 refine zN (zI (zM (zM (zK (zH rfl (zL rfl) rfl ?_))))); refine zH rfl (zU rfl) rfl (zH rfl (zP fa71_1 rfl) rfl (zH rfl (qX ag69 rfl (zy6 3 rfl (show RdN V mb (0 + 1) (flat Hd.cs hs) from hM.hv)) (by rw [yh Hd.len, hl])) rfl (zH rfl (zL rfl) rfl (zN (zI ?_))))); refine qA ?_; refine yQ 4 (fun m Δ LL => ∃ (s : Nat) (z : List UInt8) (p6 : Option Addr) (c6 : Nat), (s + m = 16 ∧ z = l1 ++ (hs.take (s * 16)).flatMap encH) ∧ Δ = [(21, .int .i64 (s : Nat))] ∧ LL = [own pw (.cells [Value.slice p6 (z).length c6].toArray 135 (0, 0)), row 5 1 (.slice p6 (z).length c6) (z).length (cel (z)), V]) (m := 16) (zS (k := 3) rfl (zS (k := 20) rfl (zf _))) (qn ⟨0, l1, p1, c1, ⟨by omega, by simp⟩, rfl, rfl⟩ (by repeat (first | exact zf _ | refine zS rfl ?_)) (by repeat (first | exact zf _ | refine zS rfl ?_)) (by repeat (first | exact zY _ | refine zJ 0 rfl ?_ | refine zJ 1 rfl ?_ | refine zJ 2 rfl ?_ | refine zJ 3 rfl ?_ | refine zJ 4 rfl ?_ | refine zJ 5 rfl ?_ | refine zJ 6 rfl ?_ | refine zJ 7 rfl ?_ | refine SubH.rown ?_))) ?_; rintro m Δ LL ⟨s, z, p6, c6, ⟨hm, hz⟩, rfl, rfl⟩; simp only [zA, zB]; refine zM (zK (zH rfl (yP rfl rfl rfl) rfl (zN (zI (zM ?_))))); refine zq rfl (fun hc22 => ?_) (fun hc22 => ?_)
 ·replace hc22 := zy2 hc22
  have hs16 : s < 16 := by omega
  refine zl ?_; refine zI (zM (qA ?_)); refine zM (zK (zH rfl (ro_indexD Tryz.underlying69 ag68 rfl rfl rfl (by omega)) rfl ?_)); rw [seatL_eq s]; refine zT rfl (qL z68) rfl ?_; rintro _ _ ⟨b5, rfl, rfl⟩; refine zo rfl (zm (vs := flat Hd.cs ((hs.drop (s * 16)).take 16)) 0 ag68 rfl rfl (seatL_len hl hs16) (flat_all Hd.one _) rfl (by rw [seatL_len hl hs16]; exact zy1 rfl) (zg _)) rfl ?_; rintro _ _ rfl; simp only [zE, zF]; rw [yq (by rw [seatL_len hl hs16]; rfl)]; refine zN (zI (zM (zK (zH rfl (qX ag68 rfl (zy6 0 rfl zx) (seatL_len hl hs16)) rfl (zH rfl (zL rfl) rfl ?_))))); refine zN (zI (qA ?_)); refine yQ 7 (fun m Δ LL => ∃ (i : Nat) (z : List UInt8) (p6 : Option Addr) (c6 : Nat), (i + m = 16 ∧ z = l1 ++ (hs.take (s * 16 + i)).flatMap encH) ∧ Δ = [(25, .int .i64 (i : Nat))] ∧ LL = [own pw (.cells [Value.slice p6 (z).length c6].toArray 135 (0, 0)), row 5 1 (.slice p6 (z).length c6) (z).length (cel (z)), V]) (m := 16) (zS (k := 3) rfl (zS (k := 20) rfl (zS (k := 21) rfl (zS (k := 24) rfl (zf _))))) (qn ⟨0, z, p6, c6, ⟨by omega, by rw [hz, Nat.add_zero]⟩, rfl, rfl⟩ (by repeat (first | exact zf _ | refine zS rfl ?_)) (by repeat (first | exact zf _ | refine zS rfl ?_)) (by repeat (first | exact zY _ | refine zJ 0 rfl ?_ | refine zJ 1 rfl ?_ | refine zJ 2 rfl ?_ | refine zJ 3 rfl ?_ | refine zJ 4 rfl ?_ | refine zJ 5 rfl ?_ | refine zJ 6 rfl ?_ | refine zJ 7 rfl ?_ | refine SubH.rown ?_))) ?_; rintro mi Δ LL ⟨i, z, p6, c6, ⟨hmi, hz⟩, rfl, rfl⟩; simp only [zA, zB]; refine zM (zK (zH rfl (yP rfl rfl rfl) rfl (zN (zI (zM ?_))))); refine zq rfl (fun hc26 => ?_) (fun hc26 => ?_)
  ·replace hc26 := zy2 hc26
   have hi : i < 16 := by omega
   have hhd := hd_some hl hs16 hi
   have hhS := hSv _ (List.mem_of_getElem? hhd)
   have hzl : z.length ≤ 4 + sb.length + 70013 * 256 := by rw [hz, List.length_append, hn1]; have := encS_len (l := hs.take (s * 16 + i)) (fun x hx => hSv x (List.mem_of_mem_take hx)); rw [List.length_take] at this; omega
   refine zl ?_; refine zI (zM (qA ?_)); refine zM (zK (zH rfl (ro_indexF Hd.len Tryz.underlying68 ag67 rfl rfl rfl hi (seat_get hl hs16 hi)) rfl (zT rfl (qL z67) rfl ?_))); rintro _ _ ⟨b7, rfl, rfl⟩; refine zo rfl (zm 0 ag67 rfl rfl rfl rfl rfl (zy1 rfl) (zg _)) rfl ?_; rintro _ _ rfl; simp only [zE, zF]; refine zN (zI (zK (zH rfl (zL rfl) rfl (zH rfl (qX ag67 rfl (zy6 0 rfl (show RdN (own b7 _) b7 0 (hdA hs s i).cs from zx)) rfl) rfl (zT rfl (zb Tryz.call48 rfl rfl (by repeat (first | exact zR _ | apply zG 0 rfl | apply zG 1 rfl | apply zG 2 rfl | apply zG 3 rfl | apply zG 4 rfl | apply zG 5 rfl | apply zG 6 rfl | apply zG 7 rfl)) (put16_spec (hdA hs s i) hhS (hVn _ (List.mem_of_getElem? hhd)) pw p6 c6 z (by omega))) rfl ?_))))); rintro _ H' ⟨_, ⟨p8, c8, rfl, rfl⟩, hH⟩; simp only [zy7] at hH; subst hH; refine zN (zQ ?_); refine zI (zK (zH rfl (ql rfl rfl (qo (by omega))) rfl (zH rfl (zL rfl) rfl (zN (zI ?_))))); refine back (mi - 1) (by omega) (qn ⟨i + 1, z ++ encH (hdA hs s i), p8, c8, ⟨by omega, by rw [hz, ← Nat.add_assoc, encS_take hl hs16 hi, List.append_assoc]⟩, rfl, rfl⟩ ?_ ?_ ?_)
   ·exact (by repeat (first | exact zf _ | refine zS rfl ?_))
   ·exact (by repeat (first | exact zf _ | refine zS rfl ?_))
   ·exact (zJ 0 rfl (zJ 0 rfl (zJ 0 rfl (zY _))))
  ·replace hc26 := zy3 hc26
   refine yJ ?_; refine qV ?_; refine qV ?_; refine qe ?_; refine zQ ?_; refine zI (zK (zH rfl (ql rfl rfl (qo (by omega))) rfl (zH rfl (zL rfl) rfl (zN (zI ?_))))); refine back (m - 1) (by omega) (qn ⟨s + 1, z, p6, c6, ⟨by omega, by rw [hz, show (s + 1) * 16 = s * 16 + i by omega]⟩, rfl, rfl⟩ ?_ ?_ ?_)
   ·exact (by repeat (first | exact zf _ | refine zS rfl ?_))
   ·exact (by repeat (first | exact zf _ | refine zS rfl ?_))
   ·exact zj _
 ·replace hc22 := zy3 hc22
  have hzf : z = be sb.length 4 ++ sb ++ hs.flatMap encH := by rw [hz, List.take_of_length_le (by omega), ← hl1]
  have hzl : z.length ≤ 4 + sb.length + 70013 * 256 := by rw [hz, List.length_append, hn1]; have := encS_len (l := hs.take (s * 16)) (fun x hx => hSv x (List.mem_of_mem_take hx)); rw [List.length_take] at this; omega
  refine yJ ?_; refine qV ?_; refine qV ?_; refine qe ?_; refine zI (zM (zK (zH rfl (zL rfl) rfl (zT rfl (zb Tryz.call49 rfl rfl (by repeat (first | exact zR _ | apply zG 0 rfl | apply zG 1 rfl | apply zG 2 rfl | apply zG 3 rfl | apply zG 4 rfl | apply zG 5 rfl | apply zG 6 rfl | apply zG 7 rfl)) (done_spec pw p6 c6 z (by omega))) rfl ?_)))); rintro _ H' ⟨_, ⟨p', c', rfl, hal, rfl⟩, hH⟩; simp only [zy7] at hH; subst hH; refine zH rfl (zO rfl) rfl (zN (zI (zi ?_))); refine' zX (qk rfl rfl) ?_ ?_
  rotate_left 1
  exact ⟨_, ⟨z, p', c', sb, rfl, hS, hsl, hzf, by omega, rfl⟩, rfl⟩
  exact (zJ 0 rfl (zJ 2 rfl (zY _)))
theorem fail_b (r : R) (w : Int) : (r.fail w).b = r.b := by unfold R.fail R.refuse; repeat' split
                                                            all_goals rfl
theorem fail_pos (r : R) (w : Int) : (r.fail w).pos = r.pos := by unfold R.fail R.refuse; repeat' split
                                                                  all_goals rfl
def R.gate (r : R) (f : Nat) : R := if 15 < f then r.fail 12 else r
def R.s1 (q : R × At) : R × At := if q.2.f &&& 1 ≠ 0 then ((q.1.get 8).1, { q.2 with s := (q.1.get 8).2 }) else q
def R.s2 (q : R × At) : R × At := if q.2.f &&& 2 ≠ 0 then (((q.1.get 4).1.get 4).1, { q.2 with u := (q.1.get 4).2, g := ((q.1.get 4).1.get 4).2 }) else q
def R.s3 (q : R × At) : R × At := if q.2.f &&& 4 ≠ 0 then ((q.1.get 4).1, { q.2 with m := (q.1.get 4).2 }) else q
def R.s4 (q : R × At) : R × At := if q.2.f &&& 8 ≠ 0 then (((q.1.get 4).1.get 4).1, { q.2 with a := (q.1.get 4).2, t := ((q.1.get 4).1.get 4).2 }) else q
def R.body (r : R) (x : At) : R × At := R.s4 (R.s3 (R.s2 (R.s1 (r, x))))
/-- attributes are read -/
def R.attrs (r : R) : R × At :=
 if (R.gate (r.get 4).1 (r.get 4).2).why ≠ 0 then (R.gate (r.get 4).1 (r.get 4).2, At.zero)
 else if ((R.gate (r.get 4).1 (r.get 4).2).body { At.zero with f := (r.get 4).2 }).1.why ≠ 0 then (((R.gate (r.get 4).1 (r.get 4).2).body { At.zero with f := (r.get 4).2 }).1, At.zero)
 else (R.gate (r.get 4).1 (r.get 4).2).body { At.zero with f := (r.get 4).2 }
theorem attrs_eq {r r1 r3 r4 r5 r6 : R} {x1 x3 x4 x5 x6 : At} (hx1 : ({ At.zero with f := (r.get 4).2 } : At) = x1) (he1 : r1 = R.gate (r.get 4).1 (r.get 4).2) (h1 : r1.why = 0) (h3 : (r3, x3) = R.s1 (r1, x1)) (h4 : (r4, x4) = R.s2 (r3, x3)) (h5 : (r5, x5) = R.s3 (r4, x4)) (h6 : (r6, x6) = R.s4 (r5, x5)) :
 r.attrs = if r6.why ≠ 0 then (r6, At.zero) else (r6, x6) := by
 have hb : r1.body x1 = (r6, x6) := by rw [R.body, ← h3, ← h4, ← h5, ← h6]
 unfold R.attrs; rw [← he1, if_neg (by simpa using h1), hx1, hb]
theorem aget_run (pr : Nat) (p : Option Addr) (c : Nat) (r : R) (hl : r.b.length ≤ 140737488355328) (hp : r.pos ≤ r.b.length) :
 Tri Tryz.prog 102 [.pointer (some ⟨pr, 0, none⟩)] (rd pr p c r) (fun v H' => v = r.attrs.2.v ∧ ∃ A1 A2, H' = rd pr p c r.attrs.1 ++ [A1, A2]) := by
 refine qd Tryz.func102 rfl Tryz.ntmps102 (by simp) ?_; refine zM (zK (zT rfl (qL z30) rfl ?_)); rintro _ _ ⟨b2, rfl, rfl⟩; refine zN ?_
 repeat (first | refine zQ ?_ | refine zV ?_ | refine ze ?_)
 refine zI (zM (zM (zK (zH rfl (zL rfl) rfl (zH rfl (qI Tryz.underlying104 rfl rfl rfl) rfl ?_))))); refine zN ?_
 repeat (first | refine zQ ?_ | refine zV ?_ | refine ze ?_)
 refine zI (qC rfl ?_); refine zl ?_
 repeat (first | refine zQ ?_ | refine zV ?_ | refine ze ?_)
 refine zI (zM (zK (zH rfl (zL rfl) rfl (zT rfl (zb Tryz.call101 rfl rfl (zG 1 rfl (zG 1 rfl (zR _))) (yk _ _ _ r hl hp)) rfl ?_)))); rintro _ H' ⟨_, ⟨rfl, rfl⟩, hH⟩; simp only [zy7] at hH; subst hH; refine zH rfl (qY rfl (show Bld Tryz.prog 30 _ (At.v { At.zero with f := (r.get 4).2 }) from qK (cs := At.cs { At.zero with f := (r.get 4).2 }) st30 rfl)) rfl (zT rfl (qL z30) rfl ?_); rintro _ _ ⟨b3, rfl, rfl⟩; refine zo rfl ((zm 0 ag30 rfl rfl rfl rfl rfl (zy1 rfl) (zg _))) rfl ?_; rintro _ _ rfl; refine ops_front 2 rfl ?_; refine ops_front 2 rfl ?_; refine zN ?_
 repeat (first | refine zQ ?_ | refine zV ?_ | refine ze ?_)
 refine zI ?_; refine Go.Sx.wp_cut (fun Γ H => Has Γ [(0, .pointer (some ⟨pr, 0, none⟩)), (2, .pointer (some ⟨b2, 0, none⟩)), (3, .pointer (some ⟨b3, 0, none⟩))] ∧ ∃ r1, r1 = R.gate (r.get 4).1 (r.get 4).2 ∧ r1.b = r.b ∧ r1.pos ≤ r.b.length ∧ H = rd pr p c (r1) ++ [own b3 (.cells ({ At.zero with f := (r.get 4).2 }).cs.toArray 30 (0, 0)), own b2 (.cells At.zero.cs.toArray 30 (0, 0))]) ?_ ?_
 ·refine zM (zK (zH rfl (zP yg rfl) rfl (zH rfl (zW yB rfl (zy4 2 rfl (by first | exact Rd.own rfl | exact Rd.row rfl))) rfl (zH rfl (yd rfl rfl rfl) rfl (zN ?_)))))
  repeat (first | refine zQ ?_ | refine zV ?_ | refine ze ?_)
  refine zI (zq rfl (fun hc1 => ?_) (fun hc1 => ?_))
  ·try replace hc1 := zy2 hc1
   refine zK (zH rfl (zL rfl) rfl (zT rfl (zb Tryz.call142 rfl rfl (zG 0 rfl (zG 0 rfl (zR _))) (fail_spec _ _ _ _ 12)) rfl ?_)); rintro _ H' ⟨_, ⟨rfl, rfl⟩, hH⟩; simp only [zy7] at hH; subst hH; refine zN ?_
   repeat (first | refine zQ ?_ | refine zV ?_ | refine ze ?_)
   refine zI ?_; refine ⟨zS rfl (zS rfl (zS rfl (zf _))), (r.get 4).1.fail 12, by rw [R.gate, if_pos (by have h : (15:Int) < ((r.get 4).2 : Int) := hc1; omega)], by rw [fail_b, get_b], by rw [fail_pos]; exact get_pos r 4 hp, rfl⟩
  ·try replace hc1 := zy3 hc1
   refine zl ?_
   repeat (first | refine zQ ?_ | refine zV ?_ | refine ze ?_)
   refine zI ?_; refine ⟨zS rfl (zS rfl (zS rfl (zf _))), (r.get 4).1, by rw [R.gate, if_neg (by have h : ¬ (15:Int) < ((r.get 4).2 : Int) := hc1; omega)], get_b r 4, get_pos r 4 hp, rfl⟩
 rintro Γ H ⟨hΓ, r1, he1, hb1, hp1, rfl⟩; refine wp_has hΓ ?_
 generalize hx1 : ({ At.zero with f := (r.get 4).2 } : At) = x1
 have hf1 : x1.f < 4294967296 := by rw [← hx1]; exact yt r 4
 refine zM (zM (zK (zH rfl (zL rfl) rfl (zT rfl (zb Tryz.call98 rfl rfl (zG 0 rfl (zG 0 rfl (zR _))) (fine_spec _ _ _ r1)) rfl ?_)))); rintro _ H' ⟨_, ⟨rfl, rfl⟩, hH⟩; simp only [zy7] at hH; subst hH; refine zH rfl (qy rfl rfl) rfl (zN ?_)
 repeat (first | refine zQ ?_ | refine zV ?_ | refine ze ?_)
 refine zI (zq rfl (fun hc2 => ?_) (fun hc2 => ?_))
 ·simp only [Bool.not_eq_true', decide_eq_false_iff_not, Bool.not_eq_false', decide_eq_true_eq] at hc2; refine zM (zK (zH rfl (qY rfl (show Bld Tryz.prog 30 [] At.zero.v from qK (cs := At.zero.cs) st30 rfl)) rfl (zo rfl ((zm 3 ag30 rfl rfl rfl rfl rfl (zy1 rfl) (zg _))) rfl ?_))); rintro _ _ rfl; refine zN ?_
  repeat (first | refine zQ ?_ | refine zV ?_ | refine ze ?_)
  refine zI (zi ?_)
  repeat (first | refine zh ?_ | refine zn ?_ | refine qr ?_ | refine yH ?_)
  refine yG (qg rfl (qB ag30 rfl (zy6 3 rfl zx) rfl)) ?_; have e : r.attrs = (r1, At.zero) := by rw [R.attrs, ← he1, if_pos hc2]
  rw [e]; exact ⟨rfl, _, _, rfl⟩
 ·simp only [Bool.not_eq_true', decide_eq_false_iff_not, Bool.not_eq_false', decide_eq_true_eq] at hc2; refine zl ?_
  repeat (first | refine zQ ?_ | refine zV ?_ | refine ze ?_)
  refine zI ?_; refine Go.Sx.wp_cut (fun Γ H => Has Γ [(0, .pointer (some ⟨pr, 0, none⟩)), (2, .pointer (some ⟨b2, 0, none⟩)), (3, .pointer (some ⟨b3, 0, none⟩))] ∧ ∃ r' x', (r', x') = R.s1 (r1, x1) ∧ r'.b = r.b ∧ r'.pos ≤ r.b.length ∧ x'.f = x1.f ∧ H = rd pr p c (r') ++ [own b3 (.cells (x').cs.toArray 30 (0, 0)), own b2 (.cells At.zero.cs.toArray 30 (0, 0))]) ?_ ?_
  ·refine zM (zK (zH rfl (zP yg rfl) rfl (zH rfl (zW yB rfl (zy4 2 rfl (by first | exact Rd.own rfl | exact Rd.row rfl))) rfl (zH rfl (ya rfl rfl (xE hf1 (c := 1) (by decide) rfl)) rfl (zH rfl (q9 rfl rfl rfl) rfl ?_))))); refine zN ?_
   repeat (first | refine zQ ?_ | refine zV ?_ | refine ze ?_)
   refine zI (zq rfl (fun hc3 => ?_) (fun hc3 => ?_))
   ·try replace hc3 := zy2 hc3
    refine zK (zH rfl (zL rfl) rfl (zT rfl (zb Tryz.call86 rfl rfl (zG 0 rfl (zG 0 rfl (zR _))) (rU64_spec _ _ _ (r1) (by simp only [get_b, hb1]; omega) (by simp only [get_b, hb1]; exact hp1))) rfl ?_)); rintro _ H' ⟨_, ⟨rfl, rfl⟩, hH⟩; simp only [zy7] at hH; subst hH; refine zH rfl (zP fa30_1 rfl) rfl (zo rfl ((qP 2 sc28 rfl rfl rfl rfl (zy1 rfl) (zg _))) rfl ?_); rintro _ _ rfl; refine zN ?_
    repeat (first | refine zQ ?_ | refine zV ?_ | refine ze ?_)
    refine zI ?_; refine ⟨zS rfl (zS rfl (zS rfl (zf _))), (r1.get 8).1, { x1 with s := ((r1).get 8).2 }, by rw [R.s1, if_pos (by simp only; omega)], (by simp only [get_b, hb1]), (by have := get_pos r1 8 (by rw [hb1]; exact hp1); rwa [hb1] at this), rfl, rfl⟩
   ·try replace hc3 := zy3 hc3
    refine zl ?_
    repeat (first | refine zQ ?_ | refine zV ?_ | refine ze ?_)
    refine zI ?_; refine ⟨zS rfl (zS rfl (zS rfl (zf _))), r1, x1, by rw [R.s1, if_neg (by simp only; omega)], hb1, hp1, rfl, rfl⟩
  rintro Γ H ⟨hΓ, r3, x3, he3, hb3, hp3, hf3, rfl⟩; refine wp_has hΓ ?_; have hf3 : x3.f < 4294967296 := by rw [hf3]; exact hf1
  refine Go.Sx.wp_cut (fun Γ H => Has Γ [(0, .pointer (some ⟨pr, 0, none⟩)), (2, .pointer (some ⟨b2, 0, none⟩)), (3, .pointer (some ⟨b3, 0, none⟩))] ∧ ∃ r' x', (r', x') = R.s2 (r3, x3) ∧ r'.b = r.b ∧ r'.pos ≤ r.b.length ∧ x'.f = x3.f ∧ H = rd pr p c (r') ++ [own b3 (.cells (x').cs.toArray 30 (0, 0)), own b2 (.cells At.zero.cs.toArray 30 (0, 0))]) ?_ ?_
  ·refine zM (zK (zH rfl (zP yg rfl) rfl (zH rfl (zW yB rfl (zy4 2 rfl (by first | exact Rd.own rfl | exact Rd.row rfl))) rfl (zH rfl (ya rfl rfl (xE hf3 (c := 2) (by decide) rfl)) rfl (zH rfl (q9 rfl rfl rfl) rfl ?_))))); refine zN ?_
   repeat (first | refine zQ ?_ | refine zV ?_ | refine ze ?_)
   refine zI (zq rfl (fun hc4 => ?_) (fun hc4 => ?_))
   ·try replace hc4 := zy2 hc4
    refine zM (zK (zH rfl (zL rfl) rfl (zT rfl (zb Tryz.call101 rfl rfl (zG 0 rfl (zG 0 rfl (zR _))) (yk _ _ _ (r3) (by simp only [get_b, hb3]; omega) (by simp only [get_b, hb3]; exact hp3))) rfl ?_))); rintro _ H' ⟨_, ⟨rfl, rfl⟩, hH⟩; simp only [zy7] at hH; subst hH; refine zH rfl (zP fa30_2 rfl) rfl (zo rfl ((qP 2 yB rfl rfl rfl rfl (zy1 rfl) (zg _))) rfl ?_); rintro _ _ rfl; refine zN ?_
    repeat (first | refine zQ ?_ | refine zV ?_ | refine ze ?_)
    refine zI (zK (zH rfl (zL rfl) rfl (zT rfl (zb Tryz.call101 rfl rfl (zG 0 rfl (zG 0 rfl (zR _))) (yk _ _ _ (((r3).get 4).1) (by simp only [get_b, hb3]; omega) (by simp only [get_b, hb3]; have := get_pos r3 4 (by rw [hb3]; exact hp3); rwa [hb3] at this))) rfl ?_))); rintro _ H' ⟨_, ⟨rfl, rfl⟩, hH⟩; simp only [zy7] at hH; subst hH; refine zH rfl (zP fa30_3 rfl) rfl (zo rfl ((qP 2 yB rfl rfl rfl rfl (zy1 rfl) (zg _))) rfl ?_); rintro _ _ rfl; refine zN ?_
    repeat (first | refine zQ ?_ | refine zV ?_ | refine ze ?_)
    refine zI ?_; refine ⟨zS rfl (zS rfl (zS rfl (zf _))), ((r3.get 4).1.get 4).1, { x3 with u := ((r3).get 4).2, g := ((((r3).get 4).1).get 4).2 }, by rw [R.s2, if_pos (by simp only; omega)], (by simp only [get_b, hb3]), (by have h1 := get_pos r3 4 (by rw [hb3]; exact hp3); have := get_pos (r3.get 4).1 4 (by rw [get_b]; exact h1); rwa [get_b, hb3] at this), rfl, rfl⟩
   ·try replace hc4 := zy3 hc4
    refine zl ?_
    repeat (first | refine zQ ?_ | refine zV ?_ | refine ze ?_)
    refine zI ?_; refine ⟨zS rfl (zS rfl (zS rfl (zf _))), r3, x3, by rw [R.s2, if_neg (by simp only; omega)], hb3, hp3, rfl, rfl⟩
  rintro Γ H ⟨hΓ, r4, x4, he4, hb4, hp4, hf4, rfl⟩; refine wp_has hΓ ?_; have hf4 : x4.f < 4294967296 := by rw [hf4]; exact hf3
  refine Go.Sx.wp_cut (fun Γ H => Has Γ [(0, .pointer (some ⟨pr, 0, none⟩)), (2, .pointer (some ⟨b2, 0, none⟩)), (3, .pointer (some ⟨b3, 0, none⟩))] ∧ ∃ r' x', (r', x') = R.s3 (r4, x4) ∧ r'.b = r.b ∧ r'.pos ≤ r.b.length ∧ x'.f = x4.f ∧ H = rd pr p c (r') ++ [own b3 (.cells (x').cs.toArray 30 (0, 0)), own b2 (.cells At.zero.cs.toArray 30 (0, 0))]) ?_ ?_
  ·refine zM (zK (zH rfl (zP yg rfl) rfl (zH rfl (zW yB rfl (zy4 2 rfl (by first | exact Rd.own rfl | exact Rd.row rfl))) rfl (zH rfl (ya rfl rfl (xE hf4 (c := 4) (by decide) rfl)) rfl (zH rfl (q9 rfl rfl rfl) rfl ?_))))); refine zN ?_
   repeat (first | refine zQ ?_ | refine zV ?_ | refine ze ?_)
   refine zI (zq rfl (fun hc5 => ?_) (fun hc5 => ?_))
   ·try replace hc5 := zy2 hc5
    refine zK (zH rfl (zL rfl) rfl (zT rfl (zb Tryz.call101 rfl rfl (zG 0 rfl (zG 0 rfl (zR _))) (yk _ _ _ (r4) (by simp only [get_b, hb4]; omega) (by simp only [get_b, hb4]; exact hp4))) rfl ?_)); rintro _ H' ⟨_, ⟨rfl, rfl⟩, hH⟩; simp only [zy7] at hH; subst hH; refine zH rfl (zP fa30_4 rfl) rfl (zo rfl ((qP 2 yB rfl rfl rfl rfl (zy1 rfl) (zg _))) rfl ?_); rintro _ _ rfl; refine zN ?_
    repeat (first | refine zQ ?_ | refine zV ?_ | refine ze ?_)
    refine zI ?_; refine ⟨zS rfl (zS rfl (zS rfl (zf _))), (r4.get 4).1, { x4 with m := ((r4).get 4).2 }, by rw [R.s3, if_pos (by simp only; omega)], (by simp only [get_b, hb4]), (by have := get_pos r4 4 (by rw [hb4]; exact hp4); rwa [hb4] at this), rfl, rfl⟩
   ·try replace hc5 := zy3 hc5
    refine zl ?_
    repeat (first | refine zQ ?_ | refine zV ?_ | refine ze ?_)
    refine zI ?_; refine ⟨zS rfl (zS rfl (zS rfl (zf _))), r4, x4, by rw [R.s3, if_neg (by simp only; omega)], hb4, hp4, rfl, rfl⟩
  rintro Γ H ⟨hΓ, r5, x5, he5, hb5, hp5, hf5, rfl⟩; refine wp_has hΓ ?_; have hf5 : x5.f < 4294967296 := by rw [hf5]; exact hf4
  refine Go.Sx.wp_cut (fun Γ H => Has Γ [(0, .pointer (some ⟨pr, 0, none⟩)), (2, .pointer (some ⟨b2, 0, none⟩)), (3, .pointer (some ⟨b3, 0, none⟩))] ∧ ∃ r' x', (r', x') = R.s4 (r5, x5) ∧ r'.b = r.b ∧ r'.pos ≤ r.b.length ∧ x'.f = x5.f ∧ H = rd pr p c (r') ++ [own b3 (.cells (x').cs.toArray 30 (0, 0)), own b2 (.cells At.zero.cs.toArray 30 (0, 0))]) ?_ ?_
  ·refine zM (zK (zH rfl (zP yg rfl) rfl (zH rfl (zW yB rfl (zy4 2 rfl (by first | exact Rd.own rfl | exact Rd.row rfl))) rfl (zH rfl (ya rfl rfl (xE hf5 (c := 8) (by decide) rfl)) rfl (zH rfl (q9 rfl rfl rfl) rfl ?_))))); refine zN ?_
   repeat (first | refine zQ ?_ | refine zV ?_ | refine ze ?_)
   refine zI (zq rfl (fun hc6 => ?_) (fun hc6 => ?_))
   ·try replace hc6 := zy2 hc6
    refine zM (zK (zH rfl (zL rfl) rfl (zT rfl (zb Tryz.call101 rfl rfl (zG 0 rfl (zG 0 rfl (zR _))) (yk _ _ _ (r5) (by simp only [get_b, hb5]; omega) (by simp only [get_b, hb5]; exact hp5))) rfl ?_))); rintro _ H' ⟨_, ⟨rfl, rfl⟩, hH⟩; simp only [zy7] at hH; subst hH; refine zH rfl (zP fa30_5 rfl) rfl (zo rfl ((qP 2 yB rfl rfl rfl rfl (zy1 rfl) (zg _))) rfl ?_); rintro _ _ rfl; refine zN ?_
    repeat (first | refine zQ ?_ | refine zV ?_ | refine ze ?_)
    refine zI (zK (zH rfl (zL rfl) rfl (zT rfl (zb Tryz.call101 rfl rfl (zG 0 rfl (zG 0 rfl (zR _))) (yk _ _ _ (((r5).get 4).1) (by simp only [get_b, hb5]; omega) (by simp only [get_b, hb5]; have := get_pos r5 4 (by rw [hb5]; exact hp5); rwa [hb5] at this))) rfl ?_))); rintro _ H' ⟨_, ⟨rfl, rfl⟩, hH⟩; simp only [zy7] at hH; subst hH; refine zH rfl (zP fa30_6 rfl) rfl (zo rfl ((qP 2 yB rfl rfl rfl rfl (zy1 rfl) (zg _))) rfl ?_); rintro _ _ rfl; refine zN ?_
    repeat (first | refine zQ ?_ | refine zV ?_ | refine ze ?_)
    refine zI ?_; refine ⟨zS rfl (zS rfl (zS rfl (zf _))), ((r5.get 4).1.get 4).1, { x5 with a := ((r5).get 4).2, t := ((((r5).get 4).1).get 4).2 }, by rw [R.s4, if_pos (by simp only; omega)], (by simp only [get_b, hb5]), (by have h1 := get_pos r5 4 (by rw [hb5]; exact hp5); have := get_pos (r5.get 4).1 4 (by rw [get_b]; exact h1); rwa [get_b, hb5] at this), rfl, rfl⟩
   ·try replace hc6 := zy3 hc6
    refine zl ?_
    repeat (first | refine zQ ?_ | refine zV ?_ | refine ze ?_)
    refine zI ?_; refine ⟨zS rfl (zS rfl (zS rfl (zf _))), r5, x5, by rw [R.s4, if_neg (by simp only; omega)], hb5, hp5, rfl, rfl⟩
  rintro Γ H ⟨hΓ, r6, x6, he6, hb6, hp6, hf6, rfl⟩; refine wp_has hΓ ?_; have hf6 : x6.f < 4294967296 := by rw [hf6]; exact hf5
  refine zM (zM (zK (zH rfl (zL rfl) rfl (zT rfl (zb Tryz.call98 rfl rfl (zG 0 rfl (zG 0 rfl (zR _))) (fine_spec _ _ _ r6)) rfl ?_)))); rintro _ H' ⟨_, ⟨rfl, rfl⟩, hH⟩; simp only [zy7] at hH; subst hH; refine zH rfl (qy rfl rfl) rfl (zN ?_)
  repeat (first | refine zQ ?_ | refine zV ?_ | refine ze ?_)
  refine zI (zq rfl (fun hc7 => ?_) (fun hc7 => ?_))
  ·simp only [Bool.not_eq_true', decide_eq_false_iff_not, Bool.not_eq_false', decide_eq_true_eq] at hc7; refine zM (zK (zH rfl (qY rfl (show Bld Tryz.prog 30 [] At.zero.v from qK (cs := At.zero.cs) st30 rfl)) rfl (zo rfl ((zm 3 ag30 rfl rfl rfl rfl rfl (zy1 rfl) (zg _))) rfl ?_))); rintro _ _ rfl; refine zN ?_
   repeat (first | refine zQ ?_ | refine zV ?_ | refine ze ?_)
   refine zI (zi ?_)
   repeat (first | refine zh ?_ | refine zn ?_ | refine qr ?_ | refine yH ?_)
   refine yG (qg rfl (qB ag30 rfl (zy6 3 rfl zx) rfl)) ?_; have e : r.attrs = (r6, At.zero) := by rw [attrs_eq hx1 he1 hc2 he3 he4 he5 he6, if_pos hc7]
   rw [e]; exact ⟨rfl, _, _, rfl⟩
  ·simp only [Bool.not_eq_true', decide_eq_false_iff_not, Bool.not_eq_false', decide_eq_true_eq] at hc7; refine zl ?_
   repeat (first | refine zQ ?_ | refine zV ?_ | refine ze ?_)
   refine zI (zM (zK (zH rfl (qX ag30 rfl (zy6 2 rfl zx) rfl) rfl (zo rfl ((zm 3 ag30 rfl rfl rfl rfl rfl (zy1 rfl) (zg _))) rfl ?_)))); rintro _ _ rfl; refine zN ?_
   repeat (first | refine zQ ?_ | refine zV ?_ | refine ze ?_)
   refine zI (zi ?_)
   repeat (first | refine zh ?_ | refine zn ?_ | refine qr ?_ | refine yH ?_)
   refine yG (qg rfl (qB ag30 rfl (zy6 3 rfl zx) rfl)) ?_; have e : r.attrs = (r6, x6) := by rw [attrs_eq hx1 he1 hc2 he3 he4 he5 he6, if_neg (by simpa using hc7)]
   rw [e]; exact ⟨rfl, _, _, rfl⟩
theorem aget_spec (pr : Nat) (p : Option Addr) (c : Nat) (r : R) (hl : r.b.length ≤ 140737488355328) (hp : r.pos ≤ r.b.length) :
 Tri Tryz.prog 102 [.pointer (some ⟨pr, 0, none⟩)] (rd pr p c r) (fun v H' => v = r.attrs.2.v ∧ H' = rd pr p c r.attrs.1) :=
 tri_weak (aget_run pr p c r hl hp) fun v H ⟨h1, A1, A2, h2⟩ => ⟨_, ⟨h1, rfl⟩, fun w F s => by subst h2; exact St_drop 2 (St_drop 2 s)⟩
set_option maxHeartbeats 400000
/-- attributes that tell all are read -/
theorem attrs15_here {q : R} {x : At} {l : List UInt8} (h : Here q (x.enc ++ l)) (hf : x.f = 15) (hx : x.Ok) : q.attrs = (q.adv x.enc.length, x) ∧ Here (q.adv x.enc.length) l := by
 have h' := h.adv (n := x.enc.length) rfl
 refine ⟨?_, h'⟩; obtain ⟨f, s, u, g, m, a, t⟩ := x
 obtain rfl : f = 15 := hf
 have e : (⟨15, s, u, g, m, a, t⟩ : At).enc = be 15 4 ++ (be s 8 ++ (be u 4 ++ (be g 4 ++ (be m 4 ++ (be a 4 ++ be t 4))))) := by
  show be 15 4 ++ (if 15 &&& 1 ≠ 0 then be s 8 else []) ++ (if 15 &&& 2 ≠ 0 then be u 4 ++ be g 4 else []) ++ (if 15 &&& 4 ≠ 0 then be m 4 else []) ++ (if 15 &&& 8 ≠ 0 then be a 4 ++ be t 4 else []) = _
  rw [if_pos (by decide), if_pos (by decide), if_pos (by decide), if_pos (by decide)]; simp only [List.append_assoc]
 have el : (⟨15, s, u, g, m, a, t⟩ : At).enc.length = 32 := by rw [e]; simp only [List.length_append, qE]
 rw [el]; rw [e] at h; simp only [List.append_assoc] at h; have g0 := yM h (by decide)
 have h0 := h.adv (n := 4) (qE _ _).symm
 have g1 := yM h0 hx.s
 have h1 := h0.adv (n := 8) (qE _ _).symm
 have g2 := yM h1 hx.u
 have h2 := h1.adv (n := 4) (qE _ _).symm
 have g3 := yM h2 hx.g
 have h3 := h2.adv (n := 4) (qE _ _).symm
 have g4 := yM h3 hx.m
 have h4 := h3.adv (n := 4) (qE _ _).symm
 have g5 := yM h4 hx.a
 have h5 := h4.adv (n := 4) (qE _ _).symm
 have g6 := yM h5 hx.t
 simp only [adv_adv] at g0 g1 g2 g3 g4 g5 g6; have b1 : R.s1 (q.adv 4, (⟨15, 0, 0, 0, 0, 0, 0⟩ : At)) = (q.adv 12, ⟨15, s, 0, 0, 0, 0, 0⟩) := by unfold R.s1; rw [if_pos (by show 15 &&& 1 ≠ 0; decide)]; dsimp only; rw [g1]
 have b2 : R.s2 (q.adv 12, (⟨15, s, 0, 0, 0, 0, 0⟩ : At)) = (q.adv 20, ⟨15, s, u, g, 0, 0, 0⟩) := by unfold R.s2; rw [if_pos (by show 15 &&& 2 ≠ 0; decide)]; dsimp only; rw [g2]; dsimp only; rw [g3]
 have b3 : R.s3 (q.adv 20, (⟨15, s, u, g, 0, 0, 0⟩ : At)) = (q.adv 24, ⟨15, s, u, g, m, 0, 0⟩) := by unfold R.s3; rw [if_pos (by show 15 &&& 4 ≠ 0; decide)]; dsimp only; rw [g4]
 have b4 : R.s4 (q.adv 24, (⟨15, s, u, g, m, 0, 0⟩ : At)) = (q.adv 32, ⟨15, s, u, g, m, a, t⟩) := by unfold R.s4; rw [if_pos (by show 15 &&& 8 ≠ 0; decide)]; dsimp only; rw [g5]; dsimp only; rw [g6]
 have eg : R.gate (q.adv 4) 15 = q.adv 4 := if_neg (by decide)
 have hq := attrs_eq (r := q) (r1 := q.adv 4) (x1 := ⟨15, 0, 0, 0, 0, 0, 0⟩) (by rw [g0]; rfl) (by rw [g0]; exact eg.symm) h.why b1.symm b2.symm b3.symm b4.symm
 rw [hq, if_neg (fun h2 => h2 h.why)]
theorem s1_ok {q : R × At} (h : q.2.Ok) : (R.s1 q).2.Ok := by
 unfold R.s1; split
 ·exact ⟨h.f, yt q.1 8, h.u, h.g, h.m, h.a, h.t⟩
 ·exact h
theorem s2_ok {q : R × At} (h : q.2.Ok) : (R.s2 q).2.Ok := by
 unfold R.s2; split
 ·exact ⟨h.f, h.s, yt q.1 4, yt _ 4, h.m, h.a, h.t⟩
 ·exact h
theorem s3_ok {q : R × At} (h : q.2.Ok) : (R.s3 q).2.Ok := by
 unfold R.s3; split
 ·exact ⟨h.f, h.s, h.u, h.g, yt q.1 4, h.a, h.t⟩
 ·exact h
theorem s4_ok {q : R × At} (h : q.2.Ok) : (R.s4 q).2.Ok := by
 unfold R.s4; split
 ·exact ⟨h.f, h.s, h.u, h.g, h.m, yt q.1 4, yt _ 4⟩
 ·exact h
theorem attrs_ok (r : R) : r.attrs.2.Ok := by
 unfold R.attrs
 split
 ·exact At.zero_ok
 ·split
  ·exact At.zero_ok
  ·exact s4_ok (s3_ok (s2_ok (s1_ok ⟨yt r 4, At.zero_ok.s, At.zero_ok.u, At.zero_ok.g, At.zero_ok.m, At.zero_ok.a, At.zero_ok.t⟩)))
theorem good_attrs {r : R} (h : r.Good) : r.attrs.1.Good := by
 have hg : (R.gate (r.get 4).1 (r.get 4).2).Good := by
  unfold R.gate; split
  ·exact R.good_fail (R.good_get h 4) _
  ·exact R.good_get h 4
 have g1 : ∀ {q : R × At}, q.1.Good → (R.s1 q).1.Good := fun h => by unfold R.s1; split; exact R.good_get h 8; exact h
 have g2 : ∀ {q : R × At}, q.1.Good → (R.s2 q).1.Good := fun h => by unfold R.s2; split; exact R.good_get (R.good_get h 4) 4; exact h
 have g3 : ∀ {q : R × At}, q.1.Good → (R.s3 q).1.Good := fun h => by unfold R.s3; split; exact R.good_get h 4; exact h
 have g4 : ∀ {q : R × At}, q.1.Good → (R.s4 q).1.Good := fun h => by unfold R.s4; split; exact R.good_get (R.good_get h 4) 4; exact h
 unfold R.attrs
 split
 ·exact hg
 ·split
  ·exact g4 (g3 (g2 (g1 hg)))
  ·exact g4 (g3 (g2 (g1 hg)))
/-- a directory's names, as they are qn -/
structure VdN (l : List Nm) : Prop where
 len : l.length ≤ 200
 ok : ∀ x ∈ l, ptOk x.n = true ∧ x.at'.f = 15 ∧ x.at'.Ok
 up : Rise (l.map Nm.n)
/-- a handle as it may be -/
def VdH (t : Tr) (h : Hd) : Prop := (h.used = false ∧ h.id = 0 ∧ h.dir = false ∧ h.flags = 0 ∧ h.names = []) ∨
 (h.used = true ∧ (0 ≤ h.id ∧ h.id < t.next ∧ h.id ≤ 9223372036854775807) ∧ (∀ x, byId t.ns h.id = some x → x.dir = h.dir) ∧
  ((h.dir = false ∧ h.names = [] ∧ h.flags < 4294967296 ∧ h.flags &&& 4294967288 = 0 ∧ h.flags &&& 3 ≠ 0) ∨ (h.dir = true ∧ h.flags = 0 ∧ VdN h.names)))
/-- what a handle is, wherever its names lie -/
def Hd.core (h : Hd) : Bool × Int × Bool × Nat × List Nm := (h.used, h.id, h.dir, h.flags, h.names)
theorem k_get {q : R} {k : Nat} {l : List UInt8} (h : Here q (b8 (k : Int) :: l)) (hk : k < 256) : q.get 1 = (q.adv 1, k) ∧ Here (q.adv 1) l := by
 have e : be k 1 = [b8 (k : Int)] := by
  simp only [be, b8]; congr 1; apply UInt8.toNat_inj.1; rw [UInt8.toNat_ofNat', UInt8.toNat_ofNat']; simp; omega
 have h' : Here q (be k 1 ++ l) := by rw [e]; exact h
 exact ⟨yM h' (by simpa using hk), h'.adv (qE _ _).symm⟩
/-- how a handle's bytes are read -/
theorem fit_h {t : Tr} {q : R} {h : Hd} {rest : List UInt8} (hv : VdH t h) (hh : Here q (encH h ++ rest)) :
 (h.used = false ∧ h.core = Hd.zero.core ∧ q.get 1 = (q.adv 1, 0) ∧ Here (q.adv 1) rest ∧ (encH h).length = 1) ∨
 (∃ i : Nat, h.id = i ∧ i < 9223372036854775808 ∧ h.used = true ∧ h.id < t.next ∧ (∀ x, byId t.ns h.id = some x → x.dir = h.dir) ∧
  ((h.dir = false ∧ h.names = [] ∧ h.flags < 4294967296 ∧ h.flags &&& 4294967288 = 0 ∧ h.flags &&& 3 ≠ 0 ∧ q.get 1 = (q.adv 1, 1) ∧ (q.adv 1).get 8 = (q.adv 9, i) ∧ (q.adv 9).get 4 = (q.adv 13, h.flags) ∧ q.why = 0 ∧ Here (q.adv 13) rest ∧ (encH h).length = 13) ∨
   (h.dir = true ∧ h.flags = 0 ∧ VdN h.names ∧ q.get 1 = (q.adv 1, 2) ∧ (q.adv 1).get 8 = (q.adv 9, i) ∧ (q.adv 9).get 4 = (q.adv 13, h.names.length) ∧ q.why = 0 ∧ Here (q.adv 13) (h.names.flatMap encNm ++ rest) ∧ (encH h).length = 13 + (h.names.flatMap encNm).length))) := by
 rcases hv with ⟨h1, h2, h3, h4, h5⟩ | ⟨h1, ⟨h2, h3, h3'⟩, h4, h5⟩
 ·rw [encH_none h1] at hh ⊢; obtain ⟨g1, g2⟩ := k_get (k := 0) hh (by decide)
  exact .inl ⟨h1, by unfold Hd.core; rw [h1, h2, h3, h4, h5]; rfl, g1, g2, rfl⟩
 ·obtain ⟨i, hi⟩ := Int.eq_ofNat_of_zero_le h2
  have hit : h.id.toNat = i := by omega
  refine .inr ⟨i, hi, by omega, h1, h3, h4, ?_⟩
  rcases h5 with ⟨d1, d2, d3, d4, d5⟩ | ⟨d1, d2, d3⟩
  ·rw [encH_file h1 d1, hit] at hh ⊢
   have hh' : Here q (b8 ((1 : Nat) : Int) :: (be i 8 ++ (be h.flags 4 ++ rest))) := by
    have e : b8 1 :: (be i 8 ++ be h.flags 4) ++ rest = b8 ((1 : Nat) : Int) :: (be i 8 ++ (be h.flags 4 ++ rest)) := by simp only [zA, List.append_assoc]; rfl
    rw [← e]; exact hh
   obtain ⟨g1, g2⟩ := k_get hh' (by decide)
   have g3 := yM g2 (by simp only [Nat.reducePow]; omega)
   have g4 := g2.adv (n := 8) (qE _ _).symm
   have g5 := yM g4 (by simp only [Nat.reducePow]; omega)
   have g6 := g4.adv (n := 4) (qE _ _).symm
   simp only [adv_adv] at g3 g4 g5 g6; exact .inl ⟨d1, d2, d3, d4, d5, g1, g3, g5, hh.why, g6, by simp only [List.length_cons, List.length_append, qE]⟩
  ·rw [encH_dir h1 d1, hit] at hh ⊢
   have hh' : Here q (b8 ((2 : Nat) : Int) :: (be i 8 ++ (be h.names.length 4 ++ (h.names.flatMap encNm ++ rest)))) := by
    have e : b8 2 :: (be i 8 ++ be h.names.length 4 ++ h.names.flatMap encNm) ++ rest = b8 ((2 : Nat) : Int) :: (be i 8 ++ (be h.names.length 4 ++ (h.names.flatMap encNm ++ rest))) := by simp only [zA, List.append_assoc]; rfl
    rw [← e]; exact hh
   obtain ⟨g1, g2⟩ := k_get hh' (by decide)
   have g3 := yM g2 (by simp only [Nat.reducePow]; omega)
   have g4 := g2.adv (n := 8) (qE _ _).symm
   have hlen := d3.len
   have g5 := yM g4 (by simp only [Nat.reducePow]; omega)
   have g6 := g4.adv (n := 4) (qE _ _).symm
   simp only [adv_adv] at g3 g4 g5 g6; exact .inr ⟨d1, d2, d3, g1, g3, g5, hh.why, g6, by simp only [List.length_cons, List.length_append, qE]; omega⟩
/-- what get answers -/
structure GetP (t : Tr) (r : R) (h : Hd) (ok : Bool) (r' : R) : Prop where
 good : r'.Good
 vd : ok = true → VdH t h
 back : ∀ h0 rest, VdH t h0 → Here r (encH h0 ++ rest) → ok = true ∧ h.core = h0.core ∧ r' = r.adv (encH h0).length
set_option maxHeartbeats 4000000
set_option maxHeartbeats 400000
theorem gp_bad {t : Tr} {r r' : R} (hg : r'.Good) (h : Hd) (hno : ∀ h0 rest, VdH t h0 → Here r (encH h0 ++ rest) → False) : GetP t r h false r' :=
 ⟨hg, fun h => Bool.noConfusion h, fun h0 rest hv hh => (hno h0 rest hv hh).elim⟩
theorem gp_none {t : Tr} {r : R} {z0 : R × Nat} (hg : z0.1.Good) (e0 : r.get 1 = z0) (h0 : z0.2 = 0) : GetP t r Hd.zero (decide (z0.1.why = 0)) z0.1 := by
 refine ⟨hg, fun _ => .inl ⟨rfl, rfl, rfl, rfl, rfl⟩, fun h rest hv hh => ?_⟩
 rcases fit_h hv hh with ⟨a1, a2, a3, a4, a5⟩ | ⟨i, a1, a2, a3, a4, a5, ⟨_, _, _, _, _, b6, _⟩ | ⟨_, _, _, b4, _⟩⟩
 ·rw [a3] at e0; subst e0; exact ⟨decide_eq_true a4.why, a2.symm, by rw [a5]⟩
 ·rw [b6] at e0; subst e0; cases h0
 ·rw [b4] at e0; subst e0; cases h0
theorem fit_a {t : Tr} {r : R} {z0 z1 : R × Nat} (e0 : r.get 1 = z0) (e1 : z0.1.get 8 = z1) (hk : z0.2 ≠ 0) {h : Hd} {rest : List UInt8} (hv : VdH t h) (hh : Here r (encH h ++ rest)) :
 z1.1.why = 0 ∧ z1.2 < 9223372036854775808 ∧ ((z1.2 : Nat) : Int) < t.next ∧ h.id = (z1.2 : Nat) ∧ h.used = true ∧ z0.2 ≤ 2 ∧ h.dir = decide (z0.2 = 2) ∧ (∀ x, byId t.ns (z1.2 : Nat) = some x → x.dir = h.dir) := by
 rcases fit_h hv hh with ⟨a1, a2, a3, a4, a5⟩ | ⟨i, a1, a2, a3, a4, a5, ⟨b1, b2, b3, b4, b5, b6, b7, b8, b9, _⟩ | ⟨b1, b2, b3, b4, b5, b6, b7, _⟩⟩
 ·rw [a3] at e0; subst e0; exact absurd rfl hk
 ·rw [b6] at e0; subst e0; dsimp only at e1; rw [b7] at e1; subst e1; dsimp only; rw [a1] at a4 a5; exact ⟨b9, a2, a4, a1, a3, by decide, by rw [b1]; rfl, a5⟩
 ·rw [b4] at e0; subst e0; dsimp only at e1; rw [b5] at e1; subst e1; dsimp only; rw [a1] at a4 a5; exact ⟨b7, a2, a4, a1, a3, by decide, by rw [b1]; rfl, a5⟩
theorem fit_f {t : Tr} {r : R} {z0 z1 : R × Nat} (e0 : r.get 1 = z0) (e1 : z0.1.get 8 = z1) {z2 : R × Nat} (e2 : z1.1.get 4 = z2) (hk : z0.2 ≠ 0) (hk2 : z0.2 ≠ 2) {h : Hd} {rest : List UInt8} (hv : VdH t h) (hh : Here r (encH h ++ rest)) :
 h.dir = false ∧ h.names = [] ∧ h.flags = z2.2 ∧ z2.2 &&& 4294967288 = 0 ∧ z2.2 &&& 3 ≠ 0 ∧ z2.1 = r.adv (encH h).length := by
 rcases fit_h hv hh with ⟨a1, a2, a3, a4, a5⟩ | ⟨i, a1, a2, a3, a4, a5, ⟨b1, b2, b3, b4, b5, b6, b7, b8, b9, b10, b11⟩ | ⟨b1, b2, b3, b4, b5, b6, b7, _⟩⟩
 ·rw [a3] at e0; subst e0; exact absurd rfl hk
 ·rw [b6] at e0; subst e0; dsimp only at e1; rw [b7] at e1; subst e1; dsimp only at e2; rw [b8] at e2; subst e2; exact ⟨b1, b2, rfl, b4, b5, by rw [b11]⟩
 ·rw [b4] at e0; subst e0; exact absurd rfl hk2
theorem fit_d {t : Tr} {r : R} {z0 z1 : R × Nat} (e0 : r.get 1 = z0) (e1 : z0.1.get 8 = z1) {z2 : R × Nat} (e2 : z1.1.get 4 = z2) (hk : z0.2 ≠ 0) (hk2 : z0.2 = 2) {h : Hd} {rest : List UInt8} (hv : VdH t h) (hh : Here r (encH h ++ rest)) :
 h.dir = true ∧ h.flags = 0 ∧ VdN h.names ∧ z2.2 = h.names.length ∧ Here z2.1 (h.names.flatMap encNm ++ rest) ∧ z2.1 = r.adv 13 ∧ (encH h).length = 13 + (h.names.flatMap encNm).length := by
 rcases fit_h hv hh with ⟨a1, a2, a3, a4, a5⟩ | ⟨i, a1, a2, a3, a4, a5, ⟨b1, b2, b3, b4, b5, b6, b7, b8, b9, b10, b11⟩ | ⟨b1, b2, b3, b4, b5, b6, b7, b8, b9⟩⟩
 ·rw [a3] at e0; subst e0; exact absurd rfl hk
 ·rw [b6] at e0; subst e0; cases hk2
 ·rw [b4] at e0; subst e0; dsimp only at e1; rw [b5] at e1; subst e1; dsimp only at e2; rw [b6] at e2; subst e2; exact ⟨b1, b2, b3, rfl, b8, rfl, b9⟩
theorem gp_file {t : Tr} {r : R} {z0 z1 : R × Nat} (e0 : r.get 1 = z0) (e1 : z0.1.get 8 = z1) {z2 : R × Nat} (e2 : z1.1.get 4 = z2) (hk : z0.2 ≠ 0) (hk2 : z0.2 ≠ 2) (hg : z2.1.Good) (h1 : ((z1.2 : Nat) : Int) < t.next) (h2 : z1.2 ≤ 9223372036854775807) (hd : ∀ x, byId t.ns (z1.2 : Nat) = some x → x.dir = false) {b : Bool} (hb : b = true ↔ z2.2 &&& 4294967288 = 0 ∧ z2.2 &&& 3 ≠ 0) :
 GetP t r ⟨true, (z1.2 : Nat), false, z2.2, none, 0, []⟩ b z2.1 := by
 refine ⟨hg, fun hb' => .inr ⟨rfl, ⟨by show (0 : Int) ≤ (z1.2 : Nat); omega, h1, by show ((z1.2 : Nat) : Int) ≤ 9223372036854775807; omega⟩, hd, .inl ⟨rfl, rfl, ?_, hb.1 hb'⟩⟩, fun h rest hv hh => ?_⟩
 ·have := yt z1.1 4
  rw [e2] at this; simpa using this
 ·obtain ⟨a1, a2, a3, a4, a5, a6, a7, a8⟩ := fit_a e0 e1 hk hv hh
  obtain ⟨b1, b2, b3, b4, b5, b6⟩ := fit_f e0 e1 e2 hk hk2 hv hh
  exact ⟨hb.2 ⟨b4, b5⟩, by unfold Hd.core; rw [a5, a4, b1, b3, b2], b6⟩
/-- i names were read -/
structure LN (t : Tr) (r : R) (i : Nat) (acc : List Nm) (q : R) : Prop where
 good : q.Good
 len : acc.length = i
 ok : ∀ x ∈ acc, ptOk x.n = true ∧ x.at'.f = 15 ∧ x.at'.Ok
 up : Rise (acc.map Nm.n)
 back : ∀ h rest, VdH t h → Here r (encH h ++ rest) → acc = h.names.take i ∧ Here q ((h.names.drop i).flatMap encNm ++ rest) ∧ q = r.adv (13 + ((h.names.take i).flatMap encNm).length)
theorem ln_zero {t : Tr} {r : R} {z0 z1 : R × Nat} (e0 : r.get 1 = z0) (e1 : z0.1.get 8 = z1) {z2 : R × Nat} (e2 : z1.1.get 4 = z2) (hk : z0.2 ≠ 0) (hk2 : z0.2 = 2) (hg : z2.1.Good) : LN t r 0 [] z2.1 :=
 ⟨hg, rfl, fun x hx => (by cases hx), List.Pairwise.nil, fun h rest hv hh => by
  obtain ⟨b1, b2, b3, b4, b5, b6, b7⟩ := fit_d e0 e1 e2 hk hk2 hv hh
  exact ⟨rfl, b5, b6⟩⟩
theorem rise_snoc {l : List (List UInt8)} {s : List UInt8} (h : Rise l) (hs : ∀ x ∈ l, cmp x s < 0) : Rise (l ++ [s]) := by
 unfold Rise at h ⊢; rw [List.pairwise_append]; exact ⟨h, List.pairwise_singleton _ _, fun a ha b hb => by rw [List.mem_singleton.1 hb]; exact hs a ha⟩
theorem ln_kid {t : Tr} {r : R} {i n : Nat} {acc : List Nm} {q : R} (h : LN t r i acc q) (hi : i < n) {y : R × List UInt8} {x : R × At} (ey : q.text 30 = y) (ex : y.1.attrs = x) {h0 : Hd} {rest : List UInt8} (hN : VdN h0.names) (hn : n = h0.names.length) (hv : VdH t h0) (hh : Here r (encH h0 ++ rest)) :
 ∃ k, h0.names[i]? = some k ∧ y.2 = k.n ∧ x.2 = k.at' ∧ ptOk y.2 = true ∧ x.2.f = 15 ∧ (∀ l ∈ acc.map Nm.n, cmp l y.2 < 0) ∧ Here x.1 ((h0.names.drop (i + 1)).flatMap encNm ++ rest) ∧ x.1 = q.adv (encNm k).length := by
 obtain ⟨c1, c2, c3⟩ := h.back h0 rest hv hh
 have hi2 : i < h0.names.length := by omega
 obtain ⟨k, hk⟩ : ∃ k, h0.names[i]? = some k := ⟨_, List.getElem?_eq_getElem hi2⟩
 obtain ⟨hk1, hk2⟩ := List.getElem?_eq_some_iff.1 hk
 obtain ⟨o1, o2, o3⟩ := hN.ok k (List.mem_of_getElem? hk)
 have e0 : h0.names.drop i = k :: h0.names.drop (i + 1) := by rw [List.drop_eq_getElem_cons hk1, hk2]
 rw [e0, List.flatMap_cons] at c2; have hl := ptOk_len o1
 have H1 : Here q (be k.n.length 4 ++ k.n ++ (k.at'.enc ++ ((h0.names.drop (i + 1)).flatMap encNm ++ rest))) := by
  have e2 : be k.n.length 4 ++ k.n ++ (k.at'.enc ++ ((h0.names.drop (i + 1)).flatMap encNm ++ rest)) = encNm k ++ (h0.names.drop (i + 1)).flatMap encNm ++ rest := by
   simp only [encNm, List.append_assoc]
  rw [e2]; exact c2
 have ht := text_here H1 30 (by omega) (by omega)
 rw [ey] at ht; subst ht; have H2 : Here (q.adv (4 + k.n.length)) (k.at'.enc ++ ((h0.names.drop (i + 1)).flatMap encNm ++ rest)) := H1.adv (by rw [List.length_append, qE])
 obtain ⟨a1, a2⟩ := attrs15_here H2 o2 o3
 dsimp only at ex; rw [a1] at ex; subst ex; refine ⟨k, hk, rfl, rfl, o1, o2, fun l hl2 => ?_, a2, ?_⟩
 ·rw [c1] at hl2; obtain ⟨j, hj⟩ := List.mem_iff_getElem?.1 hl2
  have hjl := (List.getElem?_eq_some_iff.1 hj).1
  rw [List.length_map, List.length_take] at hjl; rw [List.getElem?_map, List.getElem?_take_of_lt (by omega)] at hj; have h4 := rise_lt hN.up (i := j) (j := i) (by omega) (by rw [List.length_map]; exact hi2)
  rw [List.getElem_map, List.getElem_map, hk2] at h4; rw [List.getElem?_eq_getElem (by omega)] at hj
  injection hj with hj
  rw [← hj]; exact h4
 ·show (q.adv _).adv _ = _
  rw [adv_adv]; congr 1
  unfold encNm; simp only [List.length_append, qE]
theorem ln_next {t : Tr} {r : R} {i n : Nat} {acc : List Nm} {q : R} (h : LN t r i acc q) (hi : i < n) {y : R × List UInt8} {x : R × At} (ey : q.text 30 = y) (ex : y.1.attrs = x) (hn : ∀ h0 rest, VdH t h0 → Here r (encH h0 ++ rest) → VdN h0.names ∧ n = h0.names.length)
 (hx : x.1.Good) (h1 : ptOk y.2 = true) (h2 : x.2.f = 15) (h3 : ∀ l ∈ acc.map Nm.n, cmp l y.2 < 0) : LN t r (i + 1) (acc ++ [⟨y.2, x.2⟩]) x.1 := by
 refine ⟨hx, by rw [List.length_append, h.len]; rfl, fun z hz => ?_, ?_, fun h0 rest hv hh => ?_⟩
 ·rcases List.mem_append.1 hz with hz | hz
  ·exact h.ok z hz
  ·rw [List.mem_singleton.1 hz]; exact ⟨h1, h2, ex ▸ attrs_ok y.1⟩
 ·rw [List.map_append]; exact rise_snoc h.up h3
 ·obtain ⟨hN, hn'⟩ := hn h0 rest hv hh
  obtain ⟨c1, c2, c3⟩ := h.back h0 rest hv hh
  obtain ⟨k, k1, k2, k3, _, _, _, k4, k5⟩ := ln_kid h hi ey ex hN hn' hv hh
  obtain ⟨hk1, hk2⟩ := List.getElem?_eq_some_iff.1 k1
  have e : h0.names.take (i + 1) = h0.names.take i ++ [k] := by rw [List.take_succ_eq_append_getElem hk1, hk2]
  refine ⟨by rw [e, ← c1, k2, k3], k4, ?_⟩; rw [k5, c3, adv_adv, e, List.flatMap_append, List.flatMap_cons, List.flatMap_nil, List.append_nil, List.length_append]
  congr 1; omega
theorem gp_dir {t : Tr} {r : R} {z0 z1 : R × Nat} (e0 : r.get 1 = z0) (e1 : z0.1.get 8 = z1) {z2 : R × Nat} (e2 : z1.1.get 4 = z2) (hk : z0.2 ≠ 0) (hk2 : z0.2 = 2) (h1 : ((z1.2 : Nat) : Int) < t.next) (h2 : z1.2 ≤ 9223372036854775807) (hd : ∀ x, byId t.ns (z1.2 : Nat) = some x → x.dir = true) (h200 : z2.2 ≤ 200) {acc : List Nm} {q : R} (h : LN t r z2.2 acc q) (np : Option Addr) (nc : Nat) :
 GetP t r ⟨true, (z1.2 : Nat), true, 0, np, nc, acc⟩ (decide (q.why = 0)) q := by
 refine ⟨h.good, fun hb' => .inr ⟨rfl, ⟨by show (0 : Int) ≤ (z1.2 : Nat); omega, h1, by show ((z1.2 : Nat) : Int) ≤ 9223372036854775807; omega⟩, hd, .inr ⟨rfl, rfl, by show acc.length ≤ 200; rw [h.len]; omega, h.ok, h.up⟩⟩, fun h0 rest hv hh => ?_⟩; obtain ⟨a1, a2, a3, a4, a5, a6, a7, a8⟩ := fit_a e0 e1 hk hv hh
 obtain ⟨b1, b2, b3, b4, b5, b6, b7⟩ := fit_d e0 e1 e2 hk hk2 hv hh
 obtain ⟨c1, c2, c3⟩ := h.back h0 rest hv hh
 rw [b4, List.take_of_length_le (Nat.le_refl _)] at c1 c3; rw [b4, List.drop_length, List.flatMap_nil, List.nil_append] at c2; exact ⟨decide_eq_true c2.why, by unfold Hd.core; rw [a5, a4, b1, b2, c1], by rw [c3, b7]⟩
set_option maxHeartbeats 4000000
/-- the tree has a file nm of number 1, which holds w, and nothing else -/
structure G1 (t : Tr) (r : Nd) (nm w : List UInt8) : Prop where
 wf : Wf t r
 ns : ∃ x, t.ns = [r, x] ∧ x.id = 1 ∧ x.par = 0 ∧ x.dir = false ∧ x.name = nm ∧ x.data = w
section
variable {t t' : Tr} {r r' : Nd} {nm w y : List UInt8} {e : Int}
theorem G1.bytes (h : G1 t r nm w) : t.bytes = w.length := by
 obtain ⟨x, hx, _, _, _, _, h6⟩ := h.ns
 have h1 := h.wf.sum
 have h2 := h.wf.dat r h.wf.root h.wf.rdir
 rw [hx] at h1; simp [h2, h6] at h1
 exact h1
theorem G1.le (h : G1 t r nm w) : w.length ≤ 1048576 := by rw [← h.bytes]; exact h.wf.max
theorem G1.file (h : G1 t r nm w) : ∃ x, t.ns = [r, x] ∧ r.blk ≠ x.blk ∧ byId t.ns 1 = some x ∧ fnd t.ns r [nm] = some x ∧ x.id = 1 ∧ x.par = 0 ∧ x.dir = false ∧ x.name = nm ∧ x.data = w := by
 obtain ⟨x, hx, h1, h2, h3, h4, h5⟩ := h.ns
 have hb := h.wf.kd.blks
 have hr := h.wf.rid
 have hp := h.wf.rpar
 rw [hx] at hb; simp at hb
 refine ⟨x, hx, hb, ?_, ?_, h1, h2, h3, h4, h5⟩
 ·rw [hx, byId_cons, if_neg (by omega), byId_cons, if_pos (by omega)]
 ·show (match kid t.ns r.id nm with | some y => fnd t.ns y [] | none => none) = _
  rw [hx, kid_cons, if_neg (fun h => by have := h.1; omega), kid_cons, if_pos ⟨by omega, h4⟩]; rfl
def put2 (w : List UInt8) (k : Nat) (y : List UInt8) : List UInt8 := if y.length = 0 then w else wr2 (szd w (max (k + y.length) w.length)) k y
theorem g1_write {k : Nat} (h : G1 t r nm w) (hk : k + y.length ≤ 1048576) (hR : WriteR t 1 k y t' e) : e = 0 ∧ G1 t' r nm (put2 w k y) ∧ t'.tb = t.tb := by
 obtain ⟨x, hx, hb, hi, hf, h1, h2, h3, h4, h5⟩ := h.file
 have hF : fileO (byId t.ns 1) = (some x, 0) := by rw [hi]; simp [fileO, h3]
 have hby := h.bytes
 have hle := h.le
 have hxm : x ∈ t.ns := by rw [hx]; simp
 rcases hR with ⟨h6, _, _⟩ | ⟨x2, h6, h7⟩
 ·rw [hF] at h6; simp at h6
 ·rw [hF] at h6; have e1 : x2 = x := by have := congrArg Prod.fst h6; simpa using this.symm
  subst e1; have hs : szE t x2 (max (k + y.length) x2.data.length) = 0 := by unfold szE; rw [h5, if_neg (by omega), if_neg (by omega)]
  rcases h7 with ⟨h8, h9, rfl⟩ | ⟨_, h8, _⟩ | ⟨h8, _, h9 | ⟨_, h10, b0, rfl⟩⟩
  ·unfold put2; rw [if_pos h8]; exact ⟨h9, h, rfl⟩
  ·omega
  ·exact absurd hs (by rw [h9.1]; exact h9.2.1)
  ·refine ⟨h10, ⟨?_, datF (some ⟨b0, 0, none⟩) (max (k + y.length) x2.data.length) (wr2 (szd x2.data (max (k + y.length) x2.data.length)) k y) x2, ?_, h1, h2, h3, h4, ?_⟩, rfl⟩
   ·refine wf_data h.wf hxm h3 ?_; rw [wr2_len (by rw [szd_len]; omega), szd_len, h5]; omega
   ·show turnB x2.blk _ t.ns = _
    rw [hx]
    show [if r.blk = x2.blk then _ else _, if x2.blk = x2.blk then _ else _] = _
    rw [if_neg hb, if_pos rfl]
   ·show wr2 _ k y = _
    unfold put2; rw [if_neg (by omega), h5]
theorem g1_set {bw : At} (h : G1 t r nm w) (hbw : bw.Ok) (hr : bw.right = true) (hs : bw.f &&& 1 ≠ 0 → bw.s ≤ 1048576) (hR : SetR t 1 bw t' e) : e = 0 ∧ G1 t' r nm (if bw.f &&& 1 ≠ 0 then szd w bw.s else w) ∧ t'.tb = t.tb := by
 obtain ⟨x, hx, hb, hi, hf, h1, h2, h3, h4, h5⟩ := h.file
 have hby := h.bytes
 have hle := h.le
 have hxm : x ∈ t.ns := by rw [hx]; simp
 rcases hR with ⟨h6, _⟩ | ⟨x2, h6, h7⟩
 ·rw [hi] at h6; cases h6
 ·rw [hi] at h6
  injection h6 with h6; subst h6
  have hz : bw.f &&& 1 ≠ 0 → szE t x bw.s = 0 := fun hf1 => by
   have := hs hf1
   unfold szE; rw [h5, if_neg (by omega), if_neg (by omega)]
  rcases h7 with ⟨h8, _⟩ | ⟨_, _, h8, _⟩ | ⟨_, h8, _, h9, h10, _⟩ | ⟨_, rfl, t1, x1, h8, h9, h10, rfl⟩
  ·rw [hr] at h8; cases h8
  ·rw [h3] at h8; cases h8
  ·exact absurd (hz h8) (by rw [h9]; exact h10)
  ·have ha := merge_ok (by rw [h10]; exact (h.wf.a x hxm).1 : x1.a.Ok) hbw
   refine ⟨rfl, ?_⟩
   have key : G1 t1 r nm (if bw.f &&& 1 ≠ 0 then szd w bw.s else w) ∧ t1.tb = t.tb ∧ t1.ns = [r, x1] ∧ x1.id = 1 ∧ x1.par = 0 ∧ x1.dir = false ∧ x1.name = nm ∧ x1.data = (if bw.f &&& 1 ≠ 0 then szd w bw.s else w) := by
    rcases h8 with ⟨h11, _, h12, b, rfl, rfl⟩ | ⟨h11, rfl, rfl⟩
    ·have hm := szE_max h12
     have e1 : (dataT t x (some ⟨b, 0, none⟩) bw.s (szd x.data bw.s)).ns = [r, datF (some ⟨b, 0, none⟩) bw.s (szd x.data bw.s) x] := by
      show turnB x.blk _ t.ns = _
      rw [hx]
      show [if r.blk = x.blk then _ else _, if x.blk = x.blk then _ else _] = _
      rw [if_neg hb, if_pos rfl]
     have e2 : (datF (some ⟨b, 0, none⟩) bw.s (szd x.data bw.s) x).data = (if bw.f &&& 1 ≠ 0 then szd w bw.s else w) := by
      rw [if_pos h11, ← h5]; rfl
     exact ⟨⟨wf_data h.wf hxm h3 (by rw [szd_len]; exact hm.2), _, e1, h1, h2, h3, h4, e2⟩, rfl, e1, h1, h2, h3, h4, e2⟩
    ·rw [if_neg (fun h => h h11)]; exact ⟨h, rfl, hx, h1, h2, h3, h4, h5⟩
   obtain ⟨k1, k2, k3, k4, k5, k6, k7, k8⟩ := key
   have hb1 : r.blk ≠ x1.blk := by rw [h9]; exact hb
   refine ⟨⟨?_, attF { x1.a.merge bw with s := 0 } x1, ?_, k4, k5, k6, k7, k8⟩, k2⟩
   ·have hw := wf_att (x := x1) k1.wf (a := { x1.a.merge bw with s := 0 }) ⟨⟨ha.f, (by show (0 : Nat) < 18446744073709551616; decide), ha.u, ha.g, ha.m, ha.a, ha.t⟩, rfl⟩
    rw [if_neg hb1] at hw; exact hw
   ·show turnB x1.blk _ t1.ns = _
    rw [k3]
    show [if r.blk = x1.blk then _ else _, if x1.blk = x1.blk then _ else _] = _
    rw [if_neg hb1, if_pos rfl]
theorem make_wf {p : List (List UInt8)} {dir : Bool} {i : Int} (hW : Wf t r) (h : MakeR t r p dir t' r' i e) : Wf t' r' := by
 rcases h with ⟨rfl, rfl, _⟩ | ⟨hp, x, hh, hf, _, _, b, kp, kc, hb, rfl, rfl⟩
 ·exact hW
 ·obtain ⟨h1, hdir, hno, _, hok, _⟩ := x9 hh
  exact wf_made hW (yu hW.root h1) hdir hno hok hf hb
theorem g1_make (hW : Wf t r) (hns : t.ns = [r]) (hn : t.next = 1) (hok : ptOk nm = true) {i : Int} (h : MakeR t r [nm] false t' r' i e) (hW' : Wf t' r') : i = 1 ∧ e = 0 ∧ G1 t' r' nm [] ∧ t'.tb = t.tb := by
 obtain ⟨h1, h2, _, _, h5, b, _, _, _, h6⟩ := mk_first hW hns hok h
 exact ⟨by rw [h1, hn]; rfl, h2, ⟨hW', _, h6, hn, rfl, rfl, rfl, rfl⟩, h5⟩
theorem G1.look (h : G1 t r nm w) : lookO (fnd t.ns r [nm]) = (1, 0) := by
 obtain ⟨x, hx, hb, hi, hf, h1, h2, h3, h4, h5⟩ := h.file
 rw [hf]; show ((x.id : Int), (0 : Int)) = _; rw [h1]; rfl
theorem G1.att (h : G1 t r nm w) : ∃ a : At, attO (byId t.ns 1) = (a, 0) ∧ a.s = w.length := by
 obtain ⟨x, hx, hb, hi, hf, h1, h2, h3, h4, h5⟩ := h.file
 exact ⟨x.told, by rw [hi]; rfl, by rw [← h5]; rfl⟩
theorem G1.dir (h : G1 t r nm w) : dirO (byId t.ns 1) = false := by
 obtain ⟨x, hx, hb, hi, hf, h1, h2, h3, h4, h5⟩ := h.file
 rw [hi]; exact h3
theorem G1.read (h : G1 t r nm w) (a n : Nat) : readO (byId t.ns 1) a n = if w.length ≤ a then ([], 10) else ((w.drop a).take (min (w.drop a).length (min n 32768)), 0) := by
 obtain ⟨x, hx, hb, hi, hf, h1, h2, h3, h4, h5⟩ := h.file
 unfold readO; rw [hi, show fileO (some x) = (some x, 0) by simp [fileO, h3]]
 show readX x a n = _
 unfold readX; rw [h5]
end
section
variable {hs : List Hd} {s i j n : Nat} {y : Hd}
theorem hdA_set (hl : hs.length = 256) (h16 : s < 16) (hi : i < 16) (hj : j < 16) {s2 : Nat} (h2 : s2 < 16) : hdA (hs.set (s * 16 + i) y) s2 j = if s2 = s ∧ j = i then y else hdA hs s2 j := by
 unfold hdA; rw [List.getD_eq_getElem?_getD, List.getD_eq_getElem?_getD, List.getElem?_set]
 by_cases h : s2 = s ∧ j = i
 ·obtain ⟨rfl, rfl⟩ := h
  rw [if_pos rfl, if_pos (by omega), if_pos ⟨rfl, rfl⟩]; rfl
 ·rw [if_neg (by intro e; apply h; omega), if_neg h]
theorem find_zero (h : (hdA hs s 0).used = true) : findH hs s [104, 48] = some 0 := find_hit (i := 0) (fun j hj => by omega) (by omega) ⟨h, by unfold hname; rw [Go.Lib.decDigits_one (by decide)]; rfl⟩
theorem free_zero (h : (hdA hs s 0).used = false) : freeH hs s = some 0 := free_hit (i := 0) (fun j hj => by omega) (by omega) h
theorem hdA_new (s i : Nat) : hdA (List.replicate 256 Hd.zero) s i = Hd.zero := by
 unfold hdA; rw [List.getD_eq_getElem?_getD, List.getElem?_replicate]
 split <;> rfl
end
section
variable {t t' : Tr} {r r' : Nd} {nm w : List UInt8} {hs hs' : List Hd} {s n i : Nat} {q : Qr} {k : Rk}
theorem do_of_by (h16 : s < 16) (hb : byH q.kind) (h : doR t r hs (s : Int) q t' hs' k) : byR t r hs s q t' hs' k := by
 unfold doR at h; rw [if_neg (by omega), if_pos hb, Int.toNat_natCast] at h; exact h
theorem do_of_path (h16 : s < 16) (hb : ¬ byH q.kind) (h7 : ¬ (q.kind < 7 ∨ 18 < q.kind)) (h14 : ¬ (q.kind = 14 ∧ q.a.right = false)) (hp : (pSplit q.path).2 = 0) (h : doR t r hs (s : Int) q t' hs' k) : hs' = hs ∧ pathR t r q (pSplit q.path).1 t' k := by
 unfold doR at h; rw [if_neg (by omega), if_neg hb, if_neg h7, if_neg h14, if_neg (by omega)] at h; exact h
/-- the first file is opened -/
theorem run_first (hW : Wf t r) (hns : t.ns = [r]) (hn : t.next = 1) (h16 : s < 16) (hk : q.kind = 3) (hp : pSplit q.path = ([nm], 0)) (hok : ptOk nm = true) (ha : q.a = At.zero) (hf3 : q.flags &&& 3 ≠ 0) (hf8 : q.flags &&& 8 ≠ 0) (hf18 : q.flags &&& 18 ≠ 18) (hfr : freeH hs s = some n)
 (h : doR t r hs (s : Int) q t' hs' k) : ∃ r', G1 t' r' nm [] ∧ t'.tb = t.tb ∧ hs' = hs.set (s * 16 + n) ⟨true, 1, false, q.flags &&& 7, none, 0, []⟩ ∧ k = hdlK n := by
 have h := do_of_by h16 (by unfold byH; omega) h
 unfold byR at h; rw [if_pos hk] at h; unfold openR at h; rw [hfr] at h; dsimp only at h
 have hno : fnd t.ns r [nm] = none := by
  show (match kid t.ns r.id nm with | some y => fnd t.ns y [] | none => none) = _
  have := hW.rid; have := hW.rpar
  rw [hns, kid_cons, if_neg (fun h => by have := h.1; omega), kid_nil]
 rw [hp, if_neg (by rintro (h1 | h1 | h1); exact hf3 h1; (rw [ha] at h1; exact absurd h1 (by decide)); exact h1 rfl)] at h; dsimp only at h; rw [hno, if_neg (by decide), if_neg hf8] at h; obtain ⟨t1, r1, i, e, hM, h⟩ := h
 obtain ⟨rfl, rfl, hG, htb⟩ := g1_make hW hns hn hok hM (make_wf hW hM)
 rw [if_neg (by decide)] at h; obtain ⟨t2, e2, hS, h⟩ := h
 rw [ha] at hS; obtain ⟨_, hG2, htb2⟩ := g1_set hG (bare_ok At.zero_ok) (by decide) (by decide) hS
 rw [if_neg (by decide)] at hG2; unfold openT at h; rw [if_neg hf18] at h; obtain ⟨rfl, rfl, rfl⟩ := h
 exact ⟨r1, hG2, by rw [htb2, htb], rfl, rfl⟩
theorem fileI_hit (hG : G1 t r nm w) {hn : List UInt8} (hf : findH hs s hn = some i) (hi : (hdA hs s i).id = 1 ∧ (hdA hs s i).dir = false) : fileI t hs s hn = some i := by
 obtain ⟨a, ha, _⟩ := hG.att
 unfold fileI; rw [hf]; dsimp only; rw [hi.1, ha, if_pos ⟨hi.2, rfl⟩]
/-- the file is written -/
theorem run_write (hG : G1 t r nm w) (h16 : s < 16) (hk : q.kind = 6) (hf : findH hs s q.handle = some i) (hi : (hdA hs s i).id = 1 ∧ (hdA hs s i).dir = false) (hd : q.data.length ≤ 32768) (ho : q.off + q.data.length ≤ 1048576) (hw : w.length + q.data.length ≤ 1048576)
 (h : doR t r hs (s : Int) q t' hs' k) : hs' = hs ∧ t'.tb = t.tb ∧ if (hdA hs s i).flags &&& 2 = 0 then t' = t ∧ k = Rk.stat 3 else k = Rk.stat 0 ∧ G1 t' r nm (put2 w (if (hdA hs s i).flags &&& 4 ≠ 0 then w.length else q.off) q.data) := by
 have h := do_of_by h16 (by unfold byH; omega) h
 unfold byR at h; rw [if_neg (by omega), if_neg (by omega), if_neg (by omega), if_pos hk] at h; obtain ⟨rfl, h⟩ := h
 unfold writeR at h; rw [fileI_hit hG hf hi] at h; dsimp only at h
 by_cases h2 : (hdA hs' s i).flags &&& 2 = 0
 ·rw [if_pos h2] at h ⊢; exact ⟨rfl, by rw [h.1], h⟩
 ·rw [if_neg h2, if_neg (by omega)] at h; rw [if_neg h2]; obtain ⟨e, hR, rfl⟩ := h
  obtain ⟨a, ha, has⟩ := hG.att
  rw [hi.1, ha] at hR
  have e1 : (if (hdA hs' s i).flags &&& 4 ≠ 0 then ((a, (0 : Int)) : At × Int).1.s else q.off) = (if (hdA hs' s i).flags &&& 4 ≠ 0 then w.length else q.off) := by
   show (if _ then a.s else _) = _
   rw [has]
  rw [e1] at hR; obtain ⟨rfl, hG2, htb⟩ := g1_write hG (by split <;> omega) hR
  exact ⟨rfl, htb, rfl, hG2⟩
/-- what is told of the file -/
theorem run_stat (hG : G1 t r nm w) (h16 : s < 16) (hk : q.kind = 17) (hp : pSplit q.path = ([nm], 0)) (h : doR t r hs (s : Int) q t' hs' k) : t' = t ∧ hs' = hs ∧ ∃ a : At, k = ⟨5, 0, [], [], [], a⟩ ∧ a.s = w.length := by
 obtain ⟨rfl, h2⟩ := do_of_path h16 (by unfold byH; omega) (by omega) (by omega) (by rw [hp]) h
 unfold pathR at h2; rw [if_neg (by omega), if_neg (by omega), if_neg (by omega), if_neg (by omega), if_neg (by omega), if_neg (by omega), hp] at h2; obtain ⟨rfl, rfl⟩ := h2
 dsimp only; rw [hG.look]; obtain ⟨a, ha, has⟩ := hG.att
 refine ⟨rfl, rfl, a, ?_, has⟩; unfold toldK; dsimp only; rw [if_neg (by decide), ha, if_neg (fun h => h rfl)]
theorem run_close (h16 : s < 16) (hk : q.kind = 4) (h : doR t r hs (s : Int) q t' hs' k) : t' = t ∧ closeR hs s q hs' k := by
 have h := do_of_by h16 (by unfold byH; omega) h
 unfold byR at h; rw [if_neg (by omega), if_pos hk] at h; exact h
end
end Go.Proofs.YtlefpllcgcicpaaGreatDoor
