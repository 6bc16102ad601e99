/-
  The table as bytes.
-/
import Derived.Test.YtbiohhfibkolgaaTab3
import Derived.Test.YtbiohhfibkolgaaRText
namespace Go.Proofs.Ytbiohhfibkolgaa
open Go.Sx
set_option linter.unusedVariables false
set_option linter.unusedSimpArgs false
set_option maxRecDepth 100000
set_option maxHeartbeats 4000000

theorem text_at (pw : Nat) (p : Option Addr) (c : Nat) (l s : List UInt8) (hs : l.length + 4 + s.length ≤ 140737488355328) :
    Tri Try.prog 27 [.pointer (some ⟨pw, 0, none⟩), .string (str s)] (wr pw p c l) (fun r H' => ∃ p' c', r = .tuple #[] ∧ H' = wr pw p' c' (l ++ be s.length 4 ++ s)) := by
  have h := text_run pw p c l (str s) (by rw [str_size]; exact hs)
  rw [str_size] at h; exact h
def At.enc6 (a : At) : List UInt8 := be a.f 4 ++ be a.u 4 ++ be a.g 4 ++ be a.m 4 ++ be a.a 4 ++ be a.t 4 ++ be a.s 8
theorem At.enc6_len (a : At) : a.enc6.length = 32 := by simp only [At.enc6, List.length_append, be_length]
def At.six (a : At) : List Nat := [a.f, a.u, a.g, a.m, a.a, a.t]
def enc4 (l : List Nat) : List UInt8 := l.flatMap fun n => be n 4
theorem enc4_len (l : List Nat) : (enc4 l).length = 4 * l.length := by
  induction l with
  | nil => rfl
  | cons x r ih => rw [enc4, List.flatMap_cons, List.length_append, be_length]; unfold enc4 at ih; rw [ih, List.length_cons]; omega
theorem six_get (a : At) {i : Nat} (hi : i < a.six.length) : ([.int .u32 a.f, .int .u32 a.u, .int .u32 a.g, .int .u32 a.m, .int .u32 a.a, .int .u32 a.t] : List Value)[0 + i * 1]? = some (.int .u32 (a.six[i] : Nat)) := by
  have e : ([.int .u32 a.f, .int .u32 a.u, .int .u32 a.g, .int .u32 a.m, .int .u32 a.a, .int .u32 a.t] : List Value) = a.six.map fun n : Nat => Value.int .u32 (n : Int) := rfl
  rw [e, Nat.zero_add, Nat.mul_one, List.getElem?_map, List.getElem?_eq_getElem hi]; rfl
theorem six_lt {a : At} (h : a.Ok) {i : Nat} (hi : i < a.six.length) : a.six[i] < 4294967296 := by
  have : ∀ n ∈ a.six, n < 4294967296 := by
    intro n hn
    simp only [At.six, List.mem_cons, List.not_mem_nil, or_false] at hn
    rcases hn with rfl | rfl | rfl | rfl | rfl | rfl
    · exact h.f
    · exact h.u
    · exact h.g
    · exact h.m
    · exact h.a
    · exact h.t
  exact this _ (List.getElem_mem hi)
theorem enc6_eq (a : At) : enc4 a.six ++ be a.s 8 = a.enc6 := by simp only [enc4, At.six, At.enc6, List.flatMap_cons, List.flatMap_nil, List.append_nil, List.append_assoc]
theorem enc4_take (l : List Nat) {i : Nat} (hi : i < l.length) : enc4 (l.take (i + 1)) = enc4 (l.take i) ++ be l[i] 4 := by
  rw [List.take_succ_eq_append_getElem hi, enc4, List.flatMap_append, List.flatMap_cons, List.flatMap_nil, List.append_nil]; rfl


theorem all_spec6 (pw : Nat) (p : Option Addr) (c : Nat) (l : List UInt8) (a : At) (ha : a.Ok) (hl : l.length + 32 ≤ 140737488355328) :
    Tri Try.prog 77 [.pointer (some ⟨pw, 0, none⟩), a.v] (wr pw p c l) (fun r H' => ∃ p' c', r = .tuple #[] ∧ H' = wr pw p' c' (l ++ a.enc6)) := by
  refine tri_of_wpS Try.func77 rfl Try.ntmps77 (by simp) ?_
  refine wp_seq' ?_
  refine wp_region' ?_
  refine ops_eff' rfl (eff_box rfl) rfl ?_
  rintro _ _ ⟨b3, rfl, rfl⟩
  refine ops_nil ?_
  refine Then_normal ?_
  refine wp_seq' ?_
  refine wp_seq' ?_
  refine wp_region' ?_
  refine ops_ro' rfl (ro_fieldAddr fa30_0 rfl) rfl ?_
  refine ops_ro' rfl (ro_load sc27 rfl (Rd.pick 0 rfl (Rd.own rfl))) rfl ?_
  refine ops_ro' rfl (ro_fieldAddr fa30_2 rfl) rfl ?_
  refine ops_ro' rfl (ro_load sc27 rfl (Rd.pick 0 rfl (Rd.own rfl))) rfl ?_
  refine ops_ro' rfl (ro_fieldAddr fa30_3 rfl) rfl ?_
  refine ops_ro' rfl (ro_load sc27 rfl (Rd.pick 0 rfl (Rd.own rfl))) rfl ?_
  refine ops_ro' rfl (ro_fieldAddr fa30_4 rfl) rfl ?_
  refine ops_ro' rfl (ro_load sc27 rfl (Rd.pick 0 rfl (Rd.own rfl))) rfl ?_
  refine ops_ro' rfl (ro_fieldAddr fa30_5 rfl) rfl ?_
  refine ops_ro' rfl (ro_load sc27 rfl (Rd.pick 0 rfl (Rd.own rfl))) rfl ?_
  refine ops_ro' rfl (ro_fieldAddr fa30_6 rfl) rfl ?_
  refine ops_ro' rfl (ro_load sc27 rfl (Rd.pick 0 rfl (Rd.own rfl))) rfl ?_
  refine ops_eff' rfl (eff_lit sl133 rfl (sbld (cs := [_, _, _, _, _, _]) [(.int .u32 0), (.int .u32 0), (.int .u32 0), (.int .u32 0), (.int .u32 0), (.int .u32 0)] sl133 (by decide) (by kernel_rfl) rfl) rfl (by decide)) rfl ?_
  rintro _ _ ⟨b18, rfl, rfl⟩
  refine ops_ro' rfl (ro_sliceLen Try.underlying133 rfl) rfl ?_
  refine ops_ro' rfl (ro_move rfl) rfl ?_
  refine ops_nil ?_
  refine Then_normal ?_
  refine wp_block' ?_
  refine wp_loopK 2 (fun m Δ L => ∃ (i : Nat) (x : List UInt8) (p : Option Addr) (c : Nat), (i + m = a.six.length ∧ x = l ++ enc4 (a.six.take i)) ∧ Δ = [(20, .int .i64 (i : Nat))] ∧ L = [own pw (.cells [Value.slice p (x).length c].toArray 100 (0, 0)), row 5 1 (.slice p (x).length c) (x).length (cel (x)), row 27 1 (.slice (some ⟨b18, 0, none⟩) 6 6) 6 [.int .u32 a.f, .int .u32 a.u, .int .u32 a.g, .int .u32 a.m, .int .u32 a.a, .int .u32 a.t], own b3 (.cells a.cs.toArray 30 (0, 0))]) (m := a.six.length) (Has.cons (k := 0) rfl (Has.cons (k := 3) rfl (Has.cons (k := 18) rfl (Has.cons (k := 19) rfl (Has.nil _))))) (kept ⟨0, l, p, c, ⟨rfl, by simp [enc4]⟩, rfl, rfl⟩ (by repeat (first | exact Has.nil _ | refine Has.cons rfl ?_)) (by repeat (first | exact Has.nil _ | refine Has.cons rfl ?_)) (by repeat (first | exact SubH.nil _ | refine SubH.cons 0 rfl ?_ | refine SubH.cons 1 rfl ?_ | refine SubH.cons 2 rfl ?_ | refine SubH.cons 3 rfl ?_ | refine SubH.cons 4 rfl ?_ | refine SubH.cons 5 rfl ?_ | refine SubH.cons 6 rfl ?_ | refine SubH.cons 7 rfl ?_ | refine SubH.cons 8 rfl ?_ | refine SubH.cons 9 rfl ?_ | refine SubH.cons 10 rfl ?_ | refine SubH.cons 11 rfl ?_ | refine SubH.cons 12 rfl ?_ | refine SubH.cons 13 rfl ?_ | refine SubH.rown ?_))) ?_
  rintro m Δ L ⟨i, x, p, c, ⟨hm, hx⟩, rfl, rfl⟩
  simp only [List.cons_append, List.nil_append]
  refine wp_seq' ?_
  refine wp_region' ?_
  refine ops_ro' rfl (ro_lss rfl rfl rfl) rfl ?_
  refine ops_nil ?_
  refine Then_normal ?_
  refine wp_seq' ?_
  refine wp_cond' rfl (fun hc21 => ?_) (fun hc21 => ?_)
  · replace hc21 := of_decide_eq_true hc21
    have e6 : a.six.length = 6 := rfl
    have hi : i < a.six.length := by omega
    have h4 := six_lt ha hi
    have he := enc4_len (a.six.take i)
    have hel : x.length ≤ l.length + 24 := by rw [hx, List.length_append, he, List.length_take]; omega
    refine wp_skip' ?_
    refine Then_normal ?_
    refine wp_seq' ?_
    refine wp_block' ?_
    refine wp_seq' ?_
    refine wp_region' ?_
    refine ops_ro' rfl (ro_indexSlice sl133 rfl rfl rfl (by omega)) rfl ?_
    refine ops_ro' rfl (ro_load sc27 rfl (Rd.pick 2 rfl (Rd.row (six_get a hi)))) rfl ?_
    refine ops_ro' rfl (ro_assign rfl) rfl ?_
    refine ops_nil ?_
    refine Then_normal ?_
    refine wp_region' ?_
    refine ops_ro' rfl (ro_move rfl) rfl ?_
    refine ops_ro' rfl (ro_move rfl) rfl ?_
    refine ops_eff' rfl (eff_call Try.call25 rfl rfl (by repeat (first | exact Split.nil _ | apply Split.cons 0 rfl | apply Split.cons 1 rfl | apply Split.cons 2 rfl | apply Split.cons 3 rfl | apply Split.cons 4 rfl | apply Split.cons 5 rfl | apply Split.cons 6 rfl | apply Split.cons 7 rfl | apply Split.cons 8 rfl | apply Split.cons 9 rfl | apply Split.cons 10 rfl | apply Split.cons 11 rfl)) (u32_at pw p c x a.six[i] _ rfl h4 (by omega))) rfl ?_
    rintro _ H' ⟨_, ⟨p', c', rfl, rfl⟩, hH⟩
    simp only [List.cons_append, List.nil_append, List.eraseIdx_cons_zero, List.eraseIdx_cons_succ, List.set_cons_zero, List.set_cons_succ] at hH
    subst hH
    refine ops_nil ?_
    refine InBlock_normal ?_
    refine Then_normal ?_
    refine wp_region' ?_
    refine ops_ro' rfl (ro_add rfl rfl (wrap_inc (by omega))) rfl ?_
    refine ops_ro' rfl (ro_move rfl) rfl ?_
    refine ops_nil ?_
    refine Then_normal ?_
    refine back (m - 1) (by omega) (kept ⟨i + 1, x ++ be a.six[i] 4, p', c', ⟨by omega, by rw [hx, enc4_take _ hi, List.append_assoc]⟩, rfl, rfl⟩ ?_ ?_ ?_)
    · exact (by repeat (first | exact Has.nil _ | refine Has.cons rfl ?_))
    · exact (by repeat (first | exact Has.nil _ | refine Has.cons rfl ?_))
    · exact SubH.refl _
  · replace hc21 := of_decide_eq_false hc21
    have e6 : a.six.length = 6 := rfl
    have hi : a.six.take i = a.six := List.take_of_length_le (by omega)
    rw [hi] at hx
    have he := enc4_len a.six
    have hel : x.length ≤ l.length + 24 := by rw [hx, List.length_append, he]; omega
    refine wp_exit' ?_
    refine Then_exit ?_
    refine Then_exit ?_
    refine InBlock_here ?_
    refine Then_normal ?_
    refine wp_region' ?_
    refine ops_ro' rfl (ro_move rfl) rfl ?_
    refine ops_ro' rfl (ro_fieldAddr fa30_1 rfl) rfl ?_
    refine ops_ro' rfl (ro_load sc28 rfl (Rd.pick 3 rfl (Rd.own rfl))) rfl ?_
    refine ops_eff' rfl (eff_call Try.call26 rfl rfl (by repeat (first | exact Split.nil _ | apply Split.cons 0 rfl | apply Split.cons 1 rfl | apply Split.cons 2 rfl | apply Split.cons 3 rfl | apply Split.cons 4 rfl | apply Split.cons 5 rfl | apply Split.cons 6 rfl | apply Split.cons 7 rfl | apply Split.cons 8 rfl | apply Split.cons 9 rfl | apply Split.cons 10 rfl | apply Split.cons 11 rfl)) (u64_at pw p c x a.s _ rfl (by omega))) rfl ?_
    rintro _ H' ⟨_, ⟨p', c', rfl, rfl⟩, hH⟩
    simp only [List.cons_append, List.nil_append, List.eraseIdx_cons_zero, List.eraseIdx_cons_succ, List.set_cons_zero, List.set_cons_succ] at hH
    subst hH
    refine ops_nil ?_
    refine' doneS_normal (res0 rfl) ?_ ?_
    rotate_left 1
    exact ⟨p', c', rfl, (congrArg (wr pw p' c') (by rw [hx, List.append_assoc, enc6_eq]) : wr pw p' c' (x ++ be a.s 8) = _)⟩
    exact (SubH.cons 0 rfl (SubH.cons 0 rfl (SubH.nil _)))


/-- a whole number as 64 bits -/
def u64 (z : Int) : Nat := (z % 18446744073709551616).toNat
def txt (s : List UInt8) : List UInt8 := be s.length 4 ++ s
theorem txt_len (s : List UInt8) : (txt s).length = 4 + s.length := by rw [txt, List.length_append, be_length]
def Nm.enc (n : Nm) : List UInt8 := txt n.n ++ n.at'.enc6
theorem Nm.enc_len (n : Nm) : n.enc.length = 36 + n.n.length := by rw [Nm.enc, List.length_append, txt_len, At.enc6_len]; omega
def nenc (l : List Nm) : List UInt8 := l.flatMap Nm.enc
def Rc.enc (c : Rc) : List UInt8 := be (u64 c.kind) 8 ++ be (u64 c.status) 8 ++ txt c.h ++ txt c.d ++ be c.ns.length 4 ++ nenc c.ns ++ c.at'.enc6
def sc (z : Int) (c : Rc) : List UInt8 := be (u64 z) 8 ++ c.enc
def En.sc (e : En) : Int × Rc := (e.seq, e.r.c)
def tenc (l : List (Int × Rc)) : List UInt8 := l.flatMap fun x => sc x.1 x.2
def Rc.Ok (c : Rc) : Prop := c.at'.Ok ∧ ∀ n ∈ c.ns, n.at'.Ok
theorem Rc.enc_len (c : Rc) : c.enc.length = 60 + c.h.length + c.d.length + (nenc c.ns).length := by
  simp only [Rc.enc, List.length_append, be_length, txt_len, At.enc6_len]; omega
theorem sc_len (z : Int) (c : Rc) : (sc z c).length = 68 + c.h.length + c.d.length + (nenc c.ns).length := by rw [sc, List.length_append, be_length, Rc.enc_len]; omega
theorem fm_take {α : Type} (f : α → List UInt8) (l : List α) {i : Nat} {x : α} (hi : l[i]? = some x) : (l.take (i + 1)).flatMap f = (l.take i).flatMap f ++ f x := by
  obtain ⟨h1, rfl⟩ := List.getElem?_eq_some_iff.1 hi
  rw [List.take_succ_eq_append_getElem h1, List.flatMap_append, List.flatMap_cons, List.flatMap_nil, List.append_nil]
theorem fm_le {α : Type} (f : α → List UInt8) (l : List α) {i : Nat} {x : α} (hi : l[i]? = some x) : ((l.take i).flatMap f).length + (f x).length ≤ (l.flatMap f).length := by
  rw [← List.length_append, ← fm_take f l hi]
  conv => rhs; rw [← List.take_append_drop (i + 1) l, List.flatMap_append, List.length_append]
  omega
theorem nenc_ge : ∀ l : List Nm, 36 * l.length ≤ (nenc l).length
  | [] => by simp [nenc]
  | x :: r => by
    have h := nenc_ge r
    have h2 := Nm.enc_len x
    unfold nenc at h ⊢
    rw [List.flatMap_cons, List.length_append, List.length_cons]; omega
theorem conv_u64 (z : Int) : IntKind.u64.wrap z = ((u64 z : Nat) : Int) := by rw [wrap_u64_mod, u64]; omega


theorem save_spec (bt : Nat) (E : List En) (hE : E.length = 16) (hok : ∀ e ∈ E, e.r.c.Ok) (hs : (tenc (E.map En.sc)).length ≤ 140737488355328) :
    Tri Try.prog 47 [.pointer (some ⟨bt, 0, none⟩)] [tab bt E, owns E] (fun v H' => ∃ p c, v = .slice p (tenc (E.map En.sc)).length c ∧ H' = [row 5 1 (.slice p (tenc (E.map En.sc)).length c) (tenc (E.map En.sc)).length (cel (tenc (E.map En.sc))), tab bt E, owns E]) := by
  refine tri_of_wpS Try.func47 rfl Try.ntmps47 (by simp) ?_
  refine wp_seq' ?_
  refine wp_region' ?_
  refine ops_ro' rfl (ro_assign rfl) rfl ?_
  refine ops_nil ?_
  refine Then_normal ?_
  refine wp_seq' ?_
  refine wp_region' ?_
  refine ops_eff' rfl (eff_call Try.call22 rfl rfl (by repeat (first | exact Split.nil _ | apply Split.cons 0 rfl | apply Split.cons 1 rfl | apply Split.cons 2 rfl | apply Split.cons 3 rfl | apply Split.cons 4 rfl | apply Split.cons 5 rfl | apply Split.cons 6 rfl | apply Split.cons 7 rfl | apply Split.cons 8 rfl | apply Split.cons 9 rfl | apply Split.cons 10 rfl | apply Split.cons 11 rfl)) (newWriter_spec)) rfl ?_
  rintro _ H' ⟨_, ⟨pw, rfl, rfl⟩, hH⟩
  simp only [List.cons_append, List.nil_append, List.eraseIdx_cons_zero, List.eraseIdx_cons_succ, List.set_cons_zero, List.set_cons_succ] at hH
  subst hH
  refine ops_ro' rfl (ro_assign rfl) rfl ?_
  refine ops_nil ?_
  refine Then_normal ?_
  refine wp_seq' ?_
  refine wp_seq' ?_
  refine wp_region' ?_
  refine ops_ro' rfl (ro_move rfl) rfl ?_
  refine ops_ro' rfl (ro_nilCheck rfl) rfl ?_
  refine ops_ro' rfl (ro_fieldAddr fa96_0 rfl) rfl ?_
  refine ops_ro' rfl (ro_loadA ag94 rfl (RdN.of_pick 2 rfl rdn_all) (by rw [flat_len En.len, hE])) rfl ?_
  refine ops_ro' rfl (ro_move rfl) rfl ?_
  refine ops_nil ?_
  refine Then_normal ?_
  refine wp_block' ?_
  refine wp_loopK 3 (fun m Δ L => ∃ (i : Nat) (x : List UInt8) (p : Option Addr) (c : Nat), (i + m = 16 ∧ x = ((E.map En.sc).take i).flatMap fun z => sc z.1 z.2) ∧ Δ = [(13, .int .i64 (i : Nat))] ∧ L = [own pw (.cells [Value.slice p (x).length c].toArray 100 (0, 0)), row 5 1 (.slice p (x).length c) (x).length (cel (x)), tab bt E, owns E]) (m := 16) (Has.cons (k := 3) rfl (Has.cons (k := 12) rfl (Has.nil _))) (kept ⟨0, [], none, 0, ⟨rfl, rfl⟩, rfl, rfl⟩ (by repeat (first | exact Has.nil _ | refine Has.cons rfl ?_)) (by repeat (first | exact Has.nil _ | refine Has.cons rfl ?_)) (by repeat (first | exact SubH.nil _ | refine SubH.cons 0 rfl ?_ | refine SubH.cons 1 rfl ?_ | refine SubH.cons 2 rfl ?_ | refine SubH.cons 3 rfl ?_ | refine SubH.cons 4 rfl ?_ | refine SubH.cons 5 rfl ?_ | refine SubH.cons 6 rfl ?_ | refine SubH.cons 7 rfl ?_ | refine SubH.cons 8 rfl ?_ | refine SubH.cons 9 rfl ?_ | refine SubH.cons 10 rfl ?_ | refine SubH.cons 11 rfl ?_ | refine SubH.cons 12 rfl ?_ | refine SubH.cons 13 rfl ?_ | refine SubH.rown ?_))) ?_
  rintro m Δ L ⟨i, x, p, c, ⟨hm, hx⟩, rfl, rfl⟩
  simp only [List.cons_append, List.nil_append]
  refine wp_seq' ?_
  refine wp_region' ?_
  refine ops_ro' rfl (ro_lss rfl rfl rfl) rfl ?_
  refine ops_nil ?_
  refine Then_normal ?_
  refine wp_seq' ?_
  refine wp_cond' rfl (fun hc14 => ?_) (fun hc14 => ?_)
  · replace hc14 := of_decide_eq_true hc14
    have hi : i < E.length := by omega
    obtain ⟨⟨sq, cc, pd, cd, pn, cn⟩, hc⟩ : ∃ e, E[i]? = some e := ⟨_, List.getElem?_eq_getElem hi⟩
    have hc2 : (E.map En.sc)[i]? = some (sq, cc) := by rw [List.getElem?_map, hc]; rfl
    have hle := fm_le (fun z : Int × Rc => sc z.1 z.2) (E.map En.sc) hc2
    rw [← hx] at hle
    simp only [sc_len] at hle
    have hle2 : ((E.map En.sc).flatMap fun z => sc z.1 z.2).length ≤ 140737488355328 := hs
    have hnn := nenc_ge cc.ns
    obtain ⟨hok1, hok2⟩ := hok _ (List.mem_of_getElem? hc)
    refine wp_skip' ?_
    refine Then_normal ?_
    refine wp_seq' ?_
    refine wp_block' ?_
    refine wp_seq' ?_
    refine wp_region' ?_
    refine ops_ro' rfl (ro_indexF En.len Try.underlying94 ag93 rfl rfl rfl (by omega) hc) rfl ?_
    refine ops_eff' rfl (eff_alloc z93) rfl ?_
    rintro _ _ ⟨b5, rfl, rfl⟩
    refine ops_eff0 rfl (eff_storeA 0 ag93 rfl rfl rfl rfl rfl (Nat.le_of_ble_eq_true rfl) (warm_zero _)) rfl ?_
    rintro _ _ rfl
    refine ops_nil ?_
    refine Then_normal ?_
    refine wp_seq' ?_
    refine wp_region' ?_
    refine ops_ro' rfl (ro_move rfl) rfl ?_
    refine ops_ro' rfl (ro_fieldAddr fa93_0 rfl) rfl ?_
    refine ops_ro' rfl (ro_load sc3 rfl (Rd.pick 0 rfl (Rd.own rfl))) rfl ?_
    refine ops_ro' rfl (ro_conv Try.underlying3 Try.underlying28 rfl (conv_u64 _)) rfl ?_
    refine ops_eff' rfl (eff_call Try.call26 rfl rfl (by repeat (first | exact Split.nil _ | apply Split.cons 0 rfl | apply Split.cons 1 rfl | apply Split.cons 2 rfl | apply Split.cons 3 rfl | apply Split.cons 4 rfl | apply Split.cons 5 rfl | apply Split.cons 6 rfl | apply Split.cons 7 rfl | apply Split.cons 8 rfl | apply Split.cons 9 rfl | apply Split.cons 10 rfl | apply Split.cons 11 rfl)) (u64_at pw p c _ (u64 sq) _ rfl (by first | omega | (simp only [List.length_append, be_length]; omega)))) rfl ?_
    rintro _ H' ⟨_, ⟨p', c', rfl, rfl⟩, hH⟩
    simp only [List.cons_append, List.nil_append, List.eraseIdx_cons_zero, List.eraseIdx_cons_succ, List.set_cons_zero, List.set_cons_succ] at hH
    subst hH
    refine ops_nil ?_
    refine Then_normal ?_
    refine wp_seq' ?_
    refine wp_region' ?_
    refine ops_ro' rfl (ro_move rfl) rfl ?_
    refine ops_ro' rfl (ro_fieldAddr fa93_1 rfl) rfl ?_
    refine ops_ro' rfl (ro_fieldAddr fa32_0 rfl) rfl ?_
    refine ops_ro' rfl (ro_load sc3 rfl (Rd.pick 2 rfl (Rd.own rfl))) rfl ?_
    refine ops_ro' rfl (ro_conv Try.underlying3 Try.underlying28 rfl (conv_u64 _)) rfl ?_
    refine ops_eff' rfl (eff_call Try.call26 rfl rfl (by repeat (first | exact Split.nil _ | apply Split.cons 0 rfl | apply Split.cons 1 rfl | apply Split.cons 2 rfl | apply Split.cons 3 rfl | apply Split.cons 4 rfl | apply Split.cons 5 rfl | apply Split.cons 6 rfl | apply Split.cons 7 rfl | apply Split.cons 8 rfl | apply Split.cons 9 rfl | apply Split.cons 10 rfl | apply Split.cons 11 rfl)) (u64_at pw p' c' _ (u64 cc.kind) _ rfl (by first | omega | (simp only [List.length_append, be_length]; omega)))) rfl ?_
    rintro _ H' ⟨_, ⟨p', c', rfl, rfl⟩, hH⟩
    simp only [List.cons_append, List.nil_append, List.eraseIdx_cons_zero, List.eraseIdx_cons_succ, List.set_cons_zero, List.set_cons_succ] at hH
    subst hH
    refine ops_nil ?_
    refine Then_normal ?_
    refine wp_seq' ?_
    refine wp_region' ?_
    refine ops_ro' rfl (ro_move rfl) rfl ?_
    refine ops_ro' rfl (ro_fieldAddr fa93_1 rfl) rfl ?_
    refine ops_ro' rfl (ro_fieldAddr fa32_1 rfl) rfl ?_
    refine ops_ro' rfl (ro_load sc3 rfl (Rd.pick 2 rfl (Rd.own rfl))) rfl ?_
    refine ops_ro' rfl (ro_conv Try.underlying3 Try.underlying28 rfl (conv_u64 _)) rfl ?_
    refine ops_eff' rfl (eff_call Try.call26 rfl rfl (by repeat (first | exact Split.nil _ | apply Split.cons 0 rfl | apply Split.cons 1 rfl | apply Split.cons 2 rfl | apply Split.cons 3 rfl | apply Split.cons 4 rfl | apply Split.cons 5 rfl | apply Split.cons 6 rfl | apply Split.cons 7 rfl | apply Split.cons 8 rfl | apply Split.cons 9 rfl | apply Split.cons 10 rfl | apply Split.cons 11 rfl)) (u64_at pw p' c' _ (u64 cc.status) _ rfl (by first | omega | (simp only [List.length_append, be_length]; omega)))) rfl ?_
    rintro _ H' ⟨_, ⟨p', c', rfl, rfl⟩, hH⟩
    simp only [List.cons_append, List.nil_append, List.eraseIdx_cons_zero, List.eraseIdx_cons_succ, List.set_cons_zero, List.set_cons_succ] at hH
    subst hH
    refine ops_nil ?_
    refine Then_normal ?_
    refine wp_seq' ?_
    refine wp_region' ?_
    refine ops_ro' rfl (ro_move rfl) rfl ?_
    refine ops_ro' rfl (ro_fieldAddr fa93_1 rfl) rfl ?_
    refine ops_ro' rfl (ro_fieldAddr fa32_2 rfl) rfl ?_
    refine ops_ro' rfl (ro_load sc9 rfl (Rd.pick 2 rfl (Rd.own rfl))) rfl ?_
    refine ops_eff' rfl (eff_call Try.call27 rfl rfl (by repeat (first | exact Split.nil _ | apply Split.cons 0 rfl | apply Split.cons 1 rfl | apply Split.cons 2 rfl | apply Split.cons 3 rfl | apply Split.cons 4 rfl | apply Split.cons 5 rfl | apply Split.cons 6 rfl | apply Split.cons 7 rfl | apply Split.cons 8 rfl | apply Split.cons 9 rfl | apply Split.cons 10 rfl | apply Split.cons 11 rfl)) (text_at pw p' c' _ cc.h (by first | omega | (simp only [List.length_append, be_length]; omega)))) rfl ?_
    rintro _ H' ⟨_, ⟨p', c', rfl, rfl⟩, hH⟩
    simp only [List.cons_append, List.nil_append, List.eraseIdx_cons_zero, List.eraseIdx_cons_succ, List.set_cons_zero, List.set_cons_succ] at hH
    subst hH
    refine ops_nil ?_
    refine Then_normal ?_
    refine wp_seq' ?_
    refine wp_region' ?_
    refine ops_ro' rfl (ro_move rfl) rfl ?_
    refine ops_ro' rfl (ro_fieldAddr fa93_1 rfl) rfl ?_
    refine ops_ro' rfl (ro_fieldAddr fa32_3 rfl) rfl ?_
    refine ops_ro' rfl (ro_load sc25 rfl (Rd.pick 2 rfl (Rd.own rfl))) rfl ?_
    refine ops_ro' rfl (ro_toStr Try.underlying25 Try.underlying5 Try.underlying9 rfl (Vw.pick 4 rfl (En.in hc).d) rfl) rfl ?_
    refine ops_eff' rfl (eff_call Try.call27 rfl rfl (by repeat (first | exact Split.nil _ | apply Split.cons 0 rfl | apply Split.cons 1 rfl | apply Split.cons 2 rfl | apply Split.cons 3 rfl | apply Split.cons 4 rfl | apply Split.cons 5 rfl | apply Split.cons 6 rfl | apply Split.cons 7 rfl | apply Split.cons 8 rfl | apply Split.cons 9 rfl | apply Split.cons 10 rfl | apply Split.cons 11 rfl)) (text_at pw p' c' _ cc.d (by first | omega | (simp only [List.length_append, be_length]; omega)))) rfl ?_
    rintro _ H' ⟨_, ⟨p', c', rfl, rfl⟩, hH⟩
    simp only [List.cons_append, List.nil_append, List.eraseIdx_cons_zero, List.eraseIdx_cons_succ, List.set_cons_zero, List.set_cons_succ] at hH
    subst hH
    refine ops_nil ?_
    refine Then_normal ?_
    refine wp_seq' ?_
    refine wp_region' ?_
    refine ops_ro' rfl (ro_move rfl) rfl ?_
    refine ops_ro' rfl (ro_fieldAddr fa93_1 rfl) rfl ?_
    refine ops_ro' rfl (ro_fieldAddr fa32_4 rfl) rfl ?_
    refine ops_ro' rfl (ro_load sc26 rfl (Rd.pick 2 rfl (Rd.own rfl))) rfl ?_
    refine ops_ro' rfl (ro_sliceLen Try.underlying26 rfl) rfl ?_
    refine ops_ro' rfl (ro_conv Try.underlying3 Try.underlying27 rfl (wrap_u32_mod _)) rfl ?_
    refine ops_eff' rfl (eff_call Try.call25 rfl rfl (by repeat (first | exact Split.nil _ | apply Split.cons 0 rfl | apply Split.cons 1 rfl | apply Split.cons 2 rfl | apply Split.cons 3 rfl | apply Split.cons 4 rfl | apply Split.cons 5 rfl | apply Split.cons 6 rfl | apply Split.cons 7 rfl | apply Split.cons 8 rfl | apply Split.cons 9 rfl | apply Split.cons 10 rfl | apply Split.cons 11 rfl)) (u32_at pw p' c' _ (cc.ns.length % 4294967296) _ (by dsimp only; omega) (by omega) (by first | omega | (simp only [List.length_append, be_length]; omega)))) rfl ?_
    rintro _ H' ⟨_, ⟨p', c', rfl, rfl⟩, hH⟩
    simp only [List.cons_append, List.nil_append, List.eraseIdx_cons_zero, List.eraseIdx_cons_succ, List.set_cons_zero, List.set_cons_succ] at hH
    subst hH
    rw [be_mod]
    refine ops_nil ?_
    refine Then_normal ?_
    refine wp_seq' ?_
    refine wp_seq' ?_
    refine wp_region' ?_
    refine ops_ro' rfl (ro_fieldAddr fa93_1 rfl) rfl ?_
    refine ops_ro' rfl (ro_fieldAddr fa32_4 rfl) rfl ?_
    refine ops_ro' rfl (ro_load sc26 rfl (Rd.pick 2 rfl (Rd.own rfl))) rfl ?_
    refine ops_ro' rfl (ro_sliceLen Try.underlying26 rfl) rfl ?_
    refine ops_ro' rfl (ro_move rfl) rfl ?_
    refine ops_nil ?_
    refine Then_normal ?_
    refine wp_block' ?_
    refine wp_loopK 12 (fun m Δ L => ∃ (j : Nat) (y : List UInt8) (p : Option Addr) (c : Nat), (j + m = cc.ns.length ∧ y = (x ++ be (u64 sq) 8 ++ be (u64 cc.kind) 8 ++ be (u64 cc.status) 8 ++ be cc.h.length 4 ++ cc.h ++ be cc.d.length 4 ++ cc.d ++ be cc.ns.length 4) ++ (cc.ns.take j).flatMap Nm.enc) ∧ Δ = [(55, .int .i64 (j : Nat))] ∧ L = [own pw (.cells [Value.slice p (y).length c].toArray 100 (0, 0)), row 5 1 (.slice p (y).length c) (y).length (cel (y)), own b5 (.cells (En.cs ⟨sq, ⟨cc, pd, cd, pn, cn⟩⟩).toArray 93 (0, 0)), tab bt E, owns E]) (m := cc.ns.length) (Has.cons (k := 3) rfl (Has.cons (k := 5) rfl (Has.cons (k := 12) rfl (Has.cons (k := 13) rfl (Has.cons (k := 53) rfl (Has.cons (k := 54) rfl (Has.nil _))))))) (kept ⟨0, x ++ be (u64 sq) 8 ++ be (u64 cc.kind) 8 ++ be (u64 cc.status) 8 ++ be cc.h.length 4 ++ cc.h ++ be cc.d.length 4 ++ cc.d ++ be cc.ns.length 4, p', c', ⟨by omega, by simp⟩, rfl, rfl⟩ (by repeat (first | exact Has.nil _ | refine Has.cons rfl ?_)) (by repeat (first | exact Has.nil _ | refine Has.cons rfl ?_)) (by repeat (first | exact SubH.nil _ | refine SubH.cons 0 rfl ?_ | refine SubH.cons 1 rfl ?_ | refine SubH.cons 2 rfl ?_ | refine SubH.cons 3 rfl ?_ | refine SubH.cons 4 rfl ?_ | refine SubH.cons 5 rfl ?_ | refine SubH.cons 6 rfl ?_ | refine SubH.cons 7 rfl ?_ | refine SubH.cons 8 rfl ?_ | refine SubH.cons 9 rfl ?_ | refine SubH.cons 10 rfl ?_ | refine SubH.cons 11 rfl ?_ | refine SubH.cons 12 rfl ?_ | refine SubH.cons 13 rfl ?_ | refine SubH.rown ?_))) ?_
    rintro m2 Δ L ⟨j, y, p, c, ⟨hm2, hy⟩, rfl, rfl⟩
    simp only [List.cons_append, List.nil_append]
    refine wp_seq' ?_
    refine wp_region' ?_
    refine ops_ro' rfl (ro_lss rfl rfl rfl) rfl ?_
    refine ops_nil ?_
    refine Then_normal ?_
    refine wp_seq' ?_
    refine wp_cond' rfl (fun hc56 => ?_) (fun hc56 => ?_)
    · replace hc56 := of_decide_eq_true hc56
      have hj : j < cc.ns.length := by omega
      obtain ⟨n, hn⟩ : ∃ n, cc.ns[j]? = some n := ⟨_, List.getElem?_eq_getElem hj⟩
      have hle3 : ((cc.ns.take j).flatMap Nm.enc).length + n.enc.length ≤ (nenc cc.ns).length := fm_le Nm.enc cc.ns hn
      rw [Nm.enc_len] at hle3
      have hyl := congrArg List.length hy
      simp only [List.length_append, be_length] at hyl
      have hna := hok2 n (List.mem_of_getElem? hn)
      refine wp_know (fun w F s => vw_ptr (Vw.pick (H := [_, _, _, _, owns E]) 4 rfl (En.in hc).n) s (by show cc.ns.length ≠ 0; omega)) ?_
      rintro ⟨bb, o, hpn⟩
      obtain rfl : pn = some ⟨bb, o, none⟩ := hpn
      refine wp_skip' ?_
      refine Then_normal ?_
      refine wp_seq' ?_
      refine wp_block' ?_
      refine wp_seq' ?_
      refine wp_region' ?_
      refine ops_ro' rfl (ro_indexSlice sl26 rfl rfl rfl (by omega)) rfl ?_
      refine ops_ro' rfl (ro_loadA ag46 rfl (RdN.of_pick 4 rfl (RdN.elem (vw_rdn (En.in hc).n) Nm.len hn)) rfl) rfl ?_
      refine ops_eff' rfl (eff_alloc z46) rfl ?_
      rintro _ _ ⟨b7, rfl, rfl⟩
      refine ops_eff0 rfl (eff_storeA 0 ag46 rfl rfl rfl rfl rfl (Nat.le_of_ble_eq_true rfl) (warm_zero _)) rfl ?_
      rintro _ _ rfl
      refine ops_nil ?_
      refine Then_normal ?_
      refine wp_seq' ?_
      refine wp_region' ?_
      refine ops_ro' rfl (ro_move rfl) rfl ?_
      refine ops_ro' rfl (ro_fieldAddr fa46_0 rfl) rfl ?_
      refine ops_ro' rfl (ro_load sc9 rfl (Rd.pick 0 rfl (Rd.own rfl))) rfl ?_
      refine ops_eff' rfl (eff_call Try.call27 rfl rfl (by repeat (first | exact Split.nil _ | apply Split.cons 0 rfl | apply Split.cons 1 rfl | apply Split.cons 2 rfl | apply Split.cons 3 rfl | apply Split.cons 4 rfl | apply Split.cons 5 rfl | apply Split.cons 6 rfl | apply Split.cons 7 rfl | apply Split.cons 8 rfl | apply Split.cons 9 rfl | apply Split.cons 10 rfl | apply Split.cons 11 rfl)) (text_at pw p c y n.n (by omega))) rfl ?_
      rintro _ H' ⟨_, ⟨p', c', rfl, rfl⟩, hH⟩
      simp only [List.cons_append, List.nil_append, List.eraseIdx_cons_zero, List.eraseIdx_cons_succ, List.set_cons_zero, List.set_cons_succ] at hH
      subst hH
      refine ops_nil ?_
      refine Then_normal ?_
      refine wp_region' ?_
      refine ops_ro' rfl (ro_move rfl) rfl ?_
      refine ops_ro' rfl (ro_fieldAddr fa46_1 rfl) rfl ?_
      refine ops_ro' rfl (ro_loadA ag30 rfl (RdN.of_pick 2 rfl (rdn_sub 7)) rfl) rfl ?_
      refine ops_eff' rfl (eff_call Try.call77 rfl rfl (by repeat (first | exact Split.nil _ | apply Split.cons 0 rfl | apply Split.cons 1 rfl | apply Split.cons 2 rfl | apply Split.cons 3 rfl | apply Split.cons 4 rfl | apply Split.cons 5 rfl | apply Split.cons 6 rfl | apply Split.cons 7 rfl | apply Split.cons 8 rfl | apply Split.cons 9 rfl | apply Split.cons 10 rfl | apply Split.cons 11 rfl)) (all_spec6 pw p' c' _ n.at' hna (by first | omega | (simp only [List.length_append, be_length]; omega)))) rfl ?_
      rintro _ H' ⟨_, ⟨p', c', rfl, rfl⟩, hH⟩
      simp only [List.cons_append, List.nil_append, List.eraseIdx_cons_zero, List.eraseIdx_cons_succ, List.set_cons_zero, List.set_cons_succ] at hH
      subst hH
      have hy2 : y ++ be n.n.length 4 ++ n.n ++ n.at'.enc6 = (x ++ be (u64 sq) 8 ++ be (u64 cc.kind) 8 ++ be (u64 cc.status) 8 ++ be cc.h.length 4 ++ cc.h ++ be cc.d.length 4 ++ cc.d ++ be cc.ns.length 4) ++ (cc.ns.take (j + 1)).flatMap Nm.enc := by rw [fm_take Nm.enc cc.ns hn, ← List.append_assoc, ← hy, Nm.enc, txt]; simp only [List.append_assoc]
      refine ops_nil ?_
      refine InBlock_normal ?_
      refine Then_normal ?_
      refine wp_region' ?_
      refine ops_ro' rfl (ro_add rfl rfl (wrap_inc (by omega))) rfl ?_
      refine ops_ro' rfl (ro_move rfl) rfl ?_
      refine ops_nil ?_
      refine Then_normal ?_
      refine back (m2 - 1) (by omega) (kept ⟨j + 1, _, p', c', ⟨by omega, hy2⟩, rfl, rfl⟩ ?_ ?_ ?_)
      · exact (by repeat (first | exact Has.nil _ | refine Has.cons rfl ?_))
      · exact (by repeat (first | exact Has.nil _ | refine Has.cons rfl ?_))
      · exact (SubH.cons 0 rfl (SubH.cons 0 rfl (SubH.cons 1 rfl (SubH.cons 1 rfl (SubH.cons 1 rfl (SubH.nil _))))))
    · replace hc56 := of_decide_eq_false hc56
      have hj : cc.ns.take j = cc.ns := List.take_of_length_le (by omega)
      rw [hj] at hy
      have hyl := congrArg List.length hy
      simp only [List.length_append, be_length] at hyl
      have hnl : (cc.ns.flatMap Nm.enc).length = (nenc cc.ns).length := rfl
      refine wp_exit' ?_
      refine Then_exit ?_
      refine Then_exit ?_
      refine InBlock_here ?_
      refine Then_normal ?_
      refine wp_region' ?_
      refine ops_ro' rfl (ro_move rfl) rfl ?_
      refine ops_ro' rfl (ro_fieldAddr fa93_1 rfl) rfl ?_
      refine ops_ro' rfl (ro_fieldAddr fa32_5 rfl) rfl ?_
      refine ops_ro' rfl (ro_loadA ag30 rfl (RdN.of_pick 2 rfl (rdn_sub 7)) rfl) rfl ?_
      refine ops_eff' rfl (eff_call Try.call77 rfl rfl (by repeat (first | exact Split.nil _ | apply Split.cons 0 rfl | apply Split.cons 1 rfl | apply Split.cons 2 rfl | apply Split.cons 3 rfl | apply Split.cons 4 rfl | apply Split.cons 5 rfl | apply Split.cons 6 rfl | apply Split.cons 7 rfl | apply Split.cons 8 rfl | apply Split.cons 9 rfl | apply Split.cons 10 rfl | apply Split.cons 11 rfl)) (all_spec6 pw p c y cc.at' hok1 (by omega))) rfl ?_
      rintro _ H' ⟨_, ⟨p', c', rfl, rfl⟩, hH⟩
      simp only [List.cons_append, List.nil_append, List.eraseIdx_cons_zero, List.eraseIdx_cons_succ, List.set_cons_zero, List.set_cons_succ] at hH
      subst hH
      have hx3 : y ++ cc.at'.enc6 = ((E.map En.sc).take (i + 1)).flatMap fun z => sc z.1 z.2 := by rw [fm_take _ _ hc2, ← hx, hy]; simp only [sc, Rc.enc, txt, nenc, List.append_assoc]
      refine ops_nil ?_
      refine InBlock_normal ?_
      refine Then_normal ?_
      refine wp_region' ?_
      refine ops_ro' rfl (ro_add rfl rfl (wrap_inc (by omega))) rfl ?_
      refine ops_ro' rfl (ro_move rfl) rfl ?_
      refine ops_nil ?_
      refine Then_normal ?_
      refine back (m - 1) (by omega) (kept ⟨i + 1, _, p', c', ⟨by omega, hx3⟩, rfl, rfl⟩ ?_ ?_ ?_)
      · exact (by repeat (first | exact Has.nil _ | refine Has.cons rfl ?_))
      · exact (by repeat (first | exact Has.nil _ | refine Has.cons rfl ?_))
      · exact (SubH.cons 0 rfl (SubH.cons 0 rfl (SubH.cons 1 rfl (SubH.cons 1 rfl (SubH.nil _)))))
  · replace hc14 := of_decide_eq_false hc14
    have hi : (E.map En.sc).take i = E.map En.sc := List.take_of_length_le (by simp only [List.length_map]; omega)
    rw [hi] at hx
    refine wp_exit' ?_
    refine Then_exit ?_
    refine Then_exit ?_
    refine InBlock_here ?_
    refine Then_normal ?_
    refine wp_seq' ?_
    refine wp_region' ?_
    refine ops_ro' rfl (ro_move rfl) rfl ?_
    refine ops_eff' rfl (eff_call Try.call24 rfl rfl (by repeat (first | exact Split.nil _ | apply Split.cons 0 rfl | apply Split.cons 1 rfl | apply Split.cons 2 rfl | apply Split.cons 3 rfl | apply Split.cons 4 rfl | apply Split.cons 5 rfl | apply Split.cons 6 rfl | apply Split.cons 7 rfl | apply Split.cons 8 rfl | apply Split.cons 9 rfl | apply Split.cons 10 rfl | apply Split.cons 11 rfl)) (done_spec pw p c x (by rw [hx]; exact hs))) rfl ?_
    rintro _ H' ⟨_, ⟨p2, c2, rfl, hal, rfl⟩, hH⟩
    simp only [List.cons_append, List.nil_append, List.eraseIdx_cons_zero, List.eraseIdx_cons_succ, List.set_cons_zero, List.set_cons_succ] at hH
    subst hH
    refine ops_ro' rfl (ro_assign rfl) rfl ?_
    refine ops_nil ?_
    refine Then_normal ?_
    refine wp_ret' ?_
    subst hx
    refine' doneS_ret (res1 rfl rfl) ?_ ?_
    rotate_left 1
    exact ⟨p2, c2, rfl, rfl⟩
    exact (SubH.cons 0 rfl (SubH.cons 2 rfl (SubH.cons 2 rfl (SubH.nil _))))

end Go.Proofs.Ytbiohhfibkolgaa
