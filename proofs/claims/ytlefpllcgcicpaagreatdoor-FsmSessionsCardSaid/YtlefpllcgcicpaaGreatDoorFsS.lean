/-
  Law 16: a tree that has one file: what its machine answers.
  Law 16: what another session does keeps a file.
-/
import Derived.Test.YtlefpllcgcicpaaGreatDoorFsT
import Derived.Test.YtlefpllcgcicpaaGreatDoorTrK
import Derived.Test.YtlefpllcgcicpaaGreatDoorFsI
namespace Go.Proofs.YtlefpllcgcicpaaGreatDoor
open Go.Sx
set_option linter.unusedVariables false
set_option linter.unusedSimpArgs false
set_option maxRecDepth 100000
set_option maxHeartbeats 4000000

/-- the tree has a file nm of number 1, which holds w, and nothing else -/
structure G1 (t : Tr) (r : Nd) (nm w : List UInt8) : Prop where
  wf : Wf t r
  ns : ∃ x, t.ns = [r, x] ∧ x.id = 1 ∧ x.par = 0 ∧ x.dir = false ∧ x.name = nm ∧ x.data = w
section
variable {t t' : Tr} {r r' : Nd} {nm w y : List UInt8} {e : Int}
theorem G1.bytes (h : G1 t r nm w) : t.bytes = w.length := by
  obtain ⟨x, hx, _, _, _, _, h6⟩ := h.ns
  have h1 := h.wf.sum
  have h2 := h.wf.dat r h.wf.root h.wf.rdir
  rw [hx] at h1
  simp [h2, h6] at h1
  exact h1
theorem G1.le (h : G1 t r nm w) : w.length ≤ 1048576 := by rw [← h.bytes]; exact h.wf.max
theorem G1.file (h : G1 t r nm w) : ∃ x, t.ns = [r, x] ∧ r.blk ≠ x.blk ∧ byId t.ns 1 = some x ∧ fnd t.ns r [nm] = some x ∧ x.id = 1 ∧ x.par = 0 ∧ x.dir = false ∧ x.name = nm ∧ x.data = w := by
  obtain ⟨x, hx, h1, h2, h3, h4, h5⟩ := h.ns
  have hb := h.wf.kd.blks
  have hr := h.wf.rid
  have hp := h.wf.rpar
  rw [hx] at hb
  simp at hb
  refine ⟨x, hx, hb, ?_, ?_, h1, h2, h3, h4, h5⟩
  · rw [hx, byId_cons, if_neg (by omega), byId_cons, if_pos (by omega)]
  · show (match kid t.ns r.id nm with | some y => fnd t.ns y [] | none => none) = _
    rw [hx, kid_cons, if_neg (fun h => by have := h.1; omega), kid_cons, if_pos ⟨by omega, h4⟩]; rfl
def put2 (w : List UInt8) (k : Nat) (y : List UInt8) : List UInt8 := if y.length = 0 then w else wr2 (szd w (max (k + y.length) w.length)) k y
theorem g1_write {k : Nat} (h : G1 t r nm w) (hk : k + y.length ≤ 1048576) (hR : WriteR t 1 k y t' e) : e = 0 ∧ G1 t' r nm (put2 w k y) ∧ t'.tb = t.tb := by
  obtain ⟨x, hx, hb, hi, hf, h1, h2, h3, h4, h5⟩ := h.file
  have hF : fileO (byId t.ns 1) = (some x, 0) := by rw [hi]; simp [fileO, h3]
  have hby := h.bytes
  have hle := h.le
  have hxm : x ∈ t.ns := by rw [hx]; simp
  rcases hR with ⟨h6, _, _⟩ | ⟨x2, h6, h7⟩
  · rw [hF] at h6; simp at h6
  · rw [hF] at h6
    have e1 : x2 = x := by have := congrArg Prod.fst h6; simpa using this.symm
    subst e1
    have hs : szE t x2 (max (k + y.length) x2.data.length) = 0 := by unfold szE; rw [h5, if_neg (by omega), if_neg (by omega)]
    rcases h7 with ⟨h8, h9, rfl⟩ | ⟨_, h8, _⟩ | ⟨h8, _, h9 | ⟨_, h10, b0, rfl⟩⟩
    · unfold put2; rw [if_pos h8]; exact ⟨h9, h, rfl⟩
    · omega
    · exact absurd hs (by rw [h9.1]; exact h9.2.1)
    · refine ⟨h10, ⟨?_, datF (some ⟨b0, 0, none⟩) (max (k + y.length) x2.data.length) (wr2 (szd x2.data (max (k + y.length) x2.data.length)) k y) x2, ?_, h1, h2, h3, h4, ?_⟩, rfl⟩
      · refine wf_data h.wf hxm h3 ?_
        rw [wr2_len (by rw [szd_len]; omega), szd_len, h5]; omega
      · show turnB x2.blk _ t.ns = _
        rw [hx]
        show [if r.blk = x2.blk then _ else _, if x2.blk = x2.blk then _ else _] = _
        rw [if_neg hb, if_pos rfl]
      · show wr2 _ k y = _
        unfold put2; rw [if_neg (by omega), h5]
theorem g1_set {bw : At} (h : G1 t r nm w) (hbw : bw.Ok) (hr : bw.right = true) (hs : bw.f &&& 1 ≠ 0 → bw.s ≤ 1048576) (hR : SetR t 1 bw t' e) : e = 0 ∧ G1 t' r nm (if bw.f &&& 1 ≠ 0 then szd w bw.s else w) ∧ t'.tb = t.tb := by
  obtain ⟨x, hx, hb, hi, hf, h1, h2, h3, h4, h5⟩ := h.file
  have hby := h.bytes
  have hle := h.le
  have hxm : x ∈ t.ns := by rw [hx]; simp
  rcases hR with ⟨h6, _⟩ | ⟨x2, h6, h7⟩
  · rw [hi] at h6; cases h6
  · rw [hi] at h6
    injection h6 with h6; subst h6
    have hz : bw.f &&& 1 ≠ 0 → szE t x bw.s = 0 := fun hf1 => by
      have := hs hf1
      unfold szE; rw [h5, if_neg (by omega), if_neg (by omega)]
    rcases h7 with ⟨h8, _⟩ | ⟨_, _, h8, _⟩ | ⟨_, h8, _, h9, h10, _⟩ | ⟨_, rfl, t1, x1, h8, h9, h10, rfl⟩
    · rw [hr] at h8; cases h8
    · rw [h3] at h8; cases h8
    · exact absurd (hz h8) (by rw [h9]; exact h10)
    · have ha := merge_ok (by rw [h10]; exact (h.wf.a x hxm).1 : x1.a.Ok) hbw
      refine ⟨rfl, ?_⟩
      have key : G1 t1 r nm (if bw.f &&& 1 ≠ 0 then szd w bw.s else w) ∧ t1.tb = t.tb ∧ t1.ns = [r, x1] ∧ x1.id = 1 ∧ x1.par = 0 ∧ x1.dir = false ∧ x1.name = nm ∧ x1.data = (if bw.f &&& 1 ≠ 0 then szd w bw.s else w) := by
        rcases h8 with ⟨h11, _, h12, b, rfl, rfl⟩ | ⟨h11, rfl, rfl⟩
        · have hm := szE_max h12
          have e1 : (dataT t x (some ⟨b, 0, none⟩) bw.s (szd x.data bw.s)).ns = [r, datF (some ⟨b, 0, none⟩) bw.s (szd x.data bw.s) x] := by
            show turnB x.blk _ t.ns = _
            rw [hx]
            show [if r.blk = x.blk then _ else _, if x.blk = x.blk then _ else _] = _
            rw [if_neg hb, if_pos rfl]
          have e2 : (datF (some ⟨b, 0, none⟩) bw.s (szd x.data bw.s) x).data = (if bw.f &&& 1 ≠ 0 then szd w bw.s else w) := by
            rw [if_pos h11, ← h5]; rfl
          exact ⟨⟨wf_data h.wf hxm h3 (by rw [szd_len]; exact hm.2), _, e1, h1, h2, h3, h4, e2⟩, rfl, e1, h1, h2, h3, h4, e2⟩
        · rw [if_neg (fun h => h h11)]
          exact ⟨h, rfl, hx, h1, h2, h3, h4, h5⟩
      obtain ⟨k1, k2, k3, k4, k5, k6, k7, k8⟩ := key
      have hb1 : r.blk ≠ x1.blk := by rw [h9]; exact hb
      refine ⟨⟨?_, attF { x1.a.merge bw with s := 0 } x1, ?_, k4, k5, k6, k7, k8⟩, k2⟩
      · have hw := wf_att (x := x1) k1.wf (a := { x1.a.merge bw with s := 0 }) ⟨⟨ha.f, (by show (0 : Nat) < 18446744073709551616; decide), ha.u, ha.g, ha.m, ha.a, ha.t⟩, rfl⟩
        rw [if_neg hb1] at hw
        exact hw
      · show turnB x1.blk _ t1.ns = _
        rw [k3]
        show [if r.blk = x1.blk then _ else _, if x1.blk = x1.blk then _ else _] = _
        rw [if_neg hb1, if_pos rfl]
theorem make_wf {p : List (List UInt8)} {dir : Bool} {i : Int} (hW : Wf t r) (h : MakeR t r p dir t' r' i e) : Wf t' r' := by
  rcases h with ⟨rfl, rfl, _⟩ | ⟨hp, x, hh, hf, _, _, b, kp, kc, hb, rfl, rfl⟩
  · exact hW
  · obtain ⟨h1, hdir, hno, _, hok, _⟩ := holdO_inv hh
    exact wf_made hW (fnd_mem hW.root h1) hdir hno hok hf hb
theorem g1_make (hW : Wf t r) (hns : t.ns = [r]) (hn : t.next = 1) (hok : ptOk nm = true) {i : Int} (h : MakeR t r [nm] false t' r' i e) (hW' : Wf t' r') : i = 1 ∧ e = 0 ∧ G1 t' r' nm [] ∧ t'.tb = t.tb := by
  obtain ⟨h1, h2, _, _, h5, b, _, _, _, h6⟩ := mk_first hW hns hok h
  exact ⟨by rw [h1, hn]; rfl, h2, ⟨hW', _, h6, hn, rfl, rfl, rfl, rfl⟩, h5⟩
theorem G1.look (h : G1 t r nm w) : lookO (fnd t.ns r [nm]) = (1, 0) := by
  obtain ⟨x, hx, hb, hi, hf, h1, h2, h3, h4, h5⟩ := h.file
  rw [hf]; show ((x.id : Int), (0 : Int)) = _; rw [h1]; rfl
theorem G1.att (h : G1 t r nm w) : ∃ a : At, attO (byId t.ns 1) = (a, 0) ∧ a.s = w.length := by
  obtain ⟨x, hx, hb, hi, hf, h1, h2, h3, h4, h5⟩ := h.file
  exact ⟨x.told, by rw [hi]; rfl, by rw [← h5]; rfl⟩
theorem G1.dir (h : G1 t r nm w) : dirO (byId t.ns 1) = false := by
  obtain ⟨x, hx, hb, hi, hf, h1, h2, h3, h4, h5⟩ := h.file
  rw [hi]; exact h3
theorem G1.read (h : G1 t r nm w) (a n : Nat) : readO (byId t.ns 1) a n = if w.length ≤ a then ([], 10) else ((w.drop a).take (min (w.drop a).length (min n 32768)), 0) := by
  obtain ⟨x, hx, hb, hi, hf, h1, h2, h3, h4, h5⟩ := h.file
  unfold readO
  rw [hi, show fileO (some x) = (some x, 0) by simp [fileO, h3]]
  show readX x a n = _
  unfold readX; rw [h5]
end
section
variable {hs : List Hd} {s i j n : Nat} {y : Hd}
theorem hdA_set (hl : hs.length = 256) (h16 : s < 16) (hi : i < 16) (hj : j < 16) {s2 : Nat} (h2 : s2 < 16) : hdA (hs.set (s * 16 + i) y) s2 j = if s2 = s ∧ j = i then y else hdA hs s2 j := by
  unfold hdA
  rw [List.getD_eq_getElem?_getD, List.getD_eq_getElem?_getD, List.getElem?_set]
  by_cases h : s2 = s ∧ j = i
  · obtain ⟨rfl, rfl⟩ := h
    rw [if_pos rfl, if_pos (by omega), if_pos ⟨rfl, rfl⟩]; rfl
  · rw [if_neg (by intro e; apply h; omega), if_neg h]
theorem find_zero (h : (hdA hs s 0).used = true) : findH hs s [104, 48] = some 0 := find_hit (i := 0) (fun j hj => by omega) (by omega) ⟨h, by unfold hname; rw [Go.Lib.decDigits_one (by decide)]; rfl⟩
theorem free_zero (h : (hdA hs s 0).used = false) : freeH hs s = some 0 := free_hit (i := 0) (fun j hj => by omega) (by omega) h
theorem hdA_new (s i : Nat) : hdA (List.replicate 256 Hd.zero) s i = Hd.zero := by
  unfold hdA
  rw [List.getD_eq_getElem?_getD, List.getElem?_replicate]
  split <;> rfl
end
section
variable {t t' : Tr} {r r' : Nd} {nm w : List UInt8} {hs hs' : List Hd} {s n i : Nat} {q : Qr} {k : Rk}
theorem do_of_by (h16 : s < 16) (hb : byH q.kind) (h : doR t r hs (s : Int) q t' hs' k) : byR t r hs s q t' hs' k := by
  unfold doR at h
  rw [if_neg (by omega), if_pos hb, Int.toNat_natCast] at h; exact h
theorem do_of_path (h16 : s < 16) (hb : ¬ byH q.kind) (h7 : ¬ (q.kind < 7 ∨ 18 < q.kind)) (h14 : ¬ (q.kind = 14 ∧ q.a.right = false)) (hp : (pSplit q.path).2 = 0) (h : doR t r hs (s : Int) q t' hs' k) : hs' = hs ∧ pathR t r q (pSplit q.path).1 t' k := by
  unfold doR at h
  rw [if_neg (by omega), if_neg hb, if_neg h7, if_neg h14, if_neg (by omega)] at h; exact h
/-- the first file is opened -/
theorem run_first (hW : Wf t r) (hns : t.ns = [r]) (hn : t.next = 1) (h16 : s < 16) (hk : q.kind = 3) (hp : pSplit q.path = ([nm], 0)) (hok : ptOk nm = true) (ha : q.a = At.zero) (hf3 : q.flags &&& 3 ≠ 0) (hf8 : q.flags &&& 8 ≠ 0) (hf18 : q.flags &&& 18 ≠ 18) (hfr : freeH hs s = some n)
    (h : doR t r hs (s : Int) q t' hs' k) : ∃ r', G1 t' r' nm [] ∧ t'.tb = t.tb ∧ hs' = hs.set (s * 16 + n) ⟨true, 1, false, q.flags &&& 7, none, 0, []⟩ ∧ k = hdlK n := by
  have h := do_of_by h16 (by unfold byH; omega) h
  unfold byR at h
  rw [if_pos hk] at h
  unfold openR at h
  rw [hfr] at h
  dsimp only at h
  have hno : fnd t.ns r [nm] = none := by
    show (match kid t.ns r.id nm with | some y => fnd t.ns y [] | none => none) = _
    have := hW.rid; have := hW.rpar
    rw [hns, kid_cons, if_neg (fun h => by have := h.1; omega), kid_nil]
  rw [hp, if_neg (by rintro (h1 | h1 | h1); exact hf3 h1; (rw [ha] at h1; exact absurd h1 (by decide)); exact h1 rfl)] at h
  dsimp only at h
  rw [hno, if_neg (by decide), if_neg hf8] at h
  obtain ⟨t1, r1, i, e, hM, h⟩ := h
  obtain ⟨rfl, rfl, hG, htb⟩ := g1_make hW hns hn hok hM (make_wf hW hM)
  rw [if_neg (by decide)] at h
  obtain ⟨t2, e2, hS, h⟩ := h
  rw [ha] at hS
  obtain ⟨_, hG2, htb2⟩ := g1_set hG (bare_ok At.zero_ok) (by decide) (by decide) hS
  rw [if_neg (by decide)] at hG2
  unfold openT at h
  rw [if_neg hf18] at h
  obtain ⟨rfl, rfl, rfl⟩ := h
  exact ⟨r1, hG2, by rw [htb2, htb], rfl, rfl⟩
theorem fileI_hit (hG : G1 t r nm w) {hn : List UInt8} (hf : findH hs s hn = some i) (hi : (hdA hs s i).id = 1 ∧ (hdA hs s i).dir = false) : fileI t hs s hn = some i := by
  obtain ⟨a, ha, _⟩ := hG.att
  unfold fileI
  rw [hf]
  dsimp only
  rw [hi.1, ha, if_pos ⟨hi.2, rfl⟩]
/-- the file is written -/
theorem run_write (hG : G1 t r nm w) (h16 : s < 16) (hk : q.kind = 6) (hf : findH hs s q.handle = some i) (hi : (hdA hs s i).id = 1 ∧ (hdA hs s i).dir = false) (hd : q.data.length ≤ 32768) (ho : q.off + q.data.length ≤ 1048576) (hw : w.length + q.data.length ≤ 1048576)
    (h : doR t r hs (s : Int) q t' hs' k) : hs' = hs ∧ t'.tb = t.tb ∧ if (hdA hs s i).flags &&& 2 = 0 then t' = t ∧ k = Rk.stat 3 else k = Rk.stat 0 ∧ G1 t' r nm (put2 w (if (hdA hs s i).flags &&& 4 ≠ 0 then w.length else q.off) q.data) := by
  have h := do_of_by h16 (by unfold byH; omega) h
  unfold byR at h
  rw [if_neg (by omega), if_neg (by omega), if_neg (by omega), if_pos hk] at h
  obtain ⟨rfl, h⟩ := h
  unfold writeR at h
  rw [fileI_hit hG hf hi] at h
  dsimp only at h
  by_cases h2 : (hdA hs' s i).flags &&& 2 = 0
  · rw [if_pos h2] at h ⊢
    exact ⟨rfl, by rw [h.1], h⟩
  · rw [if_neg h2, if_neg (by omega)] at h
    rw [if_neg h2]
    obtain ⟨e, hR, rfl⟩ := h
    obtain ⟨a, ha, has⟩ := hG.att
    rw [hi.1, ha] at hR
    have e1 : (if (hdA hs' s i).flags &&& 4 ≠ 0 then ((a, (0 : Int)) : At × Int).1.s else q.off) = (if (hdA hs' s i).flags &&& 4 ≠ 0 then w.length else q.off) := by
      show (if _ then a.s else _) = _
      rw [has]
    rw [e1] at hR
    obtain ⟨rfl, hG2, htb⟩ := g1_write hG (by split <;> omega) hR
    exact ⟨rfl, htb, rfl, hG2⟩
/-- what is told of the file -/
theorem run_stat (hG : G1 t r nm w) (h16 : s < 16) (hk : q.kind = 17) (hp : pSplit q.path = ([nm], 0)) (h : doR t r hs (s : Int) q t' hs' k) : t' = t ∧ hs' = hs ∧ ∃ a : At, k = ⟨5, 0, [], [], [], a⟩ ∧ a.s = w.length := by
  obtain ⟨rfl, h2⟩ := do_of_path h16 (by unfold byH; omega) (by omega) (by omega) (by rw [hp]) h
  unfold pathR at h2
  rw [if_neg (by omega), if_neg (by omega), if_neg (by omega), if_neg (by omega), if_neg (by omega), if_neg (by omega), hp] at h2
  obtain ⟨rfl, rfl⟩ := h2
  dsimp only
  rw [hG.look]
  obtain ⟨a, ha, has⟩ := hG.att
  refine ⟨rfl, rfl, a, ?_, has⟩
  unfold toldK
  dsimp only
  rw [if_neg (by decide), ha, if_neg (fun h => h rfl)]
theorem run_close (h16 : s < 16) (hk : q.kind = 4) (h : doR t r hs (s : Int) q t' hs' k) : t' = t ∧ closeR hs s q hs' k := by
  have h := do_of_by h16 (by unfold byH; omega) h
  unfold byR at h
  rw [if_neg (by omega), if_pos hk] at h
  exact h
end

end Go.Proofs.YtlefpllcgcicpaaGreatDoor
namespace Go.Proofs.YtlefpllcgcicpaaGreatDoor
open Go.Sx
set_option linter.unusedVariables false
set_option linter.unusedSimpArgs false
set_option maxRecDepth 100000
set_option maxHeartbeats 4000000

def mine : List UInt8 := [109, 105, 110, 101]
/-- the file of number 1 is as it was -/
def Kept1 (t : Tr) (c : Co) : Prop := ∃ u ∈ t.ns, u.co = c
section
variable {t t' : Tr} {r r' : Nd} {c : Co} {e id : Int} {p : List (List UInt8)}
theorem kept_turn {x : Nd} {f : Nd → Nd} {u : Nd} {ns : List Nd} (hu : u ∈ ns) (h : u.blk ≠ x.blk) : u ∈ turnB x.blk f ns := List.mem_map.2 ⟨u, hu, by rw [if_neg h]⟩
theorem blk_ne (hW : Wf t r) {u x : Nd} (hu : u ∈ t.ns) (hx : x ∈ t.ns) (h : u.id ≠ x.id) : u.blk ≠ x.blk := fun e => h (by rw [nmB_mem hW.kd.blks hu hx e])
theorem keep_write {a : Nat} {b : List UInt8} (hW : Wf t r) (hc : c.id = 1) (h : Kept1 t c) (hid : id ≠ 1) (hR : WriteR t id a b t' e) : Kept1 t' c ∧ ∀ n, (a + b.length ≤ n ∨ ∃ x, byId t.ns id = some x ∧ a + b.length ≤ x.data.length + n) → t'.bytes ≤ t.bytes + n := by
  obtain ⟨u, hu, hco⟩ := h
  have hui : u.id = 1 := by have := congrArg Co.id hco; exact this.trans hc
  rcases hR with ⟨_, _, rfl⟩ | ⟨x, hf, hR⟩
  · exact ⟨⟨u, hu, hco⟩, fun n _ => by omega⟩
  · rcases hR with ⟨_, _, rfl⟩ | ⟨_, _, _, rfl⟩ | ⟨_, _, ⟨_, _, rfl⟩ | ⟨_, _, b0, rfl⟩⟩
    · exact ⟨⟨u, hu, hco⟩, fun n _ => by omega⟩
    · exact ⟨⟨u, hu, hco⟩, fun n _ => by omega⟩
    · exact ⟨⟨u, hu, hco⟩, fun n _ => by omega⟩
    · obtain ⟨hb, hd⟩ : byId t.ns id = some x ∧ x.dir = false := by
        rcases fileO_cases (byId t.ns id) with ⟨e, h4, _⟩ | ⟨y, h4, h5, h6⟩
        · rw [h4] at hf; simp at hf
        · rw [h6] at hf
          have e1 : y = x := by have := congrArg Prod.fst hf; simpa using this
          subst e1; exact ⟨h4, h5⟩
      have hx := byId_some hb
      refine ⟨⟨u, kept_turn hu (blk_ne hW hu hx.1 (by omega)), hco⟩, fun n hn => ?_⟩
      show t.bytes + (wr2 _ _ _).length - x.data.length ≤ _
      rw [wr2_len (by rw [szd_len]; omega), szd_len]
      rcases hn with hn | ⟨y, hy, hn⟩
      · omega
      · rw [hb] at hy; injection hy with hy; subst hy; omega
theorem keep_set {bw : At} (hW : Wf t r) (hc : c.id = 1) (h : Kept1 t c) (hid : id ≠ 1) (hR : SetR t id bw t' e) : Kept1 t' c ∧ ∀ n, (bw.f &&& 1 ≠ 0 → bw.s ≤ n) → t'.bytes ≤ t.bytes + n := by
  obtain ⟨u, hu, hco⟩ := h
  have hui : u.id = 1 := by have := congrArg Co.id hco; exact this.trans hc
  rcases hR with ⟨_, _, rfl⟩ | ⟨x, hb, ⟨_, _, rfl⟩ | ⟨_, _, _, _, rfl⟩ | ⟨_, _, _, _, _, rfl⟩ | ⟨_, _, t1, x1, h1, h2, _, rfl⟩⟩
  · exact ⟨⟨u, hu, hco⟩, fun n _ => by omega⟩
  · exact ⟨⟨u, hu, hco⟩, fun n _ => by omega⟩
  · exact ⟨⟨u, hu, hco⟩, fun n _ => by omega⟩
  · exact ⟨⟨u, hu, hco⟩, fun n _ => by omega⟩
  · have hx := byId_some hb
    have hne := blk_ne hW hu hx.1 (by omega)
    rcases h1 with ⟨hf1, hd, _, b, rfl, rfl⟩ | ⟨_, rfl, rfl⟩
    · refine ⟨⟨u, kept_turn (kept_turn hu hne) (by rw [h2]; exact hne), hco⟩, fun n hn => ?_⟩
      show t.bytes + (szd x.data bw.s).length - x.data.length ≤ _
      have := hn hf1
      rw [szd_len]; omega
    · exact ⟨⟨u, kept_turn hu hne, hco⟩, fun n _ => by show t1.bytes ≤ _; omega⟩
theorem keep_make {dir : Bool} {i : Int} (hW : Wf t r) (hc : c.id = 1) (hcd : c.dir = false) (h : Kept1 t c) (hR : MakeR t r p dir t' r' i e) : Kept1 t' c ∧ t'.bytes = t.bytes ∧ i ≠ 1 := by
  obtain ⟨u, hu, hco⟩ := h
  have hui : u.id = 1 := by have := congrArg Co.id hco; exact this.trans hc
  have hud : u.dir = false := by have := congrArg Co.dir hco; exact this.trans hcd
  rcases hR with ⟨rfl, _, rfl, _⟩ | ⟨hp, x, hh, _, rfl, _, b, kp, kc, hb, rfl, _⟩
  · exact ⟨⟨u, hu, hco⟩, rfl, by decide⟩
  · obtain ⟨h1, hdir, _⟩ := holdO_inv hh
    have hx := fnd_mem hW.root h1
    have hne : u.blk ≠ x.blk := fun e => by
      have := nmB_mem hW.kd.blks hu hx e
      rw [this, hdir] at hud; cases hud
    refine ⟨⟨u, List.mem_append_left _ (kept_turn hu hne), hco⟩, rfl, ?_⟩
    have := hW.lt u hu
    omega
theorem keep_rem {dir : Bool} (hW : Wf t r) (hc : c.id = 1) (h : Kept1 t c) (hp1 : ∀ x, fnd t.ns r p = some x → x.id ≠ 1) (hR : RemR t r p dir t' r' e) : Kept1 t' c ∧ t'.bytes ≤ t.bytes := by
  obtain ⟨u, hu, hco⟩ := h
  have hui : u.id = 1 := by have := congrArg Co.id hco; exact this.trans hc
  rcases hR with ⟨_, _, rfl, _⟩ | ⟨_, _, x, y, k, kp, kc, hp, hf, _, hx, hy, _, hxy, _, rfl, _⟩
  · exact ⟨⟨u, hu, hco⟩, Nat.le_refl _⟩
  · have hne := blk_ne hW hu hx (fun e => hp1 x hf (by omega))
    have hG := cutG_same x y kp kc k x.name u
    refine ⟨⟨cutG x y kp kc k x.name u, List.mem_filter.2 ⟨List.mem_map.2 ⟨u, hu, rfl⟩, ?_⟩, ?_⟩, by show t.bytes - _ ≤ _; omega⟩
    · rw [hG.1]; exact decide_eq_true hne
    · rw [← hco]
      have hN := cutG_no (y := y) hne (kp := kp) (kc := kc) (k := k) (s := x.name)
      show (⟨_, _, _, _, _, _⟩ : Co) = ⟨_, _, _, _, _, _⟩
      rw [hG.2.1, hG.2.2.1, hG.2.2.2.1, hG.2.2.2.2, hN.1, hN.2]
theorem keep_ren {tq : List (List UInt8)} (hW : Wf t r) (hc : c.id = 1) (h : Kept1 t c) (hp1 : ∀ x, fnd t.ns r p = some x → x.id ≠ 1) (hR : RenR t r p tq t' r' e) : Kept1 t' c ∧ t'.bytes = t.bytes := by
  obtain ⟨u, hu, hco⟩ := h
  have hui : u.id = 1 := by have := congrArg Co.id hco; exact this.trans hc
  rcases hR with ⟨_, _, rfl, _⟩ | ⟨_, _, _, _, x, y, k, g, hf, _, _, _, hM, _, _, _, hb⟩
  · exact ⟨⟨u, hu, hco⟩, rfl⟩
  · have hne : u ≠ x := fun e => hp1 x hf (by rw [← e, hui])
    obtain ⟨m1, m2⟩ := hM.no u hu hne
    refine ⟨⟨g u, by rw [hM.lst]; exact List.mem_map.2 ⟨u, hu, rfl⟩, ?_⟩, hb⟩
    rw [← hco]
    show (⟨_, _, _, _, _, _⟩ : Co) = ⟨_, _, _, _, _, _⟩
    rw [hM.id, m1, hM.dir, m2, hM.data, hM.a]
end
/-- the names of small requests lead elsewhere -/
theorem small_split : ∀ s ∈ sm7, (pSplit s).1 = [] ∨ lastN (pSplit s).1 ≠ mine := by decide
theorem small_ne {t : Tr} {r : Nd} {c : Co} (hW : Wf t r) (hc : c.id = 1) (hcn : c.name = mine) (h : Kept1 t c) {s : List UInt8} (hs : s ∈ sm7) : ∀ x, fnd t.ns r (pSplit s).1 = some x → x.id ≠ 1 := fun x hx e => by
  obtain ⟨u, hu, hco⟩ := h
  have hui : u.id = 1 := by have := congrArg Co.id hco; exact this.trans hc
  have hun : u.name = mine := by have := congrArg Co.name hco; exact this.trans hcn
  have hxm := fnd_mem hW.root hx
  have hxu : x = u := nmId hW.ids hxm hu (by omega)
  rcases small_split s hs with h1 | h1
  · rw [h1] at hx
    injection hx with hx
    have := hW.rid
    rw [hx] at this; omega
  · by_cases h2 : (pSplit s).1 = []
    · rw [h2] at hx
      injection hx with hx
      have := hW.rid
      rw [hx] at this; omega
    · obtain ⟨y, _, hk⟩ := fnd_last h2 hx
      exact h1 ((kid_some hk).2.2.symm.trans (by rw [hxu]; exact hun))
/-- other sessions' handles lead elsewhere; the fifth has one -/
structure Ses (hs : List Hd) : Prop where
  ok : HsOk hs
  h0 : hdA hs 5 0 = ⟨true, 1, false, 3, none, 0, []⟩
  no : ∀ j, 0 < j → j < 16 → (hdA hs 5 j).used = false
  el : ∀ s j, s < 5 → j < 16 → (hdA hs s j).used = true → (hdA hs s j).id ≠ 1
theorem Ses.set {hs : List Hd} (h : Ses hs) {s i : Nat} {y : Hd} (h5 : s < 5) (hi : i < 16) (hy : HdP y) (hyi : y.used = true → y.id ≠ 1) : Ses (hs.set (s * 16 + i) y) :=
  ⟨h.ok.set hy, by rw [hdA_set h.ok.len (by omega) hi (by omega) (by omega), if_neg (by omega)]; exact h.h0,
   fun j h1 h2 => by rw [hdA_set h.ok.len (by omega) hi h2 (by omega), if_neg (by omega)]; exact h.no j h1 h2,
   fun s2 j h1 h2 h3 => by
    rw [hdA_set h.ok.len (by omega) hi h2 (by omega)] at h3 ⊢
    split
    · rename_i h4; rw [if_pos h4] at h3; exact hyi h3
    · rename_i h4; rw [if_neg h4] at h3; exact h.el s2 j h1 h2 h3⟩
theorem find_used {hs : List Hd} {s i : Nat} {nm : List UInt8} (h : findH hs s nm = some i) : (hdA hs s i).used = true := by
  have := List.find?_some h
  simp only [Bool.and_eq_true] at this
  exact this.1
/-- what a session's small request keeps -/
theorem ses_step {t t' : Tr} {r : Nd} {c : Co} {hs hs' : List Hd} {s : Nat} {q : Qr} {k : Rk} (hW : Wf t r) (hc : c.id = 1) (hcd : c.dir = false) (hcn : c.name = mine) (h : Kept1 t c) (hS : Ses hs) (h5 : s < 5) (hp : q.path ∈ sm7) (hdest : q.dest ∈ sm7)
    (hoff : q.off < 300) (hdl : q.data.length ≤ 100) (hq : q.a.Ok) (has : q.a.f &&& 1 ≠ 0 → q.a.s < 300) (hH' : HsOk hs') (hD : doR t r hs (s : Int) q t' hs' k) : Kept1 t' c ∧ Ses hs' ∧ t'.bytes ≤ t.bytes + 400 := by
  have hne := small_ne hW hc hcn h hp
  have hel := fun i hf => hS.el s i h5 (find_lt (i := i) (nm := q.handle) hf) (find_used hf)
  have hlk : (lookO (fnd t.ns r (pSplit q.path).1)).1 ≠ 1 := by
    cases hf : fnd t.ns r (pSplit q.path).1 with
    | none => decide
    | some x => have := hne x hf; show (x.id : Int) ≠ 1; omega
  have hl16 : (look16 t r q.path).1 ≠ 1 := by
    unfold look16
    split
    · show (0 : Int) ≠ 1; decide
    · exact hlk
  have hset : ∀ {t2 t3 : Tr} {r2 : Nd} {id e : Int}, Wf t2 r2 → Kept1 t2 c → id ≠ 1 → SetR t2 id (bareA q.a) t3 e → Kept1 t3 c ∧ t3.bytes ≤ t2.bytes := fun hW2 hk hid hR => by
    obtain ⟨a1, a2⟩ := keep_set hW2 hc hk hid hR
    exact ⟨a1, by have := a2 0 (fun _ => Nat.zero_le _); omega⟩
  unfold doR at hD
  rw [if_neg (by omega)] at hD
  by_cases hb : byH q.kind
  · rw [if_pos hb, Int.toNat_natCast] at hD
    unfold byR at hD
    by_cases k3 : q.kind = 3
    · rw [if_pos k3] at hD
      unfold openR at hD
      cases hfr : freeH hs s with
      | none =>
        rw [hfr] at hD
        obtain ⟨rfl, rfl, _⟩ := hD
        exact ⟨h, hS, by omega⟩
      | some n =>
        have hn := free_lt hfr
        rw [hfr] at hD
        dsimp only at hD
        have fin : ∀ {t2 : Tr} {r2 : Nd} {id : Int}, Wf t2 r2 → Kept1 t2 c → t2.bytes ≤ t.bytes → id ≠ 1 → openT t2 hs s n q id t' hs' k → Kept1 t' c ∧ Ses hs' ∧ t'.bytes ≤ t.bytes + 400 := fun hW2 hk hb2 hid hO => by
          obtain ⟨o1, rfl, _⟩ := hO
          have hy := hH'.all _ (List.mem_of_getElem? (List.getElem?_set_self (by rw [hS.ok.len]; omega)))
          refine ⟨?_, hS.set h5 hn hy (fun _ => hid), ?_⟩
          · split at o1
            · obtain ⟨e, hR⟩ := o1
              exact (keep_set hW2 hc hk hid hR).1
            · rw [o1]; exact hk
          · split at o1
            · obtain ⟨e, hR⟩ := o1
              have := (keep_set hW2 hc hk hid hR).2 0 (fun _ => Nat.zero_le _); omega
            · rw [o1]; omega
        split at hD
        · obtain ⟨rfl, rfl, _⟩ := hD
          exact ⟨h, hS, by omega⟩
        · split at hD
          · split at hD
            · obtain ⟨rfl, rfl, _⟩ := hD
              exact ⟨h, hS, by omega⟩
            · exact fin hW h (Nat.le_refl _) hlk hD
          · split at hD
            · obtain ⟨rfl, rfl, _⟩ := hD
              exact ⟨h, hS, by omega⟩
            · obtain ⟨t1, r1, i, e, hM, hD⟩ := hD
              have hW1 := make_wf hW hM
              obtain ⟨m1, m2, m3⟩ := keep_make hW hc hcd h hM
              split at hD
              · obtain ⟨rfl, rfl, _⟩ := hD
                exact ⟨m1, hS, by omega⟩
              · obtain ⟨t2, e2, hR, hD⟩ := hD
                obtain ⟨s1, s2⟩ := hset hW1 m1 m3 hR
                obtain ⟨⟨r2, hW2⟩, _⟩ := set_wf hW1 (bare_ok hq) hR
                exact fin hW2 s1 (by omega) m3 hD
    · rw [if_neg k3] at hD
      by_cases k4 : q.kind = 4
      · rw [if_pos k4] at hD
        obtain ⟨rfl, hD⟩ := hD
        unfold closeR at hD
        cases hf : findH hs s q.handle with
        | none => rw [hf] at hD; obtain ⟨rfl, _⟩ := hD; exact ⟨h, hS, by omega⟩
        | some i =>
          rw [hf] at hD; obtain ⟨rfl, _⟩ := hD
          exact ⟨h, hS.set h5 (find_lt hf) ⟨by decide, by decide, by decide⟩ (fun hu => by cases hu), by omega⟩
      · rw [if_neg k4] at hD
        by_cases k5 : q.kind = 5
        · rw [if_pos k5] at hD
          obtain ⟨rfl, rfl, _⟩ := hD
          exact ⟨h, hS, by omega⟩
        · rw [if_neg k5] at hD
          by_cases k6 : q.kind = 6
          · rw [if_pos k6] at hD
            obtain ⟨rfl, hD⟩ := hD
            unfold writeR at hD
            cases hf : fileI t hs' s q.handle with
            | none => rw [hf] at hD; obtain ⟨rfl, _⟩ := hD; exact ⟨h, hS, by omega⟩
            | some i =>
              rw [hf] at hD
              dsimp only at hD
              obtain ⟨_, hfi, _, hat⟩ := fileI_lt hf
              split at hD
              · obtain ⟨rfl, _⟩ := hD; exact ⟨h, hS, by omega⟩
              · split at hD
                · obtain ⟨rfl, _⟩ := hD; exact ⟨h, hS, by omega⟩
                · obtain ⟨e, hR, _⟩ := hD
                  obtain ⟨w1, w2⟩ := keep_write hW hc h (hel i hfi) hR
                  refine ⟨w1, hS, w2 400 ?_⟩
                  split
                  · cases hb2 : byId t.ns (hdA hs' s i).id with
                    | none => rw [hb2] at hat; cases hat
                    | some x => exact .inr ⟨x, rfl, by show x.data.length + _ ≤ _; omega⟩
                  · exact .inl (by omega)
          · rw [if_neg k6] at hD
            by_cases k8 : q.kind = 8
            · rw [if_pos k8] at hD
              obtain ⟨rfl, rfl, _⟩ := hD
              exact ⟨h, hS, by omega⟩
            · rw [if_neg k8] at hD
              by_cases k10 : q.kind = 10
              · rw [if_pos k10] at hD
                obtain ⟨rfl, hD⟩ := hD
                unfold setR at hD
                cases hf : findH hs' s q.handle with
                | none => rw [hf] at hD; obtain ⟨rfl, _⟩ := hD; exact ⟨h, hS, by omega⟩
                | some i =>
                  rw [hf] at hD
                  dsimp only at hD
                  split at hD
                  · obtain ⟨rfl, _⟩ := hD; exact ⟨h, hS, by omega⟩
                  · split at hD
                    · obtain ⟨rfl, _⟩ := hD; exact ⟨h, hS, by omega⟩
                    · obtain ⟨e, hR, _⟩ := hD
                      obtain ⟨w1, w2⟩ := keep_set hW hc h (hel i hf) hR
                      exact ⟨w1, hS, w2 400 (fun h1 => by have := has h1; omega)⟩
              · rw [if_neg k10] at hD
                by_cases k11 : q.kind = 11
                · rw [if_pos k11] at hD
                  obtain ⟨rfl, hD⟩ := hD
                  unfold opendirR at hD
                  cases hfr : freeH hs s with
                  | none => rw [hfr] at hD; obtain ⟨rfl, _⟩ := hD; exact ⟨h, hS, by omega⟩
                  | some n =>
                    have hn := free_lt hfr
                    rw [hfr] at hD
                    dsimp only at hD
                    split at hD
                    · obtain ⟨rfl, _⟩ := hD; exact ⟨h, hS, by omega⟩
                    · split at hD
                      · obtain ⟨rfl, _⟩ := hD; exact ⟨h, hS, by omega⟩
                      · obtain ⟨np, nc, _, rfl, _⟩ := hD
                        have hy := hH'.all _ (List.mem_of_getElem? (List.getElem?_set_self (by rw [hS.ok.len]; omega)))
                        exact ⟨h, hS.set h5 hn hy (fun _ => hl16), by omega⟩
                · rw [if_neg k11] at hD
                  obtain ⟨rfl, hD⟩ := hD
                  unfold readdirR at hD
                  cases hf : findH hs s q.handle with
                  | none => rw [hf] at hD; obtain ⟨rfl, _⟩ := hD; exact ⟨h, hS, by omega⟩
                  | some i =>
                    rw [hf] at hD
                    dsimp only at hD
                    split at hD
                    · obtain ⟨rfl, _⟩ := hD; exact ⟨h, hS, by omega⟩
                    · split at hD
                      · obtain ⟨rfl, _⟩ := hD; exact ⟨h, hS, by omega⟩
                      · obtain ⟨np, nc, _, rfl, _⟩ := hD
                        have hy := hH'.all _ (List.mem_of_getElem? (List.getElem?_set_self (by rw [hS.ok.len]; have := find_lt hf; omega)))
                        exact ⟨h, hS.set h5 (find_lt hf) hy (fun _ => hel i hf), by omega⟩
  · rw [if_neg hb] at hD
    split at hD
    · obtain ⟨rfl, rfl, _⟩ := hD; exact ⟨h, hS, by omega⟩
    · split at hD
      · obtain ⟨rfl, rfl, _⟩ := hD; exact ⟨h, hS, by omega⟩
      · split at hD
        · obtain ⟨rfl, rfl, _⟩ := hD; exact ⟨h, hS, by omega⟩
        · obtain ⟨rfl, hD⟩ := hD
          refine ⟨?_, hS, ?_⟩ <;> unfold pathR at hD
          all_goals
            split at hD
            · obtain ⟨r', e, hR, _⟩ := hD
              have := keep_rem hW hc h hne hR
              first | exact this.1 | (have := this.2; omega)
            · split at hD
              · obtain ⟨r', e, hR, _⟩ := hD
                have := keep_rem hW hc h hne hR
                first | exact this.1 | (have := this.2; omega)
              · split at hD
                · obtain ⟨t1, r1, i, e, hM, _, hD⟩ := hD
                  have hW1 := make_wf hW hM
                  obtain ⟨m1, m2, m3⟩ := keep_make hW hc hcd h hM
                  split at hD
                  · obtain ⟨e2, hR⟩ := hD
                    have := hset hW1 m1 m3 hR
                    first | exact this.1 | (have := this.2; omega)
                  · subst hD
                    first | exact m1 | omega
                · split at hD
                  · split at hD
                    · obtain ⟨rfl, _⟩ := hD
                      first | exact h | omega
                    · obtain ⟨r', e, hR, _⟩ := hD
                      have := keep_ren hW hc h hne hR
                      first | exact this.1 | (have := this.2; omega)
                  · split at hD
                    · obtain ⟨rfl, _⟩ := hD
                      first | exact h | omega
                    · split at hD
                      · split at hD
                        · obtain ⟨e, hR, _⟩ := hD
                          have := keep_set hW hc h hlk hR
                          first | exact this.1 | (have := this.2 400 (fun h1 => by have := has h1; omega); omega)
                        · obtain ⟨rfl, _⟩ := hD
                          first | exact h | omega
                      · obtain ⟨rfl, _⟩ := hD
                        first | exact h | omega

end Go.Proofs.YtlefpllcgcicpaaGreatDoor
