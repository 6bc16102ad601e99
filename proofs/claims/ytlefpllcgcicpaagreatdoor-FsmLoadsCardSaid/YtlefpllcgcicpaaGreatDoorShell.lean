/-
  From a walk to the row's end: arguments opened, what was there kept.
-/
import Derived.Test.YtlefpllcgcicpaaGreatDoorSxSub
import Derived.WalkKit
import Derived.ProofKit
import Derived.OpenShut
import Derived.SizedLaws
import Derived.Carry
import Derived.Deep.Fields
set_option linter.unusedVariables false
namespace Go.Sx
open Go.ChangeShapes Go.WideShapes Go.ChangeAt Go.RowKit Go.Deep
theorem ro_kept {W w' : World} (s : sat w' (ro W)) : w'.os = W.os ∧ w'.output = W.output ∧ ∀ k, k < W.heap.size → w'.heap[k]? = W.heap[k]? :=
 ⟨(sat_ro_cx s).1, (sat_ro_cx s).2, fun k hk => by
   have h : W.heap[k]? = some W.heap[k] := Array.getElem?_eq_getElem hk
   rw [h]; exact sat_ro s k _ h⟩
theorem ro_frame {W w' : World} (s : sat w' (ro W)) (may : MemPlace → Prop) : W.keptBut w' may := by
 obtain ⟨h1, h2, h3⟩ := ro_kept s
 refine ⟨h1, h2, fun i hi => ?_⟩; rw [h3 i hi]
 split <;> simp_all
theorem ro_same {W w' : World} (s : sat w' (ro W)) {p : MemPlace} (hp : p.block < W.heap.size) : W.sameAt w' p := by
 cases p with
 | cell b o => exact World.cell?_of_block (w := W) ((ro_kept s).2.2 b hp)
 | map b => exact (ro_kept s).2.2 b hp
theorem ro_trod {H : Type} {enc : TypeId × Value → H} {P : Program} {t : TypeId} (hl : laidOutB P = true) (hr : P.readableRec t = true) (hrow : t < P.types.size) {W W' : World} {v : Value} {d : DataW H} {ps : List MemPlace}
 (h : DataW.Trod enc P W 0 (fun _ => true) true t v d ps) (s : sat W' (ro W)) (hlt : ∀ x ∈ ps, x.block < W.heap.size) : DataW.Trod enc P W' 0 (fun b => decide (b < W.heap.size)) true t v d ps :=
 WideElems.Trod_stays hl hr hrow h (fun x hx => ro_same s (hlt x hx)) (fun x hx => by simpa using hlt x hx)
/-- a law's walk, as the form wants it -/
theorem calls_of_tri {P : Program} {f : FuncId} {args : List Value} {W : World} (h : Tri P f args [ro W] (fun v H' => v = .bool true ∧ ro W ∈ H')) :
 Calls P f args.toArray W fun e w' => e = .returned (.bool true) ∧ sat w' (ro W) := by
 refine (h W emp (by rw [qJ, yV, qt, qt]; exact sat_ro_init W)).mono ?_; rintro e w' ⟨v, H', rfl, ⟨rfl, hm⟩, s⟩; obtain ⟨i, hi⟩ := List.mem_iff_getElem?.1 hm
 rw [yS hi, qt] at s; exact ⟨rfl, qa s⟩
section
variable {H : Type} {enc : TypeId × Value → H} {P : Program} {W : World}
theorem wf_nat {k : IntKind} {n : Int} {m : Int} (h : (Lit.int k n).wf = true) (h0 : k.min = 0) (hm : k.max = m) : ∃ a : Nat, n = (a : Int) ∧ (a : Int) ≤ m := by
 simp only [Lit.wf, Bool.and_eq_true, decide_eq_true_eq] at h; rw [h0, hm] at h; exact ⟨n.toNat, by omega, by omega⟩
theorem open_bytes {t e : TypeId} {v : Value} {d : DataW H} {p : List MemPlace} {r : Reach} {base : Nat} (ht : P.underlying t = some (.slice e)) (he : P.underlying e = some (.int .u8)) (hc : P.cellsOf e = 1)
 (hv : Value.okWide P W r base t v) (h : DataW.Trod enc P W 0 (fun _ => true) true t v d p) :
 ∃ (a : Option Addr) (l : List UInt8) (c : Nat), v = .slice a l.length c ∧ Vw (ro W) (.slice a l.length c) l.length (cel l) ∧ ((d = .nil ∧ l = []) ∨ ∃ elems rest, d = .slice elems rest ∧ l.length ≤ elems.length + rest.length) := by
 obtain ⟨fuel, hf⟩ := h
 obtain ⟨a, len, cap, rfl⟩ := okWide_slice ht hv
 rcases open_ints ht he hc hf with ⟨hcs, hx⟩ | ⟨x, l, c, zs, hcs, _, hl, hm, hz, hx, hcell, hwz⟩
 ·simp [Value.cells] at hcs
  obtain ⟨rfl, rfl, rfl⟩ := hcs
  simp only [Prod.mk.injEq] at hx; exact ⟨Option.none, [], 0, rfl, Vw.nil _, .inl ⟨hx.1, rfl⟩⟩
 ·simp [Value.cells] at hcs
  obtain ⟨rfl, rfl, rfl⟩ := hcs
  simp only [if_true] at hz; simp only [Prod.mk.injEq] at hx
  have hb : ∀ n ∈ zs, 0 ≤ n ∧ n ≤ 255 := fun n hn => by
   obtain ⟨m, rfl, hm⟩ := wf_nat (hwz n hn) (m := 255) rfl rfl
   omega
  have hspot : x.spot = Option.none := by
   simp only [Value.okWide, ht, Cell.okWide, Cell.ok, World.has] at hv; exact hv.2.2.2.1
  obtain ⟨b, o, sp⟩ := x
  simp only at hspot; subst hspot
  have hlen : ((zs.take len).map fun n : Int => UInt8.ofNat n.toNat).length = len := by simp; omega
  refine ⟨some ⟨b, o, Option.none⟩, (zs.take len).map fun n : Int => UInt8.ofNat n.toNat, cap, by rw [hlen], ?_, .inr ⟨_, _, hx.1, ?_⟩⟩
  ·refine Vw.rd fun j u hj w R s => ?_
   have hj' : j < len := by
    have := (List.getElem?_eq_some_iff.1 hj).1
    rw [yx, hlen] at this; exact this
   have e : (cel ((zs.take len).map fun n : Int => UInt8.ofNat n.toNat))[j]? = some (.int .u8 (zs.getD j 0)) := by
    have hjz : j < zs.length := by omega
    simp only [cel, List.map_map, List.getElem?_map, List.getElem?_take, if_pos hj', List.getElem?_eq_getElem hjz, Option.map_some, List.getD, Option.getD_some, Function.comp, byteV]; have := hb zs[j] (List.getElem_mem hjz)
    congr 2
    rw [UInt8.toNat_ofNat']; omega
   rw [hj] at e; cases e; have h1 := hcell j (by omega)
   have h2 : (⟨b, o, Option.none⟩ : Addr).add j = ⟨b, o + j, Option.none⟩ := yR _ _ _
   rw [h2] at h1; have hs := qa s
   have hblk : b < W.heap.size := by
    refine Classical.byContradiction fun hn => ?_
    have : W.heap[b]? = Option.none := by simp; omega
    simp [World.cell?, this] at h1
   rw [World.cell?_of_block (w := W) (w' := w) ((ro_kept hs).2.2 b hblk)]; exact h1
  ·rw [hlen]; simp [lits]; omega
theorem open_struct {t : TypeId} {fs : Array Field} {v : Value} {d : DataW H} {p : List MemPlace} {r : Reach} {base b0 : Nat} {spare : Nat → Bool} {held : Bool} (hs : P.underlying t = some (.struct fs)) (hone : oneCellFields P fs = true) (hC : P.cellsOf t = fs.size)
 (hv : Value.okWide P W r b0 t v) (h : DataW.Trod enc P W base spare held t v d p) :
 ∃ cs : List Value, v = .agg cs.toArray ∧ cs.length = fs.size ∧ ∀ (i : Nat) (f : Field), fs[i]? = some f → ∃ c y n, cs[i]? = some c ∧ DataW.trod enc P W base spare held n f.type [c] = some y := by
 obtain ⟨cs, rfl, hsz⟩ := okWide_struct hs hv
 obtain ⟨l⟩ := cs
 obtain ⟨fuel, hf⟩ := h
 obtain ⟨xs, n, _, hx, _, hlen, hg⟩ := DataW.trod_struct hs hf
 refine ⟨l, rfl, hsz.trans hC, fun i f hi => ?_⟩; obtain ⟨o0, k0⟩ := hone_of hone i f hi
 have hlt : i < fs.size := (Array.getElem?_eq_some_iff.1 hi).1
 have h1 := hg i f hi
 have hsl : l.length = fs.size := hsz.trans hC
 rw [o0, k0] at h1; have hl : (Value.agg ⟨l⟩).cells.toList = l := rfl
 refine ⟨l[i]'(by omega), xs[i]'(by omega), n, List.getElem?_eq_getElem (by omega), ?_⟩
 have e : (l.drop i).take 1 = [l[i]'(by omega)] := by
  rw [List.drop_eq_getElem_cons (by omega)]; rfl
 rw [show ((Value.agg ⟨l⟩).cells.toList.drop i).take 1 = [l[i]'(by omega)] from e] at h1; rw [h1]; exact List.getElem?_eq_getElem (by omega)
end
end Go.Sx
