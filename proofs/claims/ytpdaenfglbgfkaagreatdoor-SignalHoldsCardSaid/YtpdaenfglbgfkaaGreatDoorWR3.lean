/-
  Arguments: chains.
-/
import Derived.Test.YtpdaenfglbgfkaaGreatDoorW08
import Derived.Test.YtpdaenfglbgfkaaGreatDoorWR2
import Derived.Test.YtpdaenfglbgfkaaGreatDoorWH6
import Derived.Deep.Slices
namespace Go.Proofs.YtpdaenfglbgfkaaGreatDoor
open Go.RL Go.ChangeShapes Go.WideShapes Go.ChangeAt Go.RowKit
set_option maxRecDepth 100000
theorem cells3 : Tryz.prog.cellsOf 3 = 1 := by kernel_rfl
theorem cells23 : Tryz.prog.cellsOf 23 = 2 := by kernel_rfl
theorem cells25 : Tryz.prog.cellsOf 25 = 4 := by kernel_rfl
theorem cells71 : Tryz.prog.cellsOf 71 = 1 := by kernel_rfl
theorem cells73 : Tryz.prog.cellsOf 73 = 7 := by kernel_rfl
section
variable {H : Type} {enc : TypeId × Value → H} {W : World} {sp : Nat → Bool} {held : Bool}
theorem trod_i {n : Nat} {cs : List Value} {y : DataW H × List MemPlace} (h : DataW.trod enc Tryz.prog W 0 sp held n 3 cs = some y) : ∃ z, cs = [.int .i64 z] := by
 obtain ⟨z, h, _⟩ := DataW.trod_int Tryz.underlying3 h
 exact ⟨z, h⟩
theorem trod_band {n : Nat} {cs : List Value} {y : DataW H × List MemPlace} (h : DataW.trod enc Tryz.prog W 0 sp held n 23 cs = some y) : ∃ a b, cs = [.int .i64 a, .int .i64 b] := by
 obtain ⟨y0, y1, m, _, hl, t0, t1⟩ := trod_struct2 Tryz.underlying23 h
 rw [cells23] at hl
 obtain ⟨c0, c1, rfl⟩ : ∃ a b, cs = [a, b] := by
   match cs, hl with
   | [a, b], _ => exact ⟨a, b, rfl⟩
 simp only [cells3, List.drop_zero, List.drop_succ_cons, List.take_succ_cons, List.take_zero] at t0 t1
 obtain ⟨a, ha⟩ := trod_i t0
 obtain ⟨b, hb⟩ := trod_i t1
 simp only [List.cons.injEq, and_true] at ha hb
 exact ⟨a, b, by rw [ha, hb]⟩
theorem trod_line {n : Nat} {cs : List Value} {y : DataW H × List MemPlace} (h : DataW.trod enc Tryz.prog W 0 sp held n 25 cs = some y) : ∃ x : Int × Int × Int × Int, cs = [.int .i64 x.1, .int .i64 x.2.1, .int .i64 x.2.2.1, .int .i64 x.2.2.2] := by
 obtain ⟨y0, y1, m, _, hl, t0, t1⟩ := trod_struct2 Tryz.underlying25 h
 rw [cells25] at hl
 obtain ⟨c0, c1, c2, c3, rfl⟩ : ∃ a b c d, cs = [a, b, c, d] := by
   match cs, hl with
   | [a, b, c, d], _ => exact ⟨a, b, c, d, rfl⟩
 simp only [cells23, List.drop_zero, List.drop_succ_cons, List.take_succ_cons, List.take_zero] at t0 t1
 obtain ⟨a, b, h1⟩ := trod_band t0
 obtain ⟨c, d, h2⟩ := trod_band t1
 simp only [List.cons.injEq, and_true] at h1 h2
 exact ⟨(a, b, c, d), by rw [h1.1, h1.2, h2.1, h2.2]⟩
theorem four_at {gs : List Value} {o : Nat} {a b c d : Value} (h0 : gs[o]? = some a) (h1 : gs[o + 1]? = some b) (h2 : gs[o + 2]? = some c) (h3 : gs[o + 3]? = some d) : ldL true 4 gs o = some (.agg ⟨[a, b, c, d]⟩) := by
 have hlt := (List.getElem?_eq_some_iff.1 h3).1
 have e : (gs.drop o).take 4 = [a, b, c, d] := by
   apply List.ext_getElem?
   intro i
   rcases i with _ | _ | _ | _ | i
   · simpa using h0
   · simpa using h1
   · simpa using h2
   · simpa using h3
   · simp
     omega
 unfold ldL
 rw [show Nat.ble (o + 4) gs.length = true from Nat.ble_eq_true_of_le (by omega)]
 simp only [e]
theorem add_at (ab ao j : Nat) : (⟨ab, ao, none⟩ : Addr).add j = ⟨ab, ao + j, none⟩ := by
 unfold Addr.add
 split
 · rename_i h; subst h; rfl
 · rfl
theorem open_chain {base : Nat} {v : Value} (hv : Value.okWide Tryz.prog W .any base 73 v) (h : ∃ d q, DataW.Trod enc Tryz.prog W 0 (fun _ => true) true 73 v d q) : ∃ (ch : Ch) (A : Option Addr) (lc : Nat), v = ch.valA A lc ∧ ch.m = 0 ∧ LinesAt (fullV W) ch A lc := by
 have hv' : ∃ cs, v = .agg cs := by
   unfold Value.okWide at hv
   rw [Tryz.underlying73] at hv
   obtain ⟨cs, h, _⟩ := hv
   exact ⟨cs, h⟩
 obtain ⟨⟨cs⟩, rfl⟩ := hv'
 obtain ⟨d, q, n, h⟩ := h
 obtain ⟨xs, m, _, _, hl, hxl, hf⟩ := DataW.trod_struct Tryz.underlying73 h
 have hcs : (Value.agg ⟨cs⟩).cells.toList = cs := rfl
 rw [hcs] at hl hf
 rw [cells73] at hl
 obtain ⟨c0, c1, c2, c3, c4, c5, c6, rfl⟩ : ∃ a b c d e f g, cs = [a, b, c, d, e, f, g] := by
   match cs, hl with
   | [a, b, c, d, e, f, g], _ => exact ⟨a, b, c, d, e, f, g, rfl⟩
 obtain ⟨x0, x1, x2, x3, rfl⟩ : ∃ a b c d, xs = [a, b, c, d] := by
   match xs, hxl with
   | [a, b, c, d], _ => exact ⟨a, b, c, d, rfl⟩
 have f0 := hf 0 { name := "Send", type := 23, offset := 0, embedded := false, tag := "", pkgPath := "", byteOffset := 0 } rfl
 have f1 := hf 1 { name := "Lines", type := 71, offset := 2, embedded := false, tag := "", pkgPath := "", byteOffset := 16 } rfl
 have f2 := hf 2 { name := "Again", type := 23, offset := 3, embedded := false, tag := "", pkgPath := "", byteOffset := 40 } rfl
 have f3 := hf 3 { name := "Read", type := 23, offset := 5, embedded := false, tag := "", pkgPath := "", byteOffset := 56 } rfl
 simp only [cells23, cells71, List.drop_zero, List.drop_succ_cons, List.take_succ_cons, List.take_zero, List.getElem?_cons_zero, List.getElem?_cons_succ] at f0 f1 f2 f3
 obtain ⟨s0, s1, e0⟩ := trod_band f0
 obtain ⟨a0, a1, e2⟩ := trod_band f2
 obtain ⟨r0, r1, e3⟩ := trod_band f3
 simp only [List.cons.injEq, and_true] at e0 e2 e3
 obtain ⟨rfl, rfl⟩ := e0
 obtain ⟨rfl, rfl⟩ := e2
 obtain ⟨rfl, rfl⟩ := e3
 rcases Go.Deep.open_slice Tryz.underlying71 f1 with ⟨h1, _⟩ | ⟨a, len, cap, mm, nn, D, Pl, h1, _, h3, _, h5, _, h7⟩
 · simp only [List.cons.injEq, and_true] at h1
   subst h1
   exact ⟨⟨s0, s1, a0, a1, r0, r1, 0, fun _ => 0, fun _ => 0, fun _ => 0, fun _ => 0, 0, fun _ => 0⟩, none, 0, rfl, rfl, Nat.le_refl _, .inl rfl⟩
 · simp only [List.cons.injEq, and_true] at h1
   subst h1
   simp only [if_true] at h5
   have hex : ∀ i, i < len → ∃ x : Int × Int × Int × Int, W.cells? 0 (a.add (i * 4)) 4 = some [.int .i64 x.1, .int .i64 x.2.1, .int .i64 x.2.2.1, .int .i64 x.2.2.2] := fun i hi => by
     obtain ⟨cs', g1, g2⟩ := h7 i (by omega)
     rw [cells25] at g1
     obtain ⟨x, hx⟩ := trod_line g2
     exact ⟨x, by rw [g1, hx]⟩
   obtain ⟨f, hfx⟩ := Go.Deep.choose_lt hex
   refine ⟨⟨s0, s1, a0, a1, r0, r1, len, fun i => (f i).1, fun i => (f i).2.1, fun i => (f i).2.2.1, fun i => (f i).2.2.2, 0, fun _ => 0⟩, some a, cap, rfl, rfl, h3, ?_⟩
   cases len with
   | zero => exact .inl rfl
   | succ k =>
     obtain ⟨ab, ao, spt⟩ := a
     have hat : ∀ i, i < k + 1 → ∀ j, j < 4 → W.cell? (((⟨ab, ao, spt⟩ : Addr).add (i * 4)).add j) = ([Value.int .i64 (f i).1, .int .i64 (f i).2.1, .int .i64 (f i).2.2.1, .int .i64 (f i).2.2.2] : List Value)[j]? := fun i hi j hj => (World.cells?_some (hfx i hi)).2.2 j hj
     have h00 := hat 0 (by omega) 0 (by decide)
     have hsp : spt = none := by simpa [Addr.add] using World.cell?_spot h00
     subst hsp
     obtain ⟨gs, gt, gz, g1, _⟩ := cells_of h00
     have g1' : W.heap[ab]? = some (.cells gs gt gz) := by simpa [Addr.add] using g1
     refine .inr ⟨ab, ao, false, gs.toList, gt, gz, rfl, by simp only [fullV, g1', Option.map_some], fun i hi => ?_⟩
     have hone : ∀ j, j < 4 → gs.toList[ao + i * 4 + j]? = ([Value.int .i64 (f i).1, .int .i64 (f i).2.1, .int .i64 (f i).2.2.1, .int .i64 (f i).2.2.2] : List Value)[j]? := fun j hj => by
       have h8 := hat i hi j hj
       rw [add_at, add_at] at h8
       have hsome : ∃ z, ([Value.int .i64 (f i).1, .int .i64 (f i).2.1, .int .i64 (f i).2.2.1, .int .i64 (f i).2.2.2] : List Value)[j]? = some z := ⟨_, List.getElem?_eq_getElem (by simpa using hj)⟩
       obtain ⟨z, hz⟩ := hsome
       rw [hz] at h8 ⊢
       obtain ⟨gs', gt', gz', g2, g3⟩ := cells_of h8
       rw [g1'] at g2
       cases g2
       rw [Array.getElem?_toList]
       exact g3
     exact four_at (hone 0 (by decide)) (hone 1 (by decide)) (hone 2 (by decide)) (hone 3 (by decide))
end
end Go.Proofs.YtpdaenfglbgfkaaGreatDoor
