/-
  Texts of the proofs over baudot/signal: G5 G7.
-/
import Derived.Test.YtpdaenfglbgfkaaGreatDoorW07
section
namespace Go.Proofs.YtpdaenfglbgfkaaGreatDoor
open Go.RL
set_option maxRecDepth 10000
set_option maxHeartbeats 8000000
theorem t243 : Told [0, 243] := ⟨by decide, by decide, by decide⟩
theorem t243_at {H : View} {b : Nat} (h : H b = some (true, .cells ⟨[.int .i64 0, .int .i64 243]⟩ 3 (0, 0))) : TimesAt H (some ⟨b, 0, none⟩) [0, 243] := ⟨b, 0, true, _, 3, (0, 0), rfl, h, by decide, rfl⟩
theorem keep_eq {p : Nat → Bool} {k : Nat} {l : List Nat} (h : (List.range k).filter p = l) : keepTo p k = intsL (numsL l) := by
 rw [← places_nums, ← h]
 rfl
theorem ex_sec : exC.sec = 0 := by unfold Ch.sec; simp [ex_weak.1]
theorem eg23 : Tryz.prog.eqGuardType Tryz.prog.depth 23 = false := by kernel_rfl
theorem band_flat (a b : Int) : flat en 2 23 [.int .i64 a, .int .i64 b] := by
 refine ⟨rfl, ?_⟩
 intro f hf
 simp only [List.mem_cons, List.not_mem_nil, or_false] at hf
 rcases hf with rfl | rfl
 · exact ⟨⟨_, rfl⟩, _, rfl, rfl, Nat.le_of_ble_eq_true rfl⟩
 · exact ⟨⟨_, rfl⟩, _, rfl, rfl, Nat.le_of_ble_eq_true rfl⟩
theorem signalled_c (H : View) (hG : Glob H) : CallT (Mp Tryz.prog) 31 #[] H (fun v H' => H.le H' ∧ v = .bool true) := by
 refine CallT.enter (vs := []) Tryz.func31 rfl Tryz.ntmps31 (Nat.le_of_ble_eq_true rfl) (SymSt.nil _) fun St c cs hK => ?_
 refine .sr ?_
 refine .g ?_
 refine .done (.sr ?_)
 refine .c rfl rfl rfl rfl (fun H hs => .f ca101 rfl (Example_c _ H)) ?_
 refine .c rfl rfl rfl rfl (fun H hs => .f ca102 rfl (Leaning_c _ H)) ?_
 refine .e (.al (zz := fun b1 => ?_))
 refine .e (.al (zz := fun b2 => ?_))
 refine .e (.st 1 (zz := ?_))
 refine .e (.st 0 (zz := ?_))
 refine .done (.sr ?_)
 refine .x (.ld 1) ?_
 refine .e (.al (zz := fun b3 => ?_))
 refine .e (.st 0 (zz := ?_))
 refine .done (.sr ?_)
 refine .c rfl rfl rfl rfl (fun H hs => .f ca40 rfl (to_c _ H 19 21)) ?_
 refine .x .fa ?_
 refine .e (.st 0 (zz := ?_))
 refine .done ?_
 refine Tc.lift (L₂ := []) rfl (fun Hx hx => ?_)
 have hGx := glob_le hG hx.base
 have hle := hx.base
 have x1 : Hx b1 = some (true, .cells ⟨exL.val.cells.toList⟩ 27 (0, 0)) := hx.get (i := 2) rfl
 have x2 : Hx b2 = some (true, .cells ⟨exK.val.cells.toList⟩ 27 (0, 0)) := hx.get (i := 1) rfl
 have x3 : Hx b3 = some (true, .cells ⟨exM.val.cells.toList⟩ 27 (0, 0)) := hx.get (i := 0) rfl
 refine Tc.dropB (R' := [(1, .pointer (some ⟨b1, 0, none⟩)), (2, .pointer (some ⟨b2, 0, none⟩)), (3, .pointer (some ⟨b3, 0, none⟩))]) (L' := []) ?_ ⟨rfl, rfl, rfl, trivial⟩ (List.Sublist.refl _)
 refine .sr ?_
 refine .e (Or.callNew (fun g : Gl 3 1 => .tuple ⟨[g.val, .int .i64 0]⟩) Gl.bl (fun g : Gl 3 1 => g.l = placesV (placesTo 16 7)) rfl rfl rfl rfl rfl (by decide) gl_nodup (fun H hs => .f ca84 rfl (Edges_c _ H 16 (by decide))) (fun g1 hg1 => ?_))
 refine .m ?_
 refine .x .et ?_
 refine .x .et ?_
 refine .g ?_
 refine .g ?_
 refine .done (.sr ?_)
 refine .x .l0 ?_
 refine .e (Or.callNew (fun g : Gl 3 1 => .tuple ⟨[g.val, .int .i64 0]⟩) Gl.bl (fun g : Gl 3 1 => g.l = keepTo exK.sureOf 32) rfl rfl rfl rfl rfl (by decide) gl_nodup (fun H hs => .f ca26 rfl (Sure_c _ H exK (glob_le hGx hs.base) exK_ok)) (fun g2 hg2 => ?_))
 refine .m ?_
 refine .x .et ?_
 refine .x .et ?_
 refine .g ?_
 refine .g ?_
 refine .done (.sr ?_)
 refine .x .l0 ?_
 refine .c rfl rfl rfl rfl (fun H hs => .f ca24 rfl (CallT.is (.tuple ⟨[.int .i64 0, .int .i64 0]⟩) (by rewrite [ex_right]; rfl) (Right_c _ H exK 0 (glob_le hGx hs.base) exK_ok (by decide)))) ?_
 refine .m ?_
 refine .x .et ?_
 refine .x .et ?_
 refine .g ?_
 refine .g ?_
 refine .done (.sr ?_)
 refine .x .l0 ?_
 refine .e (Or.callNew (fun g : Gl 3 1 => .tuple ⟨[g.val, .int .i64 0, .int .i64 0]⟩) Gl.bl (fun g : Gl 3 1 => g.l = keepTo (exK.canRead 0) 32) rfl rfl rfl rfl rfl (by decide) gl_nodup (fun H hs => .f ca21 rfl (CallT.mono (Reads_one _ H exK 0 (glob_le hGx hs.base) exK_ok (by decide) (by rw [keep_eq ex_reads]; decide)) (by rintro v H' ⟨h1, g, h2, h3, h4⟩; rw [ex_refused] at h2; exact ⟨h1, g, h2, h3, h4⟩))) (fun g3 hg3 => ?_))
 refine .m ?_
 refine .x .et ?_
 refine .x .et ?_
 refine .x .et ?_
 refine .g ?_
 refine .g ?_
 refine .g ?_
 refine .done (.sr ?_)
 refine .x .l0 ?_
 refine .e (Or.callNew (fun g : Gl 3 1 => .tuple ⟨[pastV 20 19 1 g, .bool true, .int .i64 0]⟩) Gl.bl (fun g : Gl 3 1 => g.l = intsL [-3, 3]) rfl rfl rfl rfl rfl (by decide) gl_nodup (fun H hs => .f ca28 rfl (CallT.mono (Wrong_c _ H exK 0 (glob_le hGx hs.base) exK_ok (by decide)) (by rintro v H' ⟨h1, h2⟩; rw [ex_wrong] at h2; obtain ⟨g, h3, h4, h5⟩ := h2; exact ⟨h1, g, h3, h4, h5⟩))) (fun g4 hg4 => ?_))
 refine .m ?_
 refine .x .et ?_
 refine .x .et ?_
 refine .x .et ?_
 refine .e (.al (zz := fun b13 => ?_))
 refine .e (.st 0 (zz := ?_))
 refine .g ?_
 refine .g ?_
 refine .done (.sr ?_)
 refine .x .l0 ?_
 refine .c rfl rfl rfl rfl (fun H hs => .f ca32 rfl (CallT.is (.tuple ⟨[.int .i64 3, .int .i64 0]⟩) (by rewrite [ex_margin]; rfl) (Margin_c _ H exL (glob_le hGx hs.base) exL_ok))) ?_
 refine .m ?_
 refine .x .et ?_
 refine .x .et ?_
 refine .g ?_
 refine .g ?_
 refine .done (.sr ?_)
 refine .x .l0 ?_
 refine .e (Or.callNew (fun g : Gl 3 1 => .tuple ⟨[g.val, .int .i64 0]⟩) Gl.bl (fun g : Gl 3 1 => g.l = keepTo exL.good 41) rfl rfl rfl rfl rfl (by decide) gl_nodup (fun H hs => .f ca34 rfl (Paces_c _ H exL (glob_le hGx hs.base) exL_ok)) (fun g5 hg5 => ?_))
 refine .m ?_
 refine .x .et ?_
 refine .x .et ?_
 refine .g ?_
 refine .g ?_
 refine .done (.sr ?_)
 refine .x .l0 ?_
 refine .e (.bs (zz := fun bt1 => ?_))
 refine .e (Or.callNew (fun g : Gl 3 1 => .tuple ⟨[g.val, .int .i64 0]⟩) Gl.bl (fun g : Gl 3 1 => g.l = keepTo (exL.sentOf [0, 243]) 32) rfl rfl rfl rfl rfl (by decide) gl_nodup (fun H hs => .f ca46 rfl (Sent_two _ H exL (glob_le hGx hs.base) exL_ok [0, 243] t243 rfl (some ⟨bt1, 0, none⟩) 2 (t243_at (hs.get (i := 0) rfl)))) (fun g6 hg6 => ?_))
 refine .m ?_
 refine .x .et ?_
 refine .x .et ?_
 refine .g ?_
 refine .g ?_
 refine .done (.sr ?_)
 refine .x .l0 ?_
 refine .e (.bs (zz := fun bt2 => ?_))
 refine .c rfl rfl rfl rfl (fun H hs => .f ca48 rfl (CallT.is (.tuple ⟨[bandV 20 20, .int .i64 0]⟩) (by rewrite [ex_tune]; rfl) (Tune_c _ H exM 0 (glob_le hGx hs.base) exM_ok (by decide) [0, 243] t243 (by decide) (by rw [ex_edges0]; rfl) (some ⟨bt2, 0, none⟩) 2 (t243_at (hs.get (i := 0) rfl))))) ?_
 refine .m ?_
 refine .x .et ?_
 refine .x .et ?_
 refine .e (.al (zz := fun b22 => ?_))
 refine .e (.st 0 (zz := ?_))
 refine .g ?_
 refine .done (.sr ?_)
 refine .e (Or.callNew (fun b : Nat => exC.val7 b 0 3) (fun b => [(b, true, Obj.cells ⟨lineC⟩ 25 (0, 0))]) (fun _ => True) rfl rfl rfl rfl rfl (by decide) (fun _ => by simp) (fun H hs => .f ca103 rfl (Chained_c _ H)) (fun lb1 _ => ?_))
 refine .c rfl rfl rfl rfl (fun H hs => .f ca58 rfl (CallT.is (.tuple ⟨[.int .i64 0, .int .i64 0, .bool true, .int .i64 0]⟩) (by rewrite [ex_sec, ex_weak.1, ex_weak.2]; rfl) (Weak_c H exC lb1 0 3 0 none (exC_at (hs.at_ (lb1, true, .cells ⟨lineC⟩ 25 (0, 0)) (by simp))) exC_good (glob_le hGx hs.base)))) ?_
 refine .m ?_
 refine .x .et ?_
 refine .x .et ?_
 refine .x .et ?_
 refine .x .et ?_
 refine .g ?_
 refine .g ?_
 refine .g ?_
 refine .g ?_
 refine .done (.sr ?_)
 refine .e (Or.callNew (fun b : Nat => exC.val7 b 0 3) (fun b => [(b, true, Obj.cells ⟨lineC⟩ 25 (0, 0))]) (fun _ => True) rfl rfl rfl rfl rfl (by decide) (fun _ => by simp) (fun H hs => .f ca103 rfl (Chained_c _ H)) (fun lb2 _ => ?_))
 refine .e (Or.callNew (fun g : Gl 3 1 => .tuple ⟨[g.val, .bool true, .int .i64 0]⟩) Gl.bl (fun g : Gl 3 1 => g.l = placesV [1]) rfl rfl rfl rfl rfl (by decide) gl_nodup (fun H hs => .f ca54 rfl (CallT.mono (Spots_c H exC lb2 0 3 none (exC_at (hs.at_ (lb2, true, .cells ⟨lineC⟩ 25 (0, 0)) (by simp))) exC_good (glob_le hGx hs.base)) (by rintro v H' ⟨h1, g, h2, h3, h4⟩; rw [ex_spots] at h2 h3; exact ⟨h1, g, h2, h3, h4⟩))) (fun g7 hg7 => ?_))
 refine .m ?_
 refine .x .et ?_
 refine .x .et ?_
 refine .x .et ?_
 refine .g ?_
 refine .g ?_
 refine .g ?_
 refine .done ?_
 refine Tc.lift (L₂ := []) rfl (fun Hy hy => ?_)
 have y22 : Hy b22 = some (true, .cells ⟨[.int .i64 20, .int .i64 20]⟩ 23 (0, 0)) := hy.get (i := 0) rfl
 have y13 : Hy b13 = some (true, .cells ⟨[.int .i64 20, .int .i64 19, .int .i64 1, g4.val]⟩ 39 (0, 0)) := hy.get (i := 3) rfl
 obtain ⟨n1, N1⟩ := Nums.of (H := Hy) (l := [0, 5]) (hg1.trans (by rw [ex_edges]; rfl)) (fun y hy' => hy.at_ y (by simp [hy']))
 obtain ⟨n2, N2⟩ := Nums.of (H := Hy) (hg2.trans (keepI_eq _ _)) (fun y hy' => hy.at_ y (by simp [hy']))
 obtain ⟨n3, N3⟩ := Nums.of (H := Hy) (l := [0]) (hg3.trans (keep_eq ex_reads)) (fun y hy' => hy.at_ y (by simp [hy']))
 obtain ⟨n4, N4⟩ := Nums.of (H := Hy) (l := [-3, 3]) hg4 (fun y hy' => hy.at_ y (by simp [hy']))
 obtain ⟨n5, N5⟩ := Nums.of (H := Hy) (l := [19, 20, 21]) (hg5.trans (keep_eq ex_paces)) (fun y hy' => hy.at_ y (by simp [hy']))
 obtain ⟨n6, N6⟩ := Nums.of (H := Hy) (l := [0]) (hg6.trans (keep_eq ex_sent)) (fun y hy' => hy.at_ y (by simp [hy']))
 obtain ⟨n7, N7⟩ := Nums.of (H := Hy) (l := [1]) hg7 (fun y hy' => hy.at_ y (by simp [hy']))
 have hle2 := View.le_trans hle hy.base
 clear hy x1 x2 x3
 have l2 : (keepI exK.sureOf 32).length = 16 := by unfold keepI; rw [List.length_map]; exact ex_sure.1
 have e2 : (keepI exK.sureOf 32)[0]?.getD 0 = 16 := by unfold keepI; rw [List.getElem?_map, ex_sure.2]; rfl
 rw [l2] at n2
 obtain ⟨gb2, gn2, gc2, gl2, gj2, q1, q2, q3, q4⟩ := g2
 simp only at n2 N2
 subst n2
 rcases N2 with N2 | ⟨ab, ao, f2, gs2, gt2, gz2, hA, hB, hC⟩
 · rw [N2] at l2; cases l2
 have hC0 := hC 0 (by omega)
 rw [e2] at hC0
 cases gb2 with
 | none => cases hA
 | some vb =>
 simp only [Option.map_some, Option.some.injEq, Addr.mk.injEq, and_true] at hA
 obtain ⟨rfl, rfl⟩ := hA
 refine Tc.dropB (R' := [(4, g1.val), (5, .int .i64 0), (6, .slice (some ⟨vb, 0, none⟩) 16 gc2), (7, .int .i64 0), (8, .int .i64 0), (9, .int .i64 0), (10, g3.val), (11, .int .i64 0), (12, .int .i64 0), (13, .pointer (some ⟨b13, 0, none⟩)), (14, .bool true), (15, .int .i64 0), (16, .int .i64 3), (17, .int .i64 0), (18, g5.val), (19, .int .i64 0), (20, g6.val), (21, .int .i64 0),
   (22, .pointer (some ⟨b22, 0, none⟩)), (23, .int .i64 0), (24, .int .i64 0), (25, .int .i64 0), (26, .bool true), (27, .int .i64 0), (28, g7.val), (29, .bool true), (30, .int .i64 0)]) (L' := []) ?_ ⟨rfl, rfl, rfl, rfl, rfl, rfl, rfl, rfl, rfl, rfl, rfl, rfl, rfl, rfl, rfl, rfl, rfl, rfl, rfl, rfl, rfl, rfl, rfl, rfl, rfl, rfl, rfl, trivial⟩ (List.Sublist.refl _)
 refine .seq (.sr ?_)
 refine .m ?_
 refine .i ?_ (z := neq_f (by omega))
 refine .m ?_
 refine .m ?_
 refine .i ?_ (z := neq_f (by omega))
 refine .x .pk ?_
 refine .m ?_
 refine .m ?_
 refine .i ?_ (z := neq_f (by omega))
 refine .x .pk ?_
 refine .m ?_
 refine .m ?_
 refine .i ?_ (z := neq_f (by omega))
 refine .x .pk ?_
 refine .m ?_
 refine .m ?_
 refine .i ?_ (z := neq_f (by omega))
 refine .x .pk ?_
 refine .m ?_
 refine .m ?_
 refine .i ?_ (z := neq_f (by omega))
 refine .x .pk ?_
 refine .m ?_
 refine .m ?_
 refine .i ?_ (z := neq_f (by omega))
 refine .x .pk ?_
 refine .m ?_
 refine .m ?_
 refine .i ?_ (z := neq_f (by omega))
 refine .x .pk ?_
 refine .m ?_
 refine .m ?_
 refine .i ?_ (z := neq_f (by omega))
 refine .x .pk ?_
 refine .m ?_
 refine .m ?_
 refine .i ?_ (z := neq_f (by omega))
 refine .x .pk ?_
 refine .m ?_
 refine .m ?_
 refine .i ?_ (z := neq_f (by omega))
 refine .x .pk ?_
 refine .done (.ff rfl (.skip (.seq (.seq ?_))))
 refine Tc.dropB (R' := [(4, g1.val), (6, .slice (some ⟨vb, 0, none⟩) 16 gc2), (8, .int .i64 0), (10, g3.val), (11, .int .i64 0), (13, .pointer (some ⟨b13, 0, none⟩)), (14, .bool true), (16, .int .i64 3), (18, g5.val), (20, g6.val),
   (22, .pointer (some ⟨b22, 0, none⟩)), (24, .int .i64 0), (25, .int .i64 0), (26, .bool true), (28, g7.val), (29, .bool true)]) (L' := []) ?_ ⟨rfl, rfl, rfl, rfl, rfl, rfl, rfl, rfl, rfl, rfl, rfl, rfl, rfl, rfl, rfl, rfl, trivial⟩ (List.Sublist.refl _)
 refine Tc.dr [] [] mixed rfl ?_
 refine .q 0 rfl .mv ?_
 refine .q 1 rfl (.it (zz := neq_f (by omega))) ?_
 refine .q 2 rfl .mv ?_
 refine .q 3 rfl .mv ?_
 refine .q 4 rfl (.it (zz := neq_f (by omega))) ?_
 refine .q 5 rfl .pk ?_
 refine .q 6 rfl .mv ?_
 refine .q 7 rfl .mv ?_
 refine .q 8 rfl .nt ?_
 refine .q 9 rfl .pk ?_
 refine .q 10 rfl .mv ?_
 refine .q 11 rfl .l0 ?_
 refine Ta.each [12] (by kernel_rfl) rfl ⟨TaOp.mk rfl rfl rfl (.bs (zz := fun bp => ⟨S2.mk (by exact List.nil_sublist _) (.inr (by exact List.nil_sublist _)), ?_⟩)), trivial⟩
 refine .q 13 rfl .bu ?_
 refine Ta.each [14] (by kernel_rfl) rfl ⟨TaOp.mk rfl rfl rfl (Or.callNew (σ := Unit) (fun _ => .bool true) (fun _ => []) (fun _ => True) rfl rfl rfl rfl rfl (by decide) (fun _ => by simp) (fun H hs => .f ca30 rfl (CallT.mono (SamePasts_two _ H 20 19 1 _ (some ⟨bp, 0, none⟩) [-3, 3] g4.n 2 g4.cap 2 n4 rfl (by decide) (N4.le hs.base) (Nums.lit (hs.get (i := 0) rfl))) (by rintro v H' ⟨h1, h2⟩; exact ⟨h1, (), h2, trivial, by simp⟩))) (fun _ _ => ⟨S2.mk (by exact List.nil_sublist _) (.inr (by exact List.nil_sublist _)), ?_⟩)), trivial⟩
 refine .q 15 rfl .nt ?_
 refine .q 16 rfl .pk ?_
 refine .q 17 rfl .mv ?_
 refine .q 18 rfl .mv ?_
 refine .q 19 rfl (.it (zz := neq_f (by omega))) ?_
 refine .q 20 rfl .pk ?_
 refine .q 21 rfl .mv ?_
 refine .q 22 rfl .l0 ?_
 refine .z 23 rfl (OpV.takeCall rfl rfl rfl rfl (fun H hs => .f ca40 rfl (to_c _ H 20 20))) ?_
 refine .q 24 rfl (OpV.neA (E := en) true 2 rfl rfl rfl rfl rfl eg23 (by decide) (band_flat 20 20) (band_flat 20 20) ⟨fun _ => rfl, fun _ => rfl⟩) ?_
 refine .q 25 rfl .pk ?_
 refine .q 26 rfl .mv ?_
 refine .q 27 rfl .mv ?_
 refine .q 28 rfl (.it (zz := neq_f (by omega))) ?_
 refine .q 29 rfl .pk ?_
 refine .q 30 rfl .mv ?_
 refine .q 31 rfl .mv ?_
 refine .q 32 rfl (.it (zz := neq_f (by omega))) ?_
 refine .q 33 rfl .pk ?_
 refine .q 34 rfl .mv ?_
 refine .q 35 rfl .mv ?_
 refine .q 36 rfl .nt ?_
 refine .q 37 rfl .pk ?_
 refine .q 38 rfl .mv ?_
 refine .q 39 rfl .mv ?_
 refine .q 40 rfl .nt ?_
 refine .q 41 rfl .pk ?_
 refine Ta.done (by kernel_rfl) ?_
 refine .ff rfl (.skip (.seq ?_))
 refine Tc.dropB (R' := [(4, g1.val), (6, .slice (some ⟨vb, 0, none⟩) 16 gc2), (10, g3.val), (18, g5.val), (20, g6.val), (28, g7.val)]) (L' := []) ?_ ⟨rfl, rfl, rfl, rfl, rfl, rfl, trivial⟩ (List.nil_sublist _)
 refine .r ?_
 refine .m ?_
 refine .e (.bs (zz := fun c1 => ?_))
 refine .c rfl rfl rfl rfl (fun H hs => .f ca23 rfl (SameNums_two _ H _ (some ⟨c1, 0, none⟩) [0, 5] g1.n 2 g1.cap 2 n1 rfl (by decide) (N1.le hs.base) (Nums.lit (hs.get (i := 0) rfl)))) ?_
 refine .m ?_
 refine .m ?_
 refine .x .ln ?_
 refine .i ?_ (z := eql_t (by omega))
 refine .x .pk ?_
 refine .m ?_
 refine .m ?_
 refine .x .ia ?_
 refine .x .l0 ?_
 refine .i ?_ (z := eql_t (by omega))
 refine .x .pk ?_
 refine .m ?_
 refine .m ?_
 refine .e (.bs (zz := fun c2 => ?_))
 refine .c rfl rfl rfl rfl (fun H hs => .f ca23 rfl (SameNums_two _ H _ (some ⟨c2, 0, none⟩) [0] g3.n 1 g3.cap 1 n3 rfl (by decide) (N3.le hs.base) (Nums.lit (hs.get (i := 0) rfl)))) ?_
 refine .x .pk ?_
 refine .m ?_
 refine .m ?_
 refine .e (.bs (zz := fun c3 => ?_))
 refine .c rfl rfl rfl rfl (fun H hs => .f ca23 rfl (SameNums_two _ H _ (some ⟨c3, 0, none⟩) [19, 20, 21] g5.n 3 g5.cap 3 n5 rfl (by decide) (N5.le hs.base) (Nums.lit (hs.get (i := 0) rfl)))) ?_
 refine .x .pk ?_
 refine .m ?_
 refine .m ?_
 refine .e (.bs (zz := fun c4 => ?_))
 refine .c rfl rfl rfl rfl (fun H hs => .f ca23 rfl (SameNums_two _ H _ (some ⟨c4, 0, none⟩) [0] g6.n 1 g6.cap 1 n6 rfl (by decide) (N6.le hs.base) (Nums.lit (hs.get (i := 0) rfl)))) ?_
 refine .x .pk ?_
 refine .m ?_
 refine .m ?_
 refine .e (.bs (zz := fun c5 => ?_))
 refine .c rfl rfl rfl rfl (fun H hs => .f ca23 rfl (SameNums_two _ H _ (some ⟨c5, 0, none⟩) [1] g7.n 1 g7.cap 1 n7 rfl (by decide) (N7.le hs.base) (Nums.lit (hs.get (i := 0) rfl)))) ?_
 refine .x .pk ?_
 refine .g ?_
 refine .done ?_
 refine .rt hK Tryz.func31 Tryz.results31 [_] ?_
 exact fun H' hs => ⟨View.le_trans hle2 hs.base, rfl⟩
end Go.Proofs.YtpdaenfglbgfkaaGreatDoor
end
section
namespace Go.Proofs.YtpdaenfglbgfkaaGreatDoor
open Go.RL
set_option maxRecDepth 10000
set_option maxHeartbeats 8000000
theorem Lk.ok_at {k : Lk} (h : k.ok = true) {r : Int} (h1 : 1 ≤ r) (h2 : r ≤ 40) : (k.at r).ok = true := by
 rw [Lk.ok_eq] at h ⊢
 simp only [Bool.and_eq_true] at h ⊢
 obtain ⟨⟨a, _⟩, b⟩ := h
 exact ⟨⟨a, decide_eq_true (by show 1 ≤ r ∧ r ≤ r ∧ r ≤ 40 ∧ r - r < 3; omega)⟩, b⟩
theorem good_iff {k : Lk} {r : Int} (h1 : 1 ≤ r) (h2 : r ≤ 40) : r ∈ keepI k.good 41 ↔ (k.at r).Sure := by
 obtain ⟨n, rfl⟩ : ∃ n : Nat, r = (n : Int) := ⟨r.toNat, by omega⟩
 rw [keepI_mem]
 unfold Lk.good
 rw [Bool.and_eq_true, decide_eq_true_iff, ← Lk.weak_none, Option.isNone_iff_eq_none]
 constructor
 · rintro ⟨_, _, h⟩; exact h
 · intro h; exact ⟨by omega, by omega, h⟩
theorem Paced_w {St : View → Goroutine → Prop} {cs : List Frame} (H : View) (hG : Glob H) (k : Lk) (p : Int) (hp : 0 ≤ p ∧ p < 256)
   (hR : ∀ (H₀ : View) (R : Rg) (L : Bl) (kk : List Item), lk R 4 = some (.bool true) → H.le H₀ → Tc (Mp Tryz.prog) St 85 ⟨6, .normal, none⟩ H₀ cs R L [] (.code .ret :: kk)) :
   Tc (Mp Tryz.prog) St 85 ⟨6, .normal, none⟩ H cs (argR [k.val, .int .u8 p]) [] [] [.code (bodyOf Tryz.f6)] := by
 cases hk : k.ok with
 | false =>
   refine .sr ?_
   refine .e (.bx (zz := fun b2 => ?_))
   refine .g ?_
   refine .done (.seq (.sr ?_))
   refine .x (.ld 0) ?_
   refine .c rfl rfl rfl rfl (fun H hs => .f ca36 rfl (CallT.is (.bool false) (by rewrite [hk]; rfl) (Fit_c _ H k))) ?_
   refine .x .nt ?_
   refine .done (.tt rfl (.sr ?_))
   refine .c rfl rfl rfl rfl (fun H hs => .f ca31 rfl (signalled_c H (glob_le hG hs.base))) ?_
   refine .g ?_
   refine .done ?_
   exact hR _ _ _ _ rfl (View.le_refl _)
 | true =>
   obtain ⟨hks, hkr, hkl, hkm⟩ := Lk.ok_in hk
   obtain ⟨r, hr⟩ : ∃ r : Int, r = p % 40 + 1 := ⟨_, rfl⟩
   have hr1 : 1 ≤ r ∧ r ≤ 40 := by omega
   have hwr : IntKind.i64.wrap p = p := wrap64 (by omega) (by omega)
   have hrem : intBin .rem .i64 p 40 = some (.int .i64 (r - 1)) := by
     rw [rem_in (by omega) (by omega), hr]
     congr 2
     omega
   have hadd : intBin .add .i64 (r - 1) 1 = some (.int .i64 r) := by
     rw [add_in (by omega) (by omega)]
     congr 2
     omega
   refine .sr ?_
   refine .e (.bx (zz := fun b2 => ?_))
   refine .g ?_
   refine .done (.seq (.sr ?_))
   refine .x (.ld 0) ?_
   refine .c rfl rfl rfl rfl (fun H hs => .f ca36 rfl (CallT.is (.bool true) (by rewrite [hk]; rfl) (Fit_c _ H k))) ?_
   refine .x .nt ?_
   refine .done (.ff rfl (.skip (.sr ?_)))
   refine .x (.ld 0) ?_
   refine .e (Or.callNew (fun g : Gl 3 1 => .tuple ⟨[g.val, .int .i64 0]⟩) Gl.bl (fun g : Gl 3 1 => g.l = keepTo k.good 41) rfl rfl rfl rfl rfl (by decide) gl_nodup (fun H hs => .f ca34 rfl (Paces_c _ H k (glob_le hG hs.base) hk)) (fun g hg => ?_))
   refine .m ?_
   refine .x .et ?_
   refine .x .et ?_
   refine .g ?_
   refine .g ?_
   refine .done (.seq (.sr ?_))
   refine .m ?_
   refine .i ?_ (z := neq_f (by omega))
   refine .m ?_
   refine .m ?_
   refine .c rfl rfl rfl rfl (fun H hs => .f ca38 rfl (Ascending_keep _ H g k.good 41 (by decide) hg (fun y hy => hs.at_ y (by simp [hy])))) ?_
   refine .i ?_ (z := neq_f (by omega))
   refine .x .pk ?_
   refine .done (.ff rfl (.skip (.sr ?_)))
   refine .x (.ld 0) ?_
   refine .e (.al (zz := fun b7 => ?_))
   refine .e (.st 0 (zz := ?_))
   refine .done (.sr ?_)
   refine .m ?_
   refine .x (OpV.convE (E := en) rfl rfl rfl rfl rfl rfl hwr) ?_
   refine .i ?_ (z := hrem)
   refine .i ?_ (z := hadd)
   refine .g ?_
   refine .done (.sr ?_)
   refine .m ?_
   refine .m ?_
   refine .c rfl rfl rfl rfl (fun H hs => .f ca40 rfl (to_c _ H r r)) ?_
   refine .x .fa ?_
   refine .e (.st 0 (zz := ?_))
   refine .done ?_
   refine Tc.lift (L₂ := []) rfl (fun Hx hx => ?_)
   have hGx := glob_le hG hx.base
   have hle := hx.base
   have x7 : Hx b7 = some (true, .cells ⟨(k.at r).val.cells.toList⟩ 27 (0, 0)) := hx.get (i := 0) rfl
   have x2 : Hx b2 = some (true, .cells ⟨k.val.cells.toList⟩ 27 (0, 0)) := hx.get (i := 1) rfl
   obtain ⟨n5, N5⟩ := Nums.of (H := Hx) (hg.trans (keepI_eq _ _)) (fun y hy' => hx.at_ y (by simp [hy']))
   clear hx
   have hl5 := keepI_len k.good 41
   refine Tc.dropB (R' := [(2, .pointer (some ⟨b2, 0, none⟩)), (5, g.val), (7, .pointer (some ⟨b7, 0, none⟩)), (8, .int .i64 r)]) (L' := []) ?_ ⟨rfl, rfl, rfl, rfl, trivial⟩ (List.Sublist.refl _)
   have ev : (k.at r).Sure ↔ r ∈ keepI k.good 41 := (good_iff hr1.1 hr1.2).symm
   have e1 : decide ((keepTo (k.at r).sureOf 32).length = 32) = decide (r ∈ keepI k.good 41) := by
     rw [decide_eq_decide, Lk.keep_sure, ev]
   obtain ⟨is, his⟩ : ∃ is, is = decide (r ∈ keepI k.good 41) := ⟨_, rfl⟩
   rw [← his] at e1
   obtain ⟨every, hev⟩ : ∃ every, every = decide ((keepTo k.sureOf 32).length = 32) := ⟨_, rfl⟩
   refine .sr ?_
   refine .x .l0 ?_
   refine .c rfl rfl rfl rfl (fun H hs => .f ca41 rfl (CallT.is (.tuple ⟨[.bool is, .bool true]⟩) (by rewrite [e1]; rfl) (all_c' _ H (k.at r) (glob_le hGx hs.base) (Lk.ok_at hk hr1.1 hr1.2)))) ?_
   refine .m ?_
   refine .x .et ?_
   refine .x .et ?_
   refine .g ?_
   refine .g ?_
   refine .done (.sr ?_)
   refine .x .l0 ?_
   refine .c rfl rfl rfl rfl (fun H hs => .f ca41 rfl (CallT.is (.tuple ⟨[.bool every, .bool true]⟩) (by rewrite [← hev]; rfl) (all_c' _ H k (glob_le hGx hs.base) hk))) ?_
   refine .m ?_
   refine .x .et ?_
   refine .x .et ?_
   refine .g ?_
   refine .g ?_
   refine .done (.seq (.seq ?_))
   refine Tc.via2 (fun R' L' => AllIn [(2, .pointer (some ⟨b2, 0, none⟩)), (5, g.val), (11, .bool every)] R' ∧ L' = []) ?_ (fun fin => ?_)
   · rintro R' L' ⟨hRR, rfl⟩
     refine Tc.dropB ?_ hRR (List.Sublist.refl _)
     refine .sr ?_
     refine .g ?_
     refine .done (.seq (.sr ?_))
     refine .x .fa ?_
     refine .x .fa ?_
     refine .x .l0 ?_
     refine .g ?_
     refine .done (.block ?_)
     refine Tc.dropB (Tc.loopInv (σ := { s : Nat × Bool // k.r0 + (s.1 : Int) ≤ k.r1 + 1 ∧ (s.2 = true ↔ ∀ i : Int, k.r0 ≤ i → i < k.r0 + (s.1 : Int) → i ∈ keepI k.good 41) }) (fun s => ([(2, .pointer (some ⟨b2, 0, none⟩)), (5, g.val), (11, .bool every), (13, .bool s.1.2), (14, .int .i64 (k.r0 + (s.1.1 : Int)))], [])) (fun s => (k.r1 + 1 - k.r0).toNat - s.1.1) ?_ ⟨(0, true), by simp only; omega, by simp only; exact ⟨fun _ i h1 h2 => by omega, fun _ => by trivial⟩⟩) ?_ (by exact List.Sublist.refl _)
     · rintro ⟨⟨j, ins⟩, g1, g2⟩ ih
       simp only at g1 g2
       show Tc (Mp Tryz.prog) St _ _ _ _ [(2, .pointer (some ⟨b2, 0, none⟩)), (5, g.val), (11, .bool every), (13, .bool ins), (14, .int .i64 (k.r0 + (j : Int)))] [] _ _
       by_cases c1 : k.r0 + (j : Int) = k.r1 + 1
       · have hfin : every = ins := by
           rw [Bool.eq_iff_iff, hev, decide_eq_true_iff, Lk.keep_sure, g2, Lk.sure_at]
           constructor
           · intro h i h1 h2
             exact (good_iff (by omega) (by omega)).2 (h i h1 (by omega))
           · intro h i h1 h2
             exact (good_iff (by omega) (by omega)).1 (h i h1 (by omega))
         subst hfin
         have hbb : (every == every) = true := by cases every <;> rfl
         refine .seq (.sr ?_)
         refine .m ?_
         refine .x .fa ?_
         refine .x .fa ?_
         refine .x .l0 ?_
         refine .i ?_ (z := leq_f (by omega))
         refine .done (.ff rfl (.exit rfl (.sr ?_)))
         refine .m ?_
         refine .m ?_
         refine .x (hbb ▸ OpV.eqB (E := en) (p := every) (q := every) rfl rfl rfl rfl rfl) ?_
         refine .m ?_
         refine .c rfl rfl rfl rfl (fun H hs => .f ca31 rfl (signalled_c H (glob_le hGx hs.base))) ?_
         refine .x .pk ?_
         refine .g ?_
         refine .done ?_
         exact hR _ _ _ _ rfl hle
       · obtain ⟨has, hhas⟩ : ∃ has, has = decide (k.r0 + (j : Int) ∈ keepI k.good 41) := ⟨_, rfl⟩
         have hnum : ∀ H, Hx.le H → CallT (Mp Tryz.prog) 39 #[g.val, .int .i64 (k.r0 + (j : Int))] H (fun v H' => H.le H' ∧ v = .bool has) := fun H h => by
           rw [hhas]
           exact HasNum_c _ H _ _ g.n g.cap _ n5 (by omega) (N5.le h)
         have hin : (ins && has) = true ↔ ∀ i : Int, k.r0 ≤ i → i < k.r0 + ((j + 1 : Nat) : Int) → i ∈ keepI k.good 41 := by
           rw [Bool.and_eq_true, g2, hhas, decide_eq_true_iff]
           constructor
           · rintro ⟨h1, h2⟩ i h3 h4
             by_cases e : i = k.r0 + (j : Int)
             · rw [e]; exact h2
             · exact h1 i h3 (by omega)
           · intro h
             exact ⟨fun i h1 h2 => h i h1 (by omega), h _ (by omega) (by omega)⟩
         have hj1 : intBin .add .i64 (k.r0 + (j : Int)) 1 = some (.int .i64 (k.r0 + ((j + 1 : Nat) : Int))) := by
           rw [add_in (by omega) (by omega)]
           congr 2
           omega
         cases ins with
         | true =>
           refine .seq (.sr ?_)
           refine .m ?_
           refine .x .fa ?_
           refine .x .fa ?_
           refine .x .l0 ?_
           refine .i ?_ (z := leq_t (by omega))
           refine .done (.tt rfl (.skip (.seq (.block (.r ?_)))))
           refine .m ?_
           refine .m ?_
           refine .m ?_
           refine .m ?_
           refine .c rfl rfl rfl rfl (fun H hs => .f ca39 rfl (hnum H hs.base)) ?_
           refine .x .pk ?_
           refine .g ?_
           refine .done (.inBlock (.r ?_))
           refine .m ?_
           refine .i ?_ (z := hj1)
           refine .g ?_
           refine .done ?_
           exact Tc.db (ih ⟨(j + 1, has), by simp only; omega, by simp only; rw [← hin]; simp⟩ (by simp only; omega))
         | false =>
           refine .seq (.sr ?_)
           refine .m ?_
           refine .x .fa ?_
           refine .x .fa ?_
           refine .x .l0 ?_
           refine .i ?_ (z := leq_t (by omega))
           refine .done (.tt rfl (.skip (.seq (.block (.r ?_)))))
           refine .m ?_
           refine .m ?_
           refine .sk ?_
           refine .sk ?_
           refine .sk ?_
           refine .x .pk ?_
           refine .g ?_
           refine .done (.inBlock (.r ?_))
           refine .m ?_
           refine .i ?_ (z := hj1)
           refine .g ?_
           refine .done ?_
           exact Tc.db (ih ⟨(j + 1, false), by simp only; omega, by simp only; rw [← hin]; simp⟩ (by simp only; omega))
     · have e0 : k.r0 + ((0 : Nat) : Int) = k.r0 := by simp
       simp only [e0]
       refine ⟨rfl, ?_⟩; refine ⟨rfl, ?_⟩; refine ⟨rfl, ?_⟩; refine ⟨rfl, ?_⟩; refine ⟨rfl, ?_⟩; exact trivial
   · have hnum : ∀ H, Hx.le H → CallT (Mp Tryz.prog) 39 #[g.val, .int .i64 r] H (fun v H' => H.le H' ∧ v = .bool is) := fun H h => by
       rw [his]
       exact HasNum_c _ H _ _ g.n g.cap _ n5 (by omega) (N5.le h)
     clear his e1 ev
     cases is with
     | true =>
       refine .r ?_
       refine .m ?_
       refine .x .nt ?_
       refine .m ?_
       refine .m ?_
       refine .x .nt ?_
       refine .x .pk ?_
       refine .m ?_
       refine .m ?_
       refine .m ?_
       refine .m ?_
       refine .c rfl rfl rfl rfl (fun H hs => .f ca39 rfl (hnum H hs.base)) ?_
       refine .x .nb ?_
       refine .x .pk ?_
       refine .done (.ff rfl (.skip ?_))
       exact fin _ _ ⟨⟨rfl, rfl, rfl, trivial⟩, rfl⟩
     | false =>
       refine .r ?_
       refine .m ?_
       refine .x .nt ?_
       refine .m ?_
       refine .m ?_
       refine .x .nt ?_
       refine .x .pk ?_
       refine .m ?_
       refine .m ?_
       refine .m ?_
       refine .m ?_
       refine .c rfl rfl rfl rfl (fun H hs => .f ca39 rfl (hnum H hs.base)) ?_
       refine .x .nb ?_
       refine .x .pk ?_
       refine .done (.ff rfl (.skip ?_))
       exact fin _ _ ⟨⟨rfl, rfl, rfl, trivial⟩, rfl⟩
end Go.Proofs.YtpdaenfglbgfkaaGreatDoor
end
