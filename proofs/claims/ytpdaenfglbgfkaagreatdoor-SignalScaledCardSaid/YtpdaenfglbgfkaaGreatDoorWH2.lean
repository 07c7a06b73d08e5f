/-
  What is seen and read of a past.
-/
import Derived.Test.YtpdaenfglbgfkaaGreatDoorW08
import Derived.Test.YtpdaenfglbgfkaaGreatDoorWH1
import Derived.Test.YtpdaenfglbgfkaaGreatDoorWL3
namespace Go.Proofs.YtpdaenfglbgfkaaGreatDoor
open Go.RL
set_option maxRecDepth 10000
set_option maxHeartbeats 4000000
def Refuses (M : Md Tryz.prog) (H : View) (fv : Value) (l : List Int) : Prop :=
 ∀ j : Nat, j < l.length → ∀ H', H.le H' → FnT M fv [.int .i64 (l[j]?.getD 0)] H' fun v H'' => H'.le H'' ∧ v = .bool false
theorem Lk.past_of {k : Lk} (hk : k.ok = true) (c : Nat) (l : List Int) : k.Past c (k.pSend l) (k.pRead l) (k.pLean l) (k.pMoves l (placesTo c 7).length) := by
 obtain ⟨hks, hkr, hkl, hkm⟩ := Lk.ok_in hk
 refine ⟨pick_in (by omega), pick_in (by omega), pick_in (by omega), Lk.pMoves_len .., fun m hm => ?_⟩
 obtain ⟨i, _, rfl⟩ := List.mem_map.1 hm
 exact pick_in (by omega)
theorem Lk.Past.at_ {k : Lk} {c : Nat} {a r n : Int} {mv : List Int} (h : k.Past c a r n mv) {j : Nat} (hj : j < mv.length) : k.m0 ≤ mv[j]?.getD 0 ∧ mv[j]?.getD 0 ≤ k.m1 := by
 rw [List.getElem?_eq_getElem hj]
 exact h.moves _ (List.getElem_mem hj)
def viewTo (c : Nat) (a r n : Int) (mv : List Int) (i : Nat) : Nat := (⟨c, placesTo c 7, a, r, n, mv.headD 0, 0, 0⟩ : Stg).viewFrom 0 127 (mv.take i)
theorem viewTo_lt (c : Nat) (a r n : Int) (mv : List Int) (i : Nat) : viewTo c a r n mv i < 128 := Stg.viewFrom_lt _ _ _ _ (by decide)
theorem viewTo_step {c : Nat} {a r n : Int} {mv : List Int} {i : Nat} (hr : 0 ≤ r) (hi : i < mv.length) :
   viewTo c a r n mv (i + 1) = turnedN (viewTo c a r n mv i) (missedF r (seenAt (placesTo c 7) mv a n i - seenAt (placesTo c 7) mv a n 0)).toNat := by
 unfold viewTo
 rw [List.take_succ_eq_append_getElem hi, Stg.viewFrom_snoc, List.length_take, Nat.min_eq_left (by omega), Nat.zero_add]
 congr 2
 have hg : mv[i]?.getD 0 = mv[i] := by rw [List.getElem?_eq_getElem hi]; rfl
 unfold Stg.miss Stg.after seenAt
 have h0 : mv[0]?.getD 0 = mv.headD 0 := by cases mv <;> rfl
 by_cases e : i = 0
 · subst e
   rw [if_pos rfl, Int.sub_self]
   have h1 := missedF_in r 0
   have h2 : ¬ (0 < missedF r 0) := fun h => by
     have := missedF_to (pace := r) (after := 0) (Int.le_refl 0) h
     omega
   omega
 · rw [if_neg e]
   congr 1
   rw [hg, h0]
   simp only [Int.natCast_zero]
   omega
theorem viewTo_all {c : Nat} {a r n : Int} {mv : List Int} : viewTo c a r n mv mv.length = pastView c a r n mv := by
 unfold viewTo pastView Stg.view
 rw [List.take_length]
def readV (o : Option Nat) : Value := match o with
 | some m => .tuple ⟨[.int .i64 (m : Nat), .bool true, .int .i64 0]⟩
 | none => .tuple ⟨[.int .i64 0, .bool false, .int .i64 0]⟩
section
variable (M : Md Tryz.prog) (H : View)
theorem IndexFunc_no (A : Option Addr) (l : List Int) (n ca : Nat) (fv : Value) (hn : n = l.length) (h6 : n ≤ 1000) (hA : Nums H A l) (hf : Refuses M H fv l) : CallT M 210 #[.slice A n ca, fv] H (fun v H' => H.le H' ∧ v = .int .i64 (-1)) := by
 refine CallT.enter (vs := [.slice A n ca, fv]) Tryz.func210 rfl Tryz.ntmps210 (Nat.le_of_ble_eq_true rfl) (SymSt.nil _) fun St c cs hK => ?_
 refine .sr ?_
 refine .g ?_
 refine .done (.seq (.sr ?_))
 refine .m ?_
 refine .x .ln ?_
 refine .m ?_
 refine .done (.block ?_)
 refine Tc.db (Tc.loopInv (σ := { j : Nat // j ≤ n }) (fun j => ([(0, .slice A n ca), (1, fv), (7, .int .i64 (n : Nat)), (8, .int .i64 (j.1 : Nat))], [])) (fun j => n - j.1) ?_ ⟨0, by omega⟩)
 rintro ⟨j, hj⟩ ih
 show Tc M St _ _ _ _ [(0, .slice A n ca), (1, fv), (7, .int .i64 (n : Nat)), (8, .int .i64 (j : Nat))] [] _ _
 by_cases c1 : j = n
 · subst c1
   refine .sr ?_
   refine .i ?_ (z := lss_f (by omega))
   refine .done (.seq (.ff rfl (.exit rfl (.sr ?_))))
   refine .g ?_
   refine .done ?_
   refine .rt hK Tryz.func210 Tryz.results210 [_] ?_
   exact fun H' hs => ⟨hs.base, rfl⟩
 · have c2 : j < n := by omega
   rcases hA with hA | ⟨a1, a2, a3, a4, a5, a6, rfl, a7, a8⟩
   · rw [hA] at hn; simp at hn; omega
   have f1 := a8 j (by omega)
   refine .sr ?_
   refine .i ?_ (z := lss_t (by omega))
   refine .done (.seq (.tt rfl (.skip (.seq (.block (.sr ?_))))))
   refine .m ?_
   refine .g ?_
   refine .done (.sr ?_)
   refine .m ?_
   refine .m ?_
   refine .m ?_
   refine .x .ia ?_
   refine .x .l0 ?_
   refine .c rfl rfl rfl rfl (fun H hs => hf j (by omega) H hs.base) ?_
   refine .done (.ff rfl (.skip (.inBlock (.r ?_))))
   refine .i ?_ (z := add_in (by omega) (by omega))
   refine .m ?_
   refine .done ?_
   exact Tc.db (ih ⟨j + 1, by omega⟩ (by simp only; omega))
theorem ContainsFunc_no (A : Option Addr) (l : List Int) (n ca : Nat) (fv : Value) (hn : n = l.length) (h6 : n ≤ 1000) (hA : Nums H A l) (hf : Refuses M H fv l) : CallT M 170 #[.slice A n ca, fv] H (fun v H' => H.le H' ∧ v = .bool false) := by
 refine CallT.enter (vs := [.slice A n ca, fv]) Tryz.func170 rfl Tryz.ntmps170 (Nat.le_of_ble_eq_true rfl) (SymSt.nil _) fun St c cs hK => ?_
 refine .sr ?_
 refine .g ?_
 refine .done (.sr ?_)
 refine .m ?_
 refine .m ?_
 refine .c rfl rfl rfl rfl (fun H hs => .f ca210 rfl (IndexFunc_no M H A l n ca fv hn h6 (hA.le hs.base) (fun j hj H' hle => hf j hj H' (View.le_trans hs.base hle)))) ?_
 refine .i ?_ (z := geq_f (by omega))
 refine .g ?_
 refine .done ?_
 refine .rt hK Tryz.func170 Tryz.results170 [_] ?_
 exact fun H' hs => ⟨hs.base, rfl⟩
theorem has_yes (a b x : Int) (h : a ≤ x ∧ x ≤ b) : CallT M 169 #[bandV a b, .int .i64 x] H (fun v H' => H.le H' ∧ v = .bool true) :=
 CallT.mono (has_c M H a b x) (by rintro v H' ⟨h1, h2⟩; rw [decide_eq_true h] at h2; exact ⟨h1, h2⟩)
theorem past_refuses (a b : Int) (b11 : Nat) (l : List Int) (hb : H b11 = some (true, .cells ⟨[.int .i64 a, .int .i64 b]⟩ 180 (0, 0))) (hl : ∀ j : Nat, j < l.length → a ≤ l[j]?.getD 0 ∧ l[j]?.getD 0 ≤ b) : Refuses M H (.func (.func 171) #[] #[.pointer (some ⟨b11, 0, none⟩)]) l := fun j hj H' hle => by
 refine FnT.of (first := []) (captured := [_]) ca171 rfl ?_
 have h11 := hle _ _ hb
 refine CallT.enter (vs := [.int .i64 (l[j]?.getD 0), .pointer (some ⟨b11, 0, none⟩)]) Tryz.func171 rfl Tryz.ntmps171 (Nat.le_of_ble_eq_true rfl) (SymSt.nil _) fun St c cs hK => ?_
 refine .sr ?_
 refine .g ?_
 refine .done (.sr ?_)
 refine .x .l0 ?_
 refine .m ?_
 refine .c rfl rfl rfl rfl (fun H hs => .f ca169 rfl (has_yes M H a b _ (hl j hj))) ?_
 refine .x .nt ?_
 refine .g ?_
 refine .done ?_
 refine .rt hK Tryz.func171 Tryz.results171 [_] ?_
 exact fun H2 hs => ⟨hs.base, rfl⟩
variable (k : Lk) (hG : Glob H) (hk : k.ok = true) (code : Nat) (hc : code < 32) (a r n : Int) (mv : List Int) (hP : k.Past code a r n mv) (A : Option Addr) (m ca : Nat) (hm : m = (placesTo code 7).length) (hA : Nums H A mv)
include hG hk hc hP hm hA
theorem past_good : CallT M 134 #[k.val, .int .i64 code, .agg ⟨[.int .i64 a, .int .i64 r, .int .i64 n, .slice A m ca]⟩] H (fun v H' => H.le H' ∧ ∃ x : Nat × Nat × List Value, v = .tuple ⟨[letN code x, .int .i64 0]⟩ ∧ True ∧ ∀ y ∈ letB code x, H' y.1 = some y.2 ∧ H y.1 = none) := by
 have hp6 := (places_in code hc).2.1
 have hml := hP.len
 refine CallT.enter (vs := [k.val, .int .i64 code, .agg ⟨[.int .i64 a, .int .i64 r, .int .i64 n, .slice A m ca]⟩]) Tryz.func134 rfl Tryz.ntmps134 (Nat.le_of_ble_eq_true rfl) (SymSt.nil _) fun St c cs hK => ?_
 refine .sr ?_
 refine .e (.bx (zz := fun b3 => ?_))
 refine .e (.bx (zz := fun b5 => ?_))
 refine .e (.al (zz := fun b6 => ?_))
 refine .g ?_
 refine .done (.sr ?_)
 refine .x (.ld 2) ?_
 refine .m ?_
 refine .e (Or.callNew (fun x => .tuple ⟨[k.val, letN code x, .int .i64 0]⟩) (letB code) (fun _ => True) rfl rfl rfl rfl rfl (by decide) (letB_nodup code) (fun H hs => .f ca89 rfl (open_n M H k code (glob_le hG hs.base) hk hc)) (fun x hx => ?_))
 refine .m ?_
 refine .x .et ?_
 refine .x .et ?_
 refine .x .et ?_
 refine .e (.al (zz := fun b8 => ?_))
 refine .e (.al (zz := fun b9 => ?_))
 refine .e (.st 1 (zz := ?_))
 refine .e (.st 0 (zz := ?_))
 refine .g ?_
 refine .done (.seq (.sr ?_))
 refine .m ?_
 refine .i ?_ (z := neq_f (by omega))
 refine .done (.ff rfl (.skip (.sr ?_)))
 refine .x .fa ?_
 refine .x .fa ?_
 refine .x .fa ?_
 refine .x (.ld 1) ?_
 refine .c rfl rfl rfl rfl (fun H hs => .f ca155 rfl (bandOf_c M H k.m0 k.m1)) ?_
 refine .e (.al (zz := fun b11 => ?_))
 refine .e (.st 0 (zz := ?_))
 refine .done (.seq (.block (.seq (.seq ?_))))
 refine Tc.dr [] [] mixed rfl ?_
 refine .q 0 rfl .fa ?_
 refine .q 1 rfl .fa ?_
 refine .q 2 rfl (.ld 2) ?_
 refine .z 3 rfl (OpV.takeCall rfl rfl rfl rfl (fun H hs => .f ca155 rfl (bandOf_c M H k.s0 k.s1))) ?_
 refine .q 4 rfl .fa ?_
 refine .q 5 rfl (.ld 4) ?_
 refine .z 6 rfl (OpV.takeCall rfl rfl rfl rfl (fun H hs => .f ca169 rfl (has_yes M H k.s0 k.s1 a hP.send))) ?_
 refine .q 7 rfl .nt ?_
 refine .q 8 rfl .sg ?_
 refine Ta.done (by kernel_rfl) ?_
 refine .ff rfl (.seq ?_)
 refine Tc.dr [] [] mixed rfl ?_
 refine .q 0 rfl .fa ?_
 refine .q 1 rfl .fa ?_
 refine .q 2 rfl (.ld 2) ?_
 refine .z 3 rfl (OpV.takeCall rfl rfl rfl rfl (fun H hs => .f ca155 rfl (bandOf_c M H k.r0 k.r1))) ?_
 refine .q 4 rfl .fa ?_
 refine .q 5 rfl (.ld 4) ?_
 refine .z 6 rfl (OpV.takeCall rfl rfl rfl rfl (fun H hs => .f ca169 rfl (has_yes M H k.r0 k.r1 r hP.read))) ?_
 refine .q 7 rfl .nt ?_
 refine .q 8 rfl .sg ?_
 refine Ta.done (by kernel_rfl) ?_
 refine .ff rfl ?_
 refine Tc.dr [] [] mixed rfl ?_
 refine .q 0 rfl .fa ?_
 refine .q 1 rfl .fa ?_
 refine .q 2 rfl .fa ?_
 refine .q 3 rfl (.ld 2) ?_
 refine .z 4 rfl (OpV.takeCall rfl rfl rfl rfl (fun H hs => .f ca155 rfl (bandOf_c M H k.l0 k.l1))) ?_
 refine .q 5 rfl .fa ?_
 refine .q 6 rfl (.ld 4) ?_
 refine .z 7 rfl (OpV.takeCall rfl rfl rfl rfl (fun H hs => .f ca169 rfl (has_yes M H k.l0 k.l1 n hP.lean))) ?_
 refine .q 8 rfl .nt ?_
 refine .q 9 rfl .sg ?_
 refine Ta.done (by kernel_rfl) ?_
 refine .ff rfl (.sr ?_)
 refine .x .fa ?_
 refine .x (.ld 4) ?_
 refine .x .ln ?_
 refine .x .fa ?_
 refine .x (.ld 1) ?_
 refine .x .ln ?_
 refine .i ?_ (z := neq_f (by omega))
 refine .g ?_
 refine .done (.ff rfl (.sr ?_))
 refine .x .fa ?_
 refine .x (.ld 4) ?_
 refine .x .mf ?_
 refine .c rfl rfl rfl rfl (fun H hs => .f ca170 rfl (ContainsFunc_no M H A mv m ca _ (by omega) (by omega) (hA.le hs.base) (past_refuses M H k.m0 k.m1 b11 mv (hs.get (i := 0) rfl) (fun j hj => hP.at_ hj)))) ?_
 refine .g ?_
 refine .done (.ff rfl (.skip (.inBlock (.sr ?_))))
 refine .x (.ld 1) ?_
 refine .e (.st 3 (zz := ?_))
 refine .g ?_
 refine .done ?_
 refine Tc.retN (E := en) hK Tryz.func134 Tryz.results134 (vs := [_, _]) (by refine ⟨⟨3, _, _, _, _, _, _, _, rfl, rfl, rfl, rfl⟩, ?_⟩; refine ⟨rfl, ?_⟩; exact trivial) ?_
 exact fun H' hs => ⟨hs.base, x, rfl, trivial, fun y hy => ⟨hs.at_ y (by simp [hy]), hs.out y (by simp [hy])⟩⟩
omit hG in
theorem seen_good (x : Nat × Nat × List Value) (hx : ∀ y ∈ letB code x, H y.1 = some y.2) : CallT M 135 #[letN code x, .agg ⟨[.int .i64 a, .int .i64 r, .int .i64 n, .slice A m ca]⟩] H (fun v H' => H.le H' ∧ v = timesV (seenTo (placesTo code 7) mv a n (placesTo code 7).length)) := by
  obtain ⟨hks, hkr, hkl, hkm⟩ := Lk.ok_in hk
  obtain ⟨hp0, hp6, hpl⟩ := places_in code hc
  have hml := hP.len
  have h1 := hP.send
  have h2 := hP.lean
  obtain ⟨f, es, et, ez, hE1, hE2⟩ := edg_of hx
  rcases hA with hA | ⟨a1, a2, a3, a4, a5, a6, rfl, a7, a8⟩
  · rw [hA] at hml; simp at hml; omega
  exact seen_c M H (code : Int) a r n (placesTo code 7) mv x.1 0 x.2.1 a1 a2 ca f a3 es a4 et a5 ez a6 hE1 hE2 a7 (fun i hi => by have := a8 i (by omega); rwa [Int.toNat_natCast] at this) hp6 hpl
    (fun i => by
      by_cases hi : i < mv.length
      · have := hP.at_ hi; omega
      · rw [List.getElem?_eq_none (by omega)]; decide) (by omega) (by omega) (by omega) (by omega) m (by omega)
theorem Read_good : CallT M 74 #[k.val, .int .i64 code, .agg ⟨[.int .i64 a, .int .i64 r, .int .i64 n, .slice A m ca]⟩] H (fun v H' => H.le H' ∧ v = readV (readN (pastView code a r n mv))) := by
 obtain ⟨hks, hkr, hkl, hkm⟩ := Lk.ok_in hk
 obtain ⟨hp0, hp6, hpl⟩ := places_in code hc
 have hml := hP.len
 have hr := hP.read
 have h1 := hP.send
 have h2 := hP.lean
 have hsb : ∀ i : Nat, i < (placesTo code 7).length → -100000 ≤ seenAt (placesTo code 7) mv a n i ∧ seenAt (placesTo code 7) mv a n i ≤ 100000 := fun i hi => by
   have h3 := hP.at_ (j := i) (by omega)
   have h4 := hpl i hi
   have h5 := still_in (place := (((placesTo code 7)[i]?.getD 0 : Nat) : Int)) (number := (i : Nat)) (send := a) (lean := n) (by omega) (by omega) (by omega) (by omega) (by omega) (by omega)
   unfold seenAt
   omega
 have hsl := seenTo_len (placesTo code 7) mv a n (placesTo code 7).length
 have hsm : ∀ z ∈ seenTo (placesTo code 7) mv a n (placesTo code 7).length, -1000000000 ≤ z ∧ z ≤ 1000000000 := fun z hz => by
   unfold seenTo at hz
   obtain ⟨i, hi, rfl⟩ := List.mem_map.1 hz
   split
   · rename_i hlt
     have := hsb i hlt
     omega
   · decide
 have hget : ∀ i : Nat, i < (placesTo code 7).length → ldL false 1 (intsL (afterTo (seenTo (placesTo code 7) mv a n (placesTo code 7).length) (placesTo code 7).length)) (0 + (i : Int).toNat * 1) = some (.int .i64 (seenAt (placesTo code 7) mv a n i - seenAt (placesTo code 7) mv a n 0)) := fun i hi => by
   show (intsL _)[0 + (i : Int).toNat * 1]? = _
   rw [Nat.zero_add, Nat.mul_one, Int.toNat_natCast]
   have h3 : (seenTo (placesTo code 7) mv a n (placesTo code 7).length)[i]? = some (seenAt (placesTo code 7) mv a n i) := by
     unfold seenTo
     rw [List.getElem?_map, List.getElem?_range (by omega)]
     simp [hi]
   have h4 : (seenTo (placesTo code 7) mv a n (placesTo code 7).length).headD 0 = seenAt (placesTo code 7) mv a n 0 := by
     unfold seenTo
     simp [List.range_succ_eq_map, hp0]
   rw [intsL_get (afterTo_get h3), if_pos hi, h4]
 refine CallT.enter (vs := [k.val, .int .i64 code, .agg ⟨[.int .i64 a, .int .i64 r, .int .i64 n, .slice A m ca]⟩]) Tryz.func74 rfl Tryz.ntmps74 (Nat.le_of_ble_eq_true rfl) (SymSt.nil _) fun St c cs hK => ?_
 refine .sr ?_
 refine .e (.bx (zz := fun b3 => ?_))
 refine .e (.bx (zz := fun b5 => ?_))
 refine .g ?_
 refine .g ?_
 refine .g ?_
 refine .done (.sr ?_)
 refine .x (.ld 1) ?_
 refine .m ?_
 refine .x (.ld 0) ?_
 refine .e (Or.callNew (fun x => .tuple ⟨[letN code x, .int .i64 0]⟩) (letB code) (fun _ => True) rfl rfl rfl rfl rfl (by decide) (letB_nodup code) (fun H hs => .f ca134 rfl (past_good M H k (glob_le hG hs.base) hk code hc a r n mv hP A m ca hm (hA.le hs.base))) (fun x hx => ?_))
 refine .m ?_
 refine .x .et ?_
 refine .x .et ?_
 refine .e (.al (zz := fun b9 => ?_))
 refine .e (.st 0 (zz := ?_))
 refine .g ?_
 refine .done (.seq (.sr ?_))
 refine .m ?_
 refine .i ?_ (z := neq_f (by omega))
 refine .done (.ff rfl (.skip (.sr ?_)))
 refine .g ?_
 refine .done (.seq ?_)
 refine Tc.dr [8] [] mixed rfl ?_
 refine .q 0 rfl (.ld 0) ?_
 refine .q 1 rfl (.ld 1) ?_
 refine .z 2 rfl (OpV.takeCall rfl rfl rfl rfl (fun H hs => .f ca135 rfl (seen_good M H k hk code hc a r n mv hP A m ca hm (hA.le hs.base) x (fun y hy => hs.at_ y (by simp [hy]))))) ?_
 refine .q 3 rfl .fa ?_
 refine .q 4 rfl (.ld 0) ?_
 refine .q 5 rfl .ln ?_
 refine .z 6 rfl (OpV.takeCall rfl rfl rfl rfl (fun H hs => .f ca137 rfl (after_c M H _ (placesTo code 7).length hsl hp6 hsm))) ?_
 refine Ta.each [7] (by kernel_rfl) rfl ⟨TaOp.mk rfl rfl rfl (.al (zz := fun b11 => ⟨S2.mk (by apply List.Sublist.cons; exact List.Sublist.refl _) (.inr (by apply List.Sublist.cons; exact List.Sublist.refl _)), ?_⟩)), trivial⟩
 refine Ta.each [8] (by kernel_rfl) rfl ⟨TaOp.mk rfl rfl rfl (.st 0 (zz := ⟨S2.mk (by apply List.Sublist.cons; exact List.Sublist.refl _) (.inl (by kernel_rfl)), ?_⟩)), trivial⟩
 refine Ta.done (by kernel_rfl) ?_
 refine .seq (.sr ?_)
 refine .x .fa ?_
 refine .x (.ld 1) ?_
 refine .x .ln ?_
 refine .m ?_
 refine .done (.block ?_)
 refine Tc.db (Tc.loopInv (σ := { i : Nat // i ≤ (placesTo code 7).length }) (fun i => ([(5, .pointer (some ⟨b5, 0, none⟩)), (10, .int .u8 (viewTo code a r n mv i.1 : Nat)), (11, .pointer (some ⟨b11, 0, none⟩)), (32, .int .i64 ((placesTo code 7).length : Nat)), (33, .int .i64 (i.1 : Nat))],
   [(b11, true, .cells ⟨intsL (afterTo (seenTo (placesTo code 7) mv a n (placesTo code 7).length) (placesTo code 7).length)⟩ 135 (0, 0)), (b5, true, .cells ⟨[.int .i64 a, .int .i64 r, .int .i64 n, .slice A m ca]⟩ 39 (0, 0))])) (fun i => (placesTo code 7).length - i.1) ?_ ⟨0, Nat.zero_le _⟩)
 rintro ⟨i, hi⟩ ih
 show Tc M St _ _ _ _ [(5, .pointer (some ⟨b5, 0, none⟩)), (10, .int .u8 (viewTo code a r n mv i : Nat)), (11, .pointer (some ⟨b11, 0, none⟩)), (32, .int .i64 ((placesTo code 7).length : Nat)), (33, .int .i64 (i : Nat))]
   [(b11, true, .cells ⟨intsL (afterTo (seenTo (placesTo code 7) mv a n (placesTo code 7).length) (placesTo code 7).length)⟩ 135 (0, 0)), (b5, true, .cells ⟨[.int .i64 a, .int .i64 r, .int .i64 n, .slice A m ca]⟩ 39 (0, 0))] _ _
 by_cases c1 : i = (placesTo code 7).length
 · have hv : viewTo code a r n mv i = pastView code a r n mv := by rw [c1, ← hml]; exact viewTo_all
   have hlt := viewTo_lt code a r n mv i
   rw [hv] at hlt
   rw [hv]
   cases hrd : readN (pastView code a r n mv) with
   | none =>
     refine .sr ?_
     refine .i ?_ (z := lss_f (by omega))
     refine .done (.seq (.ff rfl (.exit rfl (.sr ?_))))
     refine .m ?_
     refine .c rfl rfl rfl rfl (fun H hs => .f ca91 rfl (CallT.is (.tuple ⟨[.int .i64 0, .bool false]⟩) (by rewrite [hrd]; rfl) (read_c M H (pastView code a r n mv) hlt))) ?_
     refine .m ?_
     refine .x .et ?_
     refine .x .et ?_
     refine .g ?_
     refine .g ?_
     refine .done (.sr ?_)
     refine .m ?_
     refine .m ?_
     refine .g ?_
     refine .g ?_
     refine .g ?_
     refine .done ?_
     refine .rt hK Tryz.func74 Tryz.results74 [_, _, _] ?_
     exact fun H' hs => ⟨hs.base, by rw [hrd]; rfl⟩
   | some w =>
     refine .sr ?_
     refine .i ?_ (z := lss_f (by omega))
     refine .done (.seq (.ff rfl (.exit rfl (.sr ?_))))
     refine .m ?_
     refine .c rfl rfl rfl rfl (fun H hs => .f ca91 rfl (CallT.is (.tuple ⟨[.int .i64 (w : Nat), .bool true]⟩) (by rewrite [hrd]; rfl) (read_c M H (pastView code a r n mv) hlt))) ?_
     refine .m ?_
     refine .x .et ?_
     refine .x .et ?_
     refine .g ?_
     refine .g ?_
     refine .done (.sr ?_)
     refine .m ?_
     refine .m ?_
     refine .g ?_
     refine .g ?_
     refine .g ?_
     refine .done ?_
     refine .rt hK Tryz.func74 Tryz.results74 [_, _, _] ?_
     exact fun H' hs => ⟨hs.base, by rw [hrd]; rfl⟩
 · have c2 : i < (placesTo code 7).length := by omega
   have f1 := hget i c2
   have hmi := missedF_in r (seenAt (placesTo code 7) mv a n i - seenAt (placesTo code 7) mv a n 0)
   have hst := viewTo_step (c := code) (a := a) (r := r) (n := n) (mv := mv) (i := i) (by omega) (by omega)
   obtain ⟨w, hw⟩ : ∃ w : Nat, missedF r (seenAt (placesTo code 7) mv a n i - seenAt (placesTo code 7) mv a n 0) = (w : Int) := ⟨_, (Int.toNat_of_nonneg hmi.1).symm⟩
   rw [hw, Int.toNat_natCast] at hst
   have hw8 : w < 8 := by omega
   refine .sr ?_
   refine .i ?_ (z := lss_t (by omega))
   refine .done (.seq (.tt rfl (.skip (.seq (.block (.sr ?_))))))
   refine .m ?_
   refine .g ?_
   refine .done ?_
   refine Tc.dr [] [] mixed rfl ?_
   refine .q 0 rfl .mv ?_
   refine .q 1 rfl .fa ?_
   refine .q 2 rfl (.ld 1) ?_
   refine .q 3 rfl .mv ?_
   refine .q 4 rfl .ib ?_
   refine .q 5 rfl (.ld 0) ?_
   refine .z 6 rfl (OpV.takeCall rfl rfl rfl rfl (fun H hs => .f ca139 rfl (CallT.is (.int .i64 (w : Nat)) (by rewrite [hw]; rfl) (missed_c M H r (seenAt (placesTo code 7) mv a n i - seenAt (placesTo code 7) mv a n 0) (by omega) (by omega))))) ?_
   refine .z 7 rfl (OpV.takeCall rfl rfl rfl rfl (fun H hs => .f ca138 rfl (CallT.mono (turned_c M H (viewTo code a r n mv i) w (viewTo_lt ..) hw8) (Q' := fun v H' => H.le H' ∧ v = .int .u8 (viewTo code a r n mv (i + 1) : Nat)) (by rintro v H' ⟨h1, h2⟩; rw [hst]; exact ⟨h1, h2⟩)))) ?_
   refine .q 8 rfl .sg ?_
   refine Ta.done (by kernel_rfl) ?_
   refine .inBlock (.r ?_)
   refine .i ?_ (z := add_in (by omega) (by omega))
   refine .m ?_
   refine .done ?_
   exact Tc.db (ih ⟨i + 1, by omega⟩ (by simp only; omega))
end
end Go.Proofs.YtpdaenfglbgfkaaGreatDoor
