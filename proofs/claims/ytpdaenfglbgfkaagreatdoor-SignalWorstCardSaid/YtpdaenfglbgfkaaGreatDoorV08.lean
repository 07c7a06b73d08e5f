/-
  Texts of the proofs over baudot/signal: G2 F6 G4 G6 G5 G7.
-/
import Derived.Test.YtpdaenfglbgfkaaGreatDoorV07
section
namespace Go.Proofs.YtpdaenfglbgfkaaGreatDoor
open Go.RL
set_option maxRecDepth 10000
set_option maxHeartbeats 4000000
section
variable (M : Md Tryz.prog) (H : View)
theorem Lesser_same (A B : Option Addr) (l : List Int) (n ca cb : Nat) (hn : n = l.length) (h6 : n ≤ 1000) (hA : Nums H A l) (hB : Nums H B l) : CallT M 57 #[.slice A n ca, .slice B n cb] H (fun v H' => H.le H' ∧ v = .bool false) := by
  refine CallT.enter (vs := [.slice A n ca, .slice B n cb]) Tryz.func57 rfl Tryz.ntmps57 (Nat.le_of_ble_eq_true rfl) (SymSt.nil _) fun St c cs hK => ?_
  refine .seq (.region rfl rfl ?_)
  refine .x .sg ?_
  refine .done (.seq (.seq (.region rfl rfl ?_)))
  refine .x .sg ?_
  refine .done (.block ?_)
  refine Tc.dropB (Tc.loopInv (σ := { j : Nat // j ≤ n }) (fun j => ([(0, .slice A n ca), (1, .slice B n cb), (4, .bool false), (5, .int .i64 (j.1 : Nat))], [])) (fun j => n - j.1) ?_ ⟨0, by omega⟩) ⟨rfl, rfl, rfl, rfl, trivial⟩ (by exact List.Sublist.refl _)
  rintro ⟨j, hj⟩ ih
  show Tc M St _ _ _ _ [(0, .slice A n ca), (1, .slice B n cb), (4, .bool false), (5, .int .i64 (j : Nat))] [] _ _
  by_cases c1 : j = n
  · subst c1
    refine .seq (.seq (.region rfl rfl ?_))
    refine .x .mv ?_
    refine .x .mv ?_
    refine .x .ln ?_
    refine .x (.it (zz := lss_f (by omega))) ?_
    refine .x .mv ?_
    refine .sk ?_
    refine .sk ?_
    refine .sk ?_
    refine .sk ?_
    refine .x .pk ?_
    refine .done (.ff rfl (.exit rfl (.seq (.region rfl rfl ?_))))
    refine .x .mv ?_
    refine .x .ln ?_
    refine .x .mv ?_
    refine .x .ln ?_
    refine .x (.it (zz := lss_f (by omega))) ?_
    refine .x .sg ?_
    refine .done ?_
    refine Tc.retN (E := en) hK Tryz.func57 Tryz.results57 (vs := [_]) ⟨rfl, trivial⟩ ?_
    exact fun H' hs => ⟨hs.base, rfl⟩
  · have c2 : j < n := by omega
    rcases hA with hA | ⟨a1, a2, a3, a4, a5, a6, rfl, a7, a8⟩
    · rw [hA] at hn; simp at hn; omega
    rcases hB with hB | ⟨b1, b2, b3, b4, b5, b6, rfl, b7, b8⟩
    · rw [hB] at hn; simp at hn; omega
    have f1 := a8 j (by omega)
    have f2 := b8 j (by omega)
    refine .seq (.seq (.region rfl rfl ?_))
    refine .x .mv ?_
    refine .x .mv ?_
    refine .x .ln ?_
    refine .x (.it (zz := lss_t (by omega))) ?_
    refine .x .mv ?_
    refine .x .mv ?_
    refine .x .mv ?_
    refine .x .ln ?_
    refine .x (.it (zz := lss_t (by omega))) ?_
    refine .x .pk ?_
    refine .done (.tt rfl (.skip (.seq (.block (.seq ?_)))))
    refine Tc.dr [] [] mixed rfl ?_
    refine .q 0 rfl .mv ?_
    refine .q 1 rfl .mv ?_
    refine .q 2 rfl .ia ?_
    refine .q 3 rfl .l0 ?_
    refine .q 4 rfl .mv ?_
    refine .q 5 rfl .mv ?_
    refine .q 6 rfl .ia ?_
    refine .q 7 rfl .l0 ?_
    refine .q 8 rfl (.it (zz := neq_f (by omega))) ?_
    refine Ta.done (by kernel_rfl) ?_
    refine .ff rfl (.skip (.inBlock (.region rfl rfl ?_)))
    refine .x .mv ?_
    refine .x (.it (zz := add_in (by omega) (by omega))) ?_
    refine .x .sg ?_
    refine .done ?_
    exact Tc.dropB (ih ⟨j + 1, by omega⟩ (by simp only; omega)) ⟨rfl, rfl, rfl, rfl, trivial⟩ (by exact List.Sublist.refl _)
theorem SameNums_same (A B : Option Addr) (l : List Int) (n ca cb : Nat) (hn : n = l.length) (h6 : n ≤ 1000) (hA : Nums H A l) (hB : Nums H B l) : CallT M 23 #[.slice A n ca, .slice B n cb] H (fun v H' => H.le H' ∧ v = .bool true) := by
  refine CallT.enter (vs := [.slice A n ca, .slice B n cb]) Tryz.func23 rfl Tryz.ntmps23 (Nat.le_of_ble_eq_true rfl) (SymSt.nil _) fun St c cs hK => ?_
  refine .seq (.region rfl rfl ?_)
  refine .x .sg ?_
  refine .done (.seq (.region rfl rfl ?_))
  refine .x .mv ?_
  refine .x .mv ?_
  refine .c rfl rfl rfl rfl (fun H hs => .f ca57 rfl (Lesser_same M H A B l n ca cb hn h6 (hA.le hs.base) (hB.le hs.base))) ?_
  refine .x .nt ?_
  refine .x .mv ?_
  refine .x .mv ?_
  refine .x .mv ?_
  refine .c rfl rfl rfl rfl (fun H hs => .f ca57 rfl (Lesser_same M H B A l n cb ca hn h6 (hB.le hs.base) (hA.le hs.base))) ?_
  refine .x .nt ?_
  refine .x .pk ?_
  refine .x .sg ?_
  refine .done ?_
  refine Tc.retN (E := en) hK Tryz.func23 Tryz.results23 (vs := [_]) ⟨rfl, trivial⟩ ?_
  exact fun H' hs => ⟨hs.base, rfl⟩
theorem SamePasts_same (s r e : Int) (A B : Option Addr) (l : List Int) (n ca cb : Nat) (hn : n = l.length) (h6 : n ≤ 1000) (hA : Nums H A l) (hB : Nums H B l) :
    CallT M 30 #[.agg ⟨[.int .i64 s, .int .i64 r, .int .i64 e, .slice A n ca]⟩, .agg ⟨[.int .i64 s, .int .i64 r, .int .i64 e, .slice B n cb]⟩] H (fun v H' => H.le H' ∧ v = .bool true) := by
  refine CallT.enter (vs := [.agg ⟨[.int .i64 s, .int .i64 r, .int .i64 e, .slice A n ca]⟩, .agg ⟨[.int .i64 s, .int .i64 r, .int .i64 e, .slice B n cb]⟩]) Tryz.func30 rfl Tryz.ntmps30 (Nat.le_of_ble_eq_true rfl) (SymSt.nil _) fun St c cs hK => ?_
  refine .seq (.region rfl rfl ?_)
  refine .e (.bx (zz := fun b2 => ?_))
  refine .e (.bx (zz := fun b3 => ?_))
  refine .x .sg ?_
  refine .done (.seq (.region rfl rfl ?_))
  refine .x .fa ?_
  refine .x (.ld 1) ?_
  refine .x .fa ?_
  refine .x (.ld 0) ?_
  refine .x (.it (zz := eql_t (by omega))) ?_
  refine .x .mv ?_
  refine .x .fa ?_
  refine .x (.ld 1) ?_
  refine .x .fa ?_
  refine .x (.ld 0) ?_
  refine .x (.it (zz := eql_t (by omega))) ?_
  refine .x .pk ?_
  refine .x .mv ?_
  refine .x .fa ?_
  refine .x (.ld 1) ?_
  refine .x .fa ?_
  refine .x (.ld 0) ?_
  refine .x (.it (zz := eql_t (by omega))) ?_
  refine .x .pk ?_
  refine .x .mv ?_
  refine .x .fa ?_
  refine .x (.ld 1) ?_
  refine .x .fa ?_
  refine .x (.ld 0) ?_
  refine .c rfl rfl rfl rfl (fun H hs => .f ca23 rfl (SameNums_same M H A B l n ca cb hn h6 (hA.le hs.base) (hB.le hs.base))) ?_
  refine .x .pk ?_
  refine .x .sg ?_
  refine .done ?_
  refine Tc.retN (E := en) hK Tryz.func30 Tryz.results30 (vs := [_]) ⟨rfl, trivial⟩ ?_
  exact fun H' hs => ⟨hs.base, rfl⟩
theorem HasNum_c (A : Option Addr) (l : List Int) (n ca : Nat) (x : Int) (hn : n = l.length) (h6 : n ≤ 1000) (hA : Nums H A l) : CallT M 39 #[.slice A n ca, .int .i64 x] H (fun v H' => H.le H' ∧ v = .bool (decide (x ∈ l))) := by
  refine CallT.enter (vs := [.slice A n ca, .int .i64 x]) Tryz.func39 rfl Tryz.ntmps39 (Nat.le_of_ble_eq_true rfl) (SymSt.nil _) fun St c cs hK => ?_
  refine .seq (.region rfl rfl ?_)
  refine .x .sg ?_
  refine .done (.seq (.seq (.region rfl rfl ?_)))
  refine .x .sg ?_
  refine .done (.block ?_)
  refine Tc.dropB (Tc.loopInv (σ := { j : Nat // j ≤ n ∧ ∀ i, i < j → l[i]?.getD 0 ≠ x }) (fun j => ([(0, .slice A n ca), (1, .int .i64 x), (4, .bool false), (5, .int .i64 (j.1 : Nat))], [])) (fun j => n - j.1) ?_ ⟨0, by omega, by omega⟩) ⟨rfl, rfl, rfl, rfl, trivial⟩ (by exact List.Sublist.refl _)
  rintro ⟨j, hj, hno⟩ ih
  show Tc M St _ _ _ _ [(0, .slice A n ca), (1, .int .i64 x), (4, .bool false), (5, .int .i64 (j : Nat))] [] _ _
  by_cases c1 : j = n
  · have hx : ¬ x ∈ l := fun hm => by
      obtain ⟨i, hi, he⟩ := List.mem_iff_getElem.1 hm
      have := hno i (by omega)
      rw [List.getElem?_eq_getElem hi] at this
      exact this he
    subst c1
    refine .seq (.seq (.region rfl rfl ?_))
    refine .x .mv ?_
    refine .x .mv ?_
    refine .x .ln ?_
    refine .x (.it (zz := lss_f (by omega))) ?_
    refine .done (.ff rfl (.exit rfl (.seq (.region rfl rfl ?_))))
    refine .x .sg ?_
    refine .done ?_
    refine Tc.retN (E := en) hK Tryz.func39 Tryz.results39 (vs := [_]) ⟨rfl, trivial⟩ ?_
    exact fun H' hs => ⟨hs.base, by rw [decide_eq_false hx]; rfl⟩
  · have c2 : j < n := by omega
    rcases hA with hA | ⟨a1, a2, a3, a4, a5, a6, rfl, a7, a8⟩
    · rw [hA] at hn; simp at hn; omega
    have f1 := a8 j (by omega)
    by_cases c3 : l[j]?.getD 0 = x
    · have hx : x ∈ l := by
        rw [List.getElem?_eq_getElem (show j < l.length by omega)] at c3
        rw [← c3]
        exact List.getElem_mem _
      refine .seq (.seq (.region rfl rfl ?_))
      refine .x .mv ?_
      refine .x .mv ?_
      refine .x .ln ?_
      refine .x (.it (zz := lss_t (by omega))) ?_
      refine .done (.tt rfl (.skip (.seq (.block (.seq (.region rfl rfl ?_))))))
      refine .x .mv ?_
      refine .x .mv ?_
      refine .x .ia ?_
      refine .x .l0 ?_
      refine .x .mv ?_
      refine .x (.it (zz := eql_t (by omega))) ?_
      refine .done (.tt rfl (.seq (.region rfl rfl ?_)))
      refine .x .sg ?_
      refine .done ?_
      refine Tc.retN (E := en) hK Tryz.func39 Tryz.results39 (vs := [_]) ⟨rfl, trivial⟩ ?_
      exact fun H' hs => ⟨hs.base, by rw [decide_eq_true hx]; rfl⟩
    · refine .seq (.seq (.region rfl rfl ?_))
      refine .x .mv ?_
      refine .x .mv ?_
      refine .x .ln ?_
      refine .x (.it (zz := lss_t (by omega))) ?_
      refine .done (.tt rfl (.skip (.seq (.block (.seq (.region rfl rfl ?_))))))
      refine .x .mv ?_
      refine .x .mv ?_
      refine .x .ia ?_
      refine .x .l0 ?_
      refine .x .mv ?_
      refine .x (.it (zz := eql_f (by omega))) ?_
      refine .done (.ff rfl (.skip (.inBlock (.region rfl rfl ?_))))
      refine .x .mv ?_
      refine .x (.it (zz := add_in (by omega) (by omega))) ?_
      refine .x .sg ?_
      refine .done ?_
      exact Tc.dropB (ih ⟨j + 1, by omega, by intro i hi; rcases Nat.lt_succ_iff_lt_or_eq.1 hi with h | rfl; exact hno i h; exact c3⟩ (by simp only; omega)) ⟨rfl, rfl, rfl, rfl, trivial⟩ (by exact List.Sublist.refl _)
theorem Ascending_good (A : Option Addr) (l : List Int) (n ca : Nat) (m : Int) (hn : n = l.length) (h6 : n ≤ 1000) (hm : 0 ≤ m ∧ m ≤ 100000) (hA : Nums H A l) (h1 : ∀ i, i < n → 0 ≤ l[i]?.getD 0 ∧ l[i]?.getD 0 ≤ m - 1) (h2 : ∀ i, 0 < i → i < n → l[i - 1]?.getD 0 < l[i]?.getD 0) :
    CallT M 38 #[.slice A n ca, .int .i64 m] H (fun v H' => H.le H' ∧ v = .int .i64 0) := by
  refine CallT.enter (vs := [.slice A n ca, .int .i64 m]) Tryz.func38 rfl Tryz.ntmps38 (Nat.le_of_ble_eq_true rfl) (SymSt.nil _) fun St c cs hK => ?_
  refine .seq (.region rfl rfl ?_)
  refine .x .sg ?_
  refine .done (.seq (.seq (.region rfl rfl ?_)))
  refine .x .sg ?_
  refine .done (.block ?_)
  refine Tc.dropB (Tc.loopInv (σ := { j : Nat // j ≤ n }) (fun j => ([(0, .slice A n ca), (1, .int .i64 m), (4, .int .i64 0), (5, .int .i64 (j.1 : Nat))], [])) (fun j => n - j.1) ?_ ⟨0, by omega⟩) ⟨rfl, rfl, rfl, rfl, trivial⟩ (by exact List.Sublist.refl _)
  rintro ⟨j, hj⟩ ih
  show Tc M St _ _ _ _ [(0, .slice A n ca), (1, .int .i64 m), (4, .int .i64 0), (5, .int .i64 (j : Nat))] [] _ _
  by_cases c1 : j = n
  · subst c1
    refine .seq (.seq (.region rfl rfl ?_))
    refine .x .mv ?_
    refine .x .mv ?_
    refine .x .ln ?_
    refine .x (.it (zz := lss_f (by omega))) ?_
    refine .done (.ff rfl (.exit rfl (.seq (.region rfl rfl ?_))))
    refine .x .sg ?_
    refine .done ?_
    refine Tc.retN (E := en) hK Tryz.func38 Tryz.results38 (vs := [_]) ⟨rfl, trivial⟩ ?_
    exact fun H' hs => ⟨hs.base, rfl⟩
  · have c2 : j < n := by omega
    rcases hA with hA | ⟨a1, a2, a3, a4, a5, a6, rfl, a7, a8⟩
    · rw [hA] at hn; simp at hn; omega
    have f1 := a8 j (by omega)
    have g1 := h1 j c2
    have hin : ∀ H, CallT M 59 #[.int .i64 (l[j]?.getD 0), .int .i64 0, .int .i64 (m - 1)] H (fun v H' => H.le H' ∧ v = .bool true) := fun H =>
      CallT.mono (In_c M H _ 0 (m - 1)) (by rintro v H' ⟨h1, h2⟩; rw [decide_eq_true g1] at h2; exact ⟨h1, h2⟩)
    by_cases c0 : j = 0
    · subst c0
      refine .seq (.seq (.region rfl rfl ?_))
      refine .x .mv ?_
      refine .x .mv ?_
      refine .x .ln ?_
      refine .x (.it (zz := lss_t (by omega))) ?_
      refine .done (.tt rfl (.skip (.seq (.block (.seq (.seq (.region rfl rfl ?_)))))))
      refine .x .mv ?_
      refine .x .mv ?_
      refine .x .ia ?_
      refine .x .l0 ?_
      refine .x .mv ?_
      refine .x (.it (zz := sub_in (by omega) (by omega))) ?_
      refine .c rfl rfl rfl rfl (fun H hs => .f ca59 rfl (hin H)) ?_
      refine .x .nt ?_
      refine .done (.ff rfl (.skip (.seq ?_)))
      refine Tc.dr [] [] mixed rfl ?_
      refine .q 0 rfl .mv ?_
      refine .q 1 rfl (.it (zz := gtr_f (by omega))) ?_
      refine .q 2 rfl .mv ?_
      refine Ta.ps 3 (by kernel_rfl) rfl rfl rfl (by decide) rfl rfl ?_
      refine Ta.ps 4 (by kernel_rfl) rfl rfl rfl (by decide) rfl rfl ?_
      refine Ta.ps 5 (by kernel_rfl) rfl rfl rfl (by decide) rfl rfl ?_
      refine Ta.ps 6 (by kernel_rfl) rfl rfl rfl (by decide) rfl rfl ?_
      refine Ta.ps 7 (by kernel_rfl) rfl rfl rfl (by decide) rfl rfl ?_
      refine Ta.ps 8 (by kernel_rfl) rfl rfl rfl (by decide) rfl rfl ?_
      refine Ta.ps 9 (by kernel_rfl) rfl rfl rfl (by decide) rfl rfl ?_
      refine Ta.ps 10 (by kernel_rfl) rfl rfl rfl (by decide) rfl rfl ?_
      refine Ta.ps 11 (by kernel_rfl) rfl rfl rfl (by decide) rfl rfl ?_
      refine Ta.ps 12 (by kernel_rfl) rfl rfl rfl (by decide) rfl rfl ?_
      refine .q 13 rfl .pk ?_
      refine Ta.done (by kernel_rfl) ?_
      refine .ff rfl (.skip (.inBlock (.region rfl rfl ?_)))
      refine .x .mv ?_
      refine .x (.it (zz := add_in (by omega) (by omega))) ?_
      refine .x .sg ?_
      refine .done ?_
      exact Tc.dropB (ih ⟨1, by omega⟩ (by simp only; omega)) ⟨rfl, rfl, rfl, rfl, trivial⟩ (by exact List.Sublist.refl _)
    · have f2 : ldL false 1 a4 (a2 + ((j : Int) - 1).toNat * 1) = some (.int .i64 (l[j - 1]?.getD 0)) := by
        have := a8 (j - 1) (by omega)
        rwa [show (((j - 1 : Nat) : Int)).toNat = ((j : Int) - 1).toNat by omega] at this
      have g2 := h2 j (by omega) c2
      refine .seq (.seq (.region rfl rfl ?_))
      refine .x .mv ?_
      refine .x .mv ?_
      refine .x .ln ?_
      refine .x (.it (zz := lss_t (by omega))) ?_
      refine .done (.tt rfl (.skip (.seq (.block (.seq (.seq (.region rfl rfl ?_)))))))
      refine .x .mv ?_
      refine .x .mv ?_
      refine .x .ia ?_
      refine .x .l0 ?_
      refine .x .mv ?_
      refine .x (.it (zz := sub_in (by omega) (by omega))) ?_
      refine .c rfl rfl rfl rfl (fun H hs => .f ca59 rfl (hin H)) ?_
      refine .x .nt ?_
      refine .done (.ff rfl (.skip (.seq ?_)))
      refine Tc.dr [] [] mixed rfl ?_
      refine .q 0 rfl .mv ?_
      refine .q 1 rfl (.it (zz := gtr_t (by omega))) ?_
      refine .q 2 rfl .mv ?_
      refine .q 3 rfl .mv ?_
      refine .q 4 rfl .mv ?_
      refine .q 5 rfl (.it (zz := sub_in (by omega) (by omega))) ?_
      refine .q 6 rfl .ia ?_
      refine .q 7 rfl .l0 ?_
      refine .q 8 rfl .mv ?_
      refine .q 9 rfl .mv ?_
      refine .q 10 rfl .ia ?_
      refine .q 11 rfl .l0 ?_
      refine .q 12 rfl (.it (zz := geq_f (by omega))) ?_
      refine .q 13 rfl .pk ?_
      refine Ta.done (by kernel_rfl) ?_
      refine .ff rfl (.skip (.inBlock (.region rfl rfl ?_)))
      refine .x .mv ?_
      refine .x (.it (zz := add_in (by omega) (by omega))) ?_
      refine .x .sg ?_
      refine .done ?_
      exact Tc.dropB (ih ⟨j + 1, by omega⟩ (by simp only; omega)) ⟨rfl, rfl, rfl, rfl, trivial⟩ (by exact List.Sublist.refl _)
end
end Go.Proofs.YtpdaenfglbgfkaaGreatDoor
end
section
namespace Go.Proofs.YtpdaenfglbgfkaaGreatDoor
open Go.RL
set_option maxRecDepth 10000
set_option maxHeartbeats 4000000
theorem gl_len {g : Gl 3 1} {l : List Nat} (h : g.l = placesV l) : g.n = l.length := by
  have := g.hl
  rw [h] at this
  unfold placesV at this
  rw [List.length_map] at this
  omega
theorem ChAt.on {H : View} {ch : Ch} {lb lo lc : Nat} {A0 : Option Addr} (h : ChAt H ch lb lo lc A0) {g : Gl 3 1} {l : List Nat} (hg : g.l = placesV l) (hb : ∀ y ∈ g.bl, H y.1 = some y.2) : ChAt H (ch.on l) lb lo lc (g.blk.map fun b => ⟨b, 0, none⟩) := by
  refine ⟨h.ln, h.lc, fun hm => ?_⟩
  have hn := gl_len hg
  have hm' : 0 < l.length := hm
  obtain ⟨_ | b, n, cap, gl, gj, h1, h2, h3, h4⟩ := g
  · have := h4 rfl
    simp only at hn h2
    omega
  · refine ⟨b, 0, true, gl ++ gj, 3, (0, 0), rfl, hb (b, true, .cells ⟨gl ++ gj⟩ 3 (0, 0)) (by simp [Gl.bl]), fun j hj => ?_⟩
    simp only at hg
    subst hg
    have hj' : j < l.length := hj
    show (placesV l ++ gj)[0 + j * 1]? = _
    rw [Nat.zero_add, Nat.mul_one, List.getElem?_append_left (by unfold placesV; rw [List.length_map]; exact hj')]
    unfold placesV
    rw [List.getElem?_map, List.getElem?_eq_getElem hj']
    show _ = some (Value.int .i64 ((l[j]?.getD 0 : Nat) : Int))
    rw [List.getElem?_eq_getElem hj']
    rfl
theorem sub2 (a b : Nat × Bool × Obj) (x y : Bl) : ([b] ++ y).Sublist ([a, b] ++ x ++ y) := .cons _ (.cons_cons _ (List.sublist_append_right x y))
theorem pow_bound {n : Nat} (h0 : 0 < n) (h4 : n ≤ 4) : shiftV .shl .i64 1 ((n - 1 : Nat) : Int) = some (.int .i64 ((2 ^ (n - 1) : Nat) : Int)) ∧ 2 ^ (n - 1) ≤ 8 := by
  rcases (by omega : n = 1 ∨ n = 2 ∨ n = 3 ∨ n = 4) with rfl | rfl | rfl | rfl <;> exact ⟨rfl, by decide⟩
theorem bits_len (mask k : Nat) : (bitsL mask k).length ≤ k := by
  have := List.length_filter_le (bitM mask) (List.range k)
  rw [List.length_range] at this
  exact this
theorem spots_le (c : Ch) : ∀ (k : Nat) (b : List Nat), c.spotsTo k = some b → b.length ≤ c.n
  | 0, b, h => by cases h
  | k + 1, b, h => by
    unfold Ch.spotsTo Ch.spotStep at h
    split at h
    · exact spots_le c k b h
    · split at h
      · exact spots_le c k b h
      · cases h
        have := bits_len k (c.n - 1)
        omega
theorem Spots_c (H : View) (ch : Ch) (lb lo lc : Nat) (A0 : Option Addr) (hA : ChAt H ch lb lo lc A0) (hg : ch.Good) (hG : Glob H) :
    CallT (Mp Tryz.prog) 54 #[ch.val7 lb lo lc] H (SpotsQ ch.spots H) := by
  refine CallT.enter (vs := [ch.val7 lb lo lc]) Tryz.func54 rfl Tryz.ntmps54 (Nat.le_of_ble_eq_true rfl) (SymSt.nil _) fun St c cs hK => ?_
  have hn0 := hg.ok.n0
  have hn4 := hg.ok.n4
  obtain ⟨hsh, hp8⟩ := pow_bound hn0 hn4
  refine .seq (.region rfl rfl ?_)
  refine .e (.bx (zz := fun b1 => ?_))
  refine .x .sg ?_
  refine .x .sg ?_
  refine .x .sg ?_
  refine .done ?_
  refine Tc.scope ?_
  refine .seq (.seq (.region rfl rfl ?_))
  refine .x (.ld 0) ?_
  refine .c rfl rfl rfl rfl (fun H hs => .f ca66 rfl (CheckChain_good _ H ch lb lo lc A0 (hA.le hs.base) hg (glob_le hG hs.base))) ?_
  refine .x .sg ?_
  refine .done (.seq (.region rfl rfl ?_))
  refine .x .mv ?_
  refine .x (.it (zz := neq_f (by omega))) ?_
  refine .done (.ff rfl (.skip (.seq (.region rfl rfl ?_))))
  refine .x .fa ?_
  refine .x (.ld 0) ?_
  refine .x .ln ?_
  refine .x (.it (zz := sub_in (by omega) (by omega))) ?_
  refine .x .sg ?_
  refine .done ?_
  rw [show (ch.n : Int) - 1 = ((ch.n - 1 : Nat) : Int) by omega]
  refine .seq ?_
  refine Tc.label ?_
  refine .seq (.seq (.region rfl rfl ?_))
  refine .x .mv ?_
  refine .x .sf ?_
  refine .x .mv ?_
  refine .done (.block ?_)
  refine Tc.dropB (Tc.loopInv (σ := { s : Nat × Gl 3 1 // s.1 ≤ 2 ^ (ch.n - 1) ∧ s.2.l = placesV ((ch.spotsTo s.1).getD []) })
    (fun s => ([(1, .pointer (some ⟨b1, 0, none⟩)), (2, s.1.2.val), (3, .bool (ch.spotsTo s.1.1).isSome), (6, .int .i64 ((ch.n - 1 : Nat) : Int)), (22, .int .i64 ((2 ^ (ch.n - 1) : Nat) : Int)), (23, .int .i64 (s.1.1 : Nat))], [(b1, true, .cells ⟨(ch.val7 lb lo lc).cells.toList⟩ 73 (0, 0))] ++ s.1.2.bl)) (fun s => 2 ^ (ch.n - 1) - s.1.1) ?_ ⟨(0, Gl.nil 3 1), Nat.zero_le _, rfl⟩) ⟨rfl, rfl, rfl, rfl, rfl, rfl, trivial⟩ (by exact List.Sublist.refl _)
  rintro ⟨⟨mask, g⟩, g1, g2⟩ ih
  simp only at g1 g2
  show Tc (Mp Tryz.prog) St _ _ _ _ [(1, .pointer (some ⟨b1, 0, none⟩)), (2, g.val), (3, .bool (ch.spotsTo mask).isSome), (6, .int .i64 ((ch.n - 1 : Nat) : Int)), (22, .int .i64 ((2 ^ (ch.n - 1) : Nat) : Int)), (23, .int .i64 (mask : Nat))] ([(b1, true, .cells ⟨(ch.val7 lb lo lc).cells.toList⟩ 73 (0, 0))] ++ g.bl) _ _
  by_cases c1 : mask = 2 ^ (ch.n - 1)
  · subst c1
    refine .seq (.region rfl rfl ?_)
    refine .x (.it (zz := lss_f (by omega))) ?_
    refine .done (.seq (.ff rfl (.exit rfl (.seq (.region rfl rfl ?_)))))
    refine .x .mv ?_
    refine .x .mv ?_
    refine .x .sg ?_
    refine .x .sg ?_
    refine .x .sg ?_
    refine .done ?_
    refine Tc.retN (E := en) hK Tryz.func54 Tryz.results54 (vs := [_, _, _]) ⟨rfl, rfl, rfl, trivial⟩ ?_
    exact fun H' hs => ⟨hs.base, g, rfl, g2, fun y hy => ⟨hs.at_ y (by simp [hy]), hs.out y (by simp [hy])⟩⟩
  · have c2 : mask < 2 ^ (ch.n - 1) := by omega
    have hgn := gl_len g2
    refine .seq (.region rfl rfl ?_)
    refine .x (.it (zz := lss_t (by omega))) ?_
    refine .done (.seq (.tt rfl (.skip (.seq (.block (.seq (.region rfl rfl ?_)))))))
    refine .x .mv ?_
    refine .e (.al (zz := fun b7 => ?_))
    refine .e (.st 0 (zz := ?_))
    refine .done (.seq (.region rfl rfl ?_))
    refine .x .mv ?_
    refine .x .mf ?_
    refine .e (Or.callNew Gl.val Gl.bl (fun g' : Gl 3 1 => g'.l = keepTo (bitM mask) (ch.n - 1)) rfl rfl rfl rfl rfl (by decide) gl_nodup (fun H hs => .f ca97 rfl (keep_n _ H (ch.n - 1) _ (bitM mask) (by omega) (spots_asks _ H mask (ch.n - 1) b7 (by omega) (by omega) (hs.get (i := 0) rfl)))) (fun g' hg' => ?_))
    refine .x .sg ?_
    refine .done ?_
    rw [keep_bits] at hg'
    have hgn' := gl_len hg'
    have hbl := bits_len mask (ch.n - 1)
    have hgood := hg.on mask
    refine .seq (.seq ?_)
    refine Tc.via2 (fun R' L' => skips (bitsL mask (ch.n - 1)) (ch.spotsTo mask) = false ∧ AllIn [(1, .pointer (some ⟨b1, 0, none⟩)), (2, g.val), (3, .bool (ch.spotsTo mask).isSome), (6, .int .i64 ((ch.n - 1 : Nat) : Int)), (8, g'.val), (22, .int .i64 ((2 ^ (ch.n - 1) : Nat) : Int)), (23, .int .i64 (mask : Nat))] R' ∧ L' = [(b7, true, .cells ⟨[.int .i64 (mask : Nat)]⟩ 3 (0, 0)), (b1, true, .cells ⟨(ch.val7 lb lo lc).cells.toList⟩ 73 (0, 0))] ++ g.bl ++ g'.bl) ?_ (fun fin => ?_)
    · rintro R' L' ⟨hsk, hR, rfl⟩
      refine Tc.dropB ?_ hR (List.Sublist.refl _)
      cases hw : (ch.on (bitsL mask (ch.n - 1))).first with
      | some s =>
        have hst : ch.spotsTo (mask + 1) = ch.spotsTo mask := by
          show ch.spotStep _ mask = _
          unfold Ch.spotStep
          rw [hsk, hw]
          rfl
        refine .seq (.region rfl rfl ?_)
        refine .x (.ld 1) ?_
        refine .x .mv ?_
        refine .x .bu ?_
        refine .c rfl rfl rfl rfl (fun H hs => .f ca120 rfl (show CallT (Mp Tryz.prog) 120 #[.agg ⟨[.int .i64 ch.s0, .int .i64 ch.s1, .slice (some ⟨lb, lo, none⟩) ch.n lc, .int .i64 ch.a0, .int .i64 ch.a1, .int .i64 ch.r0, .int .i64 ch.r1, .slice (g'.blk.map fun b => ⟨b, 0, none⟩) g'.n g'.cap]⟩] H _ from by rw [hgn']; exact CallT.mono (chainWeak_c H (ch.on (bitsL mask (ch.n - 1))) lb lo lc g'.cap _ ((hA.le hs.base).on hg' (fun y hy => hs.at_ y (by simp [hy]))) hgood (glob_le hG hs.base)) (Q' := fun v H' => H.le H' ∧ v = .tuple ⟨[.int .i64 ((ch.on (bitsL mask (ch.n - 1))).sec : Nat), .int .i64 (((ch.on (bitsL mask (ch.n - 1))).bad (ch.on (bitsL mask (ch.n - 1))).sec).getD 0), .bool true]⟩) (by rintro v H' ⟨h1, h2⟩; rw [hw] at h2; exact ⟨h1, h2⟩))) ?_
        refine .x .mv ?_
        refine .x .et ?_
        refine .x .et ?_
        refine .x .et ?_
        refine .x .sg ?_
        refine .x .sg ?_
        refine .x .sg ?_
        refine .done (.seq (.region rfl rfl ?_))
        refine .x .mv ?_
        refine .x .nt ?_
        refine .done (.ff rfl (.skip (.inBlock (.region rfl rfl ?_))))
        refine .x (.it (zz := add_in (by omega) (by omega))) ?_
        refine .x .mv ?_
        refine .done ?_
        have hfin := ih ⟨(mask + 1, g), by simp only; omega, by simp only [hst]; exact g2⟩ (by simp only; omega)
        simp only [hst] at hfin
        exact Tc.dropB hfin ⟨rfl, rfl, rfl, rfl, rfl, rfl, trivial⟩ (by apply List.Sublist.cons; exact List.sublist_append_left _ _)
      | none =>
        have hst : ch.spotsTo (mask + 1) = some (bitsL mask (ch.n - 1)) := by
          show ch.spotStep _ mask = _
          unfold Ch.spotStep
          rw [hsk, hw]
          rfl
        refine .seq (.region rfl rfl ?_)
        refine .x (.ld 1) ?_
        refine .x .mv ?_
        refine .x .bu ?_
        refine .c rfl rfl rfl rfl (fun H hs => .f ca120 rfl (show CallT (Mp Tryz.prog) 120 #[.agg ⟨[.int .i64 ch.s0, .int .i64 ch.s1, .slice (some ⟨lb, lo, none⟩) ch.n lc, .int .i64 ch.a0, .int .i64 ch.a1, .int .i64 ch.r0, .int .i64 ch.r1, .slice (g'.blk.map fun b => ⟨b, 0, none⟩) g'.n g'.cap]⟩] H _ from by rw [hgn']; exact CallT.mono (chainWeak_c H (ch.on (bitsL mask (ch.n - 1))) lb lo lc g'.cap _ ((hA.le hs.base).on hg' (fun y hy => hs.at_ y (by simp [hy]))) hgood (glob_le hG hs.base)) (Q' := fun v H' => H.le H' ∧ v = .tuple ⟨[.int .i64 ((ch.on (bitsL mask (ch.n - 1))).sec : Nat), .int .i64 (((ch.on (bitsL mask (ch.n - 1))).bad (ch.on (bitsL mask (ch.n - 1))).sec).getD 0), .bool false]⟩) (by rintro v H' ⟨h1, h2⟩; rw [hw] at h2; exact ⟨h1, h2⟩))) ?_
        refine .x .mv ?_
        refine .x .et ?_
        refine .x .et ?_
        refine .x .et ?_
        refine .x .sg ?_
        refine .x .sg ?_
        refine .x .sg ?_
        refine .done (.seq (.region rfl rfl ?_))
        refine .x .mv ?_
        refine .x .nt ?_
        refine .done (.tt rfl (.region rfl rfl ?_))
        refine .x .mv ?_
        refine .x .sg ?_
        refine .x .sg ?_
        refine .done (.inBlock (.region rfl rfl ?_))
        refine .x (.it (zz := add_in (by omega) (by omega))) ?_
        refine .x .mv ?_
        refine .done ?_
        have hfin := ih ⟨(mask + 1, g'), by simp only; omega, by simp only [hst]; exact hg'⟩ (by simp only; omega)
        simp only [hst] at hfin
        exact Tc.dropB hfin ⟨rfl, rfl, rfl, rfl, rfl, rfl, trivial⟩ (sub2 _ _ _ _)
    · have hskip : skips (bitsL mask (ch.n - 1)) (ch.spotsTo mask) = true → ch.spotsTo (mask + 1) = ch.spotsTo mask := fun h => by
        show ch.spotStep _ mask = _
        unfold Ch.spotStep
        rw [h]
        rfl
      cases hb : ch.spotsTo mask with
      | none =>
        rw [hb] at fin
        refine .region rfl rfl ?_
        refine .x .mv ?_
        refine .x .mv ?_
        refine .sk ?_
        refine .sk ?_
        refine .sk ?_
        refine .sk ?_
        refine .sk ?_
        refine .sk ?_
        refine To.skippedU rfl (by decide) rfl ?_
        refine To.skippedU rfl (by decide) rfl ?_
        refine To.skippedU rfl (by decide) rfl ?_
        refine To.skippedU rfl (by decide) rfl ?_
        refine To.skippedU rfl (by decide) rfl ?_
        refine To.skippedU rfl (by decide) rfl ?_
        refine To.skippedU rfl (by decide) rfl ?_
        refine To.skippedU rfl (by decide) rfl ?_
        refine To.skippedU rfl (by decide) rfl ?_
        refine To.skippedU rfl (by decide) rfl ?_
        refine To.skippedU rfl (by decide) rfl ?_
        refine .sk ?_
        refine .x .pk ?_
        refine .done (.ff rfl (.skip ?_))
        exact fin _ _ ⟨rfl, ⟨rfl, rfl, rfl, rfl, rfl, rfl, rfl, trivial⟩, rfl⟩
      | some b =>
        rw [hb] at fin hskip g2 hgn
        have hbn := spots_le ch mask b hb
        simp only [Option.getD_some] at g2 hgn
        rw [places_nums] at g2
        rw [places_nums] at hg'
        have hcmp : ∀ H', SymSt H ([(b7, true, .cells ⟨[.int .i64 (mask : Nat)]⟩ 3 (0, 0)), (b1, true, .cells ⟨(ch.val7 lb lo lc).cells.toList⟩ 73 (0, 0))] ++ g.bl ++ g'.bl) H' → CallT (Mp Tryz.prog) 119 #[g'.val, g.val] H' (fun v H'' => H'.le H'' ∧ v = .int .i64 (cmpL (numsL (bitsL mask (ch.n - 1))) (numsL b))) := fun H' hs =>
          Compare_c _ H' _ _ _ _ g'.n g.n g'.cap g.cap (by rw [hgn']; simp [numsL]) (by rw [hgn]; simp [numsL]) (by omega) (by omega) (Nums.of hg' (fun y hy => hs.at_ y (by simp [hy]))).2 (Nums.of g2 (fun y hy => hs.at_ y (by simp [hy]))).2
        by_cases d1 : b.length < (bitsL mask (ch.n - 1)).length
        · have hst := hskip (by unfold skips; simp [d1])
          refine .region rfl rfl ?_
          refine .x .mv ?_
          refine .x .mv ?_
          refine .x .mv ?_
          refine .x .ln ?_
          refine .x .mv ?_
          refine .x .ln ?_
          refine .x (.it (zz := gtr_t (by omega))) ?_
          refine .x .mv ?_
          refine .sk ?_
          refine .sk ?_
          refine .sk ?_
          refine .sk ?_
          refine .sk ?_
          refine .sk ?_
          refine To.skippedU rfl (by decide) rfl ?_
          refine To.skippedU rfl (by decide) rfl ?_
          refine To.skippedU rfl (by decide) rfl ?_
          refine To.skippedU rfl (by decide) rfl ?_
          refine .sk ?_
          refine .x .pk ?_
          refine .x .pk ?_
          refine .done (.tt rfl (.exit rfl (.region rfl rfl ?_)))
          refine .x (.it (zz := add_in (by omega) (by omega))) ?_
          refine .x .mv ?_
          refine .done ?_
          have hfin := ih ⟨(mask + 1, g), by simp only; omega, by simp only [hst]; rw [places_nums]; exact g2⟩ (by simp only; omega)
          simp only [hst] at hfin
          exact Tc.dropB hfin ⟨rfl, rfl, rfl, rfl, rfl, rfl, trivial⟩ (by apply List.Sublist.cons; exact List.sublist_append_left _ _)
        · by_cases d2 : (bitsL mask (ch.n - 1)).length = b.length
          · by_cases d3 : 0 < cmpL (numsL (bitsL mask (ch.n - 1))) (numsL b)
            · have hst := hskip (by unfold skips; simp [d2, d3])
              refine .region rfl rfl ?_
              refine .x .mv ?_
              refine .x .mv ?_
              refine .x .mv ?_
              refine .x .ln ?_
              refine .x .mv ?_
              refine .x .ln ?_
              refine .x (.it (zz := gtr_f (by omega))) ?_
              refine .x .mv ?_
              refine .x .mv ?_
              refine .x .ln ?_
              refine .x .mv ?_
              refine .x .ln ?_
              refine .x (.it (zz := eql_t (by omega))) ?_
              refine .x .mv ?_
              refine .x .mv ?_
              refine .x .mv ?_
              refine .c rfl rfl rfl rfl (fun H hs => .f ca119 rfl (hcmp H hs)) ?_
              refine .x (.it (zz := gtr_t (by omega))) ?_
              refine .x .pk ?_
              refine .x .pk ?_
              refine .x .pk ?_
              refine .done (.tt rfl (.exit rfl (.region rfl rfl ?_)))
              refine .x (.it (zz := add_in (by omega) (by omega))) ?_
              refine .x .mv ?_
              refine .done ?_
              have hfin := ih ⟨(mask + 1, g), by simp only; omega, by simp only [hst]; rw [places_nums]; exact g2⟩ (by simp only; omega)
              simp only [hst] at hfin
              exact Tc.dropB hfin ⟨rfl, rfl, rfl, rfl, rfl, rfl, trivial⟩ (by apply List.Sublist.cons; exact List.sublist_append_left _ _)
            · have hns : skips (bitsL mask (ch.n - 1)) (some b) = false := by unfold skips; simp [d2, d3]
              refine .region rfl rfl ?_
              refine .x .mv ?_
              refine .x .mv ?_
              refine .x .mv ?_
              refine .x .ln ?_
              refine .x .mv ?_
              refine .x .ln ?_
              refine .x (.it (zz := gtr_f (by omega))) ?_
              refine .x .mv ?_
              refine .x .mv ?_
              refine .x .ln ?_
              refine .x .mv ?_
              refine .x .ln ?_
              refine .x (.it (zz := eql_t (by omega))) ?_
              refine .x .mv ?_
              refine .x .mv ?_
              refine .x .mv ?_
              refine .c rfl rfl rfl rfl (fun H hs => .f ca119 rfl (hcmp H hs)) ?_
              refine .x (.it (zz := gtr_f (by omega))) ?_
              refine .x .pk ?_
              refine .x .pk ?_
              refine .x .pk ?_
              refine .done (.ff rfl (.skip ?_))
              exact fin _ _ ⟨hns, ⟨rfl, rfl, rfl, rfl, rfl, rfl, rfl, trivial⟩, rfl⟩
          · have hns : skips (bitsL mask (ch.n - 1)) (some b) = false := by unfold skips; simp [d1, d2]
            refine .region rfl rfl ?_
            refine .x .mv ?_
            refine .x .mv ?_
            refine .x .mv ?_
            refine .x .ln ?_
            refine .x .mv ?_
            refine .x .ln ?_
            refine .x (.it (zz := gtr_f (by omega))) ?_
            refine .x .mv ?_
            refine .x .mv ?_
            refine .x .ln ?_
            refine .x .mv ?_
            refine .x .ln ?_
            refine .x (.it (zz := eql_f (by omega))) ?_
            refine .x .mv ?_
            refine .sk ?_
            refine .sk ?_
            refine .sk ?_
            refine .sk ?_
            refine .x .pk ?_
            refine .x .pk ?_
            refine .x .pk ?_
            refine .done (.ff rfl (.skip ?_))
            exact fin _ _ ⟨hns, ⟨rfl, rfl, rfl, rfl, rfl, rfl, rfl, trivial⟩, rfl⟩
end Go.Proofs.YtpdaenfglbgfkaaGreatDoor
end
section
namespace Go.Proofs.YtpdaenfglbgfkaaGreatDoor
open Go.RL
set_option maxRecDepth 10000
set_option maxHeartbeats 4000000
def lineC : List Value := [.int .i64 0, .int .i64 0, .int .i64 (-2), .int .i64 2, .int .i64 0, .int .i64 0, .int .i64 (-2), .int .i64 2, .int .i64 0, .int .i64 0, .int .i64 (-2), .int .i64 2]
theorem exC_at {H : View} {b : Nat} (h : H b = some (true, .cells ⟨lineC⟩ 25 (0, 0))) : ChAt H exC b 0 3 none := by
  refine ⟨⟨true, lineC, 25, (0, 0), h, fun i hi => ?_⟩, Nat.le_refl _, fun hm => absurd hm (Nat.lt_irrefl 0)⟩
  have hi' : i < 3 := hi
  rcases (by omega : i = 0 ∨ i = 1 ∨ i = 2) with rfl | rfl | rfl <;> rfl
theorem exC_good : exC.Good := by
  have z : (-1000000 : Int) ≤ 0 ∧ (0 : Int) ≤ 1000000 := by decide
  have a : (-1000000 : Int) ≤ -2 ∧ (-2 : Int) ≤ 1000000 := by decide
  have b : (-1000000 : Int) ≤ 2 ∧ (2 : Int) ≤ 1000000 := by decide
  have l : (⟨0, 0, 0, 0, 0, 0, -2, 2⟩ : Lk).lineOk = true := by decide +kernel
  exact ⟨⟨by decide, by decide, fun _ _ => z, fun _ _ => z, fun _ _ => a, fun _ _ => b, fun i hi => absurd hi (Nat.not_lt_zero i), fun i hi => absurd hi (Nat.not_lt_zero _)⟩, by decide, by decide, by decide, fun _ _ => l⟩
section
variable (M : Md Tryz.prog) (H : View)
theorem Example_c : CallT M 101 #[] H (fun v H' => H.le H' ∧ v = exL.val) := by
  refine CallT.enter (vs := []) Tryz.func101 rfl Tryz.ntmps101 (Nat.le_of_ble_eq_true rfl) (SymSt.nil _) fun St c cs hK => ?_
  refine .seq (.region rfl rfl ?_)
  refine .e (.al (zz := fun b0 => ?_))
  refine .done (.seq (.region rfl rfl ?_))
  refine .c rfl rfl rfl rfl (fun H hs => .f ca40 rfl (to_c M H 20 20)) ?_
  refine .c rfl rfl rfl rfl (fun H hs => .f ca40 rfl (to_c M H 19 21)) ?_
  refine .c rfl rfl rfl rfl (fun H hs => .f ca40 rfl (to_c M H (-3) 3)) ?_
  refine .x .bu ?_
  refine .x .bu ?_
  refine .e (.st 0 (zz := ?_))
  refine .done ?_
  refine Tc.retN (E := en) hK Tryz.func101 Tryz.results101 (vs := [_]) (by refine ⟨⟨0, _, _, _, _, _, _, _, rfl, rfl, rfl, rfl⟩, ?_⟩; exact trivial) ?_
  exact fun H' hs => ⟨hs.base, rfl⟩
theorem Leaning_c : CallT M 102 #[] H (fun v H' => H.le H' ∧ v = exK.val) := by
  refine CallT.enter (vs := []) Tryz.func102 rfl Tryz.ntmps102 (Nat.le_of_ble_eq_true rfl) (SymSt.nil _) fun St c cs hK => ?_
  refine .seq (.region rfl rfl ?_)
  refine .e (.al (zz := fun b0 => ?_))
  refine .done (.seq (.region rfl rfl ?_))
  refine .c rfl rfl rfl rfl (fun H hs => .f ca101 rfl (Example_c M H)) ?_
  refine .e (.al (zz := fun b1 => ?_))
  refine .e (.st 0 (zz := ?_))
  refine .done (.seq (.region rfl rfl ?_))
  refine .c rfl rfl rfl rfl (fun H hs => .f ca40 rfl (to_c M H 0 1)) ?_
  refine .x .fa ?_
  refine .x .fa ?_
  refine .e (.st 0 (zz := ?_))
  refine .done (.seq (.region rfl rfl ?_))
  refine .x (.ld 0) ?_
  refine .e (.st 1 (zz := ?_))
  refine .done ?_
  refine Tc.retN (E := en) hK Tryz.func102 Tryz.results102 (vs := [_]) (by refine ⟨⟨1, _, _, _, _, _, _, _, rfl, rfl, rfl, rfl⟩, ?_⟩; exact trivial) ?_
  exact fun H' hs => ⟨hs.base, rfl⟩
theorem Chained_c : CallT M 103 #[] H (fun v H' => H.le H' ∧ ∃ b : Nat, v = exC.val7 b 0 3 ∧ True ∧ ∀ y ∈ [(b, true, Obj.cells ⟨lineC⟩ 25 (0, 0))], H' y.1 = some y.2 ∧ H y.1 = none) := by
  refine CallT.enter (vs := []) Tryz.func103 rfl Tryz.ntmps103 (Nat.le_of_ble_eq_true rfl) (SymSt.nil _) fun St c cs hK => ?_
  refine .seq (.region rfl rfl ?_)
  refine .e (.al (zz := fun b0 => ?_))
  refine .done (.seq (.region rfl rfl ?_))
  refine .c rfl rfl rfl rfl (fun H hs => .f ca40 rfl (to_c M H (-2) 2)) ?_
  refine .x .bu ?_
  refine .e (.al (zz := fun b1 => ?_))
  refine .e (.st 0 (zz := ?_))
  refine .done (.seq ?_)
  refine Tc.dr [8] [1] mixed rfl ?_
  refine Ta.tk 0 (by kernel_rfl) rfl rfl (by decide) rfl rfl (OpV.takeCall rfl rfl rfl rfl (fun H hs => .f ca40 rfl (to_c M H 20 20))) ?_
  refine Ta.tk 1 (by kernel_rfl) rfl rfl (by decide) rfl rfl (OpV.takeCall rfl rfl rfl rfl (fun H hs => .f ca40 rfl (to_c M H 20 20))) ?_
  refine Ta.tk 2 (by kernel_rfl) rfl rfl (by decide) rfl rfl (OpV.takeCall rfl rfl rfl rfl (fun H hs => .f ca40 rfl (to_c M H 19 21))) ?_
  refine .q 3 rfl (.ld 0) ?_
  refine .q 4 rfl (.ld 0) ?_
  refine .q 5 rfl (.ld 0) ?_
  refine Ta.each [6] (by kernel_rfl) rfl ⟨TaOp.mk rfl rfl rfl (.bs (zz := fun bl => ⟨S2.mk (by apply List.Sublist.cons; exact List.sublist_append_left _ _) (.inr (by apply List.Sublist.cons; exact List.Sublist.refl _)), ?_⟩)), trivial⟩
  refine .q 7 rfl .bu ?_
  refine Ta.each [8] (by kernel_rfl) rfl ⟨TaOp.mk rfl rfl rfl (.st 2 (zz := ⟨S2.mk (by apply List.Sublist.cons; exact List.sublist_append_left _ _) (.inl (by kernel_rfl)), ?_⟩)), trivial⟩
  refine Ta.done (by kernel_rfl) ?_
  refine Tc.retN (E := en) hK Tryz.func103 Tryz.results103 (vs := [_]) (by refine ⟨⟨2, _, _, _, _, _, _, _, rfl, rfl, rfl, rfl⟩, ?_⟩; exact trivial) ?_
  exact fun H' hs => ⟨hs.base, bl, rfl, trivial, fun y hy => by
    simp only [List.mem_singleton] at hy
    subst hy
    exact ⟨hs.get (i := 0) rfl, hs.fresh (i := 0) (x := (true, .cells ⟨lineC⟩ 25 (0, 0))) rfl⟩⟩
end
theorem SameNums_two (M : Md Tryz.prog) (H : View) (A B : Option Addr) (l : List Int) (n m ca cb : Nat) (hn : n = l.length) (hm : m = l.length) (h6 : l.length ≤ 1000) (hA : Nums H A l) (hB : Nums H B l) : CallT M 23 #[.slice A n ca, .slice B m cb] H (fun v H' => H.le H' ∧ v = .bool true) := by
  subst hn
  subst hm
  exact SameNums_same M H A B l _ ca cb rfl h6 hA hB
theorem SamePasts_two (M : Md Tryz.prog) (H : View) (s r e : Int) (A B : Option Addr) (l : List Int) (n m ca cb : Nat) (hn : n = l.length) (hm : m = l.length) (h6 : l.length ≤ 1000) (hA : Nums H A l) (hB : Nums H B l) :
    CallT M 30 #[.agg ⟨[.int .i64 s, .int .i64 r, .int .i64 e, .slice A n ca]⟩, .agg ⟨[.int .i64 s, .int .i64 r, .int .i64 e, .slice B m cb]⟩] H (fun v H' => H.le H' ∧ v = .bool true) := by
  subst hn
  subst hm
  exact SamePasts_same M H s r e A B l _ ca cb rfl h6 hA hB
theorem Nums.lit {H : View} {b : Nat} {l : List Int} (h : H b = some (true, .cells ⟨intsL l⟩ 3 (0, 0))) : Nums H (some ⟨b, 0, none⟩) l :=
  .inr ⟨b, 0, true, intsL l, 3, (0, 0), rfl, h, fun j hj => by
    show (intsL l)[0 + (j : Int).toNat * 1]? = _
    rw [Nat.zero_add, Nat.mul_one, Int.toNat_natCast]
    unfold intsL
    rw [List.getElem?_map, List.getElem?_eq_getElem hj]
    rfl⟩
end Go.Proofs.YtpdaenfglbgfkaaGreatDoor
end
section
namespace Go.Proofs.YtpdaenfglbgfkaaGreatDoor
open Go.RL
set_option maxRecDepth 10000
set_option maxHeartbeats 4000000
theorem keepI_get {p : Nat → Bool} {k i : Nat} (h : i < (keepI p k).length) : 0 ≤ (keepI p k)[i]?.getD 0 ∧ (keepI p k)[i]?.getD 0 ≤ (k : Int) - 1 := by
  rw [List.getElem?_eq_getElem h]
  have hm := List.getElem_mem h
  simp only [Option.getD_some]
  generalize (keepI p k)[i] = z at hm
  unfold keepI at hm
  obtain ⟨n, hn, rfl⟩ := List.mem_map.1 hm
  have := List.mem_range.1 (List.mem_filter.1 hn).1
  omega
theorem keepI_mono {p : Nat → Bool} {k i : Nat} (h0 : 0 < i) (h : i < (keepI p k).length) : (keepI p k)[i - 1]?.getD 0 < (keepI p k)[i]?.getD 0 := by
  rw [List.getElem?_eq_getElem h, List.getElem?_eq_getElem (show i - 1 < (keepI p k).length by omega)]
  have hp : (keepI p k).Pairwise (· < ·) := by
    unfold keepI
    rw [List.pairwise_map]
    exact (List.Pairwise.filter p List.pairwise_lt_range).imp (fun h => by exact_mod_cast h)
  exact List.pairwise_iff_getElem.1 hp (i - 1) i (by omega) h (by omega)
theorem keepI_len (p : Nat → Bool) (k : Nat) : (keepI p k).length ≤ k := by
  unfold keepI
  rw [List.length_map]
  have := List.length_filter_le p (List.range k)
  rw [List.length_range] at this
  exact this
theorem keepI_mem {p : Nat → Bool} {k n : Nat} : (n : Int) ∈ keepI p k ↔ n < k ∧ p n = true := by
  unfold keepI
  rw [List.mem_map]
  constructor
  · rintro ⟨m, hm, e⟩
    have e' : m = n := by exact_mod_cast e
    subst e'
    obtain ⟨h1, h2⟩ := List.mem_filter.1 hm
    exact ⟨List.mem_range.1 h1, h2⟩
  · rintro ⟨h1, h2⟩
    exact ⟨n, List.mem_filter.2 ⟨List.mem_range.2 h1, h2⟩, rfl⟩
section
variable (M : Md Tryz.prog) (H : View)
theorem Ascending_keep (g : Gl 3 1) (p : Nat → Bool) (k : Nat) (hk : k ≤ 1000) (hg : g.l = keepTo p k) (hb : ∀ y ∈ g.bl, H y.1 = some y.2) : CallT M 38 #[g.val, .int .i64 (k : Nat)] H (fun v H' => H.le H' ∧ v = .int .i64 0) := by
  rw [keepI_eq] at hg
  obtain ⟨hn, hN⟩ := Nums.of hg hb
  have hl := keepI_len p k
  exact Ascending_good M H _ _ g.n g.cap k hn (by omega) (by omega) hN (fun i hi => keepI_get (by omega)) (fun i h0 hi => keepI_mono h0 (by omega))
theorem all_c' (k : Lk) (hG : Glob H) (hk : k.ok = true) : CallT M 41 #[k.val] H (fun v H' => H.le H' ∧ v = .tuple ⟨[.bool (decide ((keepTo k.sureOf 32).length = 32)), .bool true]⟩) := by
  refine CallT.enter (vs := [k.val]) Tryz.func41 rfl Tryz.ntmps41 (Nat.le_of_ble_eq_true rfl) (SymSt.nil _) fun St c cs hK => ?_
  refine .seq (.region rfl rfl ?_)
  refine .e (.bx (zz := fun b1 => ?_))
  refine .x .sg ?_
  refine .x .sg ?_
  refine .done (.seq (.region rfl rfl ?_))
  refine .x (.ld 0) ?_
  refine .e (Or.callNew (fun g : Gl 3 1 => .tuple ⟨[g.val, .int .i64 0]⟩) Gl.bl (fun g : Gl 3 1 => g.l = keepTo k.sureOf 32) rfl rfl rfl rfl rfl (by decide) gl_nodup (fun H hs => .f ca26 rfl (Sure_c M H k (glob_le hG hs.base) hk)) (fun g hg => ?_))
  refine .x .mv ?_
  refine .x .et ?_
  refine .x .et ?_
  refine .x .sg ?_
  refine .x .sg ?_
  refine .done ?_
  have hn : g.n = (keepTo k.sureOf 32).length := by
    have := g.hl
    rw [hg] at this
    omega
  refine .seq ?_
  by_cases h : (keepTo k.sureOf 32).length = 32
  · refine .region rfl rfl ?_
    refine .x .mv ?_
    refine .x .ln ?_
    refine .x (.it (zz := eql_t (by omega))) ?_
    refine .x .mv ?_
    refine .x (.it (zz := eql_t (by omega))) ?_
    refine .x .mv ?_
    refine .x .mv ?_
    refine .c rfl rfl rfl rfl (fun H hs => .f ca38 rfl (Ascending_keep M H g k.sureOf 32 (by decide) hg (fun y hy => hs.at_ y (by simp [hy])))) ?_
    refine .x (.it (zz := eql_t (by omega))) ?_
    refine .x .pk ?_
    refine .x .sg ?_
    refine .x .sg ?_
    refine .done ?_
    refine Tc.retN (E := en) hK Tryz.func41 Tryz.results41 (vs := [_, _]) ⟨rfl, rfl, trivial⟩ ?_
    exact fun H' hs => ⟨hs.base, by rw [decide_eq_true h]; rfl⟩
  · refine .region rfl rfl ?_
    refine .x .mv ?_
    refine .x .ln ?_
    refine .x (.it (zz := eql_f (by omega))) ?_
    refine .x .mv ?_
    refine .x (.it (zz := eql_t (by omega))) ?_
    refine .x .mv ?_
    refine .x .mv ?_
    refine .c rfl rfl rfl rfl (fun H hs => .f ca38 rfl (Ascending_keep M H g k.sureOf 32 (by decide) hg (fun y hy => hs.at_ y (by simp [hy])))) ?_
    refine .x (.it (zz := eql_t (by omega))) ?_
    refine .x .pk ?_
    refine .x .sg ?_
    refine .x .sg ?_
    refine .done ?_
    refine Tc.retN (E := en) hK Tryz.func41 Tryz.results41 (vs := [_, _]) ⟨rfl, rfl, trivial⟩ ?_
    exact fun H' hs => ⟨hs.base, by rw [decide_eq_false h]; rfl⟩
end
end Go.Proofs.YtpdaenfglbgfkaaGreatDoor
end
section
namespace Go.Proofs.YtpdaenfglbgfkaaGreatDoor
open Go.RL
set_option maxRecDepth 10000
set_option maxHeartbeats 8000000
theorem t243 : Told [0, 243] := ⟨by decide, by decide, by decide⟩
theorem t243_at {H : View} {b : Nat} (h : H b = some (true, .cells ⟨[.int .i64 0, .int .i64 243]⟩ 3 (0, 0))) : TimesAt H (some ⟨b, 0, none⟩) [0, 243] := ⟨b, 0, true, _, 3, (0, 0), rfl, h, by decide, rfl⟩
theorem keep_eq {p : Nat → Bool} {k : Nat} {l : List Nat} (h : (List.range k).filter p = l) : keepTo p k = intsL (numsL l) := by
  rw [← places_nums, ← h]
  rfl
theorem ex_sec : exC.sec = 0 := by unfold Ch.sec; simp [ex_weak.1]
theorem eg23 : Tryz.prog.eqGuardType Tryz.prog.depth 23 = false := by kernel_rfl
theorem band_flat (a b : Int) : flat en 2 23 [.int .i64 a, .int .i64 b] := by
  refine ⟨rfl, ?_⟩
  intro f hf
  simp only [List.mem_cons, List.not_mem_nil, or_false] at hf
  rcases hf with rfl | rfl
  · exact ⟨⟨_, rfl⟩, _, rfl, rfl, Nat.le_of_ble_eq_true rfl⟩
  · exact ⟨⟨_, rfl⟩, _, rfl, rfl, Nat.le_of_ble_eq_true rfl⟩
theorem signalled_c (H : View) (hG : Glob H) : CallT (Mp Tryz.prog) 31 #[] H (fun v H' => H.le H' ∧ v = .bool true) := by
  refine CallT.enter (vs := []) Tryz.func31 rfl Tryz.ntmps31 (Nat.le_of_ble_eq_true rfl) (SymSt.nil _) fun St c cs hK => ?_
  refine .seq (.region rfl rfl ?_)
  refine .x .sg ?_
  refine .done (.seq (.region rfl rfl ?_))
  refine .c rfl rfl rfl rfl (fun H hs => .f ca101 rfl (Example_c _ H)) ?_
  refine .c rfl rfl rfl rfl (fun H hs => .f ca102 rfl (Leaning_c _ H)) ?_
  refine .e (.al (zz := fun b1 => ?_))
  refine .e (.al (zz := fun b2 => ?_))
  refine .e (.st 1 (zz := ?_))
  refine .e (.st 0 (zz := ?_))
  refine .done (.seq (.region rfl rfl ?_))
  refine .x (.ld 1) ?_
  refine .e (.al (zz := fun b3 => ?_))
  refine .e (.st 0 (zz := ?_))
  refine .done (.seq (.region rfl rfl ?_))
  refine .c rfl rfl rfl rfl (fun H hs => .f ca40 rfl (to_c _ H 19 21)) ?_
  refine .x .fa ?_
  refine .e (.st 0 (zz := ?_))
  refine .done ?_
  refine Tc.lift (L₂ := []) rfl (fun Hx hx => ?_)
  have hGx := glob_le hG hx.base
  have hle := hx.base
  have x1 : Hx b1 = some (true, .cells ⟨exL.val.cells.toList⟩ 27 (0, 0)) := hx.get (i := 2) rfl
  have x2 : Hx b2 = some (true, .cells ⟨exK.val.cells.toList⟩ 27 (0, 0)) := hx.get (i := 1) rfl
  have x3 : Hx b3 = some (true, .cells ⟨exM.val.cells.toList⟩ 27 (0, 0)) := hx.get (i := 0) rfl
  refine Tc.dropB (R' := [(1, .pointer (some ⟨b1, 0, none⟩)), (2, .pointer (some ⟨b2, 0, none⟩)), (3, .pointer (some ⟨b3, 0, none⟩))]) (L' := []) ?_ ⟨rfl, rfl, rfl, trivial⟩ (List.Sublist.refl _)
  refine .seq (.region rfl rfl ?_)
  refine .e (Or.callNew (fun g : Gl 3 1 => .tuple ⟨[g.val, .int .i64 0]⟩) Gl.bl (fun g : Gl 3 1 => g.l = placesV (placesTo 16 7)) rfl rfl rfl rfl rfl (by decide) gl_nodup (fun H hs => .f ca84 rfl (Edges_c _ H 16 (by decide))) (fun g1 hg1 => ?_))
  refine .x .mv ?_
  refine .x .et ?_
  refine .x .et ?_
  refine .x .sg ?_
  refine .x .sg ?_
  refine .done (.seq (.region rfl rfl ?_))
  refine .x .l0 ?_
  refine .e (Or.callNew (fun g : Gl 3 1 => .tuple ⟨[g.val, .int .i64 0]⟩) Gl.bl (fun g : Gl 3 1 => g.l = keepTo exK.sureOf 32) rfl rfl rfl rfl rfl (by decide) gl_nodup (fun H hs => .f ca26 rfl (Sure_c _ H exK (glob_le hGx hs.base) exK_ok)) (fun g2 hg2 => ?_))
  refine .x .mv ?_
  refine .x .et ?_
  refine .x .et ?_
  refine .x .sg ?_
  refine .x .sg ?_
  refine .done (.seq (.region rfl rfl ?_))
  refine .x .l0 ?_
  refine .c rfl rfl rfl rfl (fun H hs => .f ca24 rfl (CallT.mono (Right_c _ H exK 0 (glob_le hGx hs.base) exK_ok (by decide)) (Q' := fun v H' => H.le H' ∧ v = .tuple ⟨[.int .i64 0, .int .i64 0]⟩) (by rintro v H' ⟨h1, h2⟩; rw [ex_right] at h2; exact ⟨h1, h2⟩))) ?_
  refine .x .mv ?_
  refine .x .et ?_
  refine .x .et ?_
  refine .x .sg ?_
  refine .x .sg ?_
  refine .done (.seq (.region rfl rfl ?_))
  refine .x .l0 ?_
  refine .e (Or.callNew (fun g : Gl 3 1 => .tuple ⟨[g.val, .int .i64 0, .int .i64 0]⟩) Gl.bl (fun g : Gl 3 1 => g.l = keepTo (exK.canRead 0) 32) rfl rfl rfl rfl rfl (by decide) gl_nodup (fun H hs => .f ca21 rfl (CallT.mono (Reads_one _ H exK 0 (glob_le hGx hs.base) exK_ok (by decide) (by rw [keep_eq ex_reads]; decide)) (by rintro v H' ⟨h1, g, h2, h3, h4⟩; rw [ex_refused] at h2; exact ⟨h1, g, h2, h3, h4⟩))) (fun g3 hg3 => ?_))
  refine .x .mv ?_
  refine .x .et ?_
  refine .x .et ?_
  refine .x .et ?_
  refine .x .sg ?_
  refine .x .sg ?_
  refine .x .sg ?_
  refine .done (.seq (.region rfl rfl ?_))
  refine .x .l0 ?_
  refine .e (Or.callNew (fun g : Gl 3 1 => .tuple ⟨[pastV 20 19 1 g, .bool true, .int .i64 0]⟩) Gl.bl (fun g : Gl 3 1 => g.l = intsL [-3, 3]) rfl rfl rfl rfl rfl (by decide) gl_nodup (fun H hs => .f ca28 rfl (CallT.mono (Wrong_c _ H exK 0 (glob_le hGx hs.base) exK_ok (by decide)) (by rintro v H' ⟨h1, h2⟩; rw [ex_wrong] at h2; obtain ⟨g, h3, h4, h5⟩ := h2; exact ⟨h1, g, h3, h4, h5⟩))) (fun g4 hg4 => ?_))
  refine .x .mv ?_
  refine .x .et ?_
  refine .x .et ?_
  refine .x .et ?_
  refine .e (.al (zz := fun b13 => ?_))
  refine .e (.st 0 (zz := ?_))
  refine .x .sg ?_
  refine .x .sg ?_
  refine .done (.seq (.region rfl rfl ?_))
  refine .x .l0 ?_
  refine .c rfl rfl rfl rfl (fun H hs => .f ca32 rfl (CallT.mono (Margin_c _ H exL (glob_le hGx hs.base) exL_ok) (Q' := fun v H' => H.le H' ∧ v = .tuple ⟨[.int .i64 3, .int .i64 0]⟩) (by rintro v H' ⟨h1, h2⟩; rw [ex_margin] at h2; exact ⟨h1, h2⟩))) ?_
  refine .x .mv ?_
  refine .x .et ?_
  refine .x .et ?_
  refine .x .sg ?_
  refine .x .sg ?_
  refine .done (.seq (.region rfl rfl ?_))
  refine .x .l0 ?_
  refine .e (Or.callNew (fun g : Gl 3 1 => .tuple ⟨[g.val, .int .i64 0]⟩) Gl.bl (fun g : Gl 3 1 => g.l = keepTo exL.good 41) rfl rfl rfl rfl rfl (by decide) gl_nodup (fun H hs => .f ca34 rfl (Paces_c _ H exL (glob_le hGx hs.base) exL_ok)) (fun g5 hg5 => ?_))
  refine .x .mv ?_
  refine .x .et ?_
  refine .x .et ?_
  refine .x .sg ?_
  refine .x .sg ?_
  refine .done (.seq (.region rfl rfl ?_))
  refine .x .l0 ?_
  refine .e (.bs (zz := fun bt1 => ?_))
  refine .e (Or.callNew (fun g : Gl 3 1 => .tuple ⟨[g.val, .int .i64 0]⟩) Gl.bl (fun g : Gl 3 1 => g.l = keepTo (exL.sentOf [0, 243]) 32) rfl rfl rfl rfl rfl (by decide) gl_nodup (fun H hs => .f ca46 rfl (Sent_two _ H exL (glob_le hGx hs.base) exL_ok [0, 243] t243 rfl (some ⟨bt1, 0, none⟩) 2 (t243_at (hs.get (i := 0) rfl)))) (fun g6 hg6 => ?_))
  refine .x .mv ?_
  refine .x .et ?_
  refine .x .et ?_
  refine .x .sg ?_
  refine .x .sg ?_
  refine .done (.seq (.region rfl rfl ?_))
  refine .x .l0 ?_
  refine .e (.bs (zz := fun bt2 => ?_))
  refine .c rfl rfl rfl rfl (fun H hs => .f ca48 rfl (CallT.mono (Tune_c _ H exM 0 (glob_le hGx hs.base) exM_ok (by decide) [0, 243] t243 (by decide) (by rw [ex_edges0]; rfl) (some ⟨bt2, 0, none⟩) 2 (t243_at (hs.get (i := 0) rfl))) (Q' := fun v H' => H.le H' ∧ v = .tuple ⟨[bandV 20 20, .int .i64 0]⟩) (by rintro v H' ⟨h1, h2⟩; rw [ex_tune] at h2; exact ⟨h1, h2⟩))) ?_
  refine .x .mv ?_
  refine .x .et ?_
  refine .x .et ?_
  refine .e (.al (zz := fun b22 => ?_))
  refine .e (.st 0 (zz := ?_))
  refine .x .sg ?_
  refine .done (.seq (.region rfl rfl ?_))
  refine .e (Or.callNew (fun b : Nat => exC.val7 b 0 3) (fun b => [(b, true, Obj.cells ⟨lineC⟩ 25 (0, 0))]) (fun _ => True) rfl rfl rfl rfl rfl (by decide) (fun _ => by simp) (fun H hs => .f ca103 rfl (Chained_c _ H)) (fun lb1 _ => ?_))
  refine .c rfl rfl rfl rfl (fun H hs => .f ca58 rfl (CallT.mono (Weak_c H exC lb1 0 3 0 none (exC_at (hs.at_ (lb1, true, .cells ⟨lineC⟩ 25 (0, 0)) (by simp))) exC_good (glob_le hGx hs.base)) (Q' := fun v H' => H.le H' ∧ v = .tuple ⟨[.int .i64 0, .int .i64 0, .bool true, .int .i64 0]⟩) (by rintro v H' ⟨h1, h2⟩; rw [ex_sec, ex_weak.1, ex_weak.2] at h2; exact ⟨h1, h2⟩))) ?_
  refine .x .mv ?_
  refine .x .et ?_
  refine .x .et ?_
  refine .x .et ?_
  refine .x .et ?_
  refine .x .sg ?_
  refine .x .sg ?_
  refine .x .sg ?_
  refine .x .sg ?_
  refine .done (.seq (.region rfl rfl ?_))
  refine .e (Or.callNew (fun b : Nat => exC.val7 b 0 3) (fun b => [(b, true, Obj.cells ⟨lineC⟩ 25 (0, 0))]) (fun _ => True) rfl rfl rfl rfl rfl (by decide) (fun _ => by simp) (fun H hs => .f ca103 rfl (Chained_c _ H)) (fun lb2 _ => ?_))
  refine .e (Or.callNew (fun g : Gl 3 1 => .tuple ⟨[g.val, .bool true, .int .i64 0]⟩) Gl.bl (fun g : Gl 3 1 => g.l = placesV [1]) rfl rfl rfl rfl rfl (by decide) gl_nodup (fun H hs => .f ca54 rfl (CallT.mono (Spots_c H exC lb2 0 3 none (exC_at (hs.at_ (lb2, true, .cells ⟨lineC⟩ 25 (0, 0)) (by simp))) exC_good (glob_le hGx hs.base)) (by rintro v H' ⟨h1, g, h2, h3, h4⟩; rw [ex_spots] at h2 h3; exact ⟨h1, g, h2, h3, h4⟩))) (fun g7 hg7 => ?_))
  refine .x .mv ?_
  refine .x .et ?_
  refine .x .et ?_
  refine .x .et ?_
  refine .x .sg ?_
  refine .x .sg ?_
  refine .x .sg ?_
  refine .done ?_
  refine Tc.lift (L₂ := []) rfl (fun Hy hy => ?_)
  have y22 : Hy b22 = some (true, .cells ⟨[.int .i64 20, .int .i64 20]⟩ 23 (0, 0)) := hy.get (i := 0) rfl
  have y13 : Hy b13 = some (true, .cells ⟨[.int .i64 20, .int .i64 19, .int .i64 1, g4.val]⟩ 39 (0, 0)) := hy.get (i := 3) rfl
  obtain ⟨n1, N1⟩ := Nums.of (H := Hy) (l := [0, 5]) (hg1.trans (by rw [ex_edges]; rfl)) (fun y hy' => hy.at_ y (by simp [hy']))
  obtain ⟨n2, N2⟩ := Nums.of (H := Hy) (hg2.trans (keepI_eq _ _)) (fun y hy' => hy.at_ y (by simp [hy']))
  obtain ⟨n3, N3⟩ := Nums.of (H := Hy) (l := [0]) (hg3.trans (keep_eq ex_reads)) (fun y hy' => hy.at_ y (by simp [hy']))
  obtain ⟨n4, N4⟩ := Nums.of (H := Hy) (l := [-3, 3]) hg4 (fun y hy' => hy.at_ y (by simp [hy']))
  obtain ⟨n5, N5⟩ := Nums.of (H := Hy) (l := [19, 20, 21]) (hg5.trans (keep_eq ex_paces)) (fun y hy' => hy.at_ y (by simp [hy']))
  obtain ⟨n6, N6⟩ := Nums.of (H := Hy) (l := [0]) (hg6.trans (keep_eq ex_sent)) (fun y hy' => hy.at_ y (by simp [hy']))
  obtain ⟨n7, N7⟩ := Nums.of (H := Hy) (l := [1]) hg7 (fun y hy' => hy.at_ y (by simp [hy']))
  have hle2 := View.le_trans hle hy.base
  clear hy x1 x2 x3
  have l2 : (keepI exK.sureOf 32).length = 16 := by unfold keepI; rw [List.length_map]; exact ex_sure.1
  have e2 : (keepI exK.sureOf 32)[0]?.getD 0 = 16 := by unfold keepI; rw [List.getElem?_map, ex_sure.2]; rfl
  rw [l2] at n2
  obtain ⟨gb2, gn2, gc2, gl2, gj2, q1, q2, q3, q4⟩ := g2
  simp only at n2 N2
  subst n2
  rcases N2 with N2 | ⟨ab, ao, f2, gs2, gt2, gz2, hA, hB, hC⟩
  · rw [N2] at l2; cases l2
  have hC0 := hC 0 (by omega)
  rw [e2] at hC0
  cases gb2 with
  | none => cases hA
  | some vb =>
  simp only [Option.map_some, Option.some.injEq, Addr.mk.injEq, and_true] at hA
  obtain ⟨rfl, rfl⟩ := hA
  refine Tc.dropB (R' := [(4, g1.val), (5, .int .i64 0), (6, .slice (some ⟨vb, 0, none⟩) 16 gc2), (7, .int .i64 0), (8, .int .i64 0), (9, .int .i64 0), (10, g3.val), (11, .int .i64 0), (12, .int .i64 0), (13, .pointer (some ⟨b13, 0, none⟩)), (14, .bool true), (15, .int .i64 0), (16, .int .i64 3), (17, .int .i64 0), (18, g5.val), (19, .int .i64 0), (20, g6.val), (21, .int .i64 0),
    (22, .pointer (some ⟨b22, 0, none⟩)), (23, .int .i64 0), (24, .int .i64 0), (25, .int .i64 0), (26, .bool true), (27, .int .i64 0), (28, g7.val), (29, .bool true), (30, .int .i64 0)]) (L' := []) ?_ ⟨rfl, rfl, rfl, rfl, rfl, rfl, rfl, rfl, rfl, rfl, rfl, rfl, rfl, rfl, rfl, rfl, rfl, rfl, rfl, rfl, rfl, rfl, rfl, rfl, rfl, rfl, rfl, trivial⟩ (List.Sublist.refl _)
  refine .seq (.seq (.region rfl rfl ?_))
  refine .x .mv ?_
  refine .x (.it (zz := neq_f (by omega))) ?_
  refine .x .mv ?_
  refine .x .mv ?_
  refine .x (.it (zz := neq_f (by omega))) ?_
  refine .x .pk ?_
  refine .x .mv ?_
  refine .x .mv ?_
  refine .x (.it (zz := neq_f (by omega))) ?_
  refine .x .pk ?_
  refine .x .mv ?_
  refine .x .mv ?_
  refine .x (.it (zz := neq_f (by omega))) ?_
  refine .x .pk ?_
  refine .x .mv ?_
  refine .x .mv ?_
  refine .x (.it (zz := neq_f (by omega))) ?_
  refine .x .pk ?_
  refine .x .mv ?_
  refine .x .mv ?_
  refine .x (.it (zz := neq_f (by omega))) ?_
  refine .x .pk ?_
  refine .x .mv ?_
  refine .x .mv ?_
  refine .x (.it (zz := neq_f (by omega))) ?_
  refine .x .pk ?_
  refine .x .mv ?_
  refine .x .mv ?_
  refine .x (.it (zz := neq_f (by omega))) ?_
  refine .x .pk ?_
  refine .x .mv ?_
  refine .x .mv ?_
  refine .x (.it (zz := neq_f (by omega))) ?_
  refine .x .pk ?_
  refine .x .mv ?_
  refine .x .mv ?_
  refine .x (.it (zz := neq_f (by omega))) ?_
  refine .x .pk ?_
  refine .x .mv ?_
  refine .x .mv ?_
  refine .x (.it (zz := neq_f (by omega))) ?_
  refine .x .pk ?_
  refine .done (.ff rfl (.skip (.seq (.seq ?_))))
  refine Tc.dropB (R' := [(4, g1.val), (6, .slice (some ⟨vb, 0, none⟩) 16 gc2), (8, .int .i64 0), (10, g3.val), (11, .int .i64 0), (13, .pointer (some ⟨b13, 0, none⟩)), (14, .bool true), (16, .int .i64 3), (18, g5.val), (20, g6.val),
    (22, .pointer (some ⟨b22, 0, none⟩)), (24, .int .i64 0), (25, .int .i64 0), (26, .bool true), (28, g7.val), (29, .bool true)]) (L' := []) ?_ ⟨rfl, rfl, rfl, rfl, rfl, rfl, rfl, rfl, rfl, rfl, rfl, rfl, rfl, rfl, rfl, rfl, trivial⟩ (List.Sublist.refl _)
  refine Tc.dr [] [] mixed rfl ?_
  refine .q 0 rfl .mv ?_
  refine .q 1 rfl (.it (zz := neq_f (by omega))) ?_
  refine .q 2 rfl .mv ?_
  refine .q 3 rfl .mv ?_
  refine .q 4 rfl (.it (zz := neq_f (by omega))) ?_
  refine .q 5 rfl .pk ?_
  refine .q 6 rfl .mv ?_
  refine .q 7 rfl .mv ?_
  refine .q 8 rfl .nt ?_
  refine .q 9 rfl .pk ?_
  refine .q 10 rfl .mv ?_
  refine .q 11 rfl .l0 ?_
  refine Ta.each [12] (by kernel_rfl) rfl ⟨TaOp.mk rfl rfl rfl (.bs (zz := fun bp => ⟨S2.mk (by exact List.nil_sublist _) (.inr (by exact List.nil_sublist _)), ?_⟩)), trivial⟩
  refine .q 13 rfl .bu ?_
  refine Ta.each [14] (by kernel_rfl) rfl ⟨TaOp.mk rfl rfl rfl (Or.callNew (σ := Unit) (fun _ => .bool true) (fun _ => []) (fun _ => True) rfl rfl rfl rfl rfl (by decide) (fun _ => by simp) (fun H hs => .f ca30 rfl (CallT.mono (SamePasts_two _ H 20 19 1 _ (some ⟨bp, 0, none⟩) [-3, 3] g4.n 2 g4.cap 2 n4 rfl (by decide) (N4.le hs.base) (Nums.lit (hs.get (i := 0) rfl))) (by rintro v H' ⟨h1, h2⟩; exact ⟨h1, (), h2, trivial, by simp⟩))) (fun _ _ => ⟨S2.mk (by exact List.nil_sublist _) (.inr (by exact List.nil_sublist _)), ?_⟩)), trivial⟩
  refine .q 15 rfl .nt ?_
  refine .q 16 rfl .pk ?_
  refine .q 17 rfl .mv ?_
  refine .q 18 rfl .mv ?_
  refine .q 19 rfl (.it (zz := neq_f (by omega))) ?_
  refine .q 20 rfl .pk ?_
  refine .q 21 rfl .mv ?_
  refine .q 22 rfl .l0 ?_
  refine Ta.tk 23 (by kernel_rfl) rfl rfl (by decide) rfl rfl (OpV.takeCall rfl rfl rfl rfl (fun H hs => .f ca40 rfl (to_c _ H 20 20))) ?_
  refine .q 24 rfl (OpV.neA (E := en) true 2 rfl rfl rfl rfl rfl eg23 (by decide) (band_flat 20 20) (band_flat 20 20) ⟨fun _ => rfl, fun _ => rfl⟩) ?_
  refine .q 25 rfl .pk ?_
  refine .q 26 rfl .mv ?_
  refine .q 27 rfl .mv ?_
  refine .q 28 rfl (.it (zz := neq_f (by omega))) ?_
  refine .q 29 rfl .pk ?_
  refine .q 30 rfl .mv ?_
  refine .q 31 rfl .mv ?_
  refine .q 32 rfl (.it (zz := neq_f (by omega))) ?_
  refine .q 33 rfl .pk ?_
  refine .q 34 rfl .mv ?_
  refine .q 35 rfl .mv ?_
  refine .q 36 rfl .nt ?_
  refine .q 37 rfl .pk ?_
  refine .q 38 rfl .mv ?_
  refine .q 39 rfl .mv ?_
  refine .q 40 rfl .nt ?_
  refine .q 41 rfl .pk ?_
  refine Ta.done (by kernel_rfl) ?_
  refine .ff rfl (.skip (.seq ?_))
  refine Tc.dropB (R' := [(4, g1.val), (6, .slice (some ⟨vb, 0, none⟩) 16 gc2), (10, g3.val), (18, g5.val), (20, g6.val), (28, g7.val)]) (L' := []) ?_ ⟨rfl, rfl, rfl, rfl, rfl, rfl, trivial⟩ (List.nil_sublist _)
  refine .region rfl rfl ?_
  refine .x .mv ?_
  refine .e (.bs (zz := fun c1 => ?_))
  refine .c rfl rfl rfl rfl (fun H hs => .f ca23 rfl (SameNums_two _ H _ (some ⟨c1, 0, none⟩) [0, 5] g1.n 2 g1.cap 2 n1 rfl (by decide) (N1.le hs.base) (Nums.lit (hs.get (i := 0) rfl)))) ?_
  refine .x .mv ?_
  refine .x .mv ?_
  refine .x .ln ?_
  refine .x (.it (zz := eql_t (by omega))) ?_
  refine .x .pk ?_
  refine .x .mv ?_
  refine .x .mv ?_
  refine .x .ia ?_
  refine .x .l0 ?_
  refine .x (.it (zz := eql_t (by omega))) ?_
  refine .x .pk ?_
  refine .x .mv ?_
  refine .x .mv ?_
  refine .e (.bs (zz := fun c2 => ?_))
  refine .c rfl rfl rfl rfl (fun H hs => .f ca23 rfl (SameNums_two _ H _ (some ⟨c2, 0, none⟩) [0] g3.n 1 g3.cap 1 n3 rfl (by decide) (N3.le hs.base) (Nums.lit (hs.get (i := 0) rfl)))) ?_
  refine .x .pk ?_
  refine .x .mv ?_
  refine .x .mv ?_
  refine .e (.bs (zz := fun c3 => ?_))
  refine .c rfl rfl rfl rfl (fun H hs => .f ca23 rfl (SameNums_two _ H _ (some ⟨c3, 0, none⟩) [19, 20, 21] g5.n 3 g5.cap 3 n5 rfl (by decide) (N5.le hs.base) (Nums.lit (hs.get (i := 0) rfl)))) ?_
  refine .x .pk ?_
  refine .x .mv ?_
  refine .x .mv ?_
  refine .e (.bs (zz := fun c4 => ?_))
  refine .c rfl rfl rfl rfl (fun H hs => .f ca23 rfl (SameNums_two _ H _ (some ⟨c4, 0, none⟩) [0] g6.n 1 g6.cap 1 n6 rfl (by decide) (N6.le hs.base) (Nums.lit (hs.get (i := 0) rfl)))) ?_
  refine .x .pk ?_
  refine .x .mv ?_
  refine .x .mv ?_
  refine .e (.bs (zz := fun c5 => ?_))
  refine .c rfl rfl rfl rfl (fun H hs => .f ca23 rfl (SameNums_two _ H _ (some ⟨c5, 0, none⟩) [1] g7.n 1 g7.cap 1 n7 rfl (by decide) (N7.le hs.base) (Nums.lit (hs.get (i := 0) rfl)))) ?_
  refine .x .pk ?_
  refine .x .sg ?_
  refine .done ?_
  refine Tc.retN (E := en) hK Tryz.func31 Tryz.results31 (vs := [_]) ⟨rfl, trivial⟩ ?_
  exact fun H' hs => ⟨View.le_trans hle2 hs.base, rfl⟩
end Go.Proofs.YtpdaenfglbgfkaaGreatDoor
end
section
namespace Go.Proofs.YtpdaenfglbgfkaaGreatDoor
open Go.RL
set_option maxRecDepth 10000
set_option maxHeartbeats 8000000
theorem Lk.ok_at {k : Lk} (h : k.ok = true) {r : Int} (h1 : 1 ≤ r) (h2 : r ≤ 40) : (k.at r).ok = true := by
  rw [Lk.ok_eq] at h ⊢
  simp only [Bool.and_eq_true] at h ⊢
  obtain ⟨⟨a, _⟩, b⟩ := h
  exact ⟨⟨a, decide_eq_true (by show 1 ≤ r ∧ r ≤ r ∧ r ≤ 40 ∧ r - r < 3; omega)⟩, b⟩
theorem good_iff {k : Lk} {r : Int} (h1 : 1 ≤ r) (h2 : r ≤ 40) : r ∈ keepI k.good 41 ↔ (k.at r).Sure := by
  obtain ⟨n, rfl⟩ : ∃ n : Nat, r = (n : Int) := ⟨r.toNat, by omega⟩
  rw [keepI_mem]
  unfold Lk.good
  rw [Bool.and_eq_true, decide_eq_true_iff, ← Lk.weak_none, Option.isNone_iff_eq_none]
  constructor
  · rintro ⟨_, _, h⟩; exact h
  · intro h; exact ⟨by omega, by omega, h⟩
theorem Paced_w {St : View → Goroutine → Prop} {cs : List Frame} (H : View) (hG : Glob H) (k : Lk) (p : Int) (hp : 0 ≤ p ∧ p < 256)
    (hR : ∀ (H₀ : View) (R : Rg) (L : Bl) (kk : List Item), lk R 4 = some (.bool true) → H.le H₀ → Tc (Mp Tryz.prog) St 85 ⟨6, .normal, none⟩ H₀ cs R L [] (.code .ret :: kk)) :
    Tc (Mp Tryz.prog) St 85 ⟨6, .normal, none⟩ H cs (argR [k.val, .int .u8 p]) [] [] [.code (bodyOf Tryz.f6)] := by
  cases hk : k.ok with
  | false =>
    refine .seq (.region rfl rfl ?_)
    refine .e (.bx (zz := fun b2 => ?_))
    refine .x .sg ?_
    refine .done (.seq (.seq (.region rfl rfl ?_)))
    refine .x (.ld 0) ?_
    refine .c rfl rfl rfl rfl (fun H hs => .f ca36 rfl (CallT.mono (Fit_c _ H k) (Q' := fun v H' => H.le H' ∧ v = .bool false) (by rintro v H' ⟨h1, h2⟩; rw [hk] at h2; exact ⟨h1, h2⟩))) ?_
    refine .x .nt ?_
    refine .done (.tt rfl (.seq (.region rfl rfl ?_)))
    refine .c rfl rfl rfl rfl (fun H hs => .f ca31 rfl (signalled_c H (glob_le hG hs.base))) ?_
    refine .x .sg ?_
    refine .done ?_
    exact hR _ _ _ _ rfl (View.le_refl _)
  | true =>
    obtain ⟨hks, hkr, hkl, hkm⟩ := Lk.ok_in hk
    obtain ⟨r, hr⟩ : ∃ r : Int, r = p % 40 + 1 := ⟨_, rfl⟩
    have hr1 : 1 ≤ r ∧ r ≤ 40 := by omega
    have hwr : IntKind.i64.wrap p = p := wrap64 (by omega) (by omega)
    have hrem : intBin .rem .i64 p 40 = some (.int .i64 (r - 1)) := by
      rw [rem_in (by omega) (by omega), hr]
      congr 2
      omega
    have hadd : intBin .add .i64 (r - 1) 1 = some (.int .i64 r) := by
      rw [add_in (by omega) (by omega)]
      congr 2
      omega
    refine .seq (.region rfl rfl ?_)
    refine .e (.bx (zz := fun b2 => ?_))
    refine .x .sg ?_
    refine .done (.seq (.seq (.region rfl rfl ?_)))
    refine .x (.ld 0) ?_
    refine .c rfl rfl rfl rfl (fun H hs => .f ca36 rfl (CallT.mono (Fit_c _ H k) (Q' := fun v H' => H.le H' ∧ v = .bool true) (by rintro v H' ⟨h1, h2⟩; rw [hk] at h2; exact ⟨h1, h2⟩))) ?_
    refine .x .nt ?_
    refine .done (.ff rfl (.skip (.seq (.region rfl rfl ?_))))
    refine .x (.ld 0) ?_
    refine .e (Or.callNew (fun g : Gl 3 1 => .tuple ⟨[g.val, .int .i64 0]⟩) Gl.bl (fun g : Gl 3 1 => g.l = keepTo k.good 41) rfl rfl rfl rfl rfl (by decide) gl_nodup (fun H hs => .f ca34 rfl (Paces_c _ H k (glob_le hG hs.base) hk)) (fun g hg => ?_))
    refine .x .mv ?_
    refine .x .et ?_
    refine .x .et ?_
    refine .x .sg ?_
    refine .x .sg ?_
    refine .done (.seq (.seq (.region rfl rfl ?_)))
    refine .x .mv ?_
    refine .x (.it (zz := neq_f (by omega))) ?_
    refine .x .mv ?_
    refine .x .mv ?_
    refine .c rfl rfl rfl rfl (fun H hs => .f ca38 rfl (Ascending_keep _ H g k.good 41 (by decide) hg (fun y hy => hs.at_ y (by simp [hy])))) ?_
    refine .x (.it (zz := neq_f (by omega))) ?_
    refine .x .pk ?_
    refine .done (.ff rfl (.skip (.seq (.region rfl rfl ?_))))
    refine .x (.ld 0) ?_
    refine .e (.al (zz := fun b7 => ?_))
    refine .e (.st 0 (zz := ?_))
    refine .done (.seq (.region rfl rfl ?_))
    refine .x .mv ?_
    refine .x (OpV.convE (E := en) rfl rfl rfl rfl rfl rfl hwr) ?_
    refine .x (.it (zz := hrem)) ?_
    refine .x (.it (zz := hadd)) ?_
    refine .x .sg ?_
    refine .done (.seq (.region rfl rfl ?_))
    refine .x .mv ?_
    refine .x .mv ?_
    refine .c rfl rfl rfl rfl (fun H hs => .f ca40 rfl (to_c _ H r r)) ?_
    refine .x .fa ?_
    refine .e (.st 0 (zz := ?_))
    refine .done ?_
    refine Tc.lift (L₂ := []) rfl (fun Hx hx => ?_)
    have hGx := glob_le hG hx.base
    have hle := hx.base
    have x7 : Hx b7 = some (true, .cells ⟨(k.at r).val.cells.toList⟩ 27 (0, 0)) := hx.get (i := 0) rfl
    have x2 : Hx b2 = some (true, .cells ⟨k.val.cells.toList⟩ 27 (0, 0)) := hx.get (i := 1) rfl
    obtain ⟨n5, N5⟩ := Nums.of (H := Hx) (hg.trans (keepI_eq _ _)) (fun y hy' => hx.at_ y (by simp [hy']))
    clear hx
    have hl5 := keepI_len k.good 41
    refine Tc.dropB (R' := [(2, .pointer (some ⟨b2, 0, none⟩)), (5, g.val), (7, .pointer (some ⟨b7, 0, none⟩)), (8, .int .i64 r)]) (L' := []) ?_ ⟨rfl, rfl, rfl, rfl, trivial⟩ (List.Sublist.refl _)
    have ev : (k.at r).Sure ↔ r ∈ keepI k.good 41 := (good_iff hr1.1 hr1.2).symm
    have e1 : decide ((keepTo (k.at r).sureOf 32).length = 32) = decide (r ∈ keepI k.good 41) := by
      rw [decide_eq_decide, Lk.keep_sure, ev]
    obtain ⟨is, his⟩ : ∃ is, is = decide (r ∈ keepI k.good 41) := ⟨_, rfl⟩
    rw [← his] at e1
    obtain ⟨every, hev⟩ : ∃ every, every = decide ((keepTo k.sureOf 32).length = 32) := ⟨_, rfl⟩
    refine .seq (.region rfl rfl ?_)
    refine .x .l0 ?_
    refine .c rfl rfl rfl rfl (fun H hs => .f ca41 rfl (CallT.mono (all_c' _ H (k.at r) (glob_le hGx hs.base) (Lk.ok_at hk hr1.1 hr1.2)) (Q' := fun v H' => H.le H' ∧ v = .tuple ⟨[.bool is, .bool true]⟩) (by rintro v H' ⟨h1, h2⟩; rw [e1] at h2; exact ⟨h1, h2⟩))) ?_
    refine .x .mv ?_
    refine .x .et ?_
    refine .x .et ?_
    refine .x .sg ?_
    refine .x .sg ?_
    refine .done (.seq (.region rfl rfl ?_))
    refine .x .l0 ?_
    refine .c rfl rfl rfl rfl (fun H hs => .f ca41 rfl (CallT.mono (all_c' _ H k (glob_le hGx hs.base) hk) (Q' := fun v H' => H.le H' ∧ v = .tuple ⟨[.bool every, .bool true]⟩) (by rintro v H' ⟨h1, h2⟩; rw [← hev] at h2; exact ⟨h1, h2⟩))) ?_
    refine .x .mv ?_
    refine .x .et ?_
    refine .x .et ?_
    refine .x .sg ?_
    refine .x .sg ?_
    refine .done (.seq (.seq ?_))
    refine Tc.via2 (fun R' L' => AllIn [(2, .pointer (some ⟨b2, 0, none⟩)), (5, g.val), (11, .bool every)] R' ∧ L' = []) ?_ (fun fin => ?_)
    · rintro R' L' ⟨hRR, rfl⟩
      refine Tc.dropB ?_ hRR (List.Sublist.refl _)
      refine .seq (.region rfl rfl ?_)
      refine .x .sg ?_
      refine .done (.seq (.seq (.region rfl rfl ?_)))
      refine .x .fa ?_
      refine .x .fa ?_
      refine .x .l0 ?_
      refine .x .sg ?_
      refine .done (.block ?_)
      refine Tc.dropB (Tc.loopInv (σ := { s : Nat × Bool // k.r0 + (s.1 : Int) ≤ k.r1 + 1 ∧ (s.2 = true ↔ ∀ i : Int, k.r0 ≤ i → i < k.r0 + (s.1 : Int) → i ∈ keepI k.good 41) }) (fun s => ([(2, .pointer (some ⟨b2, 0, none⟩)), (5, g.val), (11, .bool every), (13, .bool s.1.2), (14, .int .i64 (k.r0 + (s.1.1 : Int)))], [])) (fun s => (k.r1 + 1 - k.r0).toNat - s.1.1) ?_ ⟨(0, true), by simp only; omega, by simp only; exact ⟨fun _ i h1 h2 => by omega, fun _ => by trivial⟩⟩) ?_ (by exact List.Sublist.refl _)
      · rintro ⟨⟨j, ins⟩, g1, g2⟩ ih
        simp only at g1 g2
        show Tc (Mp Tryz.prog) St _ _ _ _ [(2, .pointer (some ⟨b2, 0, none⟩)), (5, g.val), (11, .bool every), (13, .bool ins), (14, .int .i64 (k.r0 + (j : Int)))] [] _ _
        by_cases c1 : k.r0 + (j : Int) = k.r1 + 1
        · have hfin : every = ins := by
            rw [Bool.eq_iff_iff, hev, decide_eq_true_iff, Lk.keep_sure, g2, Lk.sure_at]
            constructor
            · intro h i h1 h2
              exact (good_iff (by omega) (by omega)).2 (h i h1 (by omega))
            · intro h i h1 h2
              exact (good_iff (by omega) (by omega)).1 (h i h1 (by omega))
          subst hfin
          have hbb : (every == every) = true := by cases every <;> rfl
          refine .seq (.seq (.region rfl rfl ?_))
          refine .x .mv ?_
          refine .x .fa ?_
          refine .x .fa ?_
          refine .x .l0 ?_
          refine .x (.it (zz := leq_f (by omega))) ?_
          refine .done (.ff rfl (.exit rfl (.seq (.region rfl rfl ?_))))
          refine .x .mv ?_
          refine .x .mv ?_
          refine .x (hbb ▸ OpV.eqB (E := en) (p := every) (q := every) rfl rfl rfl rfl rfl) ?_
          refine .x .mv ?_
          refine .c rfl rfl rfl rfl (fun H hs => .f ca31 rfl (signalled_c H (glob_le hGx hs.base))) ?_
          refine .x .pk ?_
          refine .x .sg ?_
          refine .done ?_
          exact hR _ _ _ _ rfl hle
        · obtain ⟨has, hhas⟩ : ∃ has, has = decide (k.r0 + (j : Int) ∈ keepI k.good 41) := ⟨_, rfl⟩
          have hnum : ∀ H, Hx.le H → CallT (Mp Tryz.prog) 39 #[g.val, .int .i64 (k.r0 + (j : Int))] H (fun v H' => H.le H' ∧ v = .bool has) := fun H h => by
            rw [hhas]
            exact HasNum_c _ H _ _ g.n g.cap _ n5 (by omega) (N5.le h)
          have hin : (ins && has) = true ↔ ∀ i : Int, k.r0 ≤ i → i < k.r0 + ((j + 1 : Nat) : Int) → i ∈ keepI k.good 41 := by
            rw [Bool.and_eq_true, g2, hhas, decide_eq_true_iff]
            constructor
            · rintro ⟨h1, h2⟩ i h3 h4
              by_cases e : i = k.r0 + (j : Int)
              · rw [e]; exact h2
              · exact h1 i h3 (by omega)
            · intro h
              exact ⟨fun i h1 h2 => h i h1 (by omega), h _ (by omega) (by omega)⟩
          have hj1 : intBin .add .i64 (k.r0 + (j : Int)) 1 = some (.int .i64 (k.r0 + ((j + 1 : Nat) : Int))) := by
            rw [add_in (by omega) (by omega)]
            congr 2
            omega
          cases ins with
          | true =>
            refine .seq (.seq (.region rfl rfl ?_))
            refine .x .mv ?_
            refine .x .fa ?_
            refine .x .fa ?_
            refine .x .l0 ?_
            refine .x (.it (zz := leq_t (by omega))) ?_
            refine .done (.tt rfl (.skip (.seq (.block (.region rfl rfl ?_)))))
            refine .x .mv ?_
            refine .x .mv ?_
            refine .x .mv ?_
            refine .x .mv ?_
            refine .c rfl rfl rfl rfl (fun H hs => .f ca39 rfl (hnum H hs.base)) ?_
            refine .x .pk ?_
            refine .x .sg ?_
            refine .done (.inBlock (.region rfl rfl ?_))
            refine .x .mv ?_
            refine .x (.it (zz := hj1)) ?_
            refine .x .sg ?_
            refine .done ?_
            exact Tc.dropB (ih ⟨(j + 1, has), by simp only; omega, by simp only; rw [← hin]; simp⟩ (by simp only; omega)) ⟨rfl, rfl, rfl, rfl, rfl, trivial⟩ (by exact List.Sublist.refl _)
          | false =>
            refine .seq (.seq (.region rfl rfl ?_))
            refine .x .mv ?_
            refine .x .fa ?_
            refine .x .fa ?_
            refine .x .l0 ?_
            refine .x (.it (zz := leq_t (by omega))) ?_
            refine .done (.tt rfl (.skip (.seq (.block (.region rfl rfl ?_)))))
            refine .x .mv ?_
            refine .x .mv ?_
            refine .sk ?_
            refine .sk ?_
            refine .sk ?_
            refine .x .pk ?_
            refine .x .sg ?_
            refine .done (.inBlock (.region rfl rfl ?_))
            refine .x .mv ?_
            refine .x (.it (zz := hj1)) ?_
            refine .x .sg ?_
            refine .done ?_
            exact Tc.dropB (ih ⟨(j + 1, false), by simp only; omega, by simp only; rw [← hin]; simp⟩ (by simp only; omega)) ⟨rfl, rfl, rfl, rfl, rfl, trivial⟩ (by exact List.Sublist.refl _)
      · have e0 : k.r0 + ((0 : Nat) : Int) = k.r0 := by simp
        simp only [e0]
        refine ⟨rfl, ?_⟩; refine ⟨rfl, ?_⟩; refine ⟨rfl, ?_⟩; refine ⟨rfl, ?_⟩; refine ⟨rfl, ?_⟩; exact trivial
    · have hnum : ∀ H, Hx.le H → CallT (Mp Tryz.prog) 39 #[g.val, .int .i64 r] H (fun v H' => H.le H' ∧ v = .bool is) := fun H h => by
        rw [his]
        exact HasNum_c _ H _ _ g.n g.cap _ n5 (by omega) (N5.le h)
      clear his e1 ev
      cases is with
      | true =>
        refine .region rfl rfl ?_
        refine .x .mv ?_
        refine .x .nt ?_
        refine .x .mv ?_
        refine .x .mv ?_
        refine .x .nt ?_
        refine .x .pk ?_
        refine .x .mv ?_
        refine .x .mv ?_
        refine .x .mv ?_
        refine .x .mv ?_
        refine .c rfl rfl rfl rfl (fun H hs => .f ca39 rfl (hnum H hs.base)) ?_
        refine .x .nb ?_
        refine .x .pk ?_
        refine .done (.ff rfl (.skip ?_))
        exact fin _ _ ⟨⟨rfl, rfl, rfl, trivial⟩, rfl⟩
      | false =>
        refine .region rfl rfl ?_
        refine .x .mv ?_
        refine .x .nt ?_
        refine .x .mv ?_
        refine .x .mv ?_
        refine .x .nt ?_
        refine .x .pk ?_
        refine .x .mv ?_
        refine .x .mv ?_
        refine .x .mv ?_
        refine .x .mv ?_
        refine .c rfl rfl rfl rfl (fun H hs => .f ca39 rfl (hnum H hs.base)) ?_
        refine .x .nb ?_
        refine .x .pk ?_
        refine .done (.ff rfl (.skip ?_))
        exact fin _ _ ⟨⟨rfl, rfl, rfl, trivial⟩, rfl⟩
end Go.Proofs.YtpdaenfglbgfkaaGreatDoor
end
