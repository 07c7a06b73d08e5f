/-
  Pasts are compared, and looked at.
-/
import Derived.Test.YtpdaenfglbgfkaaGreatDoorW08
import Derived.Test.YtpdaenfglbgfkaaGreatDoorWH2
import Derived.Test.YtpdaenfglbgfkaaGreatDoorWL4
import Derived.Test.YtpdaenfglbgfkaaGreatDoorWPerm
namespace Go.Proofs.YtpdaenfglbgfkaaGreatDoor
open Go.RL
set_option maxRecDepth 10000
set_option maxHeartbeats 4000000
theorem intsL_single (l : List Int) : (intsL l).all single = true := by
 rw [List.all_eq_true]
 intro v hv
 unfold intsL at hv
 obtain ⟨x, _, rfl⟩ := List.mem_map.1 hv
 rfl
theorem Nums.src {H : View} {A : Option Addr} {l : List Int} (h : Nums H A l) (hne : l ≠ []) {m : Nat} (hm : m = l.length) (ca : Nat) : SrcAt H 1 (.slice A m ca) m (intsL l) := by
 subst hm
 rcases h with h | ⟨ab, ao, f, gs, gt, gz, rfl, h2, h3⟩
 · exact absurd h hne
 · have hlen : 0 < l.length := List.length_pos_iff.2 hne
   have hle : ao + l.length ≤ gs.length := by
     have h4 := h3 (l.length - 1) (by omega)
     have h5 := (List.getElem?_eq_some_iff.1 (show gs[ao + ((l.length - 1 : Nat) : Int).toNat * 1]? = _ from h4)).1
     rw [Int.toNat_natCast] at h5
     omega
   refine ⟨⟨_, _, rfl⟩, by rw [intsL_len]; omega, .inr ⟨ab, ao, ca, f, gs, gt, gz, rfl, h2, by rw [intsL_len]; exact hle, ?_⟩⟩
   rw [intsL_len]
   apply List.ext_getElem?
   intro i
   by_cases hi : i < l.length
   · rw [List.getElem?_take_of_lt hi, List.getElem?_drop]
     have h4 := h3 i hi
     have h5 : gs[ao + (i : Int).toNat * 1]? = some (.int .i64 (l[i]?.getD 0)) := h4
     rw [Int.toNat_natCast, Nat.mul_one] at h5
     rw [h5]
     unfold intsL
     rw [List.getElem?_map, List.getElem?_eq_getElem hi]
     rfl
   · rw [List.getElem?_eq_none (by rw [List.length_take, List.length_drop]; omega), List.getElem?_eq_none (by rw [intsL_len]; omega)]
theorem lesser_step {l m : List Int} {j : Nat} (h1 : j < l.length) (h2 : j < m.length) : lesserL (l.drop j) (m.drop j) = if l[j]?.getD 0 = m[j]?.getD 0 then lesserL (l.drop (j + 1)) (m.drop (j + 1)) else decide (l[j]?.getD 0 < m[j]?.getD 0) := by
 rw [List.drop_eq_getElem_cons h1, List.drop_eq_getElem_cons h2, List.getElem?_eq_getElem h1, List.getElem?_eq_getElem h2]
 rfl
section
variable (M : Md Tryz.prog) (H : View)
theorem Lesser_c (A B : Option Addr) (l m : List Int) (n k ca cb : Nat) (hn : n = l.length) (hk : k = m.length) (h6 : n ≤ 100000) (h7 : k ≤ 100000) (hA : Nums H A l) (hB : Nums H B m) : CallT M 57 #[.slice A n ca, .slice B k cb] H (fun v H' => H.le H' ∧ v = .bool (lesserL l m)) := by
 refine CallT.enter (vs := [.slice A n ca, .slice B k cb]) Tryz.func57 rfl Tryz.ntmps57 (Nat.le_of_ble_eq_true rfl) (SymSt.nil _) fun St c cs hK => ?_
 refine .sr ?_
 refine .g ?_
 refine .done (.seq (.sr ?_))
 refine .g ?_
 refine .done (.block ?_)
 refine Tc.db (Tc.loopInv (σ := { j : Nat // j ≤ n ∧ j ≤ k ∧ lesserL (l.drop j) (m.drop j) = lesserL l m }) (fun j => ([(0, .slice A n ca), (1, .slice B k cb), (4, .bool false), (5, .int .i64 (j.1 : Nat))], [])) (fun j => n - j.1) ?_ ⟨0, by omega, by omega, rfl⟩)
 rintro ⟨j, hj, hjk, hcm⟩ ih
 show Tc M St _ _ _ _ [(0, .slice A n ca), (1, .slice B k cb), (4, .bool false), (5, .int .i64 (j : Nat))] [] _ _
 by_cases c1 : j < n
 · by_cases c2 : j < k
   · rcases hA with hA | ⟨a1, a2, a3, a4, a5, a6, rfl, a7, a8⟩
     · rw [hA] at hn; simp at hn; omega
     rcases hB with hB | ⟨b1, b2, b3, b4, b5, b6, rfl, b7, b8⟩
     · rw [hB] at hk; simp at hk; omega
     have f1 := a8 j (by omega)
     have f2 := b8 j (by omega)
     have hst := lesser_step (l := l) (m := m) (j := j) (by omega) (by omega)
     rw [hcm] at hst
     by_cases c3 : l[j]?.getD 0 = m[j]?.getD 0
     · rw [if_pos c3] at hst
       refine .seq (.sr ?_)
       refine .m ?_
       refine .m ?_
       refine .x .ln ?_
       refine .i ?_ (z := lss_t (by omega))
       refine .m ?_
       refine .m ?_
       refine .m ?_
       refine .x .ln ?_
       refine .i ?_ (z := lss_t (by omega))
       refine .x .pk ?_
       refine .done (.tt rfl (.skip (.seq (.block (.seq ?_)))))
       refine Tc.dr [] [] mixed rfl ?_
       refine .q 0 rfl .mv ?_
       refine .q 1 rfl .mv ?_
       refine .q 2 rfl .ia ?_
       refine .q 3 rfl .l0 ?_
       refine .q 4 rfl .mv ?_
       refine .q 5 rfl .mv ?_
       refine .q 6 rfl .ia ?_
       refine .q 7 rfl .l0 ?_
       refine .q 8 rfl (.it (zz := neq_f (by omega))) ?_
       refine Ta.done (by kernel_rfl) ?_
       refine .ff rfl (.skip (.inBlock (.r ?_)))
       refine .m ?_
       refine .i ?_ (z := add_in (by omega) (by omega))
       refine .g ?_
       refine .done ?_
       exact Tc.db (ih ⟨j + 1, by omega, by omega, hst.symm⟩ (by simp only; omega))
     · rw [if_neg c3] at hst
       by_cases c4 : l[j]?.getD 0 < m[j]?.getD 0
       · refine .seq (.sr ?_)
         refine .m ?_
         refine .m ?_
         refine .x .ln ?_
         refine .i ?_ (z := lss_t (by omega))
         refine .m ?_
         refine .m ?_
         refine .m ?_
         refine .x .ln ?_
         refine .i ?_ (z := lss_t (by omega))
         refine .x .pk ?_
         refine .done (.tt rfl (.skip (.seq (.block (.seq ?_)))))
         refine Tc.dr [] [] mixed rfl ?_
         refine .q 0 rfl .mv ?_
         refine .q 1 rfl .mv ?_
         refine .q 2 rfl .ia ?_
         refine .q 3 rfl .l0 ?_
         refine .q 4 rfl .mv ?_
         refine .q 5 rfl .mv ?_
         refine .q 6 rfl .ia ?_
         refine .q 7 rfl .l0 ?_
         refine .q 8 rfl (.it (zz := neq_t (by omega))) ?_
         refine Ta.done (by kernel_rfl) ?_
         refine .tt rfl (.seq ?_)
         refine Tc.dr [] [] mixed rfl ?_
         refine .q 0 rfl .mv ?_
         refine .q 1 rfl .mv ?_
         refine .q 2 rfl .ia ?_
         refine .q 3 rfl .l0 ?_
         refine .q 4 rfl .mv ?_
         refine .q 5 rfl .mv ?_
         refine .q 6 rfl .ia ?_
         refine .q 7 rfl .l0 ?_
         refine .q 8 rfl (.it (zz := lss_t (by omega))) ?_
         refine .q 9 rfl .sg ?_
         refine Ta.done (by kernel_rfl) ?_
         refine .rt hK Tryz.func57 Tryz.results57 [_] ?_
         exact fun H' hs => ⟨hs.base, by rw [hst, decide_eq_true c4]; rfl⟩
       · refine .seq (.sr ?_)
         refine .m ?_
         refine .m ?_
         refine .x .ln ?_
         refine .i ?_ (z := lss_t (by omega))
         refine .m ?_
         refine .m ?_
         refine .m ?_
         refine .x .ln ?_
         refine .i ?_ (z := lss_t (by omega))
         refine .x .pk ?_
         refine .done (.tt rfl (.skip (.seq (.block (.seq ?_)))))
         refine Tc.dr [] [] mixed rfl ?_
         refine .q 0 rfl .mv ?_
         refine .q 1 rfl .mv ?_
         refine .q 2 rfl .ia ?_
         refine .q 3 rfl .l0 ?_
         refine .q 4 rfl .mv ?_
         refine .q 5 rfl .mv ?_
         refine .q 6 rfl .ia ?_
         refine .q 7 rfl .l0 ?_
         refine .q 8 rfl (.it (zz := neq_t (by omega))) ?_
         refine Ta.done (by kernel_rfl) ?_
         refine .tt rfl (.seq ?_)
         refine Tc.dr [] [] mixed rfl ?_
         refine .q 0 rfl .mv ?_
         refine .q 1 rfl .mv ?_
         refine .q 2 rfl .ia ?_
         refine .q 3 rfl .l0 ?_
         refine .q 4 rfl .mv ?_
         refine .q 5 rfl .mv ?_
         refine .q 6 rfl .ia ?_
         refine .q 7 rfl .l0 ?_
         refine .q 8 rfl (.it (zz := lss_f (by omega))) ?_
         refine .q 9 rfl .sg ?_
         refine Ta.done (by kernel_rfl) ?_
         refine .rt hK Tryz.func57 Tryz.results57 [_] ?_
         exact fun H' hs => ⟨hs.base, by rw [hst, decide_eq_false c4]; rfl⟩
   · have e : lesserL l m = false := by
       rw [← hcm, show m.drop j = [] from List.drop_eq_nil_of_le (by omega), List.drop_eq_getElem_cons (by omega)]
       rfl
     refine .seq (.sr ?_)
     refine .m ?_
     refine .m ?_
     refine .x .ln ?_
     refine .i ?_ (z := lss_t (by omega))
     refine .m ?_
     refine .m ?_
     refine .m ?_
     refine .x .ln ?_
     refine .i ?_ (z := lss_f (by omega))
     refine .x .pk ?_
     refine .done (.ff rfl (.exit rfl (.sr ?_)))
     refine .m ?_
     refine .x .ln ?_
     refine .m ?_
     refine .x .ln ?_
     refine .i ?_ (z := lss_f (by omega))
     refine .g ?_
     refine .done ?_
     refine .rt hK Tryz.func57 Tryz.results57 [_] ?_
     exact fun H' hs => ⟨hs.base, by rw [e]; rfl⟩
 · by_cases c2 : n < k
   · have e : lesserL l m = true := by
       rw [← hcm, show l.drop j = [] from List.drop_eq_nil_of_le (by omega), List.drop_eq_getElem_cons (l := m) (by omega)]
       rfl
     refine .seq (.sr ?_)
     refine .m ?_
     refine .m ?_
     refine .x .ln ?_
     refine .i ?_ (z := lss_f (by omega))
     refine .m ?_
     refine .sk ?_
     refine .sk ?_
     refine .sk ?_
     refine .sk ?_
     refine .x .pk ?_
     refine .done (.ff rfl (.exit rfl (.sr ?_)))
     refine .m ?_
     refine .x .ln ?_
     refine .m ?_
     refine .x .ln ?_
     refine .i ?_ (z := lss_t (by omega))
     refine .g ?_
     refine .done ?_
     refine .rt hK Tryz.func57 Tryz.results57 [_] ?_
     exact fun H' hs => ⟨hs.base, by rw [e]; rfl⟩
   · have e : lesserL l m = false := by
       rw [← hcm, show l.drop j = [] from List.drop_eq_nil_of_le (by omega), show m.drop j = [] from List.drop_eq_nil_of_le (by omega)]
       rfl
     refine .seq (.sr ?_)
     refine .m ?_
     refine .m ?_
     refine .x .ln ?_
     refine .i ?_ (z := lss_f (by omega))
     refine .m ?_
     refine .sk ?_
     refine .sk ?_
     refine .sk ?_
     refine .sk ?_
     refine .x .pk ?_
     refine .done (.ff rfl (.exit rfl (.sr ?_)))
     refine .m ?_
     refine .x .ln ?_
     refine .m ?_
     refine .x .ln ?_
     refine .i ?_ (z := lss_f (by omega))
     refine .g ?_
     refine .done ?_
     refine .rt hK Tryz.func57 Tryz.results57 [_] ?_
     exact fun H' hs => ⟨hs.base, by rw [e]; rfl⟩
def pastA (s r e : Int) (A : Option Addr) (m ca : Nat) : Value := .agg ⟨[.int .i64 s, .int .i64 r, .int .i64 e, .slice A m ca]⟩
theorem full_nums {H : View} {g : Gl 3 1} {s r e : Int} {b : Nat} {mv : List Int} (hl : g.l = (Gl.full 3 b [.int .i64 s, .int .i64 r, .int .i64 e]).l ++ intsL mv) (h : ∀ y ∈ g.bl, H y.1 = some y.2) : g.n = (s :: r :: e :: mv).length ∧ Nums H (g.blk.map fun b => ⟨b, 0, none⟩) (s :: r :: e :: mv) := Nums.of hl h
theorem before_c (s r e s' r' e' : Int) (A B : Option Addr) (l m : List Int) (n k ca cb : Nat) (hn : n = l.length) (hk : k = m.length) (h6 : n ≤ 1000) (h7 : k ≤ 1000) (hA : Nums H A l) (hB : Nums H B m) (hl : l ≠ []) (hm : m ≠ []) :
   CallT M 77 #[pastA s r e A n ca, pastA s' r' e' B k cb] H (fun v H' => H.le H' ∧ v = .bool (lesserL (s :: r :: e :: l) (s' :: r' :: e' :: m))) := by
 have s1 := intsL_single l
 have s2 := intsL_single m
 refine CallT.enter (vs := [pastA s r e A n ca, pastA s' r' e' B k cb]) Tryz.func77 rfl Tryz.ntmps77 (Nat.le_of_ble_eq_true rfl) (SymSt.nil _) fun St c cs hK => ?_
 refine .sr ?_
 refine .e (.bx (zz := fun b2 => ?_))
 refine .e (.bx (zz := fun b3 => ?_))
 refine .g ?_
 refine .done (.sr ?_)
 refine .x .fa ?_
 refine .x (.ld 1) ?_
 refine .x .fa ?_
 refine .x (.ld 1) ?_
 refine .x .fa ?_
 refine .x (.ld 1) ?_
 refine .e (.bs (zz := fun bs => ?_))
 refine .x .fa ?_
 refine .x (.ld 2) ?_
 refine To.perm (L₁ := [(b3, true, .cells ⟨[.int .i64 s', .int .i64 r', .int .i64 e', .slice B k cb]⟩ 39 (0, 0)), (b2, true, .cells ⟨[.int .i64 s, .int .i64 r, .int .i64 e, .slice A n ca]⟩ 39 (0, 0))] ++ [(bs, true, .cells ⟨[.int .i64 s, .int .i64 r, .int .i64 e]⟩ 3 (0, 0))]) List.perm_append_comm ?_
 refine .e (Or.append (E := en) (g := Gl.full 3 bs [.int .i64 s, .int .i64 r, .int .i64 e]) 2 rfl rfl rfl rfl rfl rfl rfl rfl rfl rfl rfl rfl rfl rfl rfl (fun H hs => (hA.le hs.base).src hl hn ca) s1 (by show 3 + n ≤ _; omega) rfl (by decide) (fun g1 hn1 hl1 => ?_))
 refine .g ?_
 refine .done (.sr ?_)
 refine .m ?_
 refine .x .fa ?_
 refine .x (.ld 0) ?_
 refine .x .fa ?_
 refine .x (.ld 0) ?_
 refine .x .fa ?_
 refine .x (.ld 0) ?_
 refine .e (.bs (zz := fun bt => ?_))
 refine .x .fa ?_
 refine .x (.ld 1) ?_
 refine To.perm (L₁ := ([(b3, true, .cells ⟨[.int .i64 s', .int .i64 r', .int .i64 e', .slice B k cb]⟩ 39 (0, 0)), (b2, true, .cells ⟨[.int .i64 s, .int .i64 r, .int .i64 e, .slice A n ca]⟩ 39 (0, 0))] ++ g1.bl) ++ [(bt, true, .cells ⟨[.int .i64 s', .int .i64 r', .int .i64 e']⟩ 3 (0, 0))]) List.perm_append_comm ?_
 refine .e (Or.append (E := en) (g := Gl.full 3 bt [.int .i64 s', .int .i64 r', .int .i64 e']) (2 + g1.bl.length) rfl rfl rfl rfl rfl rfl rfl rfl rfl rfl rfl rfl rfl rfl (by rw [show 2 + g1.bl.length = ([(b3, true, Obj.cells ⟨[.int .i64 s', .int .i64 r', .int .i64 e', .slice B k cb]⟩ 39 (0, 0)), (b2, true, .cells ⟨[.int .i64 s, .int .i64 r, .int .i64 e, .slice A n ca]⟩ 39 (0, 0))] ++ g1.bl).length by simp; omega, List.drop_left]; rfl) (fun H hs => (hB.le hs.base).src hm hk cb) s2 (by show 3 + k ≤ _; omega) rfl (by decide) (fun g2 hn2 hl2 => ?_))
 have ht : ([(b3, true, Obj.cells ⟨[.int .i64 s', .int .i64 r', .int .i64 e', .slice B k cb]⟩ 39 (0, 0)), (b2, true, Obj.cells ⟨[.int .i64 s, .int .i64 r, .int .i64 e, .slice A n ca]⟩ 39 (0, 0))] ++ g1.bl ++ [(bt, true, Obj.cells ⟨[.int .i64 s', .int .i64 r', .int .i64 e']⟩ 3 (0, 0))]).take (2 + g1.bl.length) = [(b3, true, Obj.cells ⟨[.int .i64 s', .int .i64 r', .int .i64 e', .slice B k cb]⟩ 39 (0, 0)), (b2, true, Obj.cells ⟨[.int .i64 s, .int .i64 r, .int .i64 e, .slice A n ca]⟩ 39 (0, 0))] ++ g1.bl := by
   rw [show 2 + g1.bl.length = ([(b3, true, Obj.cells ⟨[.int .i64 s', .int .i64 r', .int .i64 e', .slice B k cb]⟩ 39 (0, 0)), (b2, true, Obj.cells ⟨[.int .i64 s, .int .i64 r, .int .i64 e, .slice A n ca]⟩ 39 (0, 0))] ++ g1.bl).length by simp; omega, List.take_left]
 rw [ht]
 refine .c rfl rfl rfl rfl (fun H hs => .f ca57 rfl (Lesser_c M H _ _ (s :: r :: e :: l) (s' :: r' :: e' :: m) g1.n g2.n g1.cap g2.cap (full_nums hl1 (fun y hy => hs.at_ y (by simp [hy]))).1 (full_nums hl2 (fun y hy => hs.at_ y (by simp [hy]))).1 (by rw [(full_nums hl1 (fun y hy => hs.at_ y (by simp [hy]))).1]; simp; omega) (by rw [(full_nums hl2 (fun y hy => hs.at_ y (by simp [hy]))).1]; simp; omega) (full_nums hl1 (fun y hy => hs.at_ y (by simp [hy]))).2 (full_nums hl2 (fun y hy => hs.at_ y (by simp [hy]))).2)) ?_
 refine .g ?_
 refine .done ?_
 refine .rt hK Tryz.func77 Tryz.results77 [_] ?_
 exact fun H' hs => ⟨hs.base, rfl⟩
theorem hasR_yes (a b x : Int) (h : a ≤ x ∧ x ≤ b) : CallT M 140 #[bandV a b, .int .i64 x] H (fun v H' => H.le H' ∧ v = .bool true) := by
 refine CallT.enter (vs := [bandV a b, .int .i64 x]) Tryz.func140 rfl Tryz.ntmps140 (Nat.le_of_ble_eq_true rfl) (SymSt.nil _) fun St c cs hK => ?_
 refine .sr ?_
 refine .e (.bx (zz := fun b2 => ?_))
 refine .g ?_
 refine .done (.sr ?_)
 refine .m ?_
 refine .x .fa ?_
 refine .x (.ld 0) ?_
 refine .x .fa ?_
 refine .x (.ld 0) ?_
 refine .c rfl rfl rfl rfl (fun H hs => .f ca59 rfl (CallT.is (.bool true) (by rewrite [decide_eq_true h]; rfl) (In_c M H x a b))) ?_
 refine .g ?_
 refine .done ?_
 refine .rt hK Tryz.func140 Tryz.results140 [_] ?_
 exact fun H' hs => ⟨hs.base, rfl⟩
theorem EdgesOf_n (code : Nat) (hc : code < 32) : CallT M 52 #[.int .i64 code] H (fun v H' => H.le H' ∧ ∃ g : Gl 3 1, v = g.val ∧ (g.l = placesV (placesTo code 7) ∧ g.n = (placesTo code 7).length) ∧ ∀ x ∈ g.bl, H' x.1 = some x.2 ∧ H x.1 = none) :=
 CallT.mono (EdgesOf_c M H code hc) (by rintro v H' ⟨h1, g, h2, h3, h4⟩; exact ⟨h1, g, h2, ⟨h3, gl_len h3⟩, h4⟩)
theorem CheckPast_good (k : Lk) (code : Nat) (hc : code < 32) (a r n : Int) (mv : List Int) (hP : k.Past code a r n mv) (A : Option Addr) (m ca : Nat) (hm : m = (placesTo code 7).length) (hA : Nums H A mv) :
   CallT M 76 #[k.val, .int .i64 code, pastA a r n A m ca] H (fun v H' => H.le H' ∧ v = .int .i64 0) := by
 have hp6 := (places_in code hc).2.1
 have hml := hP.len
 refine CallT.enter (vs := [k.val, .int .i64 code, pastA a r n A m ca]) Tryz.func76 rfl Tryz.ntmps76 (Nat.le_of_ble_eq_true rfl) (SymSt.nil _) fun St c cs hK => ?_
 refine .sr ?_
 refine .e (.bx (zz := fun b3 => ?_))
 refine .e (.bx (zz := fun b5 => ?_))
 refine .g ?_
 refine .done (.seq (.sr ?_))
 refine .x .fa ?_
 refine .x (.ld 1) ?_
 refine .x .fa ?_
 refine .x (.ld 0) ?_
 refine .c rfl rfl rfl rfl (fun H hs => .f ca140 rfl (hasR_yes M H k.s0 k.s1 a hP.send)) ?_
 refine .x .nt ?_
 refine .m ?_
 refine .x .fa ?_
 refine .x (.ld 1) ?_
 refine .x .fa ?_
 refine .x (.ld 0) ?_
 refine .c rfl rfl rfl rfl (fun H hs => .f ca140 rfl (hasR_yes M H k.r0 k.r1 r hP.read)) ?_
 refine .x .nt ?_
 refine .x .pk ?_
 refine .m ?_
 refine .x .fa ?_
 refine .x .fa ?_
 refine .x (.ld 1) ?_
 refine .x .fa ?_
 refine .x (.ld 0) ?_
 refine .c rfl rfl rfl rfl (fun H hs => .f ca140 rfl (hasR_yes M H k.l0 k.l1 n hP.lean)) ?_
 refine .x .nt ?_
 refine .x .pk ?_
 refine .done (.ff rfl (.skip (.seq (.seq ?_))))
 refine Tc.dr [] [] mixed rfl ?_
 refine .q 0 rfl .fa ?_
 refine .q 1 rfl (.ld 0) ?_
 refine .q 2 rfl .ln ?_
 refine .q 3 rfl .mv ?_
 refine Ta.each [4] (by kernel_rfl) rfl ⟨TaOp.mk rfl rfl rfl (Or.callNew Gl.val Gl.bl (fun g : Gl 3 1 => g.l = placesV (placesTo code 7) ∧ g.n = (placesTo code 7).length) rfl rfl rfl rfl rfl (by decide) gl_nodup (fun H hs => .f ca52 rfl (EdgesOf_n M H code hc)) (fun g2 ⟨hg2, hn2⟩ => ⟨S2.mk (by exact List.sublist_append_left _ _) (.inr (by exact List.sublist_append_left _ _)), ?_⟩)), trivial⟩
 refine .q 5 rfl .ln ?_
 refine .q 6 rfl (.it (zz := neq_f (by omega))) ?_
 refine Ta.done (by kernel_rfl) ?_
 refine .ff rfl (.skip (.seq (.sr ?_)))
 refine .g ?_
 refine .done ?_
 refine Tc.dropB (R' := [(3, .pointer (some ⟨b3, 0, none⟩)), (5, .pointer (some ⟨b5, 0, none⟩)), (7, .int .i64 0)]) (L' := [(b5, true, .cells ⟨[.int .i64 a, .int .i64 r, .int .i64 n, .slice A m ca]⟩ 39 (0, 0)), (b3, true, .cells ⟨k.val.cells.toList⟩ 27 (0, 0))]) ?_ ⟨rfl, rfl, rfl, trivial⟩ (List.sublist_append_left _ _)
 refine .block ?_
 refine Tc.db (Tc.loopInv (σ := { j : Nat // j ≤ m }) (fun j => ([(3, .pointer (some ⟨b3, 0, none⟩)), (5, .pointer (some ⟨b5, 0, none⟩)), (7, .int .i64 (j.1 : Nat))], [(b5, true, .cells ⟨[.int .i64 a, .int .i64 r, .int .i64 n, .slice A m ca]⟩ 39 (0, 0)), (b3, true, .cells ⟨k.val.cells.toList⟩ 27 (0, 0))])) (fun j => m - j.1) ?_ ⟨0, by omega⟩)
 rintro ⟨j, hj⟩ ih
 show Tc M St _ _ _ _ [(3, .pointer (some ⟨b3, 0, none⟩)), (5, .pointer (some ⟨b5, 0, none⟩)), (7, .int .i64 (j : Nat))] [(b5, true, .cells ⟨[.int .i64 a, .int .i64 r, .int .i64 n, .slice A m ca]⟩ 39 (0, 0)), (b3, true, .cells ⟨k.val.cells.toList⟩ 27 (0, 0))] _ _
 by_cases c1 : j = m
 · subst c1
   refine .seq (.sr ?_)
   refine .m ?_
   refine .x .fa ?_
   refine .x (.ld 0) ?_
   refine .x .ln ?_
   refine .i ?_ (z := lss_f (by omega))
   refine .done (.ff rfl (.exit rfl (.sr ?_)))
   refine .g ?_
   refine .done ?_
   refine .rt hK Tryz.func76 Tryz.results76 [_] ?_
   exact fun H' hs => ⟨hs.base, rfl⟩
 · have c2 : j < m := by omega
   rcases hA with hA | ⟨a1, a2, a3, a4, a5, a6, rfl, a7, a8⟩
   · rw [hA] at hml; simp at hml; omega
   have f1 := a8 j (by omega)
   refine .seq (.sr ?_)
   refine .m ?_
   refine .x .fa ?_
   refine .x (.ld 0) ?_
   refine .x .ln ?_
   refine .i ?_ (z := lss_t (by omega))
   refine .done (.tt rfl (.skip (.seq (.block (.seq ?_)))))
   refine Tc.dr [] [] mixed rfl ?_
   refine .q 0 rfl .fa ?_
   refine .q 1 rfl .fa ?_
   refine .q 2 rfl (.ld 1) ?_
   refine .q 3 rfl .fa ?_
   refine .q 4 rfl (.ld 0) ?_
   refine .q 5 rfl .mv ?_
   refine .q 6 rfl .ia ?_
   refine .q 7 rfl .l0 ?_
   refine .z 8 rfl (OpV.takeCall rfl rfl rfl rfl (fun H hs => .f ca140 rfl (hasR_yes M H k.m0 k.m1 _ (hP.at_ (j := j) (by omega))))) ?_
   refine .q 9 rfl .nt ?_
   refine Ta.done (by kernel_rfl) ?_
   refine .ff rfl (.skip (.inBlock (.r ?_)))
   refine .m ?_
   refine .i ?_ (z := add_in (by omega) (by omega))
   refine .g ?_
   refine .done ?_
   exact Tc.db (ih ⟨j + 1, by omega⟩ (by simp only; omega))
end
end Go.Proofs.YtpdaenfglbgfkaaGreatDoor
