/-
  What the statements choose: numbers of bands, pasts.
-/
import Derived.Test.YtpdaenfglbgfkaaGreatDoorW08
import Derived.Test.YtpdaenfglbgfkaaGreatDoorWDraw3
namespace Go.Proofs.YtpdaenfglbgfkaaGreatDoor
open Go.RL
set_option maxRecDepth 10000
set_option maxHeartbeats 4000000
def Picks (H : View) (A : Option Addr) (l : List Int) : Prop :=
 (∀ x ∈ l, 0 ≤ x ∧ x < 65536) ∧ (l = [] ∨ ∃ ab ao f gs gt gz, A = some ⟨ab, ao, none⟩ ∧ H ab = some (f, .cells ⟨gs⟩ gt gz) ∧ ∀ j : Nat, j < l.length → ldL false 1 gs (ao + (j : Int).toNat * 1) = some (.int .u16 (l[j]?.getD 0)))
theorem Picks.le {H H' : View} {A : Option Addr} {l : List Int} (h : Picks H A l) (k : H.le H') : Picks H' A l := by
 obtain ⟨h0, h⟩ := h
 refine ⟨h0, ?_⟩
 rcases h with h | ⟨ab, ao, f, gs, gt, gz, h1, h2, h3⟩
 · exact .inl h
 · exact .inr ⟨ab, ao, f, gs, gt, gz, h1, k _ _ h2, h3⟩
theorem Picks.in {H : View} {A : Option Addr} {l : List Int} (h : Picks H A l) (j : Nat) : 0 ≤ l[j]?.getD 0 ∧ l[j]?.getD 0 < 65536 := by
 by_cases hj : j < l.length
 · rw [List.getElem?_eq_getElem hj]
   exact h.1 _ (List.getElem_mem hj)
 · rw [List.getElem?_eq_none (by omega)]
   decide
def pickF (a b n : Int) : Int := a + n % (b - a + 1)
theorem pick_in {a b n : Int} (h : a ≤ b) : a ≤ pickF a b n ∧ pickF a b n ≤ b := by
 unfold pickF
 have h1 := Int.emod_nonneg n (show b - a + 1 ≠ 0 by omega)
 have h2 := Int.emod_lt_of_pos n (show 0 < b - a + 1 by omega)
 omega
section
variable (M : Md Tryz.prog) (H : View)
theorem Choice_c (A : Option Addr) (l : List Int) (n ca : Nat) (k : Int) (j : Nat) (hj : k = (j : Nat)) (hn : n = l.length) (hA : Picks H A l) : CallT M 43 #[.slice A n ca, .int .i64 k] H (fun v H' => H.le H' ∧ v = .int .i64 (l[j]?.getD 0)) := by
 refine CallT.enter (vs := [.slice A n ca, .int .i64 k]) Tryz.func43 rfl Tryz.ntmps43 (Nat.le_of_ble_eq_true rfl) (SymSt.nil _) fun St c cs hK => ?_
 have hx := hA.in j
 by_cases c1 : j < n
 · rcases hA.2 with hA | ⟨a1, a2, a3, a4, a5, a6, rfl, a7, a8⟩
   · rw [hA] at hn; simp at hn; omega
   have f1 : ldL false 1 a4 (a2 + k.toNat * 1) = some (.int .u16 (l[j]?.getD 0)) := by rw [hj]; exact a8 j (by omega)
   have hw : IntKind.i64.wrap (l[j]?.getD 0) = l[j]?.getD 0 := wrap64 (by omega) (by omega)
   refine .sr ?_
   refine .g ?_
   refine .done (.seq (.sr ?_))
   refine .m ?_
   refine .m ?_
   refine .x .ln ?_
   refine .i ?_ (z := lss_t (by omega))
   refine .done (.tt rfl (.sr ?_))
   refine .m ?_
   refine .m ?_
   refine .x .ia ?_
   refine .x .l0 ?_
   refine .x .cv ?_
   refine .g ?_
   refine .done ?_
   refine .rt hK Tryz.func43 Tryz.results43 [_] ?_
   exact fun H' hs => ⟨hs.base, rfl⟩
 · have e : l[j]?.getD 0 = 0 := by rw [List.getElem?_eq_none (by omega)]; rfl
   refine .sr ?_
   refine .g ?_
   refine .done (.seq (.sr ?_))
   refine .m ?_
   refine .m ?_
   refine .x .ln ?_
   refine .i ?_ (z := lss_f (by omega))
   refine .done (.ff rfl (.skip (.sr ?_)))
   refine .g ?_
   refine .done ?_
   refine .rt hK Tryz.func43 Tryz.results43 [_] ?_
   exact fun H' hs => ⟨hs.base, by rw [e]; rfl⟩
theorem Pick_c (a b n : Int) (hab : a ≤ b) (ha : -100000 ≤ a) (hb : b ≤ 100000) (hn : 0 ≤ n ∧ n < 65536) : CallT M 109 #[bandV a b, .int .i64 n] H (fun v H' => H.le H' ∧ v = .int .i64 (pickF a b n)) := by
 refine CallT.enter (vs := [bandV a b, .int .i64 n]) Tryz.func109 rfl Tryz.ntmps109 (Nat.le_of_ble_eq_true rfl) (SymSt.nil _) fun St c cs hK => ?_
 have h1 := Int.emod_nonneg n (show b - a + 1 ≠ 0 by omega)
 have h2 := Int.emod_lt_of_pos n (show 0 < b - a + 1 by omega)
 refine .sr ?_
 refine .e (.bx (zz := fun b2 => ?_))
 refine .g ?_
 refine .done (.seq ?_)
 refine Tc.dr [] [] mixed rfl ?_
 refine .q 0 rfl .fa ?_
 refine .q 1 rfl (.ld 0) ?_
 refine .q 2 rfl .mv ?_
 refine .q 3 rfl .fa ?_
 refine .q 4 rfl (.ld 0) ?_
 refine .q 5 rfl .fa ?_
 refine .q 6 rfl (.ld 0) ?_
 refine .q 7 rfl (.it (zz := sub_in (by omega) (by omega))) ?_
 refine .q 8 rfl (.it (zz := add_in (by omega) (by omega))) ?_
 refine .q 9 rfl (.it (zz := rem_in (by omega) (by omega))) ?_
 refine .q 10 rfl (.it (zz := add_in (by omega) (by omega))) ?_
 refine .q 11 rfl .sg ?_
 refine Ta.done (by kernel_rfl) ?_
 refine .rt hK Tryz.func109 Tryz.results109 [_] ?_
 exact fun H' hs => ⟨hs.base, rfl⟩
theorem elementR_c (code p : Nat) (h1 : code < 32) (h2 : p < 7) : CallT M 117 #[.int .i64 code, .int .i64 (p : Nat)] H (fun v H' => H.le H' ∧ v = .int .i64 (elementN code p : Nat)) := by
 refine CallT.enter (vs := [.int .i64 code, .int .i64 (p : Nat)]) Tryz.func117 rfl Tryz.ntmps117 (Nat.le_of_ble_eq_true rfl) (SymSt.nil _) fun St c cs hK => ?_
 by_cases c2 : p = 6
 · subst c2
   refine .sr ?_
   refine .g ?_
   refine .done (.seq (.sr ?_))
   refine .m ?_
   refine .i ?_ (z := lss_f (by omega))
   refine .m ?_
   refine .m ?_
   refine .i ?_ (z := eql_t (by omega))
   refine .x .pk ?_
   refine .done (.tt rfl (.sr ?_))
   refine .g ?_
   refine .done ?_
   refine .rt hK Tryz.func117 Tryz.results117 [_] ?_
   exact fun H' hs => ⟨hs.base, rfl⟩
 · by_cases c1 : p = 0
   · subst c1
     refine .sr ?_
     refine .g ?_
     refine .done (.seq (.sr ?_))
     refine .m ?_
     refine .i ?_ (z := lss_f (by omega))
     refine .m ?_
     refine .m ?_
     refine .i ?_ (z := eql_f (by omega))
     refine .x .pk ?_
     refine .done (.ff rfl (.skip (.seq (.sr ?_))))
     refine .m ?_
     refine .i ?_ (z := eql_t (by omega))
     refine .done (.tt rfl (.sr ?_))
     refine .g ?_
     refine .done ?_
     refine .rt hK Tryz.func117 Tryz.results117 [_] ?_
     exact fun H' hs => ⟨hs.base, rfl⟩
   · have hb := element_bits code h1 p h2 c1 c2
     have g1 : shiftV .shr .i64 (code : Int) ((p : Int) - 1) = some (.int .i64 (Int.fdiv (code : Int) (2 ^ (min ((p : Int) - 1).toNat 64)))) := rfl
     have g2 : intBin .and .i64 (Int.fdiv (code : Int) (2 ^ (min ((p : Int) - 1).toNat 64))) 1 = some (.int .i64 (elementN code p : Nat)) := congrArg (fun x => some (Value.int .i64 x)) hb
     refine .sr ?_
     refine .g ?_
     refine .done (.seq (.sr ?_))
     refine .m ?_
     refine .i ?_ (z := lss_f (by omega))
     refine .m ?_
     refine .m ?_
     refine .i ?_ (z := eql_f (by omega))
     refine .x .pk ?_
     refine .done (.ff rfl (.skip (.seq (.sr ?_))))
     refine .m ?_
     refine .i ?_ (z := eql_f (by omega))
     refine .done (.ff rfl (.skip (.sr ?_)))
     refine .m ?_
     refine .m ?_
     refine .i ?_ (z := sub_in (by omega) (by omega))
     refine .x .sf ?_
     refine .i ?_ (z := by assumption)
     refine .g ?_
     refine .done ?_
     refine .rt hK Tryz.func117 Tryz.results117 [_] ?_
     exact fun H' hs => ⟨hs.base, rfl⟩
theorem elementB_c (code p : Nat) (h1 : code < 32) (h2 : p < 7) : CallT M 117 #[.int .i64 code, .int .i64 ((p : Int) - 1)] H (fun v H' => H.le H' ∧ v = .int .i64 (beforeN code p : Nat)) := by
 cases p with
 | zero =>
   refine CallT.enter (vs := [.int .i64 code, .int .i64 (((0 : Nat) : Int) - 1)]) Tryz.func117 rfl Tryz.ntmps117 (Nat.le_of_ble_eq_true rfl) (SymSt.nil _) fun St c cs hK => ?_
   refine .sr ?_
   refine .g ?_
   refine .done (.seq (.sr ?_))
   refine .m ?_
   refine .i ?_ (z := lss_t (by omega))
   refine .m ?_
   refine .sk ?_
   refine .sk ?_
   refine .x .pk ?_
   refine .done (.tt rfl (.sr ?_))
   refine .g ?_
   refine .done ?_
   refine .rt hK Tryz.func117 Tryz.results117 [_] ?_
   exact fun H' hs => ⟨hs.base, rfl⟩
 | succ q =>
   rw [show ((q + 1 : Nat) : Int) - 1 = (q : Nat) by omega]
   exact elementR_c M H code q h1 (by omega)
theorem EdgesOf_c (code : Nat) (hc : code < 32) : CallT M 52 #[.int .i64 code] H (fun v H' => H.le H' ∧ ∃ g : Gl 3 1, v = g.val ∧ g.l = placesV (placesTo code 7) ∧ ∀ x ∈ g.bl, H' x.1 = some x.2 ∧ H x.1 = none) := by
 refine CallT.enter (vs := [.int .i64 code]) Tryz.func52 rfl Tryz.ntmps52 (Nat.le_of_ble_eq_true rfl) (SymSt.nil _) fun St c cs hK => ?_
 refine .sr ?_
 refine .g ?_
 refine .done (.sr ?_)
 refine .g ?_
 refine .done (.seq (.sr ?_))
 refine .g ?_
 refine .done (.block ?_)
 refine Tc.db (Tc.loopInv (σ := { s : Nat × Gl 3 1 // s.1 ≤ 7 ∧ s.2.l = placesV (placesTo code s.1) })
   (fun s => ([(0, .int .i64 code), (3, s.1.2.val), (4, .int .i64 (s.1.1 : Nat))], s.1.2.bl)) (fun s => 7 - s.1.1) ?_ ⟨(0, Gl.nil 3 1), by simp, rfl⟩)
 rintro ⟨⟨p, g⟩, g1, g2⟩ ih
 simp only at g1 g2
 have hlen : g.n ≤ 7 := by
   have h1 := g.hl
   have h2 := placesTo_len code p
   rw [g2] at h1
   unfold placesV at h1
   rw [List.length_map] at h1
   omega
 show Tc M St _ _ _ _ [(0, .int .i64 code), (3, g.val), (4, .int .i64 (p : Nat))] g.bl _ _
 by_cases c7 : p = 7
 · subst c7
   refine .seq (.sr ?_)
   refine .m ?_
   refine .i ?_ (z := leq_f (by omega))
   refine .done (.ff rfl (.exit rfl (.sr ?_)))
   refine .m ?_
   refine .g ?_
   refine .done ?_
   refine .rt hK Tryz.func52 Tryz.results52 [_] ?_
   exact fun H' hs => ⟨hs.base, g, rfl, g2, fun x hx => ⟨hs.at_ x hx, hs.out x hx⟩⟩
 · have c8 : p < 7 := by omega
   refine .seq (.sr ?_)
   refine .m ?_
   refine .i ?_ (z := leq_t (by omega))
   refine .done (.tt rfl (.skip (.seq (.block (.seq ?_)))))
   by_cases he : elementN code p = beforeN code p
   · refine .r ?_
     refine .m ?_
     refine .m ?_
     refine .c rfl rfl rfl rfl (fun H hs => .f ca117 rfl (elementR_c M H code p hc c8)) ?_
     refine .m ?_
     refine .m ?_
     refine .i ?_ (z := sub_in (by omega) (by omega))
     refine .c rfl rfl rfl rfl (fun H hs => .f ca117 rfl (elementB_c M H code p hc c8)) ?_
     refine .i ?_ (z := neq_f (by omega))
     refine .done (.ff rfl (.skip (.inBlock (.r ?_))))
     refine .m ?_
     refine .i ?_ (z := add_in (by omega) (by omega))
     refine .g ?_
     refine .done ?_
     exact Tc.db (ih ⟨(p + 1, g), by simp only; omega, by simp only [placesTo, he, if_true]; exact g2⟩ (by simp only; omega))
   · refine .r ?_
     refine .m ?_
     refine .m ?_
     refine .c rfl rfl rfl rfl (fun H hs => .f ca117 rfl (elementR_c M H code p hc c8)) ?_
     refine .m ?_
     refine .m ?_
     refine .i ?_ (z := sub_in (by omega) (by omega))
     refine .c rfl rfl rfl rfl (fun H hs => .f ca117 rfl (elementB_c M H code p hc c8)) ?_
     refine .i ?_ (z := neq_t (by omega))
     refine .done (.tt rfl (.r ?_))
     refine .m ?_
     refine .m ?_
     refine .e (.bs (zz := fun bs => ?_))
     refine .e (Or.append (E := en) 1 rfl rfl rfl rfl rfl rfl rfl rfl rfl rfl rfl rfl rfl rfl rfl (fun H hs => SrcAt.of (hs.get (i := 0) rfl) (Nat.le_of_ble_eq_true rfl)) rfl (by omega) rfl (by decide) (fun g' hn hl => ?_))
     refine .g ?_
     refine .done (.inBlock (.r ?_))
     refine .m ?_
     refine .i ?_ (z := add_in (by omega) (by omega))
     refine .g ?_
     refine .done ?_
     exact Tc.db (ih ⟨(p + 1, g'), by simp only; omega, by simp only [placesTo, he, if_false]; rw [hl, g2]; unfold placesV; rw [List.map_append]; rfl⟩ (by simp only; omega))
def Lk.pSend (k : Lk) (l : List Int) : Int := pickF k.s0 k.s1 (l[0]?.getD 0)
def Lk.pRead (k : Lk) (l : List Int) : Int := pickF k.r0 k.r1 (l[1]?.getD 0)
def Lk.pLean (k : Lk) (l : List Int) : Int := pickF k.l0 k.l1 (l[2]?.getD 0)
def Lk.pMoves (k : Lk) (l : List Int) (n : Nat) : List Int := (List.range n).map fun i => pickF k.m0 k.m1 (l[3 + i]?.getD 0)
theorem Lk.pMoves_succ (k : Lk) (l : List Int) (n : Nat) : k.pMoves l (n + 1) = k.pMoves l n ++ [pickF k.m0 k.m1 (l[3 + n]?.getD 0)] := by
 unfold Lk.pMoves
 rw [List.range_succ, List.map_append]
 rfl
theorem Past_c (k : Lk) (hk : k.ok = true) (code : Nat) (hc : code < 32) (A : Option Addr) (l : List Int) (n ca : Nat) (hn : n = l.length) (hA : Picks H A l) :
   CallT M 73 #[k.val, .int .i64 code, .slice A n ca] H (fun v H' => H.le H' ∧ ∃ g : Gl 3 1, v = pastV (k.pSend l) (k.pRead l) (k.pLean l) g ∧ g.l = intsL (k.pMoves l (placesTo code 7).length) ∧ ∀ x ∈ g.bl, H' x.1 = some x.2 ∧ H x.1 = none) := by
 obtain ⟨hks, hkr, hkl, hkm⟩ := Lk.ok_in hk
 have hp6 := (places_in code hc).2.1
 refine CallT.enter (vs := [k.val, .int .i64 code, .slice A n ca]) Tryz.func73 rfl Tryz.ntmps73 (Nat.le_of_ble_eq_true rfl) (SymSt.nil _) fun St c cs hK => ?_
 refine .sr ?_
 refine .e (.bx (zz := fun b3 => ?_))
 refine .e (.al (zz := fun b6 => ?_))
 refine .done (.seq ?_)
 refine Tc.dr [18] [] mixed rfl ?_
 refine .q 0 rfl .fa ?_
 refine .q 1 rfl (.ld 1) ?_
 refine .q 2 rfl .mv ?_
 refine .z 3 rfl (OpV.takeCall rfl rfl rfl rfl (fun H hs => .f ca43 rfl (Choice_c M H A l n ca 0 0 rfl hn (hA.le hs.base)))) ?_
 refine .z 4 rfl (OpV.takeCall rfl rfl rfl rfl (fun H hs => .f ca109 rfl (Pick_c M H k.s0 k.s1 (l[0]?.getD 0) (by omega) (by omega) (by omega) (hA.in 0)))) ?_
 refine .q 5 rfl .fa ?_
 refine .q 6 rfl (.ld 1) ?_
 refine .q 7 rfl .mv ?_
 refine .z 8 rfl (OpV.takeCall rfl rfl rfl rfl (fun H hs => .f ca43 rfl (Choice_c M H A l n ca 1 1 rfl hn (hA.le hs.base)))) ?_
 refine .z 9 rfl (OpV.takeCall rfl rfl rfl rfl (fun H hs => .f ca109 rfl (Pick_c M H k.r0 k.r1 (l[1]?.getD 0) (by omega) (by omega) (by omega) (hA.in 1)))) ?_
 refine .q 10 rfl .fa ?_
 refine .q 11 rfl .fa ?_
 refine .q 12 rfl (.ld 1) ?_
 refine .q 13 rfl .mv ?_
 refine .z 14 rfl (OpV.takeCall rfl rfl rfl rfl (fun H hs => .f ca43 rfl (Choice_c M H A l n ca 2 2 rfl hn (hA.le hs.base)))) ?_
 refine .z 15 rfl (OpV.takeCall rfl rfl rfl rfl (fun H hs => .f ca109 rfl (Pick_c M H k.l0 k.l1 (l[2]?.getD 0) (by omega) (by omega) (by omega) (hA.in 2)))) ?_
 refine .q 16 rfl .bu ?_
 refine Ta.each [17] (by kernel_rfl) rfl ⟨TaOp.mk rfl rfl rfl (.al (zz := fun b7 => ⟨S2.mk (by apply List.Sublist.cons; exact List.Sublist.refl _) (.inr (by apply List.Sublist.cons; exact List.Sublist.refl _)), ?_⟩)), trivial⟩
 refine Ta.each [18] (by kernel_rfl) rfl ⟨TaOp.mk rfl rfl rfl (.st 0 (zz := ⟨S2.mk (by apply List.Sublist.cons; exact List.Sublist.refl _) (.inl (by kernel_rfl)), ?_⟩)), trivial⟩
 refine Ta.done (by kernel_rfl) ?_
 refine .seq (.sr ?_)
 refine .g ?_
 refine .done (.block ?_)
 refine Tc.db (Tc.loopInv (σ := { s : Nat × Gl 3 1 // s.1 ≤ (placesTo code 7).length ∧ s.2.l = intsL (k.pMoves l s.1) })
   (fun s => ([(1, .int .i64 code), (2, .slice A n ca), (3, .pointer (some ⟨b3, 0, none⟩)), (6, .pointer (some ⟨b6, 0, none⟩)), (7, .pointer (some ⟨b7, 0, none⟩)), (8, .int .i64 (s.1.1 : Nat))],
     (b7, true, .cells ⟨[.int .i64 (k.pSend l), .int .i64 (k.pRead l), .int .i64 (k.pLean l), s.1.2.val]⟩ 39 (0, 0)) :: (b6, true, .cells ⟨[.int .i64 0, .int .i64 0, .int .i64 0, .slice none 0 0]⟩ 39 (0, 0)) :: (b3, true, .cells ⟨k.val.cells.toList⟩ 27 (0, 0)) :: s.1.2.bl)) (fun s => (placesTo code 7).length - s.1.1) ?_ ⟨(0, Gl.nil 3 1), Nat.zero_le _, rfl⟩)
 rintro ⟨⟨i, g⟩, g1, g2⟩ ih
 simp only at g1 g2
 have hgn : g.n = i := by
   have h1 := g.hl
   rw [g2, intsL_len] at h1
   unfold Lk.pMoves at h1
   rw [List.length_map, List.length_range] at h1
   omega
 show Tc M St _ _ _ _ [(1, .int .i64 code), (2, .slice A n ca), (3, .pointer (some ⟨b3, 0, none⟩)), (6, .pointer (some ⟨b6, 0, none⟩)), (7, .pointer (some ⟨b7, 0, none⟩)), (8, .int .i64 (i : Nat))]
     ((b7, true, .cells ⟨[.int .i64 (k.pSend l), .int .i64 (k.pRead l), .int .i64 (k.pLean l), g.val]⟩ 39 (0, 0)) :: (b6, true, .cells ⟨[.int .i64 0, .int .i64 0, .int .i64 0, .slice none 0 0]⟩ 39 (0, 0)) :: (b3, true, .cells ⟨k.val.cells.toList⟩ 27 (0, 0)) :: g.bl) _ _
 refine .seq (.sr ?_)
 refine .m ?_
 refine .m ?_
 refine .e (Or.callNew Gl.val Gl.bl (fun ge : Gl 3 1 => ge.l = placesV (placesTo code 7)) rfl rfl rfl rfl rfl (by decide) gl_nodup (fun H hs => .f ca52 rfl (EdgesOf_c M H code hc)) (fun ge hge => ?_))
 have hn2 := gl_len hge
 by_cases c1 : i = (placesTo code 7).length
 · subst c1
   refine .x .ln ?_
   refine .i ?_ (z := lss_f (by omega))
   refine .done (.ff rfl (.exit rfl (.sr ?_)))
   refine .x (.ld 0) ?_
   refine .e (.st 1 (zz := ?_))
   refine .done ?_
   refine Tc.retN (E := en) hK Tryz.func73 Tryz.results73 (vs := [_]) (by refine ⟨⟨1, _, _, _, _, _, _, _, rfl, rfl, rfl, rfl⟩, ?_⟩; exact trivial) ?_
   exact fun H' hs => ⟨hs.base, g, rfl, g2, fun x hx => ⟨hs.at_ x (by simp [hx]), hs.out x (by simp [hx])⟩⟩
 · have c2 : i < (placesTo code 7).length := by omega
   refine .x .ln ?_
   refine .i ?_ (z := lss_t (by omega))
   refine .done ?_
   refine Tc.dropB (R' := [(1, .int .i64 code), (2, .slice A n ca), (3, .pointer (some ⟨b3, 0, none⟩)), (6, .pointer (some ⟨b6, 0, none⟩)), (7, .pointer (some ⟨b7, 0, none⟩)), (8, .int .i64 (i : Nat)), (30, .bool true)]) (L' := (b7, true, .cells ⟨[.int .i64 (k.pSend l), .int .i64 (k.pRead l), .int .i64 (k.pLean l), g.val]⟩ 39 (0, 0)) :: (b6, true, .cells ⟨[.int .i64 0, .int .i64 0, .int .i64 0, .slice none 0 0]⟩ 39 (0, 0)) :: (b3, true, .cells ⟨k.val.cells.toList⟩ 27 (0, 0)) :: g.bl) ?_ ⟨rfl, rfl, rfl, rfl, rfl, rfl, rfl, trivial⟩ (List.sublist_append_left _ _)
   refine .tt rfl (.skip (.seq (.block ?_)))
   refine Tc.drT [11, 13] [] [0] 3 mixed rfl ?_
   refine Ta.tkC 0 (by kernel_rfl) rfl rfl (by decide) rfl rfl (OpV.take .fa) ?_
   refine Ta.tkC 1 (by kernel_rfl) rfl rfl (by decide) rfl rfl (OpV.take (.ld 0)) ?_
   refine Ta.tkC 2 (by kernel_rfl) rfl rfl (by decide) rfl rfl (OpV.take .fa) ?_
   refine Ta.tkC 3 (by kernel_rfl) rfl rfl (by decide) rfl rfl (OpV.take .fa) ?_
   refine Ta.tkC 4 (by kernel_rfl) rfl rfl (by decide) rfl rfl (OpV.take (.ld 2)) ?_
   refine Ta.tkC 5 (by kernel_rfl) rfl rfl (by decide) rfl rfl (OpV.take .mv) ?_
   refine Ta.tkC 6 (by kernel_rfl) rfl rfl (by decide) rfl rfl (OpV.take .mv) ?_
   refine Ta.tkC 7 (by kernel_rfl) rfl rfl (by decide) rfl rfl (OpV.take (.it (zz := add_in (by omega) (by omega)))) ?_
   refine Ta.tkC 8 (by kernel_rfl) rfl rfl (by decide) rfl rfl (OpV.takeCall rfl rfl rfl rfl (fun H hs => .f ca43 rfl (Choice_c M H A l n ca (3 + (i : Int)) (3 + i) (by omega) hn (hA.le hs.base)))) ?_
   refine Ta.tkC 9 (by kernel_rfl) rfl rfl (by decide) rfl rfl (OpV.takeCall rfl rfl rfl rfl (fun H hs => .f ca109 rfl (Pick_c M H k.m0 k.m1 (l[3 + i]?.getD 0) (by omega) (by omega) (by omega) (hA.in (3 + i))))) ?_
   refine Ta.each [10] (by kernel_rfl) rfl ⟨TaOp.mk rfl rfl rfl (.bs (zz := fun bs => ⟨S3.mk (by apply List.Sublist.cons; apply List.Sublist.cons; exact List.sublist_append_left _ _) (.inr (by apply List.Sublist.cons; exact List.Sublist.refl _)), ?_⟩)), trivial⟩
   refine Ta.each [11] (by kernel_rfl) rfl ⟨TaOp.mk rfl rfl rfl (Or.append (E := en) 4 rfl rfl rfl rfl rfl rfl rfl rfl rfl rfl rfl rfl rfl rfl rfl (fun H hs => SrcAt.of (hs.get (i := 0) rfl) (Nat.le_of_ble_eq_true rfl)) rfl (by omega) rfl (by decide) (fun g' hn' hl => ⟨S3.mk (by apply List.Sublist.cons; apply List.Sublist.cons; exact List.sublist_append_left _ _) (.inl (by kernel_rfl)), ?_⟩)), trivial⟩
   refine Ta.tkwC 12 (by kernel_rfl) rfl rfl rfl (by decide) rfl rfl (OpV.take .fa) ?_
   refine Ta.each [13] (by kernel_rfl) rfl ⟨TaOp.mk rfl rfl rfl (.st 1 (zz := ⟨S3.mk (by apply List.Sublist.cons; apply List.Sublist.cons; exact List.sublist_append_left _ _) (.inl (by kernel_rfl)), ?_⟩)), trivial⟩
   refine Ta.done (by kernel_rfl) ?_
   refine .inBlock (.r ?_)
   refine .m ?_
   refine .i ?_ (z := add_in (by omega) (by omega))
   refine .g ?_
   refine .done ?_
   exact Tc.db (ih ⟨(i + 1, g'), by simp only; omega, by simp only; rw [hl, g2, Lk.pMoves_succ]; unfold intsL; rw [List.map_append]; rfl⟩ (by simp only; omega))
theorem Lk.pMoves_len (k : Lk) (l : List Int) (n : Nat) : (k.pMoves l n).length = n := by simp [Lk.pMoves]
end
end Go.Proofs.YtpdaenfglbgfkaaGreatDoor
