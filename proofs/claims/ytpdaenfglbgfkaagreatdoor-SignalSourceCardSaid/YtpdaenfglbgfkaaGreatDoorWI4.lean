/-
  Of what is seen of a past the past is tuned: Seen, later times, the laws.
-/
import Derived.Test.YtpdaenfglbgfkaaGreatDoorW08
import Derived.Test.YtpdaenfglbgfkaaGreatDoorWLate
import Derived.Test.YtpdaenfglbgfkaaGreatDoorWI2
import Derived.Test.YtpdaenfglbgfkaaGreatDoorWH2
namespace Go.Proofs.YtpdaenfglbgfkaaGreatDoor
open Go.RL
set_option maxRecDepth 10000
set_option maxHeartbeats 8000000
def seenL (ps : List Nat) (mv : List Int) (a n : Int) : List Int := (List.range ps.length).map (seenAt ps mv a n)
theorem seenL_len (ps : List Nat) (mv : List Int) (a n : Int) : (seenL ps mv a n).length = ps.length := by simp [seenL]
theorem seenL_get {ps : List Nat} {mv : List Int} {a n : Int} {i : Nat} (h : i < ps.length) : (seenL ps mv a n)[i]? = some (seenAt ps mv a n i) := by
 unfold seenL
 rw [List.getElem?_map, List.getElem?_range h]
 rfl
theorem seenTo_take {ps : List Nat} {mv : List Int} {a n : Int} (h : ps.length ≤ 6) : (seenTo ps mv a n ps.length).take ps.length = seenL ps mv a n := by
 apply List.ext_getElem?
 intro i
 by_cases hi : i < ps.length
 · rw [List.getElem?_take_of_lt hi, seenL_get hi]
   unfold seenTo
   rw [List.getElem?_map, List.getElem?_range (by omega)]
   simp [hi]
 · rw [List.getElem?_eq_none (by rw [List.length_take]; omega), List.getElem?_eq_none (by rw [seenL_len]; omega)]
theorem laterT_get {l : List Int} {y : Int} {i : Nat} (h : i < l.length) : (l.map (· + y))[i]? = some (l[i]?.getD 0 + y) := by
 rw [List.getElem?_map, List.getElem?_eq_getElem h]
 rfl
theorem after_later {ps : List Nat} {mv : List Int} {a n y : Int} (h0 : 0 < ps.length) (h6 : ps.length ≤ 6) :
   afterTo (pad6 ((seenL ps mv a n).map (· + y))) ps.length = afterTo (seenTo ps mv a n ps.length) ps.length := by
 have hl := seenL_len ps mv a n
 have e0 : (pad6 ((seenL ps mv a n).map (· + y)))[0]? = some (seenAt ps mv a n 0 + y) := by
   unfold pad6
   rw [List.getElem?_append_left (by rw [List.length_map, hl]; exact h0), laterT_get (by omega), seenL_get h0]
   rfl
 have e1 : (seenTo ps mv a n ps.length)[0]? = some (seenAt ps mv a n 0) := by
   unfold seenTo
   rw [List.getElem?_map, List.getElem?_range (by omega)]
   simp [h0]
 have g0 : (pad6 ((seenL ps mv a n).map (· + y))).headD 0 = seenAt ps mv a n 0 + y := by
   rw [List.headD_eq_head?_getD, List.head?_eq_getElem?, e0]
   rfl
 have g1 : (seenTo ps mv a n ps.length).headD 0 = seenAt ps mv a n 0 := by
   rw [List.headD_eq_head?_getD, List.head?_eq_getElem?, e1]
   rfl
 apply List.ext_getElem?
 intro i
 by_cases hi : i < ps.length
 · have f0 : (pad6 ((seenL ps mv a n).map (· + y)))[i]? = some (seenAt ps mv a n i + y) := by
     unfold pad6
     rw [List.getElem?_append_left (by rw [List.length_map, hl]; exact hi), laterT_get (by omega), seenL_get hi]
     rfl
   have f1 : (seenTo ps mv a n ps.length)[i]? = some (seenAt ps mv a n i) := by
     unfold seenTo
     rw [List.getElem?_map, List.getElem?_range (by omega)]
     simp [hi]
   rw [afterTo_get f0, afterTo_get f1, if_pos hi, if_pos hi, g0, g1]
   congr 1
   omega
 · by_cases h7 : i < 6
   · have f0 : (pad6 ((seenL ps mv a n).map (· + y)))[i]? = some 0 := by
       unfold pad6
       rw [List.getElem?_append_right (by rw [List.length_map, hl]; omega), List.length_map, hl, List.getElem?_replicate, if_pos (by omega)]
     have f1 : (seenTo ps mv a n ps.length)[i]? = some 0 := by
       unfold seenTo
       rw [List.getElem?_map, List.getElem?_range (by omega)]
       simp [hi]
     rw [afterTo_get f0, afterTo_get f1, if_neg hi, if_neg hi]
   · rw [List.getElem?_eq_none (by rw [afterTo_len, pad6_len (by rw [List.length_map]; omega)]; omega), List.getElem?_eq_none (by rw [afterTo_len, seenTo_len]; omega)]
theorem after_seen {ps : List Nat} {mv : List Int} {a n : Int} {i : Nat} (hi : i < ps.length) (h6 : ps.length ≤ 6) : (afterTo (seenTo ps mv a n ps.length) ps.length)[i]?.getD 0 = seenAt ps mv a n i - seenAt ps mv a n 0 := by
 have f1 : (seenTo ps mv a n ps.length)[i]? = some (seenAt ps mv a n i) := by
   unfold seenTo
   rw [List.getElem?_map, List.getElem?_range (by omega)]
   simp [hi]
 have e1 : (seenTo ps mv a n ps.length)[0]? = some (seenAt ps mv a n 0) := by
   unfold seenTo
   rw [List.getElem?_map, List.getElem?_range (by omega)]
   simp [show 0 < ps.length by omega]
 have g1 : (seenTo ps mv a n ps.length).headD 0 = seenAt ps mv a n 0 := by
   rw [List.headD_eq_head?_getD, List.head?_eq_getElem?, e1]
   rfl
 rw [afterTo_get f1, if_pos hi, g1]
 rfl
theorem gMove_past {ps : List Nat} {mv : List Int} {a n : Int} {i : Nat} (hi : i + 1 < ps.length) (h6 : ps.length ≤ 6) : gMove ps a n (mv[0]?.getD 0) (afterTo (seenTo ps mv a n ps.length) ps.length) i = mv[i + 1]?.getD 0 := by
 unfold gMove
 rw [after_seen hi h6]
 unfold seenAt
 simp only [Int.natCast_zero]
 omega
theorem gMoves_past {ps : List Nat} {mv : List Int} {a n : Int} (h0 : 0 < ps.length) (h6 : ps.length ≤ 6) (hm : mv.length = ps.length) : gMoves ps a n (mv[0]?.getD 0) (afterTo (seenTo ps mv a n ps.length) ps.length) (ps.length - 1) = mv := by
 apply List.ext_getElem?
 intro i
 unfold gMoves
 cases i with
 | zero => rw [List.getElem?_cons_zero, List.getElem?_eq_getElem (by omega)]; rfl
 | succ i =>
   rw [List.getElem?_cons_succ, List.getElem?_map]
   by_cases hi : i + 1 < ps.length
   · rw [List.getElem?_range (by omega)]
     simp only [Option.map_some]
     rw [gMove_past hi h6, List.getElem?_eq_getElem (by omega)]
     rfl
   · have e1 : (List.range (ps.length - 1))[i]? = none := List.getElem?_eq_none (by rw [List.length_range]; omega)
     have e2 : mv[i + 1]? = none := List.getElem?_eq_none (by omega)
     rw [e1, e2]
     rfl
theorem Lk.Past.gives {k : Lk} {c : Nat} {a r n : Int} {mv : List Int} (h : k.Past c a r n mv) (h0 : 0 < (placesTo c 7).length) (h6 : (placesTo c 7).length ≤ 6) : k.gives (placesTo c 7) a (afterTo (seenTo (placesTo c 7) mv a n (placesTo c 7).length) (placesTo c 7).length) = true := by
 have hml := h.len
 have hat : ∀ j, j < mv.length → k.m0 ≤ mv[j]?.getD 0 ∧ mv[j]?.getD 0 ≤ k.m1 := fun j hj => h.at_ hj
 unfold Lk.gives Lk.gives₁
 rw [List.any_eq_true]
 refine ⟨n, mem_upTo.2 h.lean, ?_⟩
 rw [List.any_eq_true]
 refine ⟨mv[0]?.getD 0, mem_upTo.2 (hat 0 (by omega)), ?_⟩
 unfold Lk.gives₂
 rw [Bool.and_eq_true, List.all_eq_true, gMoves_past h0 h6 hml]
 refine ⟨fun i hi => ?_, by simp⟩
 have h1 := List.mem_range.1 hi
 unfold Lk.inMove
 rw [decide_eq_true_iff, gMove_past (by omega) h6]
 exact hat (i + 1) (by omega)
theorem tune_mem {p : Int → Bool} {x : Int} (hx : p x = true) : ∀ (l : List Int) (o : Option (Int × Int)), l.Pairwise (· < ·) → (x ∈ l ∨ ∃ a b, o = some (a, b) ∧ a ≤ x ∧ x ≤ b) → (∀ a b, o = some (a, b) → a ≤ b ∧ ∀ y ∈ l, b < y) → ∃ a b, tuneTo p l o = some (a, b) ∧ a ≤ x ∧ x ≤ b
 | [], o, _, h, _ => by
   rcases h with h | ⟨a, b, h1, h2⟩
   · cases h
   · exact ⟨a, b, h1, h2⟩
 | n :: l, o, hp, h, ho => by
   obtain ⟨g1, g2⟩ := List.pairwise_cons.1 hp
   cases hpn : p n with
   | false =>
     have e : tuneTo p (n :: l) o = tuneTo p l o := by
       conv => lhs; unfold tuneTo
       rw [if_neg (by rw [hpn]; decide)]
     rw [e]
     refine tune_mem hx l o g2 ?_ (fun a b e => ⟨(ho a b e).1, fun y hy => (ho a b e).2 y (List.mem_cons_of_mem _ hy)⟩)
     rcases h with h | h
     · rcases List.mem_cons.1 h with rfl | h
       · rw [hx] at hpn; cases hpn
       · exact .inl h
     · exact .inr h
   | true =>
     cases o with
     | none =>
       have e : tuneTo p (n :: l) none = tuneTo p l (some (n, n)) := by
         conv => lhs; unfold tuneTo
         rw [if_pos hpn]
       rw [e]
       refine tune_mem hx l _ g2 ?_ (fun a b e => ?_)
       · rcases h with h | ⟨_, _, h, _⟩
         · rcases List.mem_cons.1 h with rfl | h
           · exact .inr ⟨_, _, rfl, Int.le_refl _, Int.le_refl _⟩
           · exact .inl h
         · cases h
       · simp only [Option.some.injEq, Prod.mk.injEq] at e
         obtain ⟨rfl, rfl⟩ := e
         exact ⟨Int.le_refl _, g1⟩
     | some ab =>
       obtain ⟨a0, b0⟩ := ab
       have e : tuneTo p (n :: l) (some (a0, b0)) = tuneTo p l (some (a0, n)) := by
         conv => lhs; unfold tuneTo
         rw [if_pos hpn]
       have h9 := ho a0 b0 rfl
       have h8 := h9.2 n List.mem_cons_self
       rw [e]
       refine tune_mem hx l _ g2 ?_ (fun a b e => ?_)
       · rcases h with h | ⟨a, b, h, h1, h2⟩
         · rcases List.mem_cons.1 h with rfl | h
           · exact .inr ⟨_, _, rfl, by omega, Int.le_refl _⟩
           · exact .inl h
         · simp only [Option.some.injEq, Prod.mk.injEq] at h
           obtain ⟨rfl, rfl⟩ := h
           exact .inr ⟨_, _, rfl, h1, by omega⟩
       · simp only [Option.some.injEq, Prod.mk.injEq] at e
         obtain ⟨rfl, rfl⟩ := e
         exact ⟨by omega, g1⟩
theorem Lk.Past.tune {k : Lk} {c : Nat} {a r n : Int} {mv : List Int} (h : k.Past c a r n mv) (h0 : 0 < (placesTo c 7).length) (h6 : (placesTo c 7).length ≤ 6) (y : Int) : ∃ u w, k.tune (placesTo c 7) (pad6 ((seenL (placesTo c 7) mv a n).map (· + y))) = some (u, w) ∧ u ≤ a ∧ a ≤ w := by
 unfold Lk.tune
 rw [after_later h0 h6]
 exact tune_mem (p := fun x => k.gives (placesTo c 7) x (afterTo (seenTo (placesTo c 7) mv a n (placesTo c 7).length) (placesTo c 7).length)) (h.gives h0 h6) (upTo k.s0 k.s1) none (upTo_up _ _) (.inl (mem_upTo.2 h.send)) (fun _ _ e => nomatch e)
section
variable (M : Md Tryz.prog) (H : View)
theorem Seen_c (k : Lk) (hG : Glob H) (hk : k.ok = true) (code : Nat) (hc : code < 32) (a r n : Int) (mv : List Int) (hP : k.Past code a r n mv) (A : Option Addr) (m ca : Nat) (hm : m = (placesTo code 7).length) (hA : Nums H A mv) :
   CallT M 72 #[k.val, .int .i64 code, .agg ⟨[.int .i64 a, .int .i64 r, .int .i64 n, .slice A m ca]⟩] H (ToldQ (intsL (seenL (placesTo code 7) mv a n)) H) := by
 obtain ⟨hp0, hp6, hpl⟩ := places_in code hc
 have hml := hP.len
 have hsl := seenTo_len (placesTo code 7) mv a n (placesTo code 7).length
 have lA : Nat.beq (intsL (seenTo (placesTo code 7) mv a n (placesTo code 7).length)).length 6 = true := by rw [intsL_len, hsl]; rfl
 have lB : (intsL (seenTo (placesTo code 7) mv a n (placesTo code 7).length)).all single = true := by
   rw [List.all_eq_true]
   intro y hy
   obtain ⟨z, _, rfl⟩ := List.mem_map.1 hy
   rfl
 have lC : stL [Value.int .i64 0, .int .i64 0, .int .i64 0, .int .i64 0, .int .i64 0, .int .i64 0] 0 (intsL (seenTo (placesTo code 7) mv a n (placesTo code 7).length)) = intsL (seenTo (placesTo code 7) mv a n (placesTo code 7).length) := by
   unfold stL
   rw [List.take_zero, List.nil_append, List.drop_eq_nil_of_le (by rw [intsL_len, hsl]; simp), List.append_nil]
 have hcl : ((intsL (seenTo (placesTo code 7) mv a n (placesTo code 7).length)).drop 0).take ((placesTo code 7).length * 1) = intsL (seenL (placesTo code 7) mv a n) := by
   rw [List.drop_zero, Nat.mul_one, ← seenTo_take hp6]
   unfold intsL
   rw [List.map_take]
 refine CallT.enter (vs := [k.val, .int .i64 code, .agg ⟨[.int .i64 a, .int .i64 r, .int .i64 n, .slice A m ca]⟩]) Tryz.func72 rfl Tryz.ntmps72 (Nat.le_of_ble_eq_true rfl) (SymSt.nil _) fun St c cs hK => ?_
 refine .sr ?_
 refine .e (.bx (zz := fun b3 => ?_))
 refine .e (.bx (zz := fun b5 => ?_))
 refine .g ?_
 refine .g ?_
 refine .done (.sr ?_)
 refine .x (.ld 1) ?_
 refine .m ?_
 refine .x (.ld 0) ?_
 refine .e (Or.callNew (fun x => .tuple ⟨[letN code x, .int .i64 0]⟩) (letB code) (fun _ => True) rfl rfl rfl rfl rfl (by decide) (letB_nodup code) (fun H hs => .f ca134 rfl (past_good M H k (glob_le hG hs.base) hk code hc a r n mv hP A m ca hm (hA.le hs.base))) (fun x hx => ?_))
 refine .m ?_
 refine .x .et ?_
 refine .x .et ?_
 refine .e (.al (zz := fun b8 => ?_))
 refine .e (.st 0 (zz := ?_))
 refine .g ?_
 refine .done (.seq (.sr ?_))
 refine .m ?_
 refine .i ?_ (z := neq_f (by omega))
 refine .done (.ff rfl (.skip (.sr ?_)))
 refine .x (.ld 0) ?_
 refine .x (.ld 1) ?_
 refine .c rfl rfl rfl rfl (fun H hs => .f ca135 rfl (seen_good M H k hk code hc a r n mv hP A m ca hm (hA.le hs.base) x (fun y hy => hs.at_ y (by simp [hy])))) ?_
 refine .e (.al (zz := fun b10 => ?_))
 refine .e (Or.storeT (E := en) 0 rfl rfl rfl rfl rfl lA rfl (by exact rfl) lB rfl lC ?_)
 refine .done (.sr ?_)
 refine .x .fa ?_
 refine .x (.ld 1) ?_
 refine .x .ln ?_
 refine .x (OpV.sliceA (E := en) (off' := 0) (l := 0) (h := ((placesTo code 7).length : Nat)) rfl rfl rfl rfl rfl rfl rfl rfl (by omega) (by omega) (by omega) (by rw [if_neg (by omega)]; rfl)) ?_
 refine .e (Or.callNew Gl.val Gl.bl (fun g : Gl 3 1 => g.l = intsL (seenL (placesTo code 7) mv a n)) rfl rfl rfl rfl rfl (by decide) gl_nodup (fun H hs => .f ca136 rfl (clone_c M H _ (placesTo code 7).length _ _ (by omega) (hcl ▸ SrcAt.of (hs.get (i := 0) rfl) (by rw [intsL_len, hsl]; omega)) (by
   rw [List.all_eq_true]
   intro y hy
   obtain ⟨z, _, rfl⟩ := List.mem_map.1 hy
   rfl))) (fun g hg => ?_))
 refine .g ?_
 refine .g ?_
 refine .done ?_
 refine .rt hK Tryz.func72 Tryz.results72 [_, _] ?_
 exact fun H' hs => ⟨hs.base, g, rfl, hg, fun y hy => ⟨hs.at_ y (by simp [hy]), hs.out y (by simp [hy])⟩⟩
theorem later_c (A : Option Addr) (l : List Int) (n ca : Nat) (y : Int) (hn : n = l.length) (h6 : n ≤ 1000) (hb : ∀ x ∈ l, -100000 ≤ x ∧ x ≤ 100000) (hy : 0 ≤ y ∧ y < 256) (hA : Nums H A l) : CallT M 80 #[.slice A n ca, .int .i64 y] H (fun v H' => H.le H' ∧ ∃ g : Gl 3 1, v = g.val ∧ g.l = intsL (l.map (· + y)) ∧ ∀ x ∈ g.bl, H' x.1 = some x.2 ∧ H x.1 = none) := by
 refine CallT.enter (vs := [.slice A n ca, .int .i64 y]) Tryz.func80 rfl Tryz.ntmps80 (Nat.le_of_ble_eq_true rfl) (SymSt.nil _) fun St c cs hK => ?_
 refine .sr ?_
 refine .g ?_
 refine .done (.sr ?_)
 refine .g ?_
 refine .done (.seq (.sr ?_))
 refine .g ?_
 refine .done (.block ?_)
 refine Tc.db (Tc.loopInv (σ := { x : Nat × Gl 3 1 // x.1 ≤ n ∧ x.2.l = intsL ((l.take x.1).map (· + y)) }) (fun x => ([(0, .slice A n ca), (1, .int .i64 y), (5, x.1.2.val), (6, .int .i64 (x.1.1 : Nat))], x.1.2.bl)) (fun x => n - x.1.1) ?_ ⟨(0, Gl.nil 3 1), Nat.zero_le _, rfl⟩)
 rintro ⟨⟨i, u⟩, g1, g2⟩ ih
 simp only at g1 g2
 have hun : u.n = i := by
   have h1 := u.hl
   rw [g2, intsL_len, List.length_map, List.length_take] at h1
   omega
 show Tc M St _ _ _ _ [(0, .slice A n ca), (1, .int .i64 y), (5, u.val), (6, .int .i64 (i : Nat))] u.bl _ _
 by_cases c1 : i = n
 · rw [c1, hn, List.take_length] at g2
   refine .seq (.sr ?_)
   refine .m ?_
   refine .m ?_
   refine .x .ln ?_
   refine .i ?_ (z := lss_f (by omega))
   refine .done (.ff rfl (.exit rfl (.sr ?_)))
   refine .m ?_
   refine .g ?_
   refine .done ?_
   refine .rt hK Tryz.func80 Tryz.results80 [_] ?_
   exact fun H' hs => ⟨hs.base, u, rfl, g2, fun y hy => ⟨hs.at_ y (by simp [hy]), hs.out y (by simp [hy])⟩⟩
 · have c3 : i < l.length := by omega
   rcases hA with hN | ⟨a1, a2, a3, a4, a5, a6, rfl, a7, a8⟩
   · rw [hN] at hn; simp at hn; omega
   have f1 := a8 i c3
   have hxx : -100000 ≤ l[i]?.getD 0 ∧ l[i]?.getD 0 ≤ 100000 := by
     rw [List.getElem?_eq_getElem c3]
     exact hb _ (List.getElem_mem c3)
   refine .seq (.sr ?_)
   refine .m ?_
   refine .m ?_
   refine .x .ln ?_
   refine .i ?_ (z := lss_t (by omega))
   refine .done (.tt rfl (.skip (.seq (.block (.r ?_)))))
   refine .m ?_
   refine .m ?_
   refine .m ?_
   refine .x .ia ?_
   refine .x .l0 ?_
   refine .m ?_
   refine .i ?_ (z := add_in (by omega) (by omega))
   refine .e (.bs (zz := fun bs => ?_))
   refine .e (Or.append (E := en) 1 rfl rfl rfl rfl rfl rfl rfl rfl rfl rfl rfl rfl rfl rfl rfl (fun H hs => SrcAt.of (hs.get (i := 0) rfl) (Nat.le_of_ble_eq_true rfl)) rfl (by omega) rfl (by decide) (fun u' hn' hl => ?_))
   refine .g ?_
   refine .done (.inBlock (.r ?_))
   refine .m ?_
   refine .i ?_ (z := add_in (by omega) (by omega))
   refine .g ?_
   refine .done ?_
   exact Tc.db (ih ⟨(i + 1, u'), by simp only; omega, by simp only; rw [hl, g2, List.take_succ_eq_append_getElem c3]; unfold intsL; rw [List.map_append, List.map_append, List.getElem?_eq_getElem c3]; rfl⟩ (by simp only; omega))
end
end Go.Proofs.YtpdaenfglbgfkaaGreatDoor
