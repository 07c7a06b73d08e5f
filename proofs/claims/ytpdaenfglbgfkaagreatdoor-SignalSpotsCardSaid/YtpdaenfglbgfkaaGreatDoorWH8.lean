/-
  The junctions of Spots are the fewest that make all sections sure: the walk.
-/
import Derived.Test.YtpdaenfglbgfkaaGreatDoorW08
import Derived.Test.YtpdaenfglbgfkaaGreatDoorWH7
namespace Go.Proofs.YtpdaenfglbgfkaaGreatDoor
open Go.RL
set_option maxRecDepth 10000
set_option maxHeartbeats 8000000
def better (a b : List Nat) : Prop := a.length < b.length ∨ (a.length = b.length ∧ leL (numsL a) (numsL b))
theorem cmp_pos : ∀ {l m : List Int}, 0 < cmpL l m → leL m l
 | [], [], h => by simp [cmpL] at h
 | [], _ :: _, h => by simp [cmpL] at h
 | _ :: _, [], _ => trivial
 | a :: l, b :: m, h => by
   unfold cmpL at h
   split at h
   · rename_i e
     have : a = b := by
       unfold cmpI at e
       split at e
       · cases e
       · split at e
         · cases e
         · omega
     subst this
     exact .inr ⟨rfl, cmp_pos h⟩
   · unfold cmpI at h
     split at h
     · omega
     · split at h
       · rename_i h1; exact .inl h1
       · omega
theorem cmp_neg : ∀ {l m : List Int}, l.length = m.length → ¬ 0 < cmpL l m → leL l m
 | [], _, _, _ => trivial
 | _ :: _, [], h, _ => by simp at h
 | a :: l, b :: m, hl, h => by
   unfold cmpL at h
   split at h
   · rename_i e
     have : a = b := by
       unfold cmpI at e
       split at e
       · cases e
       · split at e
         · cases e
         · omega
     subst this
     exact .inr ⟨rfl, cmp_neg (by simpa using hl) h⟩
   · rename_i e
     unfold cmpI at h e
     split at h
     · rename_i h1; exact .inl h1
     · split at h
       · omega
       · rename_i h1 h2
         rw [if_neg h1, if_neg h2] at e
         exact absurd rfl e
theorem nums_len (l : List Nat) : (numsL l).length = l.length := by simp [numsL]
theorem Ch.spots_best (c : Ch) : ∀ k : Nat, match c.spotsTo k with
   | none => ∀ mask, mask < k → (c.on (bitsL mask (c.n - 1))).first ≠ none
   | some b => (∃ mask, mask < k ∧ b = bitsL mask (c.n - 1)) ∧ (c.on b).first = none ∧ ∀ mask, mask < k → (c.on (bitsL mask (c.n - 1))).first = none → better b (bitsL mask (c.n - 1))
 | 0 => fun mask h => by omega
 | k + 1 => by
   have ih := c.spots_best k
   show match c.spotStep (c.spotsTo k) k with
     | none => _
     | some b => _
   cases hs : c.spotsTo k with
   | none =>
     rw [hs] at ih
     simp only at ih
     unfold Ch.spotStep
     rw [show skips (bitsL k (c.n - 1)) none = false from rfl]
     cases hf : (c.on (bitsL k (c.n - 1))).first with
     | some s =>
       simp only [Option.isSome_some, if_true, Bool.false_eq_true, if_false]
       intro mask hm
       rcases Nat.lt_succ_iff_lt_or_eq.1 hm with h | rfl
       · exact ih mask h
       · rw [hf]; simp
     | none =>
       simp only [Option.isSome_none, Bool.false_eq_true, if_false]
       refine ⟨⟨k, by omega, rfl⟩, hf, fun mask hm h1 => ?_⟩
       rcases Nat.lt_succ_iff_lt_or_eq.1 hm with h | rfl
       · exact absurd h1 (ih mask h)
       · exact .inr ⟨rfl, leL_refl _⟩
   | some b =>
     rw [hs] at ih
     simp only at ih
     obtain ⟨⟨m0, hm0, hb0⟩, hb, hbest⟩ := ih
     unfold Ch.spotStep
     cases hk : skips (bitsL k (c.n - 1)) (some b) with
     | true =>
       simp only [if_true]
       refine ⟨⟨m0, by omega, hb0⟩, hb, fun mask hm h1 => ?_⟩
       rcases Nat.lt_succ_iff_lt_or_eq.1 hm with h | rfl
       · exact hbest mask h h1
       · unfold skips at hk
         simp only [Bool.or_eq_true, Bool.and_eq_true, decide_eq_true_eq] at hk
         rcases hk with hk | ⟨h2, h3⟩
         · exact .inl hk
         · exact .inr ⟨h2.symm, cmp_pos h3⟩
     | false =>
       cases hf : (c.on (bitsL k (c.n - 1))).first with
       | some s =>
         simp only [Option.isSome_some, if_true, Bool.false_eq_true, if_false]
         refine ⟨⟨m0, by omega, hb0⟩, hb, fun mask hm h1 => ?_⟩
         rcases Nat.lt_succ_iff_lt_or_eq.1 hm with h | rfl
         · exact hbest mask h h1
         · rw [hf] at h1; cases h1
       | none =>
         simp only [Option.isSome_none, Bool.false_eq_true, if_false]
         unfold skips at hk
         simp only [Bool.or_eq_false_iff, Bool.and_eq_false_iff, decide_eq_false_iff_not] at hk
         obtain ⟨k1, k2⟩ := hk
         refine ⟨⟨k, by omega, rfl⟩, hf, fun mask hm h1 => ?_⟩
         rcases Nat.lt_succ_iff_lt_or_eq.1 hm with h | rfl
         · have h4 := hbest mask h h1
           unfold better at h4 ⊢
           by_cases h5 : (bitsL k (c.n - 1)).length < b.length
           · refine .inl ?_
             rcases h4 with h4 | ⟨h4, _⟩ <;> omega
           · have h6 : (bitsL k (c.n - 1)).length = b.length := by omega
             have h7 : leL (numsL (bitsL k (c.n - 1))) (numsL b) := by
               rcases k2 with k2 | k2
               · exact absurd h6 k2
               · exact cmp_neg (by rw [nums_len, nums_len]; exact h6) k2
             rcases h4 with h4 | ⟨h4, h8⟩
             · exact .inl (by omega)
             · exact .inr ⟨by omega, leL_trans h7 h8⟩
         · exact .inr ⟨rfl, leL_refl _⟩
theorem bits_mod : ∀ p : Nat, p < 256 → ∀ k : Nat, k < 4 → bitsL p k = bitsL (p % 2 ^ k) k := by decide +kernel
theorem Ascending_bits (M : Md Tryz.prog) (H : View) (mask k : Nat) (hk : k ≤ 1000) (A : Option Addr) (n ca : Nat) (hn : n = (bitsL mask k).length) (m : Int) (hm : m = (k : Nat)) (hA : Nums H A (numsL (bitsL mask k))) : CallT M 38 #[.slice A n ca, .int .i64 m] H (fun v H' => H.le H' ∧ v = .int .i64 0) := by
 have hbl := bits_len mask k
 have hg : ∀ i : Nat, i < (bitsL mask k).length → (numsL (bitsL mask k))[i]?.getD 0 = (((bitsL mask k)[i]?.getD 0 : Nat) : Int) := fun i hi => by
   unfold numsL
   rw [List.getElem?_map, List.getElem?_eq_getElem hi]
   rfl
 refine Ascending_good M H A (numsL (bitsL mask k)) n ca m (by rw [nums_len]; exact hn) (by omega) (by omega) hA (fun i hi => ?_) (fun i h0 hi => ?_)
 · rw [hg i (by omega)]
   have := bits_get (mask := mask) (k := k) (i := i) (by omega)
   omega
 · rw [hg i (by omega), hg (i - 1) (by omega)]
   obtain ⟨j, rfl⟩ : ∃ j, i = j + 1 := ⟨i - 1, by omega⟩
   have := bits_mono (mask := mask) (k := k) (i := j) (by omega)
   rw [show j + 1 - 1 = j by omega]
   omega
theorem Spots_w {St : View → Goroutine → Prop} {cs : List Frame} (H : View) (hG : Glob H) (ch : Ch) (hm0 : ch.m = 0) (A : Option Addr) (lc : Nat) (hA : LinesAt H ch A lc) (p : Nat) (hp : p < 256)
   (hR : ∀ (H₀ : View) (R : Rg) (L : Bl) (kk : List Item), lk R 4 = some (.bool true) → H.le H₀ → Tc (Mp Tryz.prog) St 97 ⟨10, .normal, none⟩ H₀ cs R L [] (.code .ret :: kk)) :
   Tc (Mp Tryz.prog) St 97 ⟨10, .normal, none⟩ H cs (argR [ch.valA A lc, .int .u8 (p : Nat)]) [] [] [.code (bodyOf Tryz.f10)] := by
 cases hk : ch.fair with
 | false =>
   refine .sr ?_
   refine .e (.bx (zz := fun b2 => ?_))
   refine .g ?_
   refine .done (.seq (.sr ?_))
   refine .x (.ld 0) ?_
   refine .c rfl rfl rfl rfl (fun H hs => .f ca53 rfl (CallT.is (.bool false) (by rewrite [hk]; rfl) (Fits_c _ H ch A lc (hA.le hs.base)))) ?_
   refine .x .nt ?_
   refine .done (.tt rfl (.sr ?_))
   refine .c rfl rfl rfl rfl (fun H hs => .f ca31 rfl (signalled_c H (glob_le hG hs.base))) ?_
   refine .g ?_
   refine .done ?_
   exact hR _ _ _ _ rfl (View.le_refl _)
 | true =>
   have hgd := Ch.fair_good hk hm0
   have hn0 := hgd.ok.n0
   have hn4 := hgd.ok.n4
   obtain ⟨lb, lo, rfl, hC⟩ := hA.ch hn0 hm0
   have hgood := hgd.on p
   have hbl := bits_len p (ch.n - 1)
   obtain ⟨c2, hc2⟩ : ∃ c, c = ch.on (bitsL p (ch.n - 1)) := ⟨_, rfl⟩
   have hm2 : c2.m = (bitsL p (ch.n - 1)).length := by rw [hc2]; rfl
   have hv2 : c2.val7 lb lo lc = ch.val7 lb lo lc := by rw [hc2]; rfl
   rw [← hc2] at hgood
   have hpm : bitsL p (ch.n - 1) = bitsL (p % 2 ^ (ch.n - 1)) (ch.n - 1) := bits_mod p hp _ (by omega)
   have hpl : p % 2 ^ (ch.n - 1) < 2 ^ (ch.n - 1) := Nat.mod_lt _ (Nat.two_pow_pos _)
   have hbest := ch.spots_best (2 ^ (ch.n - 1))
   obtain ⟨t, ht⟩ : ∃ t, t = ch.spots.isSome := ⟨_, rfl⟩
   obtain ⟨b, hb⟩ : ∃ b, b = ch.spots.getD [] := ⟨_, rfl⟩
   obtain ⟨mask, hbm⟩ : ∃ mask, b = bitsL mask (ch.n - 1) := by
     have hs : ch.spots = ch.spotsTo (2 ^ (ch.n - 1)) := rfl
     cases ho : ch.spotsTo (2 ^ (ch.n - 1)) with
     | none => exact ⟨0, by rw [hb, hs, ho]; show [] = bitsL 0 _; unfold bitsL bitM; simp⟩
     | some x =>
       rw [ho] at hbest
       obtain ⟨⟨m, _, h⟩, _⟩ := hbest
       exact ⟨m, by rw [hb, hs, ho]; exact h⟩
   have hblen : b.length ≤ ch.n - 1 := by rw [hbm]; exact bits_len _ _
   have hfn : t = false → b = [] := fun h => by
     rw [ht] at h
     rw [hb]
     cases ho : ch.spots with
     | none => rfl
     | some x => rw [ho] at h; cases h
   have hnone : t = false → c2.first ≠ none := fun h => by
     have hs : ch.spots = ch.spotsTo (2 ^ (ch.n - 1)) := rfl
     cases ho : ch.spotsTo (2 ^ (ch.n - 1)) with
     | none =>
       rw [ho] at hbest
       rw [hc2, hpm]
       exact hbest _ hpl
     | some x => rw [ht, hs, ho] at h; cases h
   have hsome : t = true → (ch.on b).first = none ∧ (c2.first = none → better b (bitsL p (ch.n - 1))) := fun h => by
     have hs : ch.spots = ch.spotsTo (2 ^ (ch.n - 1)) := rfl
     cases ho : ch.spotsTo (2 ^ (ch.n - 1)) with
     | none => rw [ht, hs, ho] at h; cases h
     | some x =>
       rw [ho] at hbest
       obtain ⟨_, h1, h2⟩ := hbest
       have hbx : b = x := by rw [hb, hs, ho]; rfl
       rw [hbx]
       refine ⟨h1, fun h3 => ?_⟩
       rw [hpm]
       rw [hc2, hpm] at h3
       exact h2 _ hpl h3
   have hspq : ∀ H', H.le H' → CallT (Mp Tryz.prog) 54 #[ch.val7 lb lo lc] H' (fun v H'' => H'.le H'' ∧ ∃ g : Gl 3 1, v = .tuple ⟨[g.val, .bool t, .int .i64 0]⟩ ∧ g.l = placesV b ∧ ∀ y ∈ g.bl, H'' y.1 = some y.2 ∧ H' y.1 = none) := fun H' hl => by
     rw [ht, hb]
     exact Spots_c H' ch lb lo lc none (hC.le hl) hgd (glob_le hG hl)
   refine .sr ?_
   refine .e (.bx (zz := fun b2 => ?_))
   refine .g ?_
   refine .done (.seq (.sr ?_))
   refine .x (.ld 0) ?_
   refine .c rfl rfl rfl rfl (fun H hs => .f ca53 rfl (CallT.is (.bool true) (by rewrite [hk]; rfl) (Fits_c _ H ch _ lc (hA.le hs.base)))) ?_
   refine .x .nt ?_
   refine .done (.ff rfl (.skip (.sr ?_)))
   refine .x (.ld 0) ?_
   refine .e (Or.callNew (fun g : Gl 3 1 => .tuple ⟨[g.val, .bool t, .int .i64 0]⟩) Gl.bl (fun g : Gl 3 1 => g.l = placesV b) rfl rfl rfl rfl rfl (by decide) gl_nodup (fun H hs => .f ca54 rfl (hspq H hs.base)) (fun g hg => ?_))
   refine .m ?_
   refine .x .et ?_
   refine .x .et ?_
   refine .x .et ?_
   refine .g ?_
   refine .g ?_
   refine .g ?_
   refine .done ?_
   have hgn := gl_len hg
   refine Tc.lift (L₂ := [(b2, true, .cells ⟨(ch.val7 lb lo lc).cells.toList⟩ 73 (0, 0))]) (L₁ := g.bl) rfl (fun Hx hx => ?_)
   have hGx := glob_le hG hx.base
   have hle := hx.base
   have hCb : ChAt Hx (ch.on b) lb lo lc (g.blk.map fun b => ⟨b, 0, none⟩) := (hC.le hx.base).on hg (fun y hy => hx.at_ y hy)
   have hNb := (Nums.of (H := Hx) (hg.trans (places_nums b)) (fun y hy => hx.at_ y hy)).2
   have hCx := hC.le hx.base
   clear hx hspq
   have hgoodb : (ch.on b).Good := by rw [hbm]; exact hgd.on mask
   have hvb : (ch.on b).val7 lb lo lc = ch.val7 lb lo lc := rfl
   have hasc : ∀ H', Hx.le H' → CallT (Mp Tryz.prog) 38 #[g.val, .int .i64 ((ch.n : Nat) - 1)] H' (fun v H'' => H'.le H'' ∧ v = .int .i64 0) := fun H' hl =>
     Ascending_bits _ H' mask (ch.n - 1) (by omega) _ g.n g.cap (by rw [← hbm]; exact hgn) _ (by omega) (by rw [← hbm]; exact hNb.le hl)
   refine .seq (.seq ?_)
   refine Tc.via2 (fun R' L' => AllIn [(1, .int .u8 (p : Nat)), (2, .pointer (some ⟨b2, 0, none⟩)), (5, g.val), (6, .bool t)] R' ∧ L' = [(b2, true, .cells ⟨(ch.val7 lb lo lc).cells.toList⟩ 73 (0, 0))]) ?_ (fun fin => ?_)
   · rintro R' L' ⟨hRR, rfl⟩
     refine Tc.dropB ?_ hRR (List.Sublist.refl _)
     refine .sr ?_
     refine .x (.ld 0) ?_
     refine .m ?_
     refine .e (Or.callNew Gl.val Gl.bl (fun g : Gl 3 1 => g.l = placesV (bitsL p (ch.n - 1))) rfl rfl rfl rfl rfl (by decide) gl_nodup (fun H hs => .f ca55 rfl (spots_c _ H ch lb lo lc p hp hn0 hn4)) (fun q hq => ?_))
     refine .g ?_
     refine .done ?_
     have hqn : q.n = c2.m := by rw [hm2]; exact gl_len hq
     refine Tc.lift (L₂ := [(b2, true, .cells ⟨(ch.val7 lb lo lc).cells.toList⟩ 73 (0, 0))]) (L₁ := q.bl) rfl (fun Hy hy => ?_)
     have hGy := glob_le hGx hy.base
     have hle2 := View.le_trans hle hy.base
     have hCq : ChAt Hy c2 lb lo lc (q.blk.map fun b => ⟨b, 0, none⟩) := by rw [hc2]; exact (hCx.le hy.base).on hq (fun y hy' => hy.at_ y hy')
     have hNq := (Nums.of (H := Hy) (hq.trans (places_nums _)) (fun y hy' => hy.at_ y hy')).2
     have hNby := hNb.le hy.base
     have hCby := hCb.le hy.base
     clear hy
     obtain ⟨t2, ht2⟩ : ∃ t2, c2.first.isSome = t2 := ⟨_, rfl⟩
     have hho : ∀ H', Hy.le H' → CallT (Mp Tryz.prog) 56 #[ch.val7 lb lo lc, q.val] H' (fun v H'' => H'.le H'' ∧ v = .tuple ⟨[.bool (!t2), .int .i64 0]⟩) := fun H' hl => by
       rw [← hv2]
       exact Holds_c H' c2 lb lo lc q.cap _ (hCq.le hl) hgood (glob_le hGy hl) q.n hqn t2 ht2
     have hles : ∀ H', Hy.le H' → CallT (Mp Tryz.prog) 57 #[q.val, g.val] H' (fun v H'' => H'.le H'' ∧ v = .bool (lesserL (numsL (bitsL p (ch.n - 1))) (numsL b))) := fun H' hl =>
       Lesser_c _ H' _ _ _ _ q.n g.n q.cap g.cap (by rw [nums_len, hqn, hm2]) (by rw [nums_len, hgn]) (by omega) (by omega) (hNq.le hl) (hNby.le hl)
     refine .sr ?_
     refine .x (.ld 0) ?_
     refine .m ?_
     refine .c rfl rfl rfl rfl (fun H hs => .f ca56 rfl (hho H hs.base)) ?_
     refine .m ?_
     refine .x .et ?_
     refine .x .et ?_
     refine .g ?_
     refine .g ?_
     refine .done ?_
     refine Tc.dropB (R' := [(2, .pointer (some ⟨b2, 0, none⟩)), (5, g.val), (6, .bool t), (7, .int .i64 0), (8, q.val), (9, .bool (!t2))]) (L' := [(b2, true, .cells ⟨(ch.val7 lb lo lc).cells.toList⟩ 73 (0, 0))]) ?_ ⟨rfl, rfl, rfl, rfl, rfl, rfl, trivial⟩ (List.Sublist.refl _)
     refine .seq (.seq ?_)
     refine Tc.via2 (fun R' L' => AllIn [(2, .pointer (some ⟨b2, 0, none⟩)), (5, g.val), (6, .bool t)] R' ∧ L' = [(b2, true, .cells ⟨(ch.val7 lb lo lc).cells.toList⟩ 73 (0, 0))]) ?_ (fun fin2 => ?_)
     · rintro R' L' ⟨hRR, rfl⟩
       refine Tc.dropB ?_ hRR (List.Sublist.refl _)
       cases t with
       | false =>
         refine .seq (.sr ?_)
         refine .m ?_
         refine .x .nt ?_
         refine .done (.tt rfl (.sr ?_))
         refine .c rfl rfl rfl rfl (fun H hs => .f ca31 rfl (signalled_c H (glob_le hGy hs.base))) ?_
         refine .g ?_
         refine .done ?_
         exact hR _ _ _ _ rfl hle2
       | true =>
         have hfb := (hsome rfl).1
         have hho2 : ∀ H', Hy.le H' → CallT (Mp Tryz.prog) 56 #[ch.val7 lb lo lc, g.val] H' (fun v H'' => H'.le H'' ∧ v = .tuple ⟨[.bool true, .int .i64 0]⟩) := fun H' hl => by
           rw [← hvb]
           exact Holds_c H' (ch.on b) lb lo lc g.cap _ (hCby.le hl) hgoodb (glob_le hGy hl) g.n hgn false (by rw [hfb]; rfl)
         refine .seq (.sr ?_)
         refine .m ?_
         refine .x .nt ?_
         refine .done (.ff rfl (.skip (.sr ?_)))
         refine .x (.ld 0) ?_
         refine .m ?_
         refine .c rfl rfl rfl rfl (fun H hs => .f ca56 rfl (hho2 H hs.base)) ?_
         refine .m ?_
         refine .x .et ?_
         refine .x .et ?_
         refine .g ?_
         refine .g ?_
         refine .done (.sr ?_)
         refine .m ?_
         refine .i ?_ (z := eql_t (by omega))
         refine .m ?_
         refine .m ?_
         refine .x .pk ?_
         refine .m ?_
         refine .c rfl rfl rfl rfl (fun H hs => .f ca31 rfl (signalled_c H (glob_le hGy hs.base))) ?_
         refine .x .pk ?_
         refine .g ?_
         refine .done ?_
         exact hR _ _ _ _ rfl hle2
     · cases hf2 : c2.first with
       | some s =>
         have e2 : t2 = true := by rw [← ht2, hf2]; rfl
         subst e2
         refine .r ?_
         refine .m ?_
         refine .i ?_ (z := neq_f (by omega))
         refine .m ?_
         refine .m ?_
         refine .m ?_
         refine .sk ?_
         refine .sk ?_
         refine .x .pk ?_
         refine .x .pk ?_
         refine .m ?_
         refine .m ?_
         refine .m ?_
         refine .sk ?_
         refine .sk ?_
         refine .sk ?_
         refine .sk ?_
         refine .sk ?_
         refine .sk ?_
         refine To.skippedU rfl (by decide) rfl ?_
         refine To.skippedU rfl (by decide) rfl ?_
         refine To.skippedU rfl (by decide) rfl ?_
         refine To.skippedU rfl (by decide) rfl ?_
         refine To.skippedU rfl (by decide) rfl ?_
         refine To.skippedU rfl (by decide) rfl ?_
         refine To.skippedU rfl (by decide) rfl ?_
         refine To.skippedU rfl (by decide) rfl ?_
         refine To.skippedU rfl (by decide) rfl ?_
         refine To.skippedU rfl (by decide) rfl ?_
         refine .sk ?_
         refine .x .pk ?_
         refine .x .pk ?_
         refine .done (.ff rfl (.skip ?_))
         exact fin2 _ _ ⟨⟨rfl, rfl, rfl, trivial⟩, rfl⟩
       | none =>
         have e2 : t2 = false := by rw [← ht2, hf2]; rfl
         subst e2
         cases t with
         | false => exact absurd hf2 (hnone rfl)
         | true =>
           have hbt := (hsome rfl).2 hf2
           have hlen : b.length ≤ (bitsL p (ch.n - 1)).length := by rcases hbt with h | ⟨h, _⟩ <;> omega
           have hqg : q.n = (bitsL p (ch.n - 1)).length := by rw [hqn, hm2]
           by_cases he : (bitsL p (ch.n - 1)).length = b.length
           · have hl0 : lesserL (numsL (bitsL p (ch.n - 1))) (numsL b) = false := by
               rcases hbt with h | ⟨_, h⟩
               · omega
               · exact leL_not h
             rw [hl0] at hles
             refine .r ?_
             refine .m ?_
             refine .i ?_ (z := neq_f (by omega))
             refine .m ?_
             refine .m ?_
             refine .m ?_
             refine .m ?_
             refine .x .nt ?_
             refine .x .pk ?_
             refine .x .pk ?_
             refine .m ?_
             refine .m ?_
             refine .m ?_
             refine .m ?_
             refine .x .ln ?_
             refine .m ?_
             refine .x .ln ?_
             refine .i ?_ (z := lss_f (by omega))
             refine .m ?_
             refine .m ?_
             refine .x .ln ?_
             refine .m ?_
             refine .x .ln ?_
             refine .i ?_ (z := eql_t (by omega))
             refine .m ?_
             refine .m ?_
             refine .m ?_
             refine .c rfl rfl rfl rfl (fun H hs => .f ca57 rfl (hles H hs.base)) ?_
             refine .x .pk ?_
             refine .x .pk ?_
             refine .x .pk ?_
             refine .x .pk ?_
             refine .done (.ff rfl (.skip ?_))
             exact fin2 _ _ ⟨⟨rfl, rfl, rfl, trivial⟩, rfl⟩
           · refine .r ?_
             refine .m ?_
             refine .i ?_ (z := neq_f (by omega))
             refine .m ?_
             refine .m ?_
             refine .m ?_
             refine .m ?_
             refine .x .nt ?_
             refine .x .pk ?_
             refine .x .pk ?_
             refine .m ?_
             refine .m ?_
             refine .m ?_
             refine .m ?_
             refine .x .ln ?_
             refine .m ?_
             refine .x .ln ?_
             refine .i ?_ (z := lss_f (by omega))
             refine .m ?_
             refine .m ?_
             refine .x .ln ?_
             refine .m ?_
             refine .x .ln ?_
             refine .i ?_ (z := eql_f (by omega))
             refine .m ?_
             refine .sk ?_
             refine .sk ?_
             refine .sk ?_
             refine .x .pk ?_
             refine .x .pk ?_
             refine .x .pk ?_
             refine .x .pk ?_
             refine .done (.ff rfl (.skip ?_))
             exact fin2 _ _ ⟨⟨rfl, rfl, rfl, trivial⟩, rfl⟩
   · cases t with
     | true =>
       refine .r ?_
       refine .m ?_
       refine .i ?_ (z := neq_f (by omega))
       refine .m ?_
       refine .m ?_
       refine .x .fa ?_
       refine .x (.ld 0) ?_
       refine .x .ln ?_
       refine .i ?_ (z := sub_in (by omega) (by omega))
       refine .c rfl rfl rfl rfl (fun H hs => .f ca38 rfl (hasc H hs.base)) ?_
       refine .i ?_ (z := neq_f (by omega))
       refine .x .pk ?_
       refine .m ?_
       refine .m ?_
       refine .x .nt ?_
       refine .m ?_
       refine .sk ?_
       refine .sk ?_
       refine .sk ?_
       refine .x .pk ?_
       refine .x .pk ?_
       refine .done (.ff rfl (.skip ?_))
       exact fin _ _ ⟨⟨rfl, rfl, rfl, rfl, trivial⟩, rfl⟩
     | false =>
       have hb0 := hfn rfl
       have hg0 : g.n = 0 := by rw [hgn, hb0]; rfl
       refine .r ?_
       refine .m ?_
       refine .i ?_ (z := neq_f (by omega))
       refine .m ?_
       refine .m ?_
       refine .x .fa ?_
       refine .x (.ld 0) ?_
       refine .x .ln ?_
       refine .i ?_ (z := sub_in (by omega) (by omega))
       refine .c rfl rfl rfl rfl (fun H hs => .f ca38 rfl (hasc H hs.base)) ?_
       refine .i ?_ (z := neq_f (by omega))
       refine .x .pk ?_
       refine .m ?_
       refine .m ?_
       refine .x .nt ?_
       refine .m ?_
       refine .m ?_
       refine .x .ln ?_
       refine .i ?_ (z := gtr_f (by omega))
       refine .x .pk ?_
       refine .x .pk ?_
       refine .done (.ff rfl (.skip ?_))
       exact fin _ _ ⟨⟨rfl, rfl, rfl, rfl, trivial⟩, rfl⟩
end Go.Proofs.YtpdaenfglbgfkaaGreatDoor
