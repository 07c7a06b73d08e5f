/-
  A chain holds just if each section has a link that is sure of all codes: the walk.
-/
import Derived.Test.YtpdaenfglbgfkaaGreatDoorW08
import Derived.Test.YtpdaenfglbgfkaaGreatDoorWH3
import Derived.Test.YtpdaenfglbgfkaaGreatDoorWH6
namespace Go.Proofs.YtpdaenfglbgfkaaGreatDoor
open Go.RL
set_option maxRecDepth 10000
set_option maxHeartbeats 8000000
theorem Ch.first_none {c : Ch} (h : c.first = none) : ∀ i, i ≤ c.m → c.isBad i = false := fun i hi => (firstTo_none _).1 h i (by omega)
theorem Ch.first_some {c : Ch} {s : Nat} (h : c.first = some s) : c.isBad s = true ∧ s ≤ c.m ∧ ∀ i, i < s → c.isBad i = false := by
 obtain ⟨h1, h2, h3⟩ := firstTo_spec h
 exact ⟨h1, by omega, h3⟩
theorem Ch.fine_at {c : Ch} {i : Nat} (h : c.isBad i = false) : c.fits i = true ∧ (c.lk i).weak = none := by
 unfold Ch.isBad Ch.bad at h
 cases hf : c.fits i with
 | false => rw [hf] at h; cases h
 | true =>
   rw [hf] at h
   refine ⟨rfl, ?_⟩
   cases hw : (c.lk i).weak with
   | none => rfl
   | some n => rw [hw] at h; cases h
theorem sure_len {k : Lk} (h : k.weak = none) : (keepTo k.sureOf 32).length = 32 := Lk.keep_sure.2 (Lk.weak_none.1 h)
theorem Lk.weak_some {k : Lk} {n : Nat} (h : k.weak = some n) : n < 32 ∧ k.sureOf n = false ∧ ∀ i, i < n → k.sureOf i = true := by
 obtain ⟨h1, h2, h3⟩ := firstTo_spec h
 unfold Lk.weakAt at h1 h3
 unfold Lk.sureOf
 refine ⟨h2, ?_, fun i hi => ?_⟩
 · cases hw : k.wrong n with
   | none => rw [hw] at h1; cases h1
   | some x => rfl
 · have := h3 i hi
   cases hw : k.wrong i with
   | none => rfl
   | some x => rw [hw] at this; cases this
theorem keepI_succ (p : Nat → Bool) (k : Nat) : keepI p (k + 1) = if p k then keepI p k ++ [(k : Int)] else keepI p k := by
 unfold keepI
 rw [List.range_succ, List.filter_append]
 cases h : p k <;> simp [h]
theorem keepI_full {p : Nat → Bool} : ∀ {n : Nat}, (∀ i, i < n → p i = true) → keepI p n = numsL (List.range n)
 | 0, _ => rfl
 | n + 1, h => by
   rw [keepI_succ, h n (by omega), if_pos rfl, keepI_full (fun i hi => h i (by omega)), List.range_succ]
   unfold numsL
   rw [List.map_append]
   rfl
theorem keepI_take {p : Nat → Bool} {n : Nat} (h : ∀ i, i < n → p i = true) : ∀ d : Nat, (keepI p (n + d)).take n = numsL (List.range n) ∧ n ≤ (keepI p (n + d)).length
 | 0 => by
   have e : (numsL (List.range n)).length = n := by simp [numsL]
   rw [Nat.add_zero, keepI_full h]
   exact ⟨by rw [List.take_of_length_le (by omega)], by omega⟩
 | d + 1 => by
   obtain ⟨h1, h2⟩ := keepI_take h d
   rw [show n + (d + 1) = (n + d) + 1 by omega, keepI_succ]
   split
   · refine ⟨?_, by rw [List.length_append]; omega⟩
     rw [List.take_append_of_le_length h2]
     exact h1
   · exact ⟨h1, h2⟩
theorem Nums.take {H : View} {A : Option Addr} {l : List Int} (h : Nums H A l) {n : Nat} (hn : n ≤ l.length) : Nums H A (l.take n) := by
 rcases h with h | ⟨ab, ao, f, gs, gt, gz, h1, h2, h3⟩
 · exact .inl (by rw [h]; simp)
 · refine .inr ⟨ab, ao, f, gs, gt, gz, h1, h2, fun j hj => ?_⟩
   have hj' : j < n := by rw [List.length_take] at hj; omega
   rw [List.getElem?_take_of_lt hj']
   exact h3 j (by omega)
theorem Weak_n (H : View) (ch : Ch) (lb lo lc ac : Nat) (A : Option Addr) (hA : ChAt H ch lb lo lc A) (hg : ch.Good) (hG : Glob H) (n : Nat) (hn : n = ch.m) (s : Nat) (z : Int) (t : Bool) (hs : ch.sec = s) (hz : (ch.bad ch.sec).getD 0 = z) (ht : ch.first.isSome = t) :
   CallT (Mp Tryz.prog) 58 #[ch.val7 lb lo lc, .slice A n ac] H (fun v H' => H.le H' ∧ v = .tuple ⟨[.int .i64 (s : Nat), .int .i64 z, .bool t, .int .i64 0]⟩) := by
 subst hn hs hz ht
 exact Weak_c H ch lb lo lc ac A hA hg hG
theorem LinesAt.ch {H : View} {ch : Ch} {A : Option Addr} {lc : Nat} (h : LinesAt H ch A lc) (h0 : 0 < ch.n) (hm : ch.m = 0) : ∃ lb lo, A = some ⟨lb, lo, none⟩ ∧ ChAt H ch lb lo lc none := by
 obtain ⟨hlc, hz | ⟨lb, lo, f, gs, gt, gz, rfl, h1, h2⟩⟩ := h
 · omega
 · exact ⟨lb, lo, rfl, ⟨f, gs, gt, gz, h1, h2⟩, hlc, fun hm' => by omega⟩
theorem refLink_ok (M : Md Tryz.prog) (H : View) (k : Lk) (hk : k.ok = true) : CallT M 61 #[k.val] H (fun v H' => H.le H' ∧ v = .int .i64 0) :=
 CallT.mono (refLink_c M H k) (by rintro v H' ⟨h1, h2⟩; rw [hk] at h2; exact ⟨h1, h2⟩)
theorem Holds_w {St : View → Goroutine → Prop} {cs : List Frame} (H : View) (hG : Glob H) (ch : Ch) (hm0 : ch.m = 0) (A : Option Addr) (lc : Nat) (hA : LinesAt H ch A lc) (p : Nat) (hp : p < 256)
   (hR : ∀ (H₀ : View) (R : Rg) (L : Bl) (kk : List Item), lk R 4 = some (.bool true) → H.le H₀ → Tc (Mp Tryz.prog) St 151 ⟨11, .normal, none⟩ H₀ cs R L [] (.code .ret :: kk)) :
   Tc (Mp Tryz.prog) St 151 ⟨11, .normal, none⟩ H cs (argR [ch.valA A lc, .int .u8 (p : Nat)]) [] [] [.code (bodyOf Tryz.f11)] := by
 cases hk : ch.fair with
 | false =>
   refine .sr ?_
   refine .e (.bx (zz := fun b2 => ?_))
   refine .g ?_
   refine .done (.seq (.sr ?_))
   refine .x (.ld 0) ?_
   refine .c rfl rfl rfl rfl (fun H hs => .f ca53 rfl (CallT.is (.bool false) (by rewrite [hk]; rfl) (Fits_c _ H ch A lc (hA.le hs.base)))) ?_
   refine .x .nt ?_
   refine .done (.tt rfl (.sr ?_))
   refine .c rfl rfl rfl rfl (fun H hs => .f ca31 rfl (signalled_c H (glob_le hG hs.base))) ?_
   refine .g ?_
   refine .done ?_
   exact hR _ _ _ _ rfl (View.le_refl _)
 | true =>
   have hgd := Ch.fair_good hk hm0
   have hn0 := hgd.ok.n0
   have hn4 := hgd.ok.n4
   obtain ⟨lb, lo, rfl, hC⟩ := hA.ch hn0 hm0
   have hgood := hgd.on p
   have hbl := bits_len p (ch.n - 1)
   obtain ⟨c2, hc2⟩ : ∃ c, c = ch.on (bitsL p (ch.n - 1)) := ⟨_, rfl⟩
   have hm2 : c2.m = (bitsL p (ch.n - 1)).length := by rw [hc2]; rfl
   have hv2 : c2.val7 lb lo lc = ch.val7 lb lo lc := by rw [hc2]; rfl
   rw [← hc2] at hgood
   refine .sr ?_
   refine .e (.bx (zz := fun b2 => ?_))
   refine .g ?_
   refine .done (.seq (.sr ?_))
   refine .x (.ld 0) ?_
   refine .c rfl rfl rfl rfl (fun H hs => .f ca53 rfl (CallT.is (.bool true) (by rewrite [hk]; rfl) (Fits_c _ H ch _ lc (hA.le hs.base)))) ?_
   refine .x .nt ?_
   refine .done (.ff rfl (.skip (.sr ?_)))
   refine .x (.ld 0) ?_
   refine .m ?_
   refine .e (Or.callNew Gl.val Gl.bl (fun g : Gl 3 1 => g.l = placesV (bitsL p (ch.n - 1))) rfl rfl rfl rfl rfl (by decide) gl_nodup (fun H hs => .f ca55 rfl (spots_c _ H ch lb lo lc p hp hn0 hn4)) (fun g hg => ?_))
   refine .g ?_
   refine .done ?_
   have hgn : g.n = c2.m := by rw [hm2]; exact gl_len hg
   refine Tc.lift (L₂ := [(b2, true, .cells ⟨(ch.val7 lb lo lc).cells.toList⟩ 73 (0, 0))]) (L₁ := g.bl) rfl (fun Hx hx => ?_)
   have hGx := glob_le hG hx.base
   have hle := hx.base
   have hCx : ChAt Hx c2 lb lo lc (g.blk.map fun b => ⟨b, 0, none⟩) := by rw [hc2]; exact (hC.le hx.base).on hg (fun y hy => hx.at_ y hy)
   clear hx
   have hsec : ∀ i, i ≤ c2.m → c2.fits i = true → ∀ H', Hx.le H' → CallT (Mp Tryz.prog) 60 #[ch.val7 lb lo lc, g.val, .int .i64 (i : Nat)] H' (fun v H'' => H'.le H'' ∧ v = .tuple ⟨[(c2.lk i).val, .int .i64 0]⟩) := fun i hi hf H' hl => by
     rw [← hv2]
     exact Section_yes _ H' c2 lb lo lc g.cap _ (hCx.le hl) hgood (glob_le hGx hl) g.n hgn i hi hf
   have hsec0 : ∀ i, i ≤ c2.m → c2.fits i = false → ∀ H', Hx.le H' → CallT (Mp Tryz.prog) 60 #[ch.val7 lb lo lc, g.val, .int .i64 (i : Nat)] H' (fun v H'' => H'.le H'' ∧ v = .tuple ⟨[lk0.val, .int .i64 1]⟩) := fun i hi hf H' hl => by
     rw [← hv2]
     exact Section_no _ H' c2 lb lo lc g.cap _ (hCx.le hl) hgood (glob_le hGx hl) g.n hgn i hi hf
   cases hfi : c2.first with
   | none =>
     have hnb := Ch.first_none hfi
     have hsc : c2.sec = 0 := by unfold Ch.sec; rw [hfi]; rfl
     have hz0 : (c2.bad c2.sec).getD 0 = 0 := by
       have h1 := hnb 0 (Nat.zero_le _)
       unfold Ch.isBad at h1
       rw [hsc]
       cases hb : c2.bad 0 with
       | none => rfl
       | some z => rw [hb] at h1; cases h1
     have hho : ∀ H', Hx.le H' → CallT (Mp Tryz.prog) 56 #[ch.val7 lb lo lc, g.val] H' (fun v H'' => H'.le H'' ∧ v = .tuple ⟨[.bool true, .int .i64 0]⟩) := fun H' hl => by
       rw [← hv2]
       exact Holds_c H' c2 lb lo lc g.cap _ (hCx.le hl) hgood (glob_le hGx hl) g.n hgn false (by rw [hfi]; rfl)
     have hwe : ∀ H', Hx.le H' → CallT (Mp Tryz.prog) 58 #[ch.val7 lb lo lc, g.val] H' (fun v H'' => H'.le H'' ∧ v = .tuple ⟨[.int .i64 0, .int .i64 0, .bool false, .int .i64 0]⟩) := fun H' hl => by
       rw [← hv2]
       exact Weak_n H' c2 lb lo lc g.cap _ (hCx.le hl) hgood (glob_le hGx hl) g.n hgn 0 0 false hsc hz0 (by rw [hfi]; rfl)
     refine .sr ?_
     refine .x (.ld 0) ?_
     refine .m ?_
     refine .c rfl rfl rfl rfl (fun H hs => .f ca56 rfl (hho H hs.base)) ?_
     refine .m ?_
     refine .x .et ?_
     refine .x .et ?_
     refine .g ?_
     refine .g ?_
     refine .done (.sr ?_)
     refine .x (.ld 0) ?_
     refine .m ?_
     refine .c rfl rfl rfl rfl (fun H hs => .f ca58 rfl (hwe H hs.base)) ?_
     refine .m ?_
     refine .x .et ?_
     refine .x .et ?_
     refine .x .et ?_
     refine .x .et ?_
     refine .g ?_
     refine .g ?_
     refine .g ?_
     refine .g ?_
     refine .done (.seq (.sr ?_))
     refine .m ?_
     refine .i ?_ (z := neq_f (by omega))
     refine .m ?_
     refine .m ?_
     refine .i ?_ (z := neq_f (by omega))
     refine .x .pk ?_
     refine .m ?_
     refine .m ?_
     refine .m ?_
     refine .x .eb ?_
     refine .x .pk ?_
     refine .m ?_
     refine .m ?_
     refine .x .nt ?_
     refine .m ?_
     refine .m ?_
     refine .i ?_ (z := neq_f (by omega))
     refine .m ?_
     refine .m ?_
     refine .i ?_ (z := neq_f (by omega))
     refine .x .pk ?_
     refine .x .pk ?_
     refine .x .pk ?_
     refine .m ?_
     refine .m ?_
     refine .m ?_
     refine .sk ?_
     refine .sk ?_
     refine .sk ?_
     refine .sk ?_
     refine .sk ?_
     refine .x .pk ?_
     refine .x .pk ?_
     refine .done (.ff rfl (.skip (.seq (.sr ?_))))
     refine .g ?_
     refine .done (.block ?_)
     refine Tc.db (Tc.loopInv (σ := { i : Nat // i ≤ c2.m + 1 }) (fun i => ([(2, .pointer (some ⟨b2, 0, none⟩)), (5, g.val), (8, .int .i64 0), (9, .int .i64 0), (10, .bool false), (12, .int .i64 (i.1 : Nat))], [(b2, true, .cells ⟨(ch.val7 lb lo lc).cells.toList⟩ 73 (0, 0))])) (fun i => c2.m + 1 - i.1) ?_ ⟨0, by omega⟩)
     rintro ⟨i, hi⟩ ih
     show Tc (Mp Tryz.prog) St _ _ _ _ [(2, .pointer (some ⟨b2, 0, none⟩)), (5, g.val), (8, .int .i64 0), (9, .int .i64 0), (10, .bool false), (12, .int .i64 (i : Nat))] [(b2, true, .cells ⟨(ch.val7 lb lo lc).cells.toList⟩ 73 (0, 0))] _ _
     by_cases c1 : i = c2.m + 1
     · subst c1
       refine .seq (.sr ?_)
       refine .m ?_
       refine .m ?_
       refine .x .ln ?_
       refine .i ?_ (z := leq_f (by omega))
       refine .done (.ff rfl (.exit rfl (.sr ?_)))
       refine .m ?_
       refine .x .nt ?_
       refine .m ?_
       refine .c rfl rfl rfl rfl (fun H hs => .f ca31 rfl (signalled_c H (glob_le hGx hs.base))) ?_
       refine .x .pk ?_
       refine .g ?_
       refine .done ?_
       exact hR _ _ _ _ rfl hle
     · have hi2 : i ≤ c2.m := by omega
       obtain ⟨hf, hw⟩ := Ch.fine_at (hnb i hi2)
       have hok := hgood.fine i hf
       have h32 := sure_len hw
       refine .seq (.sr ?_)
       refine .m ?_
       refine .m ?_
       refine .x .ln ?_
       refine .i ?_ (z := leq_t (by omega))
       refine .done (.tt rfl (.skip (.seq (.block (.sr ?_)))))
       refine .x (.ld 0) ?_
       refine .m ?_
       refine .m ?_
       refine .c rfl rfl rfl rfl (fun H hs => .f ca60 rfl (hsec i hi2 hf H hs.base)) ?_
       refine .m ?_
       refine .x .et ?_
       refine .x .et ?_
       refine .e (.al (zz := fun b13 => ?_))
       refine .e (.st 0 (zz := ?_))
       refine .g ?_
       refine .done (.sr ?_)
       refine .m ?_
       refine .m ?_
       refine .sk ?_
       refine .sk ?_
       refine .sk ?_
       refine .x .pk ?_
       refine .g ?_
       refine .done (.seq (.sr ?_))
       refine .m ?_
       refine .i ?_ (z := eql_f (by omega))
       refine .done (.ff rfl (.skip (.seq (.sr ?_))))
       refine .m ?_
       refine .i ?_ (z := neq_f (by omega))
       refine .m ?_
       refine .x (.ld 0) ?_
       refine .c rfl rfl rfl rfl (fun H hs => .f ca61 rfl (refLink_ok _ H (c2.lk i) hok)) ?_
       refine .i ?_ (z := neq_f (by omega))
       refine .x .pk ?_
       refine .done (.ff rfl (.skip (.sr ?_)))
       refine .x (.ld 0) ?_
       refine .e (Or.callNew (fun g : Gl 3 1 => .tuple ⟨[g.val, .int .i64 0]⟩) Gl.bl (fun g : Gl 3 1 => g.l = keepTo (c2.lk i).sureOf 32) rfl rfl rfl rfl rfl (by decide) gl_nodup (fun H hs => .f ca26 rfl (Sure_c _ H (c2.lk i) (glob_le hGx hs.base) hok)) (fun x hx => ?_))
       refine .m ?_
       refine .x .et ?_
       refine .x .et ?_
       refine .g ?_
       refine .g ?_
       refine .done ?_
       have hxn : x.n = 32 := by
         have := x.hl
         rw [hx] at this
         omega
       refine .seq (.sr ?_)
       refine .m ?_
       refine .i ?_ (z := neq_f (by omega))
       refine .m ?_
       refine .m ?_
       refine .c rfl rfl rfl rfl (fun H hs => .f ca38 rfl (Ascending_keep _ H x (c2.lk i).sureOf 32 (by decide) hx (fun y hy => hs.at_ y (by simp [hy])))) ?_
       refine .i ?_ (z := neq_f (by omega))
       refine .x .pk ?_
       refine .done (.ff rfl (.skip (.seq (.sr ?_))))
       refine .m ?_
       refine .done (.ff rfl (.skip (.sr ?_)))
       refine .m ?_
       refine .x .ln ?_
       refine .i ?_ (z := neq_f (by omega))
       refine .done (.ff rfl (.skip (.inBlock (.r ?_))))
       refine .m ?_
       refine .i ?_ (z := add_in (by omega) (by omega))
       refine .g ?_
       refine .done ?_
       exact Tc.db (ih ⟨i + 1, by omega⟩ (by simp only; omega))
   | some s =>
     obtain ⟨hsb, hsm, hnb⟩ := Ch.first_some hfi
     have hsc : c2.sec = s := by unfold Ch.sec; rw [hfi]; rfl
     obtain ⟨z, hz⟩ : ∃ z, c2.bad s = some z := Option.isSome_iff_exists.1 hsb
     have hz0 : (c2.bad c2.sec).getD 0 = z := by rw [hsc, hz]; rfl
     have hin : ∀ H', CallT (Mp Tryz.prog) 59 #[.int .i64 (s : Nat), .int .i64 0, .int .i64 (g.n : Nat)] H' (fun v H'' => H'.le H'' ∧ v = .bool true) := fun H' => CallT.mono (In_c _ H' (s : Nat) 0 (g.n : Nat)) (by rintro v H'' ⟨h1, h2⟩; rw [decide_eq_true (by omega)] at h2; exact ⟨h1, h2⟩)
     have hho : ∀ H', Hx.le H' → CallT (Mp Tryz.prog) 56 #[ch.val7 lb lo lc, g.val] H' (fun v H'' => H'.le H'' ∧ v = .tuple ⟨[.bool false, .int .i64 0]⟩) := fun H' hl => by
       rw [← hv2]
       exact Holds_c H' c2 lb lo lc g.cap _ (hCx.le hl) hgood (glob_le hGx hl) g.n hgn true (by rw [hfi]; rfl)
     have hwe : ∀ H', Hx.le H' → CallT (Mp Tryz.prog) 58 #[ch.val7 lb lo lc, g.val] H' (fun v H'' => H'.le H'' ∧ v = .tuple ⟨[.int .i64 (s : Nat), .int .i64 z, .bool true, .int .i64 0]⟩) := fun H' hl => by
       rw [← hv2]
       exact Weak_n H' c2 lb lo lc g.cap _ (hCx.le hl) hgood (glob_le hGx hl) g.n hgn s z true hsc hz0 (by rw [hfi]; rfl)
     refine .sr ?_
     refine .x (.ld 0) ?_
     refine .m ?_
     refine .c rfl rfl rfl rfl (fun H hs => .f ca56 rfl (hho H hs.base)) ?_
     refine .m ?_
     refine .x .et ?_
     refine .x .et ?_
     refine .g ?_
     refine .g ?_
     refine .done (.sr ?_)
     refine .x (.ld 0) ?_
     refine .m ?_
     refine .c rfl rfl rfl rfl (fun H hs => .f ca58 rfl (hwe H hs.base)) ?_
     refine .m ?_
     refine .x .et ?_
     refine .x .et ?_
     refine .x .et ?_
     refine .x .et ?_
     refine .g ?_
     refine .g ?_
     refine .g ?_
     refine .g ?_
     refine .done (.seq (.sr ?_))
     refine .m ?_
     refine .i ?_ (z := neq_f (by omega))
     refine .m ?_
     refine .m ?_
     refine .i ?_ (z := neq_f (by omega))
     refine .x .pk ?_
     refine .m ?_
     refine .m ?_
     refine .m ?_
     refine .x .eb ?_
     refine .x .pk ?_
     refine .m ?_
     refine .m ?_
     refine .x .nt ?_
     refine .m ?_
     refine .sk ?_
     refine .sk ?_
     refine .sk ?_
     refine To.skippedU rfl (by decide) rfl ?_
     refine To.skippedU rfl (by decide) rfl ?_
     refine .sk ?_
     refine .x .pk ?_
     refine .x .pk ?_
     refine .m ?_
     refine .m ?_
     refine .m ?_
     refine .m ?_
     refine .m ?_
     refine .x .ln ?_
     refine .c rfl rfl rfl rfl (fun H hs => .f ca59 rfl (hin H)) ?_
     refine .x .nt ?_
     refine .x .pk ?_
     refine .x .pk ?_
     refine .done (.ff rfl (.skip (.seq (.sr ?_))))
     refine .g ?_
     refine .done (.block ?_)
     refine Tc.db (Tc.loopInv (σ := { i : Nat // i ≤ s }) (fun i => ([(2, .pointer (some ⟨b2, 0, none⟩)), (5, g.val), (8, .int .i64 (s : Nat)), (9, .int .i64 z), (10, .bool true), (12, .int .i64 (i.1 : Nat))], [(b2, true, .cells ⟨(ch.val7 lb lo lc).cells.toList⟩ 73 (0, 0))])) (fun i => s - i.1) ?_ ⟨0, by omega⟩)
     rintro ⟨i, hi⟩ ih
     show Tc (Mp Tryz.prog) St _ _ _ _ [(2, .pointer (some ⟨b2, 0, none⟩)), (5, g.val), (8, .int .i64 (s : Nat)), (9, .int .i64 z), (10, .bool true), (12, .int .i64 (i : Nat))] [(b2, true, .cells ⟨(ch.val7 lb lo lc).cells.toList⟩ 73 (0, 0))] _ _
     by_cases c1 : i = s
     · subst c1
       cases hf : c2.fits i with
       | false =>
         have hzz : z = -1 := by
           unfold Ch.bad at hz
           rw [hf] at hz
           exact (Option.some.inj hz).symm
         subst hzz
         refine .seq (.sr ?_)
         refine .m ?_
         refine .m ?_
         refine .x .ln ?_
         refine .i ?_ (z := leq_t (by omega))
         refine .done (.tt rfl (.skip (.seq (.block (.sr ?_)))))
         refine .x (.ld 0) ?_
         refine .m ?_
         refine .m ?_
         refine .c rfl rfl rfl rfl (fun H hs => .f ca60 rfl (hsec0 i hsm hf H hs.base)) ?_
         refine .m ?_
         refine .x .et ?_
         refine .x .et ?_
         refine .e (.al (zz := fun b13 => ?_))
         refine .e (.st 0 (zz := ?_))
         refine .g ?_
         refine .done (.sr ?_)
         refine .m ?_
         refine .m ?_
         refine .m ?_
         refine .m ?_
         refine .i ?_ (z := eql_t (by omega))
         refine .x .pk ?_
         refine .g ?_
         refine .done (.seq (.sr ?_))
         refine .m ?_
         refine .i ?_ (z := eql_t (by omega))
         refine .done (.tt rfl (.seq (.sr ?_)))
         refine .m ?_
         refine .done (.tt rfl (.sr ?_))
         refine .m ?_
         refine .i ?_ (z := eql_t (by omega))
         refine .m ?_
         refine .c rfl rfl rfl rfl (fun H hs => .f ca31 rfl (signalled_c H (glob_le hGx hs.base))) ?_
         refine .x .pk ?_
         refine .g ?_
         refine .done ?_
         exact hR _ _ _ _ rfl hle
       | true =>
         have hok := hgood.fine i hf
         obtain ⟨w, hw, hzw⟩ : ∃ w : Nat, (c2.lk i).weak = some w ∧ z = (w : Int) := by
           unfold Ch.bad at hz
           rw [if_pos hf] at hz
           cases hwk : (c2.lk i).weak with
           | none => rw [hwk] at hz; cases hz
           | some w => rw [hwk] at hz; exact ⟨w, rfl, (Option.some.inj hz).symm⟩
         subst hzw
         obtain ⟨hw32, hwn, hwl⟩ := Lk.weak_some hw
         obtain ⟨htk, hlen⟩ := keepI_take hwl (32 - w)
         rw [show w + (32 - w) = 32 by omega] at htk hlen
         have hno : ¬ ((w : Int) ∈ keepI (c2.lk i).sureOf 32) := fun h => by rw [(keepI_mem.1 h).2] at hwn; cases hwn
         have hIn : ∀ H', CallT (Mp Tryz.prog) 59 #[.int .i64 (w : Nat), .int .i64 0, .int .i64 31] H' (fun v H'' => H'.le H'' ∧ v = .bool true) := fun H' => CallT.mono (In_c _ H' (w : Nat) 0 31) (by rintro v H'' ⟨h1, h2⟩; rw [decide_eq_true (by omega)] at h2; exact ⟨h1, h2⟩)
         refine .seq (.sr ?_)
         refine .m ?_
         refine .m ?_
         refine .x .ln ?_
         refine .i ?_ (z := leq_t (by omega))
         refine .done (.tt rfl (.skip (.seq (.block (.sr ?_)))))
         refine .x (.ld 0) ?_
         refine .m ?_
         refine .m ?_
         refine .c rfl rfl rfl rfl (fun H hs => .f ca60 rfl (hsec i hsm hf H hs.base)) ?_
         refine .m ?_
         refine .x .et ?_
         refine .x .et ?_
         refine .e (.al (zz := fun b13 => ?_))
         refine .e (.st 0 (zz := ?_))
         refine .g ?_
         refine .done (.sr ?_)
         refine .m ?_
         refine .m ?_
         refine .m ?_
         refine .m ?_
         refine .i ?_ (z := eql_t (by omega))
         refine .x .pk ?_
         refine .g ?_
         refine .done (.seq (.sr ?_))
         refine .m ?_
         refine .i ?_ (z := eql_f (by omega))
         refine .done (.ff rfl (.skip (.seq (.sr ?_))))
         refine .m ?_
         refine .i ?_ (z := neq_f (by omega))
         refine .m ?_
         refine .x (.ld 0) ?_
         refine .c rfl rfl rfl rfl (fun H hs => .f ca61 rfl (refLink_ok _ H (c2.lk i) hok)) ?_
         refine .i ?_ (z := neq_f (by omega))
         refine .x .pk ?_
         refine .done (.ff rfl (.skip (.sr ?_)))
         refine .x (.ld 0) ?_
         refine .e (Or.callNew (fun g : Gl 3 1 => .tuple ⟨[g.val, .int .i64 0]⟩) Gl.bl (fun g : Gl 3 1 => g.l = keepTo (c2.lk i).sureOf 32) rfl rfl rfl rfl rfl (by decide) gl_nodup (fun H hs => .f ca26 rfl (Sure_c _ H (c2.lk i) (glob_le hGx hs.base) hok)) (fun x hx => ?_))
         refine .m ?_
         refine .x .et ?_
         refine .x .et ?_
         refine .g ?_
         refine .g ?_
         refine .done (.seq (.sr ?_))
         refine .m ?_
         refine .i ?_ (z := neq_f (by omega))
         refine .m ?_
         refine .m ?_
         refine .c rfl rfl rfl rfl (fun H hs => .f ca38 rfl (Ascending_keep _ H x (c2.lk i).sureOf 32 (by decide) hx (fun y hy => hs.at_ y (by simp [hy])))) ?_
         refine .i ?_ (z := neq_f (by omega))
         refine .x .pk ?_
         refine .done (.ff rfl (.skip (.seq (.sr ?_))))
         refine .m ?_
         refine .done (.tt rfl (.seq ?_))
         refine Tc.lift (L₂ := [(b13, true, .cells ⟨(c2.lk i).val.cells.toList⟩ 27 (0, 0)), (b2, true, .cells ⟨(ch.val7 lb lo lc).cells.toList⟩ 73 (0, 0))]) (L₁ := x.bl) rfl (fun Hy hy => ?_)
         have hGy := glob_le hGx hy.base
         have hle2 := View.le_trans hle hy.base
         obtain ⟨hxn, hxN⟩ := Nums.of (H := Hy) (hx.trans (keepI_eq _ _)) (fun y hy' => hy.at_ y hy')
         clear hy hx
         obtain ⟨xb, xn, xc, xl, xj, q1, q2, q3, q4⟩ := x
         simp only at hxn hxN
         have hxw : w ≤ xn := by omega
         have hnum : ∀ H', Hy.le H' → CallT (Mp Tryz.prog) 39 #[.slice (xb.map fun b => ⟨b, 0, none⟩) xn xc, .int .i64 (w : Nat)] H' (fun v H'' => H'.le H'' ∧ v = .bool false) := fun H' hl =>
           CallT.mono (HasNum_c _ H' _ _ xn xc (w : Nat) hxn (by have := keepI_len (c2.lk i).sureOf 32; omega) (hxN.le hl)) (by rintro v H'' ⟨h1, h2⟩; rw [decide_eq_false hno] at h2; exact ⟨h1, h2⟩)
         have hsame : ∀ (H' : View) (u : Gl 3 1) (m ca : Nat), Hy.le H' → u.l = placesV (List.range w) → u.n = w → (∀ y ∈ u.bl, H' y.1 = some y.2) → m = w → CallT (Mp Tryz.prog) 23 #[.slice (xb.map fun b => ⟨b, 0, none⟩) m ca, u.val] H' (fun v H'' => H'.le H'' ∧ v = .bool true) := fun H' u m ca hl hu1 hu2 hu3 hm => by
           have e : (numsL (List.range w)).length = w := by simp [numsL]
           exact SameNums_two _ H' _ _ (numsL (List.range w)) m u.n ca u.cap (by rw [e]; exact hm) (by rw [e]; exact hu2) (by rw [e]; omega) (by rw [← htk]; exact (hxN.take hlen).le hl) (Nums.of (by rw [hu1, places_nums]) hu3).2
         cases xb with
         | none =>
           have hc0 := q4 rfl
           have hn0 : xn = 0 := by omega
           have hw0 : w = 0 := by omega
           subst hc0 hn0 hw0
           refine Tc.dropB (R' := [(9, .int .i64 ((0 : Nat) : Int)), (16, .slice none 0 0)]) (L' := []) ?_ ⟨rfl, rfl, trivial⟩ (List.nil_sublist _)
           refine Tc.dr [] [] mixed rfl ?_
           refine .q 0 rfl .mv ?_
           refine .z 1 rfl (OpV.takeCall rfl rfl rfl rfl (fun H hs => .f ca59 rfl (hIn H))) ?_
           refine .q 2 rfl .mv ?_
           refine .q 3 rfl .mv ?_
           refine .q 4 rfl .ln ?_
           refine .q 5 rfl .mv ?_
           refine .q 6 rfl (.it (zz := geq_t (by omega))) ?_
           refine .q 7 rfl .pk ?_
           refine .q 8 rfl .mv ?_
           refine .q 9 rfl .mv ?_
           refine .q 10 rfl .mv ?_
           refine .z 11 rfl (OpV.takeCall rfl rfl rfl rfl (fun H hs => .f ca39 rfl (hnum H hs.base))) ?_
           refine .q 12 rfl .nt ?_
           refine .q 13 rfl .pk ?_
           refine .q 14 rfl .mv ?_
           refine .q 15 rfl .mv ?_
           refine .q 16 rfl .mv ?_
           refine .q 17 rfl (OpV.slice0 (E := en) rfl rfl rfl rfl rfl rfl rfl) ?_
           refine .q 18 rfl .mv ?_
           refine Ta.each [19] (by kernel_rfl) rfl ⟨TaOp.mk rfl rfl rfl (Or.callNew Gl.val Gl.bl (fun g : Gl 3 1 => g.l = placesV (List.range 0) ∧ g.n = 0) rfl rfl rfl rfl rfl (by decide) gl_nodup (fun H hs => .f ca62 rfl (UpTo_c _ H 0 (by decide))) (fun u ⟨hu1, hu2⟩ => ⟨S2.mk (by exact List.nil_sublist _) (.inr (by exact List.nil_sublist _)), ?_⟩)), trivial⟩
           refine Ta.each [20] (by kernel_rfl) rfl ⟨TaOp.mk rfl rfl rfl (Or.ofT (OpV.takeCall rfl rfl rfl rfl (fun H hs => .f ca23 rfl (hsame H u 0 0 hs.base hu1 hu2 (fun y hy => hs.at_ y (by simp [hy])) rfl))) rfl (by decide) ⟨S2.mk (by exact List.nil_sublist _) (.inr (by exact List.nil_sublist _)), ?_⟩), trivial⟩
           refine .q 21 rfl .pk ?_
           refine .q 22 rfl .mv ?_
           refine .z 23 rfl (OpV.takeCall rfl rfl rfl rfl (fun H hs => .f ca31 rfl (signalled_c H (glob_le hGy hs.base)))) ?_
           refine .q 24 rfl .pk ?_
           refine .q 25 rfl .sg ?_
           refine Ta.done (by kernel_rfl) ?_
           exact hR _ _ _ _ rfl hle2
         | some xb =>
           refine Tc.dropB (R' := [(9, .int .i64 (w : Nat)), (16, .slice (some ⟨xb, 0, none⟩) xn xc)]) (L' := []) ?_ ⟨rfl, rfl, trivial⟩ (List.nil_sublist _)
           refine Tc.dr [] [] mixed rfl ?_
           refine .q 0 rfl .mv ?_
           refine .z 1 rfl (OpV.takeCall rfl rfl rfl rfl (fun H hs => .f ca59 rfl (hIn H))) ?_
           refine .q 2 rfl .mv ?_
           refine .q 3 rfl .mv ?_
           refine .q 4 rfl .ln ?_
           refine .q 5 rfl .mv ?_
           refine .q 6 rfl (.it (zz := geq_t (by omega))) ?_
           refine .q 7 rfl .pk ?_
           refine .q 8 rfl .mv ?_
           refine .q 9 rfl .mv ?_
           refine .q 10 rfl .mv ?_
           refine .z 11 rfl (OpV.takeCall rfl rfl rfl rfl (fun H hs => .f ca39 rfl (hnum H hs.base))) ?_
           refine .q 12 rfl .nt ?_
           refine .q 13 rfl .pk ?_
           refine .q 14 rfl .mv ?_
           refine .q 15 rfl .mv ?_
           refine .q 16 rfl .mv ?_
           refine .q 17 rfl (OpV.slice (E := en) (off' := 0) rfl rfl rfl rfl rfl rfl rfl rfl (by omega) (by omega) (by omega) (by split <;> simp)) ?_
           refine .q 18 rfl .mv ?_
           refine Ta.each [19] (by kernel_rfl) rfl ⟨TaOp.mk rfl rfl rfl (Or.callNew Gl.val Gl.bl (fun g : Gl 3 1 => g.l = placesV (List.range w) ∧ g.n = w) rfl rfl rfl rfl rfl (by decide) gl_nodup (fun H hs => .f ca62 rfl (UpTo_c _ H w (by omega))) (fun u ⟨hu1, hu2⟩ => ⟨S2.mk (by exact List.nil_sublist _) (.inr (by exact List.nil_sublist _)), ?_⟩)), trivial⟩
           refine Ta.each [20] (by kernel_rfl) rfl ⟨TaOp.mk rfl rfl rfl (Or.ofT (OpV.takeCall rfl rfl rfl rfl (fun H hs => .f ca23 rfl (hsame H u _ _ hs.base hu1 hu2 (fun y hy => hs.at_ y (by simp [hy])) (by simp)))) rfl (by decide) ⟨S2.mk (by exact List.nil_sublist _) (.inr (by exact List.nil_sublist _)), ?_⟩), trivial⟩
           refine .q 21 rfl .pk ?_
           refine .q 22 rfl .mv ?_
           refine .z 23 rfl (OpV.takeCall rfl rfl rfl rfl (fun H hs => .f ca31 rfl (signalled_c H (glob_le hGy hs.base)))) ?_
           refine .q 24 rfl .pk ?_
           refine .q 25 rfl .sg ?_
           refine Ta.done (by kernel_rfl) ?_
           exact hR _ _ _ _ rfl hle2
     · have hi2 : i ≤ c2.m := by omega
       obtain ⟨hf, hw⟩ := Ch.fine_at (hnb i (by omega))
       have hok := hgood.fine i hf
       have h32 := sure_len hw
       refine .seq (.sr ?_)
       refine .m ?_
       refine .m ?_
       refine .x .ln ?_
       refine .i ?_ (z := leq_t (by omega))
       refine .done (.tt rfl (.skip (.seq (.block (.sr ?_)))))
       refine .x (.ld 0) ?_
       refine .m ?_
       refine .m ?_
       refine .c rfl rfl rfl rfl (fun H hs => .f ca60 rfl (hsec i hi2 hf H hs.base)) ?_
       refine .m ?_
       refine .x .et ?_
       refine .x .et ?_
       refine .e (.al (zz := fun b13 => ?_))
       refine .e (.st 0 (zz := ?_))
       refine .g ?_
       refine .done (.sr ?_)
       refine .m ?_
       refine .m ?_
       refine .m ?_
       refine .m ?_
       refine .i ?_ (z := eql_f (by omega))
       refine .x .pk ?_
       refine .g ?_
       refine .done (.seq (.sr ?_))
       refine .m ?_
       refine .i ?_ (z := eql_f (by omega))
       refine .done (.ff rfl (.skip (.seq (.sr ?_))))
       refine .m ?_
       refine .i ?_ (z := neq_f (by omega))
       refine .m ?_
       refine .x (.ld 0) ?_
       refine .c rfl rfl rfl rfl (fun H hs => .f ca61 rfl (refLink_ok _ H (c2.lk i) hok)) ?_
       refine .i ?_ (z := neq_f (by omega))
       refine .x .pk ?_
       refine .done (.ff rfl (.skip (.sr ?_)))
       refine .x (.ld 0) ?_
       refine .e (Or.callNew (fun g : Gl 3 1 => .tuple ⟨[g.val, .int .i64 0]⟩) Gl.bl (fun g : Gl 3 1 => g.l = keepTo (c2.lk i).sureOf 32) rfl rfl rfl rfl rfl (by decide) gl_nodup (fun H hs => .f ca26 rfl (Sure_c _ H (c2.lk i) (glob_le hGx hs.base) hok)) (fun x hx => ?_))
       refine .m ?_
       refine .x .et ?_
       refine .x .et ?_
       refine .g ?_
       refine .g ?_
       refine .done ?_
       have hxn : x.n = 32 := by
         have := x.hl
         rw [hx] at this
         omega
       refine .seq (.sr ?_)
       refine .m ?_
       refine .i ?_ (z := neq_f (by omega))
       refine .m ?_
       refine .m ?_
       refine .c rfl rfl rfl rfl (fun H hs => .f ca38 rfl (Ascending_keep _ H x (c2.lk i).sureOf 32 (by decide) hx (fun y hy => hs.at_ y (by simp [hy])))) ?_
       refine .i ?_ (z := neq_f (by omega))
       refine .x .pk ?_
       refine .done (.ff rfl (.skip (.seq (.sr ?_))))
       refine .m ?_
       refine .done (.ff rfl (.skip (.sr ?_)))
       refine .m ?_
       refine .x .ln ?_
       refine .i ?_ (z := neq_f (by omega))
       refine .done (.ff rfl (.skip (.inBlock (.r ?_))))
       refine .m ?_
       refine .i ?_ (z := add_in (by omega) (by omega))
       refine .g ?_
       refine .done ?_
       exact Tc.db (ih ⟨i + 1, by omega⟩ (by simp only; omega))
end Go.Proofs.YtpdaenfglbgfkaaGreatDoor
