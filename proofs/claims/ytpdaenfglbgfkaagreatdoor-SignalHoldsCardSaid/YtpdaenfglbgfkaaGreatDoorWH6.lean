/-
  Chains, as the statements ask about them.
-/
import Derived.Test.YtpdaenfglbgfkaaGreatDoorW08
import Derived.Test.YtpdaenfglbgfkaaGreatDoorWH4
namespace Go.Proofs.YtpdaenfglbgfkaaGreatDoor
open Go.RL
set_option maxRecDepth 10000
set_option maxHeartbeats 4000000
def Ch.valA (c : Ch) (A : Option Addr) (lc : Nat) : Value := .agg ⟨[.int .i64 c.s0, .int .i64 c.s1, .slice A c.n lc, .int .i64 c.a0, .int .i64 c.a1, .int .i64 c.r0, .int .i64 c.r1]⟩
def LinesAt (H : View) (c : Ch) (A : Option Addr) (lc : Nat) : Prop :=
 c.n ≤ lc ∧ (c.n = 0 ∨ ∃ lb lo f gs gt gz, A = some ⟨lb, lo, none⟩ ∧ H lb = some (f, .cells ⟨gs⟩ gt gz) ∧ ∀ i : Nat, i < c.n → ldL true 4 gs (lo + i * 4) = some (lineV (c.x i) (c.y i) (c.z i) (c.u i)))
theorem LinesAt.le {H H' : View} {c : Ch} {A : Option Addr} {lc : Nat} (h : LinesAt H c A lc) (k : H.le H') : LinesAt H' c A lc := by
 obtain ⟨h0, h | ⟨lb, lo, f, gs, gt, gz, h1, h2, h3⟩⟩ := h
 · exact ⟨h0, .inl h⟩
 · exact ⟨h0, .inr ⟨lb, lo, f, gs, gt, gz, h1, k _ _ h2, h3⟩⟩
def Ch.lineAt (c : Ch) (i : Nat) : Bool := leanOk (c.x i) (c.y i) && moveOk (c.z i) (c.u i)
def Ch.paces (c : Ch) : Bool := paceOk c.s0 c.s1 && (paceOk c.a0 c.a1 && paceOk c.r0 c.r1)
def Ch.linesAlarm (c : Ch) : Int := if 1 ≤ c.n ∧ c.n ≤ 4 then (if allTo c.lineAt c.n then 0 else 1) else 2
def Ch.alarm (c : Ch) : Int := if c.paces then c.linesAlarm else 1
def Ch.fair (c : Ch) : Bool := c.paces && (decide (1 ≤ c.n ∧ c.n ≤ 4) && allTo c.lineAt c.n)
theorem Ch.alarm_zero {c : Ch} : c.alarm = 0 ↔ c.fair = true := by
 unfold Ch.alarm Ch.linesAlarm Ch.fair
 cases c.paces <;> by_cases h : 1 ≤ c.n ∧ c.n ≤ 4 <;> cases allTo c.lineAt c.n <;> simp [h]
theorem allTo_iff {p : Nat → Bool} : ∀ {k : Nat}, allTo p k = true ↔ ∀ i, i < k → p i = true
 | 0 => by simp [allTo]
 | k + 1 => by
   unfold allTo
   rw [Bool.and_eq_true, allTo_iff]
   constructor
   · rintro ⟨h1, h2⟩ i hi
     rcases Nat.lt_succ_iff_lt_or_eq.1 hi with h | rfl
     · exact h1 i h
     · exact h2
   · intro h
     exact ⟨fun i hi => h i (by omega), h k (by omega)⟩
theorem line_ok (x y z u : Int) : (⟨0, 0, 0, 0, x, y, z, u⟩ : Lk).lineOk = (leanOk x y && moveOk z u) := by
 simp [Lk.lineOk, allTo, Lk.chk, Lk.leans, Lk.moves]
theorem Ch.fair_good {c : Ch} (h : c.fair = true) (hm : c.m = 0) : c.Good := by
 unfold Ch.fair Ch.paces at h
 simp only [Bool.and_eq_true, decide_eq_true_eq] at h
 obtain ⟨⟨h1, h2, h3⟩, h4, h5⟩ := h
 rw [allTo_iff] at h5
 have hb : ∀ i, i < c.n → (-9 ≤ c.x i ∧ c.x i ≤ c.y i ∧ c.y i ≤ 9) ∧ (-12 ≤ c.z i ∧ c.z i ≤ c.u i ∧ c.u i ≤ 12) := fun i hi => by
   have := h5 i hi
   unfold Ch.lineAt leanOk moveOk at this
   simp only [Bool.and_eq_true, decide_eq_true_eq] at this
   omega
 refine ⟨⟨by omega, h4.2, fun i hi => ?_, fun i hi => ?_, fun i hi => ?_, fun i hi => ?_, fun i hi => by omega, fun i hi => by omega⟩, h1, h2, h3, fun i hi => ?_⟩
 · have := hb i hi; omega
 · have := hb i hi; omega
 · have := hb i hi; omega
 · have := hb i hi; omega
 · rw [line_ok]; exact h5 i hi
section
variable (M : Md Tryz.prog) (H : View)
theorem refLines_c (ch : Ch) (A : Option Addr) (lc : Nat) (hA : LinesAt H ch A lc) : CallT M 127 #[.slice A ch.n lc] H (fun v H' => H.le H' ∧ v = .int .i64 ch.linesAlarm) := by
 refine CallT.enter (vs := [.slice A ch.n lc]) Tryz.func127 rfl Tryz.ntmps127 (Nat.le_of_ble_eq_true rfl) (SymSt.nil _) fun St c cs hK => ?_
 by_cases h : 1 ≤ ch.n ∧ ch.n ≤ 4
 · have hin : ∀ H, CallT M 59 #[.int .i64 (ch.n : Nat), .int .i64 1, .int .i64 4] H (fun v H' => H.le H' ∧ v = .bool true) := fun H =>
     CallT.mono (In_c M H _ 1 4) (by rintro v H' ⟨h1, h2⟩; rw [decide_eq_true (show (1 : Int) ≤ (ch.n : Nat) ∧ ((ch.n : Nat) : Int) ≤ 4 by omega)] at h2; exact ⟨h1, h2⟩)
   obtain ⟨hlc, h0 | ⟨lb, lo, f, gs, gt, gz, rfl, hA1, hA2⟩⟩ := hA
   · omega
   refine .sr ?_
   refine .g ?_
   refine .done (.seq (.sr ?_))
   refine .m ?_
   refine .x .ln ?_
   refine .c rfl rfl rfl rfl (fun H hs => .f ca59 rfl (hin H)) ?_
   refine .x .nt ?_
   refine .done (.ff rfl (.skip (.seq (.sr ?_))))
   refine .g ?_
   refine .done (.block ?_)
   refine Tc.db (Tc.loopInv (σ := { j : Nat // j ≤ ch.n ∧ allTo ch.lineAt j = true }) (fun j => ([(0, .slice (some ⟨lb, lo, none⟩) ch.n lc), (3, .int .i64 (j.1 : Nat))], [])) (fun j => ch.n - j.1) ?_ ⟨0, by omega, rfl⟩)
   rintro ⟨j, hj, hall⟩ ih
   show Tc M St _ _ _ _ [(0, .slice (some ⟨lb, lo, none⟩) ch.n lc), (3, .int .i64 (j : Nat))] [] _ _
   by_cases c1 : j = ch.n
   · have e : ch.linesAlarm = 0 := by unfold Ch.linesAlarm; rw [if_pos h, ← c1, if_pos hall]
     subst c1
     refine .seq (.sr ?_)
     refine .m ?_
     refine .m ?_
     refine .x .ln ?_
     refine .i ?_ (z := lss_f (by omega))
     refine .done (.ff rfl (.exit rfl (.sr ?_)))
     refine .g ?_
     refine .done ?_
     refine .rt hK Tryz.func127 Tryz.results127 [_] ?_
     exact fun H' hs => ⟨hs.base, by rw [e]; rfl⟩
   · have c2 : j < ch.n := by omega
     have f1 : ldL true 4 gs (lo + (j : Int).toNat * 4) = some (lineV (ch.x j) (ch.y j) (ch.z j) (ch.u j)) := by rw [show (j : Int).toNat = j by simp]; exact hA2 j c2
     cases hl : ch.lineAt j with
     | true =>
       refine .seq (.sr ?_)
       refine .m ?_
       refine .m ?_
       refine .x .ln ?_
       refine .i ?_ (z := lss_t (by omega))
       refine .done (.tt rfl (.skip (.seq (.block (.sr ?_)))))
       refine .m ?_
       refine .m ?_
       refine .x .ia ?_
       refine .x .l0 ?_
       refine .c rfl rfl rfl rfl (fun H hs => .f ca82 rfl (CallT.mono (refLine_c M H (ch.x j) (ch.y j) (ch.z j) (ch.u j)) (Q' := fun v H' => H.le H' ∧ v = .int .i64 0) (by rintro v H' ⟨h1, h2⟩; unfold Ch.lineAt at hl; rw [hl] at h2; exact ⟨h1, h2⟩))) ?_
       refine .g ?_
       refine .done (.sr ?_)
       refine .m ?_
       refine .i ?_ (z := neq_f (by omega))
       refine .done (.ff rfl (.skip (.inBlock (.r ?_))))
       refine .m ?_
       refine .i ?_ (z := add_in (by omega) (by omega))
       refine .g ?_
       refine .done ?_
       exact Tc.db (ih ⟨j + 1, by omega, by unfold allTo; rw [hall, hl]; rfl⟩ (by simp only; omega))
     | false =>
       have e : ch.linesAlarm = 1 := by
         unfold Ch.linesAlarm
         rw [if_pos h, if_neg]
         intro h5
         rw [allTo_iff.1 h5 j c2] at hl
         cases hl
       refine .seq (.sr ?_)
       refine .m ?_
       refine .m ?_
       refine .x .ln ?_
       refine .i ?_ (z := lss_t (by omega))
       refine .done (.tt rfl (.skip (.seq (.block (.sr ?_)))))
       refine .m ?_
       refine .m ?_
       refine .x .ia ?_
       refine .x .l0 ?_
       refine .c rfl rfl rfl rfl (fun H hs => .f ca82 rfl (CallT.mono (refLine_c M H (ch.x j) (ch.y j) (ch.z j) (ch.u j)) (Q' := fun v H' => H.le H' ∧ v = .int .i64 1) (by rintro v H' ⟨h1, h2⟩; unfold Ch.lineAt at hl; rw [hl] at h2; exact ⟨h1, h2⟩))) ?_
       refine .g ?_
       refine .done (.sr ?_)
       refine .m ?_
       refine .i ?_ (z := neq_t (by omega))
       refine .done (.tt rfl (.sr ?_))
       refine .m ?_
       refine .g ?_
       refine .done ?_
       refine .rt hK Tryz.func127 Tryz.results127 [_] ?_
       exact fun H' hs => ⟨hs.base, by rw [e]; rfl⟩
 · have e : ch.linesAlarm = 2 := by unfold Ch.linesAlarm; rw [if_neg h]
   have hin : ∀ H, CallT M 59 #[.int .i64 (ch.n : Nat), .int .i64 1, .int .i64 4] H (fun v H' => H.le H' ∧ v = .bool false) := fun H =>
     CallT.mono (In_c M H _ 1 4) (by rintro v H' ⟨h1, h2⟩; rw [decide_eq_false (show ¬ ((1 : Int) ≤ (ch.n : Nat) ∧ ((ch.n : Nat) : Int) ≤ 4) by omega)] at h2; exact ⟨h1, h2⟩)
   refine .sr ?_
   refine .g ?_
   refine .done (.seq (.sr ?_))
   refine .m ?_
   refine .x .ln ?_
   refine .c rfl rfl rfl rfl (fun H hs => .f ca59 rfl (hin H)) ?_
   refine .x .nt ?_
   refine .done (.tt rfl (.sr ?_))
   refine .g ?_
   refine .done ?_
   refine .rt hK Tryz.func127 Tryz.results127 [_] ?_
   exact fun H' hs => ⟨hs.base, by rw [e]; rfl⟩
theorem refPaces_is (a b : Int) (t : Bool) (h : paceOk a b = t) : CallT M 123 #[bandV a b] H (fun v H' => H.le H' ∧ v = .bool t) :=
 CallT.mono (refPaces_c M H a b) (by rintro v H' ⟨h1, h2⟩; exact ⟨h1, h2.trans (congrArg Value.bool h)⟩)
theorem refChain_c (ch : Ch) (A : Option Addr) (lc : Nat) (hA : LinesAt H ch A lc) : CallT M 67 #[ch.valA A lc] H (fun v H' => H.le H' ∧ v = .int .i64 ch.alarm) := by
 refine CallT.enter (vs := [ch.valA A lc]) Tryz.func67 rfl Tryz.ntmps67 (Nat.le_of_ble_eq_true rfl) (SymSt.nil _) fun St c cs hK => ?_
 cases h1 : paceOk ch.s0 ch.s1 with
 | false =>
   have e : ch.alarm = 1 := by unfold Ch.alarm Ch.paces; rw [h1]; rfl
   refine .sr ?_
   refine .e (.bx (zz := fun b1 => ?_))
   refine .g ?_
   refine .done (.seq (.sr ?_))
   refine .x .fa ?_
   refine .x (.ld 0) ?_
   refine .c rfl rfl rfl rfl (fun H hs => .f ca123 rfl (refPaces_is M H ch.s0 ch.s1 false h1)) ?_
   refine .x .nt ?_
   refine .m ?_
   refine .sk ?_
   refine .sk ?_
   refine .sk ?_
   refine .sk ?_
   refine .x .pk ?_
   refine .m ?_
   refine .sk ?_
   refine .sk ?_
   refine .sk ?_
   refine .sk ?_
   refine .x .pk ?_
   refine .done (.tt rfl (.sr ?_))
   refine .g ?_
   refine .done ?_
   refine .rt hK Tryz.func67 Tryz.results67 [_] ?_
   exact fun H' hs => ⟨hs.base, by rw [e]; rfl⟩
 | true =>
   cases h2 : paceOk ch.a0 ch.a1 with
   | false =>
     have e : ch.alarm = 1 := by unfold Ch.alarm Ch.paces; rw [h1, h2]; rfl
     refine .sr ?_
     refine .e (.bx (zz := fun b1 => ?_))
     refine .g ?_
     refine .done (.seq (.sr ?_))
     refine .x .fa ?_
     refine .x (.ld 0) ?_
     refine .c rfl rfl rfl rfl (fun H hs => .f ca123 rfl (refPaces_is M H ch.s0 ch.s1 true h1)) ?_
     refine .x .nt ?_
     refine .m ?_
     refine .x .fa ?_
     refine .x (.ld 0) ?_
     refine .c rfl rfl rfl rfl (fun H hs => .f ca123 rfl (refPaces_is M H ch.a0 ch.a1 false h2)) ?_
     refine .x .nt ?_
     refine .x .pk ?_
     refine .m ?_
     refine .sk ?_
     refine .sk ?_
     refine .sk ?_
     refine .sk ?_
     refine .x .pk ?_
     refine .done (.tt rfl (.sr ?_))
     refine .g ?_
     refine .done ?_
     refine .rt hK Tryz.func67 Tryz.results67 [_] ?_
     exact fun H' hs => ⟨hs.base, by rw [e]; rfl⟩
   | true =>
     cases h3 : paceOk ch.r0 ch.r1 with
     | false =>
       have e : ch.alarm = 1 := by unfold Ch.alarm Ch.paces; rw [h1, h2, h3]; rfl
       refine .sr ?_
       refine .e (.bx (zz := fun b1 => ?_))
       refine .g ?_
       refine .done (.seq (.sr ?_))
       refine .x .fa ?_
       refine .x (.ld 0) ?_
       refine .c rfl rfl rfl rfl (fun H hs => .f ca123 rfl (refPaces_is M H ch.s0 ch.s1 true h1)) ?_
       refine .x .nt ?_
       refine .m ?_
       refine .x .fa ?_
       refine .x (.ld 0) ?_
       refine .c rfl rfl rfl rfl (fun H hs => .f ca123 rfl (refPaces_is M H ch.a0 ch.a1 true h2)) ?_
       refine .x .nt ?_
       refine .x .pk ?_
       refine .m ?_
       refine .x .fa ?_
       refine .x (.ld 0) ?_
       refine .c rfl rfl rfl rfl (fun H hs => .f ca123 rfl (refPaces_is M H ch.r0 ch.r1 false h3)) ?_
       refine .x .nt ?_
       refine .x .pk ?_
       refine .done (.tt rfl (.sr ?_))
       refine .g ?_
       refine .done ?_
       refine .rt hK Tryz.func67 Tryz.results67 [_] ?_
       exact fun H' hs => ⟨hs.base, by rw [e]; rfl⟩
     | true =>
       have e : ch.alarm = ch.linesAlarm := by unfold Ch.alarm Ch.paces; rw [h1, h2, h3]; rfl
       refine .sr ?_
       refine .e (.bx (zz := fun b1 => ?_))
       refine .g ?_
       refine .done (.seq (.sr ?_))
       refine .x .fa ?_
       refine .x (.ld 0) ?_
       refine .c rfl rfl rfl rfl (fun H hs => .f ca123 rfl (refPaces_is M H ch.s0 ch.s1 true h1)) ?_
       refine .x .nt ?_
       refine .m ?_
       refine .x .fa ?_
       refine .x (.ld 0) ?_
       refine .c rfl rfl rfl rfl (fun H hs => .f ca123 rfl (refPaces_is M H ch.a0 ch.a1 true h2)) ?_
       refine .x .nt ?_
       refine .x .pk ?_
       refine .m ?_
       refine .x .fa ?_
       refine .x (.ld 0) ?_
       refine .c rfl rfl rfl rfl (fun H hs => .f ca123 rfl (refPaces_is M H ch.r0 ch.r1 true h3)) ?_
       refine .x .nt ?_
       refine .x .pk ?_
       refine .done (.ff rfl (.skip (.sr ?_)))
       refine .x .fa ?_
       refine .x (.ld 0) ?_
       refine .c rfl rfl rfl rfl (fun H hs => .f ca127 rfl (refLines_c M H ch A lc (hA.le hs.base))) ?_
       refine .g ?_
       refine .done ?_
       refine .rt hK Tryz.func67 Tryz.results67 [_] ?_
       exact fun H' hs => ⟨hs.base, by rw [e]; rfl⟩
theorem Great_c (ch : Ch) (A : Option Addr) (lc : Nat) (t : Bool) (ht : t = decide (20 < ch.n)) : CallT M 63 #[ch.valA A lc] H (fun v H' => H.le H' ∧ v = .bool t) := by
 refine CallT.enter (vs := [ch.valA A lc]) Tryz.func63 rfl Tryz.ntmps63 (Nat.le_of_ble_eq_true rfl) (SymSt.nil _) fun St c cs hK => ?_
 by_cases h : 20 < ch.n
 · rw [decide_eq_true h] at ht
   subst ht
   refine .sr ?_
   refine .e (.bx (zz := fun b1 => ?_))
   refine .g ?_
   refine .done (.sr ?_)
   refine .x .fa ?_
   refine .x (.ld 0) ?_
   refine .x .ln ?_
   refine .i ?_ (z := gtr_t (by omega))
   refine .g ?_
   refine .done ?_
   refine .rt hK Tryz.func63 Tryz.results63 [_] ?_
   exact fun H' hs => ⟨hs.base, rfl⟩
 · rw [decide_eq_false h] at ht
   subst ht
   refine .sr ?_
   refine .e (.bx (zz := fun b1 => ?_))
   refine .g ?_
   refine .done (.sr ?_)
   refine .x .fa ?_
   refine .x (.ld 0) ?_
   refine .x .ln ?_
   refine .i ?_ (z := gtr_f (by omega))
   refine .g ?_
   refine .done ?_
   refine .rt hK Tryz.func63 Tryz.results63 [_] ?_
   exact fun H' hs => ⟨hs.base, rfl⟩
theorem Fits_c (ch : Ch) (A : Option Addr) (lc : Nat) (hA : LinesAt H ch A lc) : CallT M 53 #[ch.valA A lc] H (fun v H' => H.le H' ∧ v = .bool ch.fair) := by
 refine CallT.enter (vs := [ch.valA A lc]) Tryz.func53 rfl Tryz.ntmps53 (Nat.le_of_ble_eq_true rfl) (SymSt.nil _) fun St c cs hK => ?_
 by_cases h : 20 < ch.n
 · have e : ch.fair = false := by
     cases hf : ch.fair with
     | false => rfl
     | true =>
       unfold Ch.fair at hf
       simp only [Bool.and_eq_true, decide_eq_true_eq] at hf
       omega
   refine .sr ?_
   refine .e (.bx (zz := fun b1 => ?_))
   refine .g ?_
   refine .done (.sr ?_)
   refine .x (.ld 0) ?_
   refine .c rfl rfl rfl rfl (fun H hs => .f ca63 rfl (Great_c M H ch A lc true (decide_eq_true h).symm)) ?_
   refine .x .nt ?_
   refine .m ?_
   refine .sk ?_
   refine .sk ?_
   refine .sk ?_
   refine .x .pk ?_
   refine .g ?_
   refine .done ?_
   refine .rt hK Tryz.func53 Tryz.results53 [_] ?_
   exact fun H' hs => ⟨hs.base, by rw [e]; rfl⟩
 · have hz := Ch.alarm_zero (c := ch)
   cases hf : ch.fair with
   | true =>
     have ha := hz.2 hf
     refine .sr ?_
     refine .e (.bx (zz := fun b1 => ?_))
     refine .g ?_
     refine .done (.sr ?_)
     refine .x (.ld 0) ?_
     refine .c rfl rfl rfl rfl (fun H hs => .f ca63 rfl (Great_c M H ch A lc false (decide_eq_false h).symm)) ?_
     refine .x .nt ?_
     refine .m ?_
     refine .x (.ld 0) ?_
     refine .c rfl rfl rfl rfl (fun H hs => .f ca67 rfl (CallT.is (.int .i64 0) (by rewrite [ha]; rfl) (refChain_c M H ch A lc (hA.le hs.base)))) ?_
     refine .i ?_ (z := eql_t (by omega))
     refine .x .pk ?_
     refine .g ?_
     refine .done ?_
     refine .rt hK Tryz.func53 Tryz.results53 [_] ?_
     exact fun H' hs => ⟨hs.base, by rw [hf]; rfl⟩
   | false =>
     have ha : ch.alarm ≠ 0 := fun h => by rw [hz.1 h] at hf; cases hf
     refine .sr ?_
     refine .e (.bx (zz := fun b1 => ?_))
     refine .g ?_
     refine .done (.sr ?_)
     refine .x (.ld 0) ?_
     refine .c rfl rfl rfl rfl (fun H hs => .f ca63 rfl (Great_c M H ch A lc false (decide_eq_false h).symm)) ?_
     refine .x .nt ?_
     refine .m ?_
     refine .x (.ld 0) ?_
     refine .c rfl rfl rfl rfl (fun H hs => .f ca67 rfl (refChain_c M H ch A lc (hA.le hs.base))) ?_
     refine .i ?_ (z := eql_f (by omega))
     refine .x .pk ?_
     refine .g ?_
     refine .done ?_
     refine .rt hK Tryz.func53 Tryz.results53 [_] ?_
     exact fun H' hs => ⟨hs.base, by rw [hf]; rfl⟩
theorem mask_u8 : ∀ mask : Nat, mask < 256 → ∀ i : Nat, i < 3 → Int.fdiv (mask : Int) (2 ^ (min (i : Int).toNat 8)) = ((mask / 2 ^ i : Nat) : Int) ∧ bitI .and .u8 ((mask / 2 ^ i : Nat) : Int) 1 = ((mask / 2 ^ i % 2 : Nat) : Int) := by decide +kernel
theorem bitsL_succ (mask k : Nat) : bitsL mask (k + 1) = if bitM mask k then bitsL mask k ++ [k] else bitsL mask k := by
 unfold bitsL
 rw [List.range_succ, List.filter_append]
 cases h : bitM mask k <;> simp [h]
theorem spots_c (ch : Ch) (lb lo lc : Nat) (mask : Nat) (hm : mask < 256) (h0 : 0 < ch.n) (h4 : ch.n ≤ 4) : CallT M 55 #[ch.val7 lb lo lc, .int .u8 (mask : Nat)] H (fun v H' => H.le H' ∧ ∃ g : Gl 3 1, v = g.val ∧ g.l = placesV (bitsL mask (ch.n - 1)) ∧ ∀ x ∈ g.bl, H' x.1 = some x.2 ∧ H x.1 = none) := by
 refine CallT.enter (vs := [ch.val7 lb lo lc, .int .u8 (mask : Nat)]) Tryz.func55 rfl Tryz.ntmps55 (Nat.le_of_ble_eq_true rfl) (SymSt.nil _) fun St c cs hK => ?_
 refine .sr ?_
 refine .e (.bx (zz := fun b2 => ?_))
 refine .g ?_
 refine .done (.sr ?_)
 refine .g ?_
 refine .done (.seq (.sr ?_))
 refine .g ?_
 refine .done (.block ?_)
 refine Tc.db (Tc.loopInv (σ := { s : Nat × Gl 3 1 // s.1 + 1 ≤ ch.n ∧ s.2.l = placesV (bitsL mask s.1) })
   (fun s => ([(1, .int .u8 (mask : Nat)), (2, .pointer (some ⟨b2, 0, none⟩)), (5, s.1.2.val), (6, .int .i64 (s.1.1 : Nat))], (b2, true, .cells ⟨(ch.val7 lb lo lc).cells.toList⟩ 73 (0, 0)) :: s.1.2.bl)) (fun s => ch.n - s.1.1) ?_ ⟨(0, Gl.nil 3 1), h0, rfl⟩)
 rintro ⟨⟨i, g⟩, g1, g2⟩ ih
 simp only at g1 g2
 have hgn := gl_len g2
 have hbl := bits_len mask i
 show Tc M St _ _ _ _ [(1, .int .u8 (mask : Nat)), (2, .pointer (some ⟨b2, 0, none⟩)), (5, g.val), (6, .int .i64 (i : Nat))] ((b2, true, .cells ⟨(ch.val7 lb lo lc).cells.toList⟩ 73 (0, 0)) :: g.bl) _ _
 by_cases c1 : i + 1 = ch.n
 · have e : i = ch.n - 1 := by omega
   refine .seq (.sr ?_)
   refine .m ?_
   refine .i ?_ (z := add_in (by omega) (by omega))
   refine .x .fa ?_
   refine .x (.ld 0) ?_
   refine .x .ln ?_
   refine .i ?_ (z := lss_f (by omega))
   refine .done (.ff rfl (.exit rfl (.sr ?_)))
   refine .m ?_
   refine .g ?_
   refine .done ?_
   refine .rt hK Tryz.func55 Tryz.results55 [_] ?_
   exact fun H' hs => ⟨hs.base, g, rfl, by rw [← e]; exact g2, fun x hx => ⟨hs.at_ x (by simp [hx]), hs.out x (by simp [hx])⟩⟩
 · obtain ⟨e1, e2⟩ := mask_u8 mask hm i (by omega)
   have q1 : shiftV .shr .u8 (mask : Int) (i : Int) = some (.int .u8 ((mask / 2 ^ i : Nat) : Int)) := congrArg (fun x => some (Value.int .u8 x)) e1
   have q2 : intBin .and .u8 ((mask / 2 ^ i : Nat) : Int) 1 = some (.int .u8 ((mask / 2 ^ i % 2 : Nat) : Int)) := congrArg (fun x => some (Value.int .u8 x)) e2
   by_cases hb : mask / 2 ^ i % 2 = 1
   · have hbm : bitM mask i = true := by unfold bitM; rw [hb]; rfl
     refine .seq (.sr ?_)
     refine .m ?_
     refine .i ?_ (z := add_in (by omega) (by omega))
     refine .x .fa ?_
     refine .x (.ld 0) ?_
     refine .x .ln ?_
     refine .i ?_ (z := lss_t (by omega))
     refine .done (.tt rfl (.skip (.seq (.block (.sr ?_)))))
     refine .m ?_
     refine .m ?_
     refine .x .sf ?_
     refine .i ?_ (z := by assumption)
     refine .i ?_ (z := eql_t (by omega))
     refine .done (.tt rfl (.r ?_))
     refine .m ?_
     refine .m ?_
     refine .e (.bs (zz := fun bs => ?_))
     refine .e (Or.append (E := en) 2 rfl rfl rfl rfl rfl rfl rfl rfl rfl rfl rfl rfl rfl rfl rfl (fun H hs => SrcAt.of (hs.get (i := 0) rfl) (Nat.le_of_ble_eq_true rfl)) rfl (by omega) rfl (by decide) (fun g' hn' hl => ?_))
     refine .g ?_
     refine .done (.inBlock (.r ?_))
     refine .m ?_
     refine .i ?_ (z := add_in (by omega) (by omega))
     refine .g ?_
     refine .done ?_
     exact Tc.db (ih ⟨(i + 1, g'), by simp only; omega, by simp only; rw [hl, g2, bitsL_succ, hbm, if_pos rfl]; unfold placesV; rw [List.map_append]; rfl⟩ (by simp only; omega))
   · have hbm : bitM mask i = false := by unfold bitM; exact beq_false_of_ne hb
     refine .seq (.sr ?_)
     refine .m ?_
     refine .i ?_ (z := add_in (by omega) (by omega))
     refine .x .fa ?_
     refine .x (.ld 0) ?_
     refine .x .ln ?_
     refine .i ?_ (z := lss_t (by omega))
     refine .done (.tt rfl (.skip (.seq (.block (.sr ?_)))))
     refine .m ?_
     refine .m ?_
     refine .x .sf ?_
     refine .i ?_ (z := by assumption)
     refine .i ?_ (z := eql_f (by omega))
     refine .done (.ff rfl (.skip (.inBlock (.r ?_))))
     refine .m ?_
     refine .i ?_ (z := add_in (by omega) (by omega))
     refine .g ?_
     refine .done ?_
     exact Tc.db (ih ⟨(i + 1, g), by simp only; omega, by simp only; rw [bitsL_succ, hbm]; exact g2⟩ (by simp only; omega))
theorem UpTo_c (k : Nat) (hk : k ≤ 1000) : CallT M 62 #[.int .i64 (k : Nat)] H (fun v H' => H.le H' ∧ ∃ g : Gl 3 1, v = g.val ∧ (g.l = placesV (List.range k) ∧ g.n = k) ∧ ∀ x ∈ g.bl, H' x.1 = some x.2 ∧ H x.1 = none) := by
 refine CallT.enter (vs := [.int .i64 (k : Nat)]) Tryz.func62 rfl Tryz.ntmps62 (Nat.le_of_ble_eq_true rfl) (SymSt.nil _) fun St c cs hK => ?_
 refine .sr ?_
 refine .g ?_
 refine .done (.sr ?_)
 refine .g ?_
 refine .done (.seq (.sr ?_))
 refine .g ?_
 refine .done (.block ?_)
 refine Tc.db (Tc.loopInv (σ := { s : Nat × Gl 3 1 // s.1 ≤ k ∧ s.2.l = placesV (List.range s.1) })
   (fun s => ([(0, .int .i64 (k : Nat)), (3, s.1.2.val), (4, .int .i64 (s.1.1 : Nat))], s.1.2.bl)) (fun s => k - s.1.1) ?_ ⟨(0, Gl.nil 3 1), Nat.zero_le _, rfl⟩)
 rintro ⟨⟨i, g⟩, g1, g2⟩ ih
 simp only at g1 g2
 have hgn := gl_len g2
 rw [List.length_range] at hgn
 show Tc M St _ _ _ _ [(0, .int .i64 (k : Nat)), (3, g.val), (4, .int .i64 (i : Nat))] g.bl _ _
 by_cases c1 : i = k
 · subst c1
   refine .seq (.sr ?_)
   refine .m ?_
   refine .m ?_
   refine .i ?_ (z := lss_f (by omega))
   refine .done (.ff rfl (.exit rfl (.sr ?_)))
   refine .m ?_
   refine .g ?_
   refine .done ?_
   refine .rt hK Tryz.func62 Tryz.results62 [_] ?_
   exact fun H' hs => ⟨hs.base, g, rfl, ⟨g2, hgn⟩, fun x hx => ⟨hs.at_ x hx, hs.out x hx⟩⟩
 · refine .seq (.sr ?_)
   refine .m ?_
   refine .m ?_
   refine .i ?_ (z := lss_t (by omega))
   refine .done (.tt rfl (.skip (.seq (.block (.r ?_)))))
   refine .m ?_
   refine .m ?_
   refine .e (.bs (zz := fun bs => ?_))
   refine .e (Or.append (E := en) 1 rfl rfl rfl rfl rfl rfl rfl rfl rfl rfl rfl rfl rfl rfl rfl (fun H hs => SrcAt.of (hs.get (i := 0) rfl) (Nat.le_of_ble_eq_true rfl)) rfl (by omega) rfl (by decide) (fun g' hn' hl => ?_))
   refine .g ?_
   refine .done (.inBlock (.r ?_))
   refine .m ?_
   refine .i ?_ (z := add_in (by omega) (by omega))
   refine .g ?_
   refine .done ?_
   exact Tc.db (ih ⟨(i + 1, g'), by simp only; omega, by simp only; rw [hl, g2, List.range_succ]; unfold placesV; rw [List.map_append]; rfl⟩ (by simp only; omega))
end
theorem Holds_c (H : View) (ch : Ch) (lb lo lc ac : Nat) (A : Option Addr) (hA : ChAt H ch lb lo lc A) (hg : ch.Good) (hG : Glob H) (n : Nat) (hn : n = ch.m) (t : Bool) (ht : ch.first.isSome = t) :
   CallT (Mp Tryz.prog) 56 #[ch.val7 lb lo lc, .slice A n ac] H (fun v H' => H.le H' ∧ v = .tuple ⟨[.bool (!t), .int .i64 0]⟩) := by
 subst hn
 have hw : ∀ H', H.le H' → CallT (Mp Tryz.prog) 120 #[ch.val lb lo lc ac A] H' (fun v H'' => H'.le H'' ∧ v = .tuple ⟨[.int .i64 (ch.sec : Nat), .int .i64 ((ch.bad ch.sec).getD 0), .bool t]⟩) := fun H' hle =>
   CallT.mono (chainWeak_c H' ch lb lo lc ac A (hA.le hle) hg (glob_le hG hle)) (by rintro v H'' ⟨h1, h2⟩; rw [ht] at h2; exact ⟨h1, h2⟩)
 refine CallT.enter (vs := [ch.val7 lb lo lc, .slice A ch.m ac]) Tryz.func56 rfl Tryz.ntmps56 (Nat.le_of_ble_eq_true rfl) (SymSt.nil _) fun St c cs hK => ?_
 refine .sr ?_
 refine .e (.bx (zz := fun b2 => ?_))
 refine .g ?_
 refine .g ?_
 refine .done (.sr ?_)
 refine .x (.ld 0) ?_
 refine .m ?_
 refine .c rfl rfl rfl rfl (fun H hs => .f ca121 rfl (openChain_good _ H ch lb lo lc ac A (hA.le hs.base) hg (glob_le hG hs.base))) ?_
 refine .m ?_
 refine .x .et ?_
 refine .x .et ?_
 refine .e (.al (zz := fun b6 => ?_))
 refine .e (.st 0 (zz := ?_))
 refine .g ?_
 refine .done (.seq (.sr ?_))
 refine .m ?_
 refine .i ?_ (z := neq_f (by omega))
 refine .done (.ff rfl (.skip (.sr ?_)))
 refine .x (.ld 0) ?_
 refine .c rfl rfl rfl rfl (fun H hs => .f ca120 rfl (hw H hs.base)) ?_
 refine .m ?_
 refine .x .et ?_
 refine .x .et ?_
 refine .x .et ?_
 refine .g ?_
 refine .g ?_
 refine .g ?_
 refine .done (.sr ?_)
 refine .m ?_
 refine .x .nt ?_
 refine .g ?_
 refine .g ?_
 refine .done ?_
 refine .rt hK Tryz.func56 Tryz.results56 [_, _] ?_
 exact fun H' hs => ⟨hs.base, rfl⟩
section
variable (M : Md Tryz.prog) (H : View)
theorem Section_yes (ch : Ch) (lb lo lc ac : Nat) (A : Option Addr) (hA : ChAt H ch lb lo lc A) (hg : ch.Good) (hG : Glob H) (n : Nat) (hn : n = ch.m) (i : Nat) (hi : i ≤ ch.m) (hf : ch.fits i = true) :
   CallT M 60 #[ch.val7 lb lo lc, .slice A n ac, .int .i64 (i : Nat)] H (fun v H' => H.le H' ∧ v = .tuple ⟨[(ch.lk i).val, .int .i64 0]⟩) := by
 subst hn
 refine CallT.enter (vs := [ch.val7 lb lo lc, .slice A ch.m ac, .int .i64 (i : Nat)]) Tryz.func60 rfl Tryz.ntmps60 (Nat.le_of_ble_eq_true rfl) (SymSt.nil _) fun St c cs hK => ?_
 refine .sr ?_
 refine .e (.bx (zz := fun b3 => ?_))
 refine .e (.al (zz := fun b6 => ?_))
 refine .g ?_
 refine .done (.sr ?_)
 refine .x (.ld 1) ?_
 refine .m ?_
 refine .c rfl rfl rfl rfl (fun H hs => .f ca121 rfl (openChain_good _ H ch lb lo lc ac A (hA.le hs.base) hg (glob_le hG hs.base))) ?_
 refine .m ?_
 refine .x .et ?_
 refine .x .et ?_
 refine .e (.al (zz := fun b8 => ?_))
 refine .e (.st 0 (zz := ?_))
 refine .g ?_
 refine .done (.seq (.sr ?_))
 refine .m ?_
 refine .i ?_ (z := neq_f (by omega))
 refine .done (.ff rfl (.skip (.seq (.sr ?_))))
 refine .m ?_
 refine .i ?_ (z := lss_f (by omega))
 refine .m ?_
 refine .m ?_
 refine .m ?_
 refine .x .ln ?_
 refine .i ?_ (z := gtr_f (by omega))
 refine .x .pk ?_
 refine .done (.ff rfl (.skip (.sr ?_)))
 refine .x (.ld 0) ?_
 refine .m ?_
 refine .c rfl rfl rfl rfl (fun H hs => .f ca122 rfl (CallT.is (.tuple ⟨[(ch.lk i).val, .bool true]⟩) (by rewrite [hf]; rfl) (section_c M H ch i lb lo lc ac A hg.ok (hA.le hs.base) hi (glob_le hG hs.base)))) ?_
 refine .m ?_
 refine .x .et ?_
 refine .x .et ?_
 refine .e (.al (zz := fun b10 => ?_))
 refine .e (.st 0 (zz := ?_))
 refine .g ?_
 refine .done (.seq (.sr ?_))
 refine .m ?_
 refine .x .nt ?_
 refine .done (.ff rfl (.skip (.sr ?_)))
 refine .x .fa ?_
 refine .x (.ld 0) ?_
 refine .e (.st 2 (zz := ?_))
 refine .g ?_
 refine .done ?_
 refine Tc.retN (E := en) hK Tryz.func60 Tryz.results60 (vs := [_, _]) (by refine ⟨⟨2, _, _, _, _, _, _, _, rfl, rfl, rfl, rfl⟩, ?_⟩; refine ⟨rfl, ?_⟩; exact trivial) ?_
 exact fun H' hs => ⟨hs.base, rfl⟩
theorem Section_no (ch : Ch) (lb lo lc ac : Nat) (A : Option Addr) (hA : ChAt H ch lb lo lc A) (hg : ch.Good) (hG : Glob H) (n : Nat) (hn : n = ch.m) (i : Nat) (hi : i ≤ ch.m) (hf : ch.fits i = false) :
   CallT M 60 #[ch.val7 lb lo lc, .slice A n ac, .int .i64 (i : Nat)] H (fun v H' => H.le H' ∧ v = .tuple ⟨[lk0.val, .int .i64 1]⟩) := by
 subst hn
 refine CallT.enter (vs := [ch.val7 lb lo lc, .slice A ch.m ac, .int .i64 (i : Nat)]) Tryz.func60 rfl Tryz.ntmps60 (Nat.le_of_ble_eq_true rfl) (SymSt.nil _) fun St c cs hK => ?_
 refine .sr ?_
 refine .e (.bx (zz := fun b3 => ?_))
 refine .e (.al (zz := fun b6 => ?_))
 refine .g ?_
 refine .done (.sr ?_)
 refine .x (.ld 1) ?_
 refine .m ?_
 refine .c rfl rfl rfl rfl (fun H hs => .f ca121 rfl (openChain_good _ H ch lb lo lc ac A (hA.le hs.base) hg (glob_le hG hs.base))) ?_
 refine .m ?_
 refine .x .et ?_
 refine .x .et ?_
 refine .e (.al (zz := fun b8 => ?_))
 refine .e (.st 0 (zz := ?_))
 refine .g ?_
 refine .done (.seq (.sr ?_))
 refine .m ?_
 refine .i ?_ (z := neq_f (by omega))
 refine .done (.ff rfl (.skip (.seq (.sr ?_))))
 refine .m ?_
 refine .i ?_ (z := lss_f (by omega))
 refine .m ?_
 refine .m ?_
 refine .m ?_
 refine .x .ln ?_
 refine .i ?_ (z := gtr_f (by omega))
 refine .x .pk ?_
 refine .done (.ff rfl (.skip (.sr ?_)))
 refine .x (.ld 0) ?_
 refine .m ?_
 refine .c rfl rfl rfl rfl (fun H hs => .f ca122 rfl (CallT.is (.tuple ⟨[(ch.lk i).val, .bool false]⟩) (by rewrite [hf]; rfl) (section_c M H ch i lb lo lc ac A hg.ok (hA.le hs.base) hi (glob_le hG hs.base)))) ?_
 refine .m ?_
 refine .x .et ?_
 refine .x .et ?_
 refine .e (.al (zz := fun b10 => ?_))
 refine .e (.st 0 (zz := ?_))
 refine .g ?_
 refine .done (.seq (.sr ?_))
 refine .m ?_
 refine .x .nt ?_
 refine .done (.tt rfl (.sr ?_))
 refine .x .bu ?_
 refine .e (.st 2 (zz := ?_))
 refine .g ?_
 refine .done ?_
 refine Tc.retN (E := en) hK Tryz.func60 Tryz.results60 (vs := [_, _]) (by refine ⟨⟨2, _, _, _, _, _, _, _, rfl, rfl, rfl, rfl⟩, ?_⟩; refine ⟨rfl, ?_⟩; exact trivial) ?_
 exact fun H' hs => ⟨hs.base, rfl⟩
end
end Go.Proofs.YtpdaenfglbgfkaaGreatDoor
