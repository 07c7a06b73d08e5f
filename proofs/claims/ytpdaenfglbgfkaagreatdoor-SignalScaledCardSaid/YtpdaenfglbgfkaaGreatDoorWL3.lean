/-
  Plain laws: what can be seen of a letter is what its pasts are seen as; narrower bands.
-/
import Derived.Test.YtpdaenfglbgfkaaGreatDoorW08
namespace Go.Proofs.YtpdaenfglbgfkaaGreatDoor
open Go.RL
set_option maxRecDepth 10000
structure Lk.Past (k : Lk) (c : Nat) (a r n : Int) (mv : List Int) : Prop where
 send : k.s0 ≤ a ∧ a ≤ k.s1
 read : k.r0 ≤ r ∧ r ≤ k.r1
 lean : k.l0 ≤ n ∧ n ≤ k.l1
 len : mv.length = (placesTo c 7).length
 moves : ∀ m ∈ mv, k.m0 ≤ m ∧ m ≤ k.m1
def pastView (c : Nat) (a r n : Int) (mv : List Int) : Nat := (⟨c, placesTo c 7, a, r, n, mv.headD 0, 0, 0⟩ : Stg).view mv
theorem Stg.viewFrom_eq {s s' : Stg} (h1 : s.ps = s'.ps) (h2 : s.send = s'.send) (h3 : s.read = s'.read) (h4 : s.lean = s'.lean) (h5 : s.first = s'.first) : ∀ (l : List Int) (i v : Nat), s.viewFrom i v l = s'.viewFrom i v l
 | [], _, _ => rfl
 | m :: l, i, v => by
   have : s.miss i m = s'.miss i m := by unfold Stg.miss Stg.after; rw [h1, h2, h3, h4, h5]
   show s.viewFrom _ _ l = s'.viewFrom _ _ l
   rw [this]
   exact Stg.viewFrom_eq h1 h2 h3 h4 h5 l _ _
theorem Stg.mayAll_tail {s : Stg} : ∀ (l : List Int) (i : Nat), 0 < i → (s.mayAll i l ↔ ∀ m ∈ l, s.mf ≤ m ∧ m ≤ s.mt)
 | [], _, _ => by simp [Stg.mayAll]
 | m :: l, i, h => by
   simp only [Stg.mayAll, Stg.mayAll_tail l (i + 1) (by omega), List.mem_cons, forall_eq_or_imp]
   unfold Stg.may
   rw [if_neg (by omega)]
theorem Lk.sees_iff {k : Lk} (hk : 1 ≤ k.r0) {c v : Nat} (hc : c < 32) : k.sees c v = true ↔ ∃ a r n mv, k.Past c a r n mv ∧ pastView c a r n mv = v := by
 have h0 := (places_in c hc).1
 unfold Lk.sees
 rw [List.any_eq_true]
 constructor
 · rintro ⟨s, hs, hv⟩
   obtain ⟨a, r, n, f, h1, h2, h3, h4, rfl⟩ := Lk.mem_stgs.1 hs
   have hr : 0 < (k.stg c a r n f).read := by show 0 < r; omega
   obtain ⟨mv, h5, h6, h7⟩ := (Stg.reach_iff hr).1 hv
   cases mv with
   | nil => change 0 = (placesTo c 7).length at h5; omega
   | cons m l =>
     obtain ⟨h8, h9⟩ := h6
     have hm : m = f := h8
     subst hm
     rw [Stg.mayAll_tail l 1 (by omega)] at h9
     refine ⟨a, r, n, m :: l, ⟨h1, h2, h3, h5, fun x hx => ?_⟩, ?_⟩
     · rcases List.mem_cons.1 hx with rfl | hx
       · exact h4
       · exact h9 x hx
     · rw [← h7]
       exact Stg.viewFrom_eq (s := ⟨c, placesTo c 7, a, r, n, m, 0, 0⟩) (s' := k.stg c a r n m) rfl rfl rfl rfl rfl (m :: l) 0 127
 · rintro ⟨a, r, n, mv, hp, rfl⟩
   cases mv with
   | nil => have := hp.len; change 0 = (placesTo c 7).length at this; omega
   | cons m l =>
     refine ⟨k.stg c a r n m, Lk.mem_stgs.2 ⟨a, r, n, m, hp.send, hp.read, hp.lean, hp.moves m List.mem_cons_self, rfl⟩, ?_⟩
     have hr : 0 < (k.stg c a r n m).read := by have h2 := hp.read; show 0 < r; omega
     refine (Stg.reach_iff hr).2 ⟨m :: l, hp.len, ⟨rfl, (Stg.mayAll_tail l 1 (by omega)).2 fun x hx => hp.moves x (List.mem_cons_of_mem _ hx)⟩, ?_⟩
     exact Stg.viewFrom_eq (s := k.stg c a r n m) (s' := ⟨c, placesTo c 7, a, r, n, m, 0, 0⟩) rfl rfl rfl rfl rfl (m :: l) 0 127
structure Lk.Within (o k : Lk) : Prop where
 s : k.s0 ≤ o.s0 ∧ o.s1 ≤ k.s1
 r : k.r0 ≤ o.r0 ∧ o.r1 ≤ k.r1
 l : k.l0 ≤ o.l0 ∧ o.l1 ≤ k.l1
 m : k.m0 ≤ o.m0 ∧ o.m1 ≤ k.m1
theorem Lk.Past.within {o k : Lk} (h : o.Within k) {c : Nat} {a r n : Int} {mv : List Int} (p : o.Past c a r n mv) : k.Past c a r n mv := by
 obtain ⟨h1, h2, h3, h4⟩ := h
 obtain ⟨p1, p2, p3, p4, p5⟩ := p
 exact ⟨by omega, by omega, by omega, p4, fun m hm => by have := p5 m hm; omega⟩
theorem Lk.sees_within {o k : Lk} (ho : 1 ≤ o.r0) (hk : 1 ≤ k.r0) (h : o.Within k) {c v : Nat} (hc : c < 32) (hv : o.sees c v = true) : k.sees c v = true := by
 obtain ⟨a, r, n, mv, hp, rfl⟩ := (Lk.sees_iff ho hc).1 hv
 exact (Lk.sees_iff hk hc).2 ⟨a, r, n, mv, hp.within h, rfl⟩
theorem Lk.sure_sees {k : Lk} (hk : 1 ≤ k.r0) : k.Sure ↔ ∀ c, c < 32 → ∀ w, k.sees c w = true → w = rightN c := by
 unfold Lk.Sure
 refine forall_congr' fun c => forall_congr' fun hc => ?_
 rw [← Lk.wrong_none, Lk.wrong_sees hk]
theorem Lk.sure_within {o k : Lk} (ho : 1 ≤ o.r0) (hk : 1 ≤ k.r0) (h : o.Within k) (hs : k.Sure) : o.Sure :=
 (Lk.sure_sees ho).2 fun c hc w hw => (Lk.sure_sees hk).1 hs c hc w (Lk.sees_within ho hk h hc hw)
theorem Lk.sees_some {k : Lk} (hk : 1 ≤ k.r0) (h1 : k.s0 ≤ k.s1) (h2 : k.r0 ≤ k.r1) (h3 : k.l0 ≤ k.l1) (h4 : k.m0 ≤ k.m1) {c : Nat} (hc : c < 32) : ∃ v, k.sees c v = true :=
 ⟨_, (Lk.sees_iff hk hc).2 ⟨k.s0, k.r0, k.l0, List.replicate (placesTo c 7).length k.m0, ⟨⟨Int.le_refl _, h1⟩, ⟨Int.le_refl _, h2⟩, ⟨Int.le_refl _, h3⟩, by simp, fun m hm => by rw [(List.mem_replicate.1 hm).2]; exact ⟨Int.le_refl _, h4⟩⟩, rfl⟩⟩
end Go.Proofs.YtpdaenfglbgfkaaGreatDoor
