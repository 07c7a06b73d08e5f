/-
  What Sent returns is what Tune has a band of; what is learnt once is learnt: the walk.
-/
import Derived.Test.YtpdaenfglbgfkaaGreatDoorW08
import Derived.Test.YtpdaenfglbgfkaaGreatDoorWLate
import Derived.Test.YtpdaenfglbgfkaaGreatDoorWI1
import Derived.Test.YtpdaenfglbgfkaaGreatDoorWH1
namespace Go.Proofs.YtpdaenfglbgfkaaGreatDoor
open Go.RL
set_option maxRecDepth 10000
set_option maxHeartbeats 8000000
theorem tune_good {p : Int → Bool} {lo hi : Int} : ∀ (l : List Int) (o : Option (Int × Int)), (∀ x ∈ l, lo ≤ x ∧ x ≤ hi) → l.Pairwise (· < ·) → (∀ a b, o = some (a, b) → p a = true ∧ p b = true ∧ a ≤ b ∧ lo ≤ a ∧ b ≤ hi ∧ ∀ x ∈ l, b < x) → ∀ a b, tuneTo p l o = some (a, b) → p a = true ∧ p b = true ∧ a ≤ b ∧ lo ≤ a ∧ b ≤ hi
 | [], o, _, _, h, a, b, e => by
   obtain ⟨h1, h2, h3, h4, h5, _⟩ := h a b e
   exact ⟨h1, h2, h3, h4, h5⟩
 | n :: l, o, hl, hp, h, a, b, e => by
   have hn := hl n List.mem_cons_self
   obtain ⟨g1, g2⟩ := List.pairwise_cons.1 hp
   cases hpn : p n with
   | false =>
     have e2 : tuneTo p l o = some (a, b) := by
       unfold tuneTo at e
       rw [if_neg (by rw [hpn]; decide)] at e
       exact e
     exact tune_good l o (fun x hx => hl x (List.mem_cons_of_mem _ hx)) g2 (fun a' b' e' => by
       obtain ⟨h1, h2, h3, h4, h5, h6⟩ := h a' b' e'
       exact ⟨h1, h2, h3, h4, h5, fun x hx => h6 x (List.mem_cons_of_mem _ hx)⟩) a b e2
   | true =>
     cases o with
     | none =>
       have e2 : tuneTo p l (some (n, n)) = some (a, b) := by
         have e1 : tuneTo p l (if p n then some (n, n) else none) = some (a, b) := e
         rw [if_pos hpn] at e1
         exact e1
       refine tune_good l (some (n, n)) (fun x hx => hl x (List.mem_cons_of_mem _ hx)) g2 (fun a' b' e' => ?_) a b e2
       simp only [Option.some.injEq, Prod.mk.injEq] at e'
       obtain ⟨rfl, rfl⟩ := e'
       exact ⟨hpn, hpn, Int.le_refl _, hn.1, hn.2, g1⟩
     | some ab =>
       obtain ⟨x, y⟩ := ab
       have e2 : tuneTo p l (some (x, n)) = some (a, b) := by
         have e1 : tuneTo p l (if p n then some (x, n) else some (x, y)) = some (a, b) := e
         rw [if_pos hpn] at e1
         exact e1
       refine tune_good l (some (x, n)) (fun x hx => hl x (List.mem_cons_of_mem _ hx)) g2 (fun a' b' e' => ?_) a b e2
       simp only [Option.some.injEq, Prod.mk.injEq] at e'
       obtain ⟨rfl, rfl⟩ := e'
       obtain ⟨h1, h2, h3, h4, h5, h6⟩ := h x y rfl
       exact ⟨h1, hpn, by have := h6 n List.mem_cons_self; omega, h4, hn.2, g1⟩
theorem tune_from {p : Int → Bool} {b : Int} (hb : p b = true) (a0 : Int) : ∀ (n : Nat) (c x : Int), (b + 1 - c).toNat = n → tuneTo p (upTo c b) (some (a0, x)) = some (a0, if c ≤ b then b else x)
 | 0, c, x, h => by
   rw [upTo_nil (by omega), if_neg (by omega)]
   rfl
 | n + 1, c, x, h => by
   rw [upTo_cons (by omega), if_pos (by omega)]
   show tuneTo p (upTo (c + 1) b) (if p c then some (a0, c) else some (a0, x)) = _
   cases hc : p c with
   | true =>
     rw [if_pos rfl, tune_from hb a0 n (c + 1) c (by omega)]
     by_cases e : c + 1 ≤ b
     · rw [if_pos e]
     · rw [if_neg e, show c = b by omega]
   | false =>
     have hne : c ≠ b := by
       rintro rfl
       rw [hb] at hc
       cases hc
     rw [if_neg (by decide), tune_from hb a0 n (c + 1) x (by omega), if_pos (by omega)]
theorem upTo_up (a b : Int) : (upTo a b).Pairwise (· < ·) := by
 unfold upTo
 rw [List.pairwise_map]
 exact List.pairwise_lt_range.imp fun h => by omega
theorem Lk.tune_in {k : Lk} {ps : List Nat} {t : List Int} {a b : Int} (h : k.tune ps t = some (a, b)) : k.gives ps a (afterTo t ps.length) = true ∧ k.gives ps b (afterTo t ps.length) = true ∧ a ≤ b ∧ k.s0 ≤ a ∧ b ≤ k.s1 :=
 tune_good (upTo k.s0 k.s1) none (fun _ hx => mem_upTo.1 hx) (upTo_up _ _) (fun _ _ e => nomatch e) a b h
theorem Lk.ok_sent {k : Lk} (hk : k.ok = true) {a b : Int} (h1 : k.s0 ≤ a) (h2 : a ≤ b) (h3 : b ≤ k.s1) : (k.sent a b).ok = true := by
 rw [Lk.ok_eq] at hk ⊢
 simp only [Bool.and_eq_true] at hk ⊢
 obtain ⟨⟨h4, h5⟩, h6⟩ := hk
 have h7 : 1 ≤ k.s0 ∧ k.s0 ≤ k.s1 ∧ k.s1 ≤ 40 ∧ k.s1 - k.s0 < 3 := of_decide_eq_true h4
 exact ⟨⟨decide_eq_true (by show 1 ≤ a ∧ a ≤ b ∧ b ≤ 40 ∧ b - a < 3; omega), h5⟩, h6⟩
theorem Lk.tune_sent {k : Lk} {ps : List Nat} {t : List Int} {a b : Int} (h : k.tune ps t = some (a, b)) : (k.sent a b).tune ps t = some (a, b) := by
 obtain ⟨h1, h2, h3, _, _⟩ := Lk.tune_in h
 show tuneTo (fun n => k.gives ps n (afterTo t ps.length)) (upTo a b) none = some (a, b)
 rw [upTo_cons h3]
 show tuneTo (fun n => k.gives ps n (afterTo t ps.length)) (upTo (a + 1) b) (if k.gives ps a (afterTo t ps.length) then some (a, a) else none) = _
 rw [if_pos h1, tune_from (p := fun n => k.gives ps n (afterTo t ps.length)) h2 a _ (a + 1) a rfl]
 by_cases e : a + 1 ≤ b
 · rw [if_pos e]
 · rw [if_neg e, show a = b by omega]
theorem mem_keepI {p : Nat → Bool} {k c : Nat} (h : c < k) : ((c : Nat) : Int) ∈ keepI p k ↔ p c = true := by
 unfold keepI
 rw [List.mem_map]
 constructor
 · rintro ⟨a, h1, h2⟩
   obtain rfl : a = c := by omega
   exact (List.mem_filter.1 h1).2
 · intro h1
   exact ⟨c, List.mem_filter.2 ⟨List.mem_range.2 h, h1⟩, rfl⟩
theorem TimesAt.of_gl {H : View} {g : Gl 3 1} {l : List Int} (hl : g.l = intsL l) (hne : l ≠ []) (h : ∀ y ∈ g.bl, H y.1 = some y.2) : TimesAt H (g.blk.map fun b => ⟨b, 0, none⟩) l := by
 have hn : g.n = l.length := by
   have := g.hl
   rw [hl, intsL_len] at this
   omega
 obtain ⟨_ | b, n, cap, gl, gj, h1, h2, h3, h4⟩ := g
 · have := h4 rfl
   simp only at hn h2
   exact (hne (List.eq_nil_of_length_eq_zero (by omega))).elim
 · simp only at hl
   subst hl
   refine ⟨b, 0, true, intsL l ++ gj, 3, (0, 0), rfl, h (b, true, .cells ⟨intsL l ++ gj⟩ 3 (0, 0)) (by simp [Gl.bl]), ?_, ?_⟩
   · rw [List.length_append, intsL_len]
     omega
   · rw [List.drop_zero, Nat.mul_one, List.take_append_of_le_length (by rw [intsL_len]; exact Nat.le_refl _), List.take_of_length_le (by rw [intsL_len]; exact Nat.le_refl _)]
theorem eg27 : Tryz.prog.eqGuardType Tryz.prog.depth 27 = false := by kernel_rfl
theorem line_flat (a b c d : Int) : flat en 3 25 [.int .i64 a, .int .i64 b, .int .i64 c, .int .i64 d] := by
 refine ⟨rfl, ?_⟩
 intro f hf
 simp only [List.mem_cons, List.not_mem_nil, or_false] at hf
 rcases hf with rfl | rfl
 · exact ⟨band_flat a b, _, rfl, rfl, Nat.le_of_ble_eq_true rfl⟩
 · exact ⟨band_flat c d, _, rfl, rfl, Nat.le_of_ble_eq_true rfl⟩
theorem band_flat3 (a b : Int) : flat en 3 23 [.int .i64 a, .int .i64 b] := by
 refine ⟨rfl, ?_⟩
 intro f hf
 simp only [List.mem_cons, List.not_mem_nil, or_false] at hf
 rcases hf with rfl | rfl
 · exact ⟨⟨_, rfl⟩, _, rfl, rfl, Nat.le_of_ble_eq_true rfl⟩
 · exact ⟨⟨_, rfl⟩, _, rfl, rfl, Nat.le_of_ble_eq_true rfl⟩
theorem link_flat (k : Lk) : flat en 4 27 [.int .i64 k.s0, .int .i64 k.s1, .int .i64 k.r0, .int .i64 k.r1, .int .i64 k.l0, .int .i64 k.l1, .int .i64 k.m0, .int .i64 k.m1] := by
 refine ⟨rfl, ?_⟩
 intro f hf
 simp only [List.mem_cons, List.not_mem_nil, or_false] at hf
 rcases hf with rfl | rfl | rfl
 · exact ⟨band_flat3 k.s0 k.s1, _, rfl, rfl, Nat.le_of_ble_eq_true rfl⟩
 · exact ⟨band_flat3 k.r0 k.r1, _, rfl, rfl, Nat.le_of_ble_eq_true rfl⟩
 · exact ⟨line_flat k.l0 k.l1 k.m0 k.m1, _, rfl, rfl, Nat.le_of_ble_eq_true rfl⟩
end Go.Proofs.YtpdaenfglbgfkaaGreatDoor
