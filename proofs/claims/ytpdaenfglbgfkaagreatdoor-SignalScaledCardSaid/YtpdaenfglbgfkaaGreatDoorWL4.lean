/-
  Plain laws: the least past in which a letter is not read rightly.
-/
import Derived.Test.YtpdaenfglbgfkaaGreatDoorW08
import Derived.Test.YtpdaenfglbgfkaaGreatDoorWL3
namespace Go.Proofs.YtpdaenfglbgfkaaGreatDoor
open Go.RL
set_option maxRecDepth 10000
def lesserL : List Int → List Int → Bool
 | [], [] => false
 | [], _ :: _ => true
 | _ :: _, [] => false
 | x :: l, y :: m => if x = y then lesserL l m else decide (x < y)
def leL : List Int → List Int → Prop
 | [], _ => True
 | _ :: _, [] => False
 | x :: l, y :: m => x < y ∨ (x = y ∧ leL l m)
theorem leL_refl : ∀ l : List Int, leL l l
 | [] => trivial
 | _ :: l => .inr ⟨rfl, leL_refl l⟩
theorem leL_trans : ∀ {a b c : List Int}, leL a b → leL b c → leL a c
 | [], _, _, _, _ => trivial
 | _ :: _, [], _, h, _ => h.elim
 | _ :: _, _ :: _, [], _, h => h.elim
 | x :: a, y :: b, z :: c, h, k => by
   rcases h with h | ⟨rfl, h⟩
   · rcases k with k | ⟨rfl, k⟩
     · exact .inl (Int.lt_trans h k)
     · exact .inl h
   · rcases k with k | ⟨rfl, k⟩
     · exact .inl k
     · exact .inr ⟨rfl, leL_trans h k⟩
theorem leL_not : ∀ {a b : List Int}, leL a b → lesserL b a = false
 | [], [], _ => rfl
 | [], _ :: _, _ => rfl
 | _ :: _, [], h => h.elim
 | x :: a, y :: b, h => by
   unfold lesserL
   rcases h with h | ⟨rfl, h⟩
   · rw [if_neg (by omega)]
     exact decide_eq_false (by omega)
   · rw [if_pos rfl]
     exact leL_not h
theorem leL_app : ∀ (p : List Int) {a b : List Int}, leL a b → leL (p ++ a) (p ++ b)
 | [], _, _, h => h
 | _ :: p, _, _, h => .inr ⟨rfl, leL_app p h⟩
theorem find_least {α : Type} {R : α → α → Prop} {p : α → Bool} : ∀ {l : List α} {x y : α}, l.Pairwise R → l.find? p = some x → y ∈ l → p y = true → x = y ∨ R x y
 | [], _, _, _, h, _, _ => by cases h
 | a :: l, x, y, hR, h, hy, hp => by
   rw [List.find?_cons] at h
   obtain ⟨h1, h2⟩ := List.pairwise_cons.1 hR
   cases ha : p a with
   | true =>
     rw [ha] at h
     cases h
     rcases List.mem_cons.1 hy with rfl | hy
     · exact .inl rfl
     · exact .inr (h1 y hy)
   | false =>
     rw [ha] at h
     rcases List.mem_cons.1 hy with rfl | hy
     · rw [ha] at hp; cases hp
     · exact find_least h2 h hy hp
theorem findSome_least {α β : Type} {R : α → α → Prop} {p : α → Option β} : ∀ {l : List α} {b : β}, l.Pairwise R → l.findSome? p = some b → ∃ x ∈ l, p x = some b ∧ ∀ y ∈ l, (p y).isSome = true → x = y ∨ R x y
 | [], _, _, h => by cases h
 | a :: l, b, hR, h => by
   rw [List.findSome?_cons] at h
   obtain ⟨h1, h2⟩ := List.pairwise_cons.1 hR
   cases ha : p a with
   | some c =>
     rw [ha] at h
     cases h
     refine ⟨a, List.mem_cons_self, ha, fun y hy _ => ?_⟩
     rcases List.mem_cons.1 hy with rfl | hy
     · exact .inl rfl
     · exact .inr (h1 y hy)
   | none =>
     rw [ha] at h
     obtain ⟨x, hx, hb, hl⟩ := findSome_least h2 h
     refine ⟨x, List.mem_cons_of_mem _ hx, hb, fun y hy hs => ?_⟩
     rcases List.mem_cons.1 hy with rfl | hy
     · rw [ha] at hs; cases hs
     · exact hl y hy hs
theorem upTo_lt (a b : Int) : (upTo a b).Pairwise (· < ·) := by
 unfold upTo
 rw [List.pairwise_map]
 exact List.pairwise_lt_range.imp fun h => by omega
def Stg.key (s : Stg) : List Int := [s.send, s.read, s.lean, s.first]
theorem Lk.stgs_sorted (k : Lk) (c : Nat) : (k.stgs c).Pairwise fun s t => leL s.key t.key := by
 unfold Lk.stgs Lk.stgs₁
 rw [List.pairwise_flatMap]
 refine ⟨fun a _ => ?_, (upTo_lt _ _).imp fun h x hx y hy => ?_⟩
 · unfold Lk.stgs₂
   rw [List.pairwise_flatMap]
   refine ⟨fun r _ => ?_, (upTo_lt _ _).imp fun h x hx y hy => ?_⟩
   · unfold Lk.stgs₃
     rw [List.pairwise_flatMap]
     refine ⟨fun n _ => ?_, (upTo_lt _ _).imp fun h x hx y hy => ?_⟩
     · unfold Lk.stgs₄
       rw [List.pairwise_map]
       exact (upTo_lt _ _).imp fun h => .inr ⟨rfl, .inr ⟨rfl, .inr ⟨rfl, .inl h⟩⟩⟩
     · simp only [Lk.stgs₄, List.mem_map] at hx hy
       obtain ⟨_, _, rfl⟩ := hx
       obtain ⟨_, _, rfl⟩ := hy
       exact .inr ⟨rfl, .inr ⟨rfl, .inl h⟩⟩
   · simp only [Lk.stgs₃, Lk.stgs₄, List.mem_flatMap, List.mem_map] at hx hy
     obtain ⟨_, _, _, _, rfl⟩ := hx
     obtain ⟨_, _, _, _, rfl⟩ := hy
     exact .inr ⟨rfl, .inl h⟩
 · simp only [Lk.stgs₂, Lk.stgs₃, Lk.stgs₄, List.mem_flatMap, List.mem_map] at hx hy
   obtain ⟨_, _, _, _, _, _, rfl⟩ := hx
   obtain ⟨_, _, _, _, _, _, rfl⟩ := hy
   exact .inl h
theorem optGo_sorted {read mt after : Int} : ∀ (f : Nat) (n : Int), (optGo read mt after f n).Pairwise fun o p => o.2 < p.2
 | 0, n => List.Pairwise.nil
 | f + 1, n => by
   unfold optGo
   split
   · refine List.pairwise_cons.2 ⟨fun o ho => ?_, ?_⟩
     · split at ho
       · cases ho
       · rename_i h7
         have h5 := missedF_in read (after + n)
         have h6 := h5.2.2 h7
         obtain ⟨h1, _, _⟩ := optGo_is f _ o ho
         simp only
         omega
     · split
       · exact List.Pairwise.nil
       · exact optGo_sorted f _
   · exact List.Pairwise.nil
theorem Stg.opts_sorted (s : Stg) (p i : Nat) : (s.opts p i).Pairwise fun o q => o.2 < q.2 := by
 unfold Stg.opts
 split
 · exact List.pairwise_singleton _ _
 · exact optGo_sorted _ _
theorem Stg.leaves_sorted (s : Stg) : ∀ (d i v : Nat) (pre : List Int), (s.leaves d i v pre).Pairwise fun x y => leL x.2 y.2
 | 0, i, v, pre => List.pairwise_singleton _ _
 | d + 1, i, v, pre => by
   unfold Stg.leaves
   rw [List.pairwise_flatMap]
   refine ⟨fun o _ => s.leaves_sorted d _ _ _, (s.opts_sorted _ _).imp fun h x hx y hy => ?_⟩
   obtain ⟨l, _, h2, _⟩ := Stg.leaves_is _ _ _ _ _ hx
   obtain ⟨m, _, h4, _⟩ := Stg.leaves_is _ _ _ _ _ hy
   rw [h2, h4, List.append_assoc, List.append_assoc]
   exact leL_app pre (.inl h)
theorem Stg.leaves_below {s : Stg} (hr : 0 < s.read) : ∀ (l : List Int) (i v : Nat) (pre : List Int), s.mayAll i l → ∃ x ∈ s.leaves l.length i v pre, x.1 = s.viewFrom i v l ∧ ∃ l', x.2 = pre ++ l' ∧ leL l' l
 | [], i, v, pre, _ => ⟨(v, pre), by simp [Stg.leaves], rfl, [], by simp, trivial⟩
 | m :: l, i, v, pre, h => by
   obtain ⟨o, h1, h2, h0⟩ := Stg.opts_all hr h.1
   obtain ⟨x, h3, h4, l', h5, h6⟩ := Stg.leaves_below hr l (i + 1) (turnedN v o.1.toNat) (pre ++ [o.2]) h.2
   refine ⟨x, ?_, ?_, o.2 :: l', by rw [h5]; simp, ?_⟩
   · simp only [List.length_cons, Stg.leaves]
     exact List.mem_flatMap.2 ⟨o, h1, h3⟩
   · rw [h4, h2]
     rfl
   · rcases Int.lt_or_eq_of_le h0 with h7 | h7
     · exact .inl h7
     · exact .inr ⟨h7, h6⟩
theorem leL_four {a r n f a' r' n' f' : Int} {l l' : List Int} (h : leL [a, r, n, f] [a', r', n', f']) (hne : ¬ (a = a' ∧ r = r' ∧ n = n' ∧ f = f')) : leL (a :: r :: n :: f :: l) (a' :: r' :: n' :: f' :: l') := by
 rcases h with h | ⟨rfl, h | ⟨rfl, h | ⟨rfl, h | ⟨rfl, _⟩⟩⟩⟩
 · exact .inl h
 · exact .inr ⟨rfl, .inl h⟩
 · exact .inr ⟨rfl, .inr ⟨rfl, .inl h⟩⟩
 · exact .inr ⟨rfl, .inr ⟨rfl, .inr ⟨rfl, .inl h⟩⟩⟩
 · exact absurd ⟨rfl, rfl, rfl, rfl⟩ hne
theorem stg_pastView {k : Lk} {c : Nat} {a r n m : Int} {l : List Int} : (k.stg c a r n m).viewFrom 0 127 (m :: l) = pastView c a r n (m :: l) :=
 Stg.viewFrom_eq (s := k.stg c a r n m) (s' := ⟨c, placesTo c 7, a, r, n, m, 0, 0⟩) rfl rfl rfl rfl rfl (m :: l) 0 127
theorem Lk.wrong_least {k : Lk} (hk : 1 ≤ k.r0) {c : Nat} (hc : c < 32) {a r n : Int} {mv : List Int} (h : k.wrong c = some (a, r, n, mv)) :
   k.Past c a r n mv ∧ pastView c a r n mv ≠ rightN c ∧ ∀ a' r' n' mv', k.Past c a' r' n' mv' → pastView c a' r' n' mv' ≠ rightN c → lesserL (a' :: r' :: n' :: mv') (a :: r :: n :: mv) = false := by
 have h0 := (places_in c hc).1
 unfold Lk.wrong at h
 obtain ⟨s, hs, hw, hl⟩ := findSome_least (k.stgs_sorted c) h
 obtain ⟨a0, r0, n0, f, h1, h2, h3, h4, rfl⟩ := Lk.mem_stgs.1 hs
 unfold Stg.wrong at hw
 rw [Option.map_eq_some_iff] at hw
 obtain ⟨x, hx, e⟩ := hw
 simp only [Prod.mk.injEq] at e
 obtain ⟨e1, e2, e3, e4⟩ := e
 have e1' : a0 = a := e1
 have e2' : r0 = r := e2
 have e3' : n0 = n := e3
 subst e1' e2' e3'
 have hxm := List.mem_of_find?_eq_some hx
 have hxn := List.find?_some hx
 obtain ⟨l, g1, g2, g3, g4⟩ := Stg.leaves_is _ _ _ _ _ hxm
 rw [List.nil_append] at g2
 rw [g2] at e4
 subst e4
 have g1' : l.length = (placesTo c 7).length := g1
 cases l with
 | nil => simp only [List.length_nil] at g1'; omega
 | cons m l =>
   obtain ⟨g5, g6⟩ := g3
   have g5' : m = f := g5
   subst g5'
   rw [Stg.mayAll_tail l 1 (by omega)] at g6
   have hview : pastView c a0 r0 n0 (m :: l) = x.1 := by rw [g4, stg_pastView]
   refine ⟨⟨h1, h2, h3, g1, fun z hz => ?_⟩, ?_, fun a' r' n' mv' hp hne => ?_⟩
   · rcases List.mem_cons.1 hz with rfl | hz
     · exact h4
     · exact g6 z hz
   · rw [hview]
     simpa [notRt] using hxn
   · refine leL_not ?_
     cases mv' with
     | nil => have := hp.len; change 0 = (placesTo c 7).length at this; omega
     | cons m' l' =>
       have hr' : 0 < (k.stg c a' r' n' m').read := by have h2 := hp.read; show 0 < r'; omega
       have ht : k.stg c a' r' n' m' ∈ k.stgs c := Lk.mem_stgs.2 ⟨a', r', n', m', hp.send, hp.read, hp.lean, hp.moves m' List.mem_cons_self, rfl⟩
       obtain ⟨y, hy, hy1, ly, hy2, hy3⟩ := Stg.leaves_below hr' (m' :: l') 0 127 [] ⟨rfl, (Stg.mayAll_tail l' 1 (by omega)).2 fun z hz => hp.moves z (List.mem_cons_of_mem _ hz)⟩
       rw [hp.len] at hy
       rw [List.nil_append] at hy2
       have hyn : notRt (rightN c) y = true := by
         unfold notRt
         rw [hy1, stg_pastView]
         simpa using hne
       by_cases heq : a0 = a' ∧ r0 = r' ∧ n0 = n' ∧ m = m'
       · obtain ⟨rfl, rfl, rfl, rfl⟩ := heq
         refine .inr ⟨rfl, .inr ⟨rfl, .inr ⟨rfl, ?_⟩⟩⟩
         refine leL_trans ?_ hy3
         rw [← hy2, ← g2]
         rcases find_least (Stg.leaves_sorted _ _ _ _ _) hx hy hyn with rfl | h5
         · exact leL_refl _
         · exact h5
       · have hsome : ((k.stg c a' r' n' m').wrong (rightN c)).isSome = true := by
           unfold Stg.wrong
           rw [Option.isSome_map, List.find?_isSome]
           exact ⟨y, hy, hyn⟩
         rcases hl _ ht hsome with h5 | h5
         · simp only [Lk.stg, Stg.mk.injEq] at h5
           exact absurd ⟨h5.2.2.1, h5.2.2.2.1, h5.2.2.2.2.1, h5.2.2.2.2.2.1⟩ heq
         · exact leL_four h5 heq
theorem Lk.claim_one {k : Lk} (hk : k.ok = true) {c : Nat} (hc : c < 32) : k.claim c = 1 ↔ k.wrong c = none := by
 obtain ⟨hks, hkr, hkl, hkm⟩ := Lk.ok_in hk
 rw [Lk.wrong_sees hkr.1]
 obtain ⟨v, hv⟩ := Lk.sees_some (k := k) hkr.1 hks.2.1 hkr.2.1 hkl.2.1 hkm.2.1 hc
 have hlt : ∀ w, k.sees c w = true → w < 128 := fun w hw => by
   obtain ⟨a, r, n, mv, _, rfl⟩ := (Lk.sees_iff hkr.1 hc).1 hw
   exact Stg.viewFrom_lt _ _ _ _ (by decide)
 unfold Lk.claim
 constructor
 · intro h w hw
   split at h
   · rename_i hr
     split at h
     · rename_i h1
       unfold Lk.seen at h1
       obtain ⟨z, hz⟩ := List.length_eq_one_iff.1 h1
       have m1 : w ∈ (List.range 128).filter (k.sees c) := List.mem_filter.2 ⟨List.mem_range.2 (hlt w hw), hw⟩
       have m2 : rightN c ∈ (List.range 128).filter (k.sees c) := List.mem_filter.2 ⟨List.mem_range.2 (hlt _ hr), hr⟩
       rw [hz, List.mem_singleton] at m1 m2
       rw [m1, m2]
     · cases h
   · cases h
 · intro h
   have hr : k.sees c (rightN c) = true := by rw [← h v hv]; exact hv
   rw [if_pos hr, if_pos]
   unfold Lk.seen
   have e : (List.range 128).filter (k.sees c) = [rightN c] := by
     have nd : ((List.range 128).filter (k.sees c)).Nodup := List.Pairwise.filter _ List.nodup_range
     have hall : ∀ x ∈ (List.range 128).filter (k.sees c), x = rightN c := fun x hx => h x (List.mem_filter.1 hx).2
     have hm : rightN c ∈ (List.range 128).filter (k.sees c) := List.mem_filter.2 ⟨List.mem_range.2 (hlt _ hr), hr⟩
     match hL : (List.range 128).filter (k.sees c), nd, hall, hm with
     | [], _, _, hm => cases hm
     | [x], _, hall, _ => rw [hall x (by simp)]
     | x :: y :: l, nd, hall, _ =>
       have h1 := hall x (by simp)
       have h2 := hall y (by simp)
       rw [List.nodup_cons] at nd
       exact absurd (by rw [h1, ← h2]; simp) nd.1
   rw [e]
   rfl
end Go.Proofs.YtpdaenfglbgfkaaGreatDoor
