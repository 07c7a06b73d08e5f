/-
  What Wrong returns is the least past in which a letter is not read rightly: the walk.
-/
import Derived.Test.YtpdaenfglbgfkaaGreatDoorW08
import Derived.Test.YtpdaenfglbgfkaaGreatDoorWH3
import Derived.Test.YtpdaenfglbgfkaaGreatDoorWH4
namespace Go.Proofs.YtpdaenfglbgfkaaGreatDoor
open Go.RL
set_option maxRecDepth 10000
set_option maxHeartbeats 8000000
theorem right_val : ∀ c : Nat, c < 32 → rightN c = 64 + 2 * c := by decide +kernel
theorem read_only {v c : Nat} (hv : v < 128) (h : readN v = some c) : v = rightN c := by
 have hc := readN_lt h
 rw [right_val c hc]
 exact (readN_iff v hv c hc).1 h
theorem pastView_lt (c : Nat) (a r n : Int) (mv : List Int) : pastView c a r n mv < 128 := Stg.viewFrom_lt _ _ _ _ (by decide)
theorem readV_eq (o : Option Nat) : readV o = .tuple ⟨[.int .i64 ((o.getD 0 : Nat) : Int), .bool o.isSome, .int .i64 0]⟩ := by cases o <;> rfl
theorem Worst_w {St : View → Goroutine → Prop} {cs : List Frame} (H : View) (hG : Glob H) (k : Lk) (p : Int) (hp : 0 ≤ p ∧ p < 256) (A : Option Addr) (l : List Int) (n ca : Nat) (hn : n = l.length) (hA : Picks H A l)
   (hR : ∀ (H₀ : View) (R : Rg) (L : Bl) (kk : List Item), lk R 6 = some (.bool true) → H.le H₀ → Tc (Mp Tryz.prog) St 115 ⟨15, .normal, none⟩ H₀ cs R L [] (.code .ret :: kk)) :
   Tc (Mp Tryz.prog) St 115 ⟨15, .normal, none⟩ H cs (argR [k.val, .int .u8 p, .slice A n ca]) [] [] [.code (bodyOf Tryz.f15)] := by
 cases hk : k.ok with
 | false =>
   refine .sr ?_
   refine .e (.bx (zz := fun b3 => ?_))
   refine .g ?_
   refine .done (.seq (.sr ?_))
   refine .x (.ld 0) ?_
   refine .c rfl rfl rfl rfl (fun H hs => .f ca36 rfl (CallT.is (.bool false) (by rewrite [hk]; rfl) (Fit_c _ H k))) ?_
   refine .x .nt ?_
   refine .done (.tt rfl (.sr ?_))
   refine .c rfl rfl rfl rfl (fun H hs => .f ca31 rfl (signalled_c H (glob_le hG hs.base))) ?_
   refine .g ?_
   refine .done ?_
   exact hR _ _ _ _ rfl (View.le_refl _)
 | true =>
   obtain ⟨hks, hkr, hkl, hkm⟩ := Lk.ok_in hk
   obtain ⟨code, hcode⟩ : ∃ c : Nat, p % 32 = (c : Int) := ⟨(p % 32).toNat, by omega⟩
   have hc : code < 32 := by omega
   have hw1 : IntKind.i64.wrap p = p := wrap64 (by omega) (by omega)
   have hr1 : intBin .rem .i64 p 32 = some (.int .i64 (code : Nat)) := by rw [rem_in (by omega) (by omega), hcode]
   have hcl := Lk.claim_one hk hc
   have hp0 := (places_in code hc).1
   have hp6 := (places_in code hc).2.1
   refine .sr ?_
   refine .e (.bx (zz := fun b3 => ?_))
   refine .g ?_
   refine .done (.seq (.sr ?_))
   refine .x (.ld 0) ?_
   refine .c rfl rfl rfl rfl (fun H hs => .f ca36 rfl (CallT.is (.bool true) (by rewrite [hk]; rfl) (Fit_c _ H k))) ?_
   refine .x .nt ?_
   refine .done (.ff rfl (.skip (.sr ?_)))
   refine .m ?_
   refine .x .cv ?_
   refine .i ?_ (z := by assumption)
   refine .g ?_
   refine .done (.seq ?_)
   cases ho : k.wrong code with
   | none =>
     have hc1 := hcl.2 ho
     refine .r ?_
     refine .x (.ld 0) ?_
     refine .m ?_
     refine .c rfl rfl rfl rfl (fun H hs => .f ca28 rfl (CallT.mono (Wrong_c _ H k code (glob_le hG hs.base) hk hc) (Q' := fun v H' => H.le H' ∧ v = .tuple ⟨[.agg ⟨[.int .i64 0, .int .i64 0, .int .i64 0, .slice none 0 0]⟩, .bool false, .int .i64 0]⟩) (by rintro v H' ⟨h1, h2⟩; rw [ho] at h2; exact ⟨h1, h2⟩))) ?_
     refine .m ?_
     refine .x .et ?_
     refine .x .et ?_
     refine .x .et ?_
     refine .e (.al (zz := fun b8 => ?_))
     refine .e (.st 0 (zz := ?_))
     refine .g ?_
     refine .g ?_
     refine .done (.sr ?_)
     refine .x (.ld 1) ?_
     refine .m ?_
     refine .c rfl rfl rfl rfl (fun H hs => .f ca24 rfl (CallT.is (.tuple ⟨[.int .i64 1, .int .i64 0]⟩) (by rewrite [hc1]; rfl) (Right_c _ H k code (glob_le hG hs.base) hk hc))) ?_
     refine .m ?_
     refine .x .et ?_
     refine .x .et ?_
     refine .g ?_
     refine .g ?_
     refine .done (.seq (.sr ?_))
     refine .m ?_
     refine .i ?_ (z := neq_f (by omega))
     refine .m ?_
     refine .m ?_
     refine .i ?_ (z := neq_f (by omega))
     refine .x .pk ?_
     refine .m ?_
     refine .m ?_
     refine .m ?_
     refine .i ?_ (z := neq_f (by omega))
     refine .x .nb ?_
     refine .x .pk ?_
     refine .done (.ff rfl (.skip (.seq (.sr ?_))))
     refine .m ?_
     refine .x .nt ?_
     refine .done (.tt rfl (.sr ?_))
     refine .x (.ld 0) ?_
     refine .x .bu ?_
     refine .c rfl rfl rfl rfl (fun H hs => .f ca30 rfl (SamePasts_same _ H 0 0 0 none none [] 0 0 0 rfl (by decide) (.inl rfl) (.inl rfl))) ?_
     refine .m ?_
     refine .c rfl rfl rfl rfl (fun H hs => .f ca31 rfl (signalled_c H (glob_le hG hs.base))) ?_
     refine .x .pk ?_
     refine .g ?_
     refine .done ?_
     exact hR _ _ _ _ rfl (View.le_refl _)
   | some o =>
     obtain ⟨s, r, e, mv⟩ := o
     obtain ⟨hP, hne, hleast⟩ := Lk.wrong_least hkr.1 hc ho
     obtain ⟨t, ht⟩ : ∃ t, k.claim code = t := ⟨_, rfl⟩
     have ht1 : t ≠ 1 := fun h => by rw [hcl.1 (ht.trans h)] at ho; cases ho
     have hQ := Lk.past_of hk code l
     obtain ⟨w1, o1, hw1', ho1', hrd1⟩ : ∃ (w : Int) (o : Bool), w = (((readN (pastView code s r e mv)).getD 0 : Nat) : Int) ∧ o = (readN (pastView code s r e mv)).isSome ∧ readV (readN (pastView code s r e mv)) = .tuple ⟨[.int .i64 w, .bool o, .int .i64 0]⟩ := ⟨_, _, rfl, rfl, readV_eq _⟩
     obtain ⟨w2, o2, hw2', ho2', hrd2⟩ : ∃ (w : Int) (o : Bool), w = (((readN (pastView code (k.pSend l) (k.pRead l) (k.pLean l) (k.pMoves l (placesTo code 7).length))).getD 0 : Nat) : Int) ∧ o = (readN (pastView code (k.pSend l) (k.pRead l) (k.pLean l) (k.pMoves l (placesTo code 7).length))).isSome ∧ readV (readN (pastView code (k.pSend l) (k.pRead l) (k.pLean l) (k.pMoves l (placesTo code 7).length))) = .tuple ⟨[.int .i64 w, .bool o, .int .i64 0]⟩ := ⟨_, _, rfl, rfl, readV_eq _⟩
     obtain ⟨L, hL⟩ : ∃ L, L = lesserL (k.pSend l :: k.pRead l :: k.pLean l :: k.pMoves l (placesTo code 7).length) (s :: r :: e :: mv) := ⟨_, rfl⟩
     have key1 : o1 = false ∨ (o1 = true ∧ w1 ≠ (code : Nat)) := by
       cases hx : readN (pastView code s r e mv) with
       | none => rw [hx] at ho1'; exact .inl ho1'
       | some x =>
         rw [hx] at ho1' hw1'
         refine .inr ⟨ho1', fun h => hne ?_⟩
         have : x = code := by simp only [Option.getD_some] at hw1'; omega
         subst this
         exact read_only (pastView_lt ..) hx
     have key2 : (o2 = true ∧ w2 = (code : Nat)) ∨ (o2 = false ∧ L = false) ∨ (o2 = true ∧ w2 ≠ (code : Nat) ∧ L = false) := by
       have hl2 : readN (pastView code (k.pSend l) (k.pRead l) (k.pLean l) (k.pMoves l (placesTo code 7).length)) ≠ some code → L = false := fun h => by
         rw [hL]
         refine hleast _ _ _ _ hQ fun h2 => h ?_
         rw [h2]
         exact read_right code hc
       cases hx : readN (pastView code (k.pSend l) (k.pRead l) (k.pLean l) (k.pMoves l (placesTo code 7).length)) with
       | none => rw [hx] at ho2' hl2; exact .inr (.inl ⟨ho2', hl2 (by simp)⟩)
       | some x =>
         rw [hx] at ho2' hw2' hl2
         simp only [Option.getD_some] at hw2'
         by_cases hxc : x = code
         · exact .inl ⟨ho2', by omega⟩
         · exact .inr (.inr ⟨ho2', by omega, hl2 (by simpa using hxc)⟩)
     have hmne : mv ≠ [] := fun h => by have := hP.len; rw [h] at this; simp at this; omega
     have hqne : k.pMoves l (placesTo code 7).length ≠ [] := fun h => by have := hQ.len; rw [h] at this; simp at this; omega
     refine .r ?_
     refine .x (.ld 0) ?_
     refine .m ?_
     refine .e (Or.callNew (fun g : Gl 3 1 => .tuple ⟨[pastV s r e g, .bool true, .int .i64 0]⟩) Gl.bl (fun g : Gl 3 1 => g.l = intsL mv) rfl rfl rfl rfl rfl (by decide) gl_nodup (fun H hs => .f ca28 rfl (CallT.mono (Wrong_c _ H k code (glob_le hG hs.base) hk hc) (by rintro v H' ⟨h1, h2⟩; rw [ho] at h2; obtain ⟨g, h3, h4, h5⟩ := h2; exact ⟨h1, g, h3, h4, h5⟩))) (fun g hg => ?_))
     refine .m ?_
     refine .x .et ?_
     refine .x .et ?_
     refine .x .et ?_
     refine .e (.al (zz := fun b8 => ?_))
     refine .e (.st 0 (zz := ?_))
     refine .g ?_
     refine .g ?_
     refine .done ?_
     have hgn : g.n = mv.length := by have := g.hl; rw [hg, intsL_len] at this; omega
     have hgm : g.n = (placesTo code 7).length := by rw [hgn]; exact hP.len
     refine .sr ?_
     refine .x (.ld 1) ?_
     refine .m ?_
     refine .c rfl rfl rfl rfl (fun H hs => .f ca24 rfl (CallT.is (.tuple ⟨[.int .i64 t, .int .i64 0]⟩) (by rewrite [ht]; rfl) (Right_c _ H k code (glob_le hG hs.base) hk hc))) ?_
     refine .m ?_
     refine .x .et ?_
     refine .x .et ?_
     refine .g ?_
     refine .g ?_
     refine .done (.seq (.sr ?_))
     refine .m ?_
     refine .i ?_ (z := neq_f (by omega))
     refine .m ?_
     refine .m ?_
     refine .i ?_ (z := neq_f (by omega))
     refine .x .pk ?_
     refine .m ?_
     refine .m ?_
     refine .m ?_
     refine .i ?_ (z := neq_t (by omega))
     refine .x .nb ?_
     refine .x .pk ?_
     refine .done (.ff rfl (.skip (.seq (.sr ?_))))
     refine .m ?_
     refine .x .nt ?_
     refine .done (.ff rfl (.skip (.seq (.sr ?_))))
     refine .x (.ld 1) ?_
     refine .m ?_
     refine .x (.ld 0) ?_
     refine .c rfl rfl rfl rfl (fun H hs => .f ca76 rfl (CheckPast_good _ H k code hc s r e mv hP _ g.n g.cap hgm (Nums.of hg (fun y hy => hs.at_ y (by simp [hy]))).2)) ?_
     refine .i ?_ (z := neq_f (by omega))
     refine .done (.ff rfl (.skip (.sr ?_)))
     refine .x (.ld 1) ?_
     refine .m ?_
     refine .x (.ld 0) ?_
     refine .c rfl rfl rfl rfl (fun H hs => .f ca74 rfl (CallT.is (.tuple ⟨[.int .i64 w1, .bool o1, .int .i64 0]⟩) (by rewrite [hrd1]; rfl) (Read_good _ H k (glob_le hG hs.base) hk code hc s r e mv hP _ g.n g.cap hgm (Nums.of hg (fun y hy => hs.at_ y (by simp [hy]))).2))) ?_
     refine .m ?_
     refine .x .et ?_
     refine .x .et ?_
     refine .x .et ?_
     refine .g ?_
     refine .g ?_
     refine .g ?_
     refine .done (.sr ?_)
     refine .x (.ld 1) ?_
     refine .m ?_
     refine .m ?_
     refine .e (Or.callNew (fun g : Gl 3 1 => pastV (k.pSend l) (k.pRead l) (k.pLean l) g) Gl.bl (fun g : Gl 3 1 => g.l = intsL (k.pMoves l (placesTo code 7).length)) rfl rfl rfl rfl rfl (by decide) gl_nodup (fun H hs => .f ca73 rfl (Past_c _ H k hk code hc A l n ca hn (hA.le hs.base))) (fun q hq => ?_))
     refine .e (.al (zz := fun b15 => ?_))
     refine .e (.st 0 (zz := ?_))
     refine .done ?_
     have hqn : q.n = (k.pMoves l (placesTo code 7).length).length := by have := q.hl; rw [hq, intsL_len] at this; omega
     have hqm : q.n = (placesTo code 7).length := by rw [hqn]; exact hQ.len
     refine .sr ?_
     refine .x (.ld 2) ?_
     refine .m ?_
     refine .x (.ld 0) ?_
     refine .c rfl rfl rfl rfl (fun H hs => .f ca74 rfl (CallT.is (.tuple ⟨[.int .i64 w2, .bool o2, .int .i64 0]⟩) (by rewrite [hrd2]; rfl) (Read_good _ H k (glob_le hG hs.base) hk code hc _ _ _ _ hQ _ q.n q.cap hqm (Nums.of hq (fun y hy => hs.at_ y (by simp [hy]))).2))) ?_
     refine .m ?_
     refine .x .et ?_
     refine .x .et ?_
     refine .x .et ?_
     refine .g ?_
     refine .g ?_
     refine .g ?_
     refine .done (.seq ?_)
     clear hrd1 hrd2 hw1' hw2' ho1' ho2'
     rcases key1 with rfl | ⟨rfl, k1⟩
     all_goals rcases key2 with ⟨rfl, k2⟩ | ⟨rfl, kL⟩ | ⟨rfl, k2, kL⟩
     all_goals
       refine .r ?_
       refine .m ?_
       refine .i ?_ (z := eql_t (by omega))
       refine .m ?_
       refine .m ?_
       refine .i ?_ (z := eql_t (by omega))
       refine .x .pk ?_
       refine .m ?_
       refine .m ?_
       refine .x .nt ?_
       refine .m ?_
       first | (refine .sk ?_) | (refine .m ?_)
       first | (refine .sk ?_) | (refine .m ?_)
       first | (refine .sk ?_) | ((refine .x (.it (zz := neq_t (by omega))) ?_))
       refine .x .pk ?_
       refine .x .pk ?_
       refine .m ?_
       refine .m ?_
       refine .m ?_
       first | (refine .sk ?_) | (refine .m ?_)
       first | (refine .sk ?_) | (refine .m ?_)
       first | (refine .sk ?_) | ((refine .x (.it (zz := (by first | exact eql_t (by omega) | exact eql_f (by omega)))) ?_))
       refine .x .pk ?_
       refine .m ?_
       first | (refine .sk ?_) | ((refine .x (.ld 0) ?_))
       first | (refine .sk ?_) | ((refine .x (.ld 1) ?_))
       first | (refine .sk ?_) | (refine .c rfl rfl rfl rfl (fun H hs => .f ca77 rfl (CallT.is (.bool false) (by rewrite [← hL, kL]; rfl) (before_c _ H (k.pSend l) (k.pRead l) (k.pLean l) s r e _ _ (k.pMoves l (placesTo code 7).length) mv q.n g.n q.cap g.cap hqn hgn (by omega) (by omega) (Nums.of hq (fun y hy => hs.at_ y (by simp [hy]))).2 (Nums.of hg (fun y hy => hs.at_ y (by simp [hy]))).2 hqne hmne))) ?_)
       first | (refine .sk ?_) | (refine .x .nt ?_)
       refine .x .pk ?_
       refine .x .pk ?_
       refine .m ?_
       refine .c rfl rfl rfl rfl (fun H hs => .f ca31 rfl (signalled_c H (glob_le hG hs.base))) ?_
       refine .x .pk ?_
       refine .g ?_
       refine .done ?_
       exact hR _ _ _ _ rfl (View.le_refl _)
end Go.Proofs.YtpdaenfglbgfkaaGreatDoor
