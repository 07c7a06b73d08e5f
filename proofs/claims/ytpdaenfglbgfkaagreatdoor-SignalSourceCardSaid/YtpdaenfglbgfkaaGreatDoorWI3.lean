/-
  What Sent returns is what Tune has a band of; what is learnt once is learnt: the walk.
-/
import Derived.Test.YtpdaenfglbgfkaaGreatDoorW08
import Derived.Test.YtpdaenfglbgfkaaGreatDoorWLate
import Derived.Test.YtpdaenfglbgfkaaGreatDoorWI2
namespace Go.Proofs.YtpdaenfglbgfkaaGreatDoor
open Go.RL
set_option maxRecDepth 10000
set_option maxHeartbeats 16000000
def Shorts (H : View) (A : Option Addr) (l : List Int) : Prop :=
 (∀ x ∈ l, -32768 ≤ x ∧ x ≤ 32767) ∧ (l = [] ∨ ∃ ab ao f gs gt gz, A = some ⟨ab, ao, none⟩ ∧ H ab = some (f, .cells ⟨gs⟩ gt gz) ∧ ∀ j : Nat, j < l.length → ldL false 1 gs (ao + (j : Int).toNat * 1) = some (.int .i16 (l[j]?.getD 0)))
def tmF (x : Int) : Int := x.tmod 1000
theorem tm_in (x : Int) : -999 ≤ tmF x ∧ tmF x ≤ 999 := by
 unfold tmF
 rcases Int.le_total 0 x with h | h
 · rw [Int.tmod_eq_emod_of_nonneg h]
   omega
 · obtain ⟨y, rfl⟩ : ∃ y, x = -y := ⟨-x, by omega⟩
   rw [Int.neg_tmod, Int.tmod_eq_emod_of_nonneg (by omega)]
   omega
theorem tm_rem (x : Int) : intBin .rem .i64 x 1000 = some (.int .i64 (tmF x)) := by
 simp only [intBin, if_neg (show (1000 : Int) ≠ 0 by decide)]
 rfl
section
variable (M : Md Tryz.prog) (H : View)
theorem EdgesOf_m (code : Nat) (hc : code < 32) : CallT M 52 #[.int .i64 code] H (fun v H' => H.le H' ∧ ∃ g : Gl 3 1, v = g.val ∧ (g.l = placesV (placesTo code 7) ∧ g.n = (placesTo code 7).length) ∧ ∀ x ∈ g.bl, H' x.1 = some x.2 ∧ H x.1 = none) :=
 CallT.mono (EdgesOf_c M H code hc) (by rintro v H' ⟨h1, g, h2, h3, h4⟩; exact ⟨h1, g, h2, ⟨h3, gl_len h3⟩, h4⟩)
end
theorem Only_w {St : View → Goroutine → Prop} {cs : List Frame} (H : View) (hG : Glob H) (k : Lk) (p : Int) (hp : 0 ≤ p ∧ p < 256) (A : Option Addr) (l : List Int) (n ca : Nat) (hn : n = l.length) (hA : Shorts H A l)
   (hR : ∀ (H₀ : View) (R : Rg) (L : Bl) (kk : List Item), lk R 6 = some (.bool true) → H.le H₀ → Tc (Mp Tryz.prog) St 117 ⟨9, .normal, none⟩ H₀ cs R L [] (.code .ret :: kk)) :
   Tc (Mp Tryz.prog) St 117 ⟨9, .normal, none⟩ H cs (argR [k.val, .int .u8 p, .slice A n ca]) [] [] [.code (bodyOf Tryz.f9)] := by
 cases hk : k.ok with
 | false =>
   refine .sr ?_
   refine .e (.bx (zz := fun b3 => ?_))
   refine .g ?_
   refine .done (.sr ?_)
   refine .m ?_
   refine .x .ln ?_
   refine .g ?_
   refine .done (.seq (.sr ?_))
   refine .x (.ld 0) ?_
   refine .c rfl rfl rfl rfl (fun H hs => .f ca36 rfl (CallT.is (.bool false) (by rewrite [hk]; rfl) (Fit_c _ H k))) ?_
   refine .x .nt ?_
   refine .m ?_
   refine .sk ?_
   refine .sk ?_
   refine .sk ?_
   refine To.skippedU rfl (by decide) rfl ?_
   refine To.skippedU rfl (by decide) rfl ?_
   refine .sk ?_
   refine .sk ?_
   refine To.skippedU rfl (by decide) rfl ?_
   refine To.skippedU rfl (by decide) rfl ?_
   refine .sk ?_
   refine .x .pk ?_
   refine .done (.tt rfl (.sr ?_))
   refine .c rfl rfl rfl rfl (fun H hs => .f ca31 rfl (signalled_c H (glob_le hG hs.base))) ?_
   refine .g ?_
   refine .done ?_
   exact hR _ _ _ _ rfl (View.le_refl _)
 | true =>
   rcases (by omega : (n ≠ 2 ∧ n ≠ 4 ∧ n ≠ 6) ∨ n = 2 ∨ n = 4 ∨ n = 6) with ⟨w1, w2, w3⟩ | hsz
   · refine .sr ?_
     refine .e (.bx (zz := fun b3 => ?_))
     refine .g ?_
     refine .done (.sr ?_)
     refine .m ?_
     refine .x .ln ?_
     refine .g ?_
     refine .done (.seq (.sr ?_))
     refine .x (.ld 0) ?_
     refine .c rfl rfl rfl rfl (fun H hs => .f ca36 rfl (CallT.is (.bool true) (by rewrite [hk]; rfl) (Fit_c _ H k))) ?_
     refine .x .nt ?_
     refine .m ?_
     refine .m ?_
     refine .i ?_ (z := neq_t (by omega))
     refine .m ?_
     refine .m ?_
     refine .i ?_ (z := neq_t (by omega))
     refine .x .pk ?_
     refine .m ?_
     refine .m ?_
     refine .i ?_ (z := neq_t (by omega))
     refine .x .pk ?_
     refine .x .pk ?_
     refine .done (.tt rfl (.sr ?_))
     refine .c rfl rfl rfl rfl (fun H hs => .f ca31 rfl (signalled_c H (glob_le hG hs.base))) ?_
     refine .g ?_
     refine .done ?_
     exact hR _ _ _ _ rfl (View.le_refl _)
   · obtain ⟨code, hcode⟩ : ∃ c : Nat, p % 32 = (c : Int) := ⟨(p % 32).toNat, by omega⟩
     have hc : code < 32 := by omega
     have hw1 : IntKind.i64.wrap p = p := wrap64 (by omega) (by omega)
     have hr1 : intBin .rem .i64 p 32 = some (.int .i64 (code : Nat)) := by rw [rem_in (by omega) (by omega), hcode]
     have hn6 : n ≤ 6 := by omega
     obtain ⟨t, ht⟩ : ∃ t, l.map tmF = t := ⟨_, rfl⟩
     have htl : t.length = n := by rw [← ht, List.length_map, hn]
     have hlen : t.length = 2 ∨ t.length = 4 ∨ t.length = 6 := by omega
     have hne : t ≠ [] := by
       intro e
       rw [e] at htl
       simp at htl
       omega
     have hTold : Told t := ⟨by omega, hne, fun x hx => by
       rw [← ht] at hx
       obtain ⟨y, _, rfl⟩ := List.mem_map.1 hx
       exact tm_in y⟩
     have hps := (places_in code hc).1
     rcases hsz with w | w | w
     all_goals
       refine .sr ?_
       refine .e (.bx (zz := fun b3 => ?_))
       refine .g ?_
       refine .done (.sr ?_)
       refine .m ?_
       refine .x .ln ?_
       refine .g ?_
       refine .done (.seq (.sr ?_))
       refine .x (.ld 0) ?_
       refine .c rfl rfl rfl rfl (fun H hs => .f ca36 rfl (CallT.is (.bool true) (by rewrite [hk]; rfl) (Fit_c _ H k))) ?_
       refine .x .nt ?_
       refine .m ?_
       refine .m ?_
       refine .i ?_ (z := by first | exact neq_t (by omega) | exact neq_f (by omega))
       refine .m ?_
       first | (refine .sk ?_) | (refine .m ?_)
       first | (refine .sk ?_) | ((refine .x (.it (zz := (by first | exact neq_t (by omega) | exact neq_f (by omega)))) ?_))
       refine .x .pk ?_
       refine .m ?_
       first | (refine .sk ?_) | (refine .m ?_)
       first | (refine .sk ?_) | ((refine .x (.it (zz := neq_f (by omega))) ?_))
       refine .x .pk ?_
       refine .x .pk ?_
       refine .done (.ff rfl (.skip (.sr ?_)))
       refine .g ?_
       refine .done (.seq (.sr ?_))
       refine .g ?_
       refine .done (.block ?_)
       refine Tc.db (Tc.loopInv (σ := { x : Nat × Gl 3 1 // x.1 ≤ n ∧ x.2.l = intsL ((l.take x.1).map tmF) }) (fun x => ([(1, .int .u8 p), (2, .slice A n ca), (3, .pointer (some ⟨b3, 0, none⟩)), (7, .int .i64 (n : Nat)), (8, x.1.2.val), (9, .int .i64 (x.1.1 : Nat))],
         (b3, true, .cells ⟨k.val.cells.toList⟩ 27 (0, 0)) :: x.1.2.bl)) (fun x => n - x.1.1) ?_ ⟨(0, Gl.nil 3 1), Nat.zero_le _, rfl⟩)
       rintro ⟨⟨i, u⟩, g1, g2⟩ ih
       simp only at g1 g2
       have hun : u.n = i := by
         have h1 := u.hl
         rw [g2, intsL_len, List.length_map, List.length_take] at h1
         omega
       show Tc (Mp Tryz.prog) St _ _ _ _ [(1, .int .u8 p), (2, .slice A n ca), (3, .pointer (some ⟨b3, 0, none⟩)), (7, .int .i64 (n : Nat)), (8, u.val), (9, .int .i64 (i : Nat))] ((b3, true, .cells ⟨k.val.cells.toList⟩ 27 (0, 0)) :: u.bl) _ _
       by_cases c1 : i = n
       · rw [c1, hn, List.take_length, ht] at g2
         refine .seq (.sr ?_)
         refine .m ?_
         refine .m ?_
         refine .i ?_ (z := lss_f (by omega))
         refine .done (.ff rfl (.exit rfl (.seq ?_)))
         refine Tc.lift (L₂ := [(b3, true, .cells ⟨k.val.cells.toList⟩ 27 (0, 0))]) (L₁ := u.bl) rfl (fun Hx hx => ?_)
         have hGx := glob_le hG hx.base
         have hle := hx.base
         have hT := TimesAt.of_gl (H := Hx) g2 hne (fun y hy => hx.at_ y hy)
         clear hx ih
         have hut : u.n = t.length := by omega
         refine .r ?_
         refine .m ?_
         refine .x .cv ?_
         refine .i ?_ (z := by assumption)
         refine .g ?_
         refine .done (.sr ?_)
         refine .x (.ld 0) ?_
         refine .m ?_
         refine .e (Or.callNew (fun g : Gl 3 1 => .tuple ⟨[g.val, .int .i64 0]⟩) Gl.bl (fun g : Gl 3 1 => g.l = keepTo (k.sentOf t) 32) rfl rfl rfl rfl rfl (by decide) gl_nodup (fun H hs => .f ca46 rfl (Sent_c _ H k (glob_le hGx hs.base) hk t hTold hlen _ u.n u.cap hut (hT.le hs.base))) (fun g hg => ?_))
         refine .m ?_
         refine .x .et ?_
         refine .x .et ?_
         refine .g ?_
         refine .g ?_
         refine .done (.seq ?_)
         refine Tc.lift (L₂ := [(b3, true, .cells ⟨k.val.cells.toList⟩ 27 (0, 0))]) (L₁ := g.bl) rfl (fun Hy hy => ?_)
         have hGy := glob_le hGx hy.base
         have hle2 := View.le_trans hle hy.base
         have hT2 := hT.le hy.base
         obtain ⟨n5, N5⟩ := Nums.of (H := Hy) (hg.trans (keepI_eq _ _)) (fun y hy' => hy.at_ y hy')
         clear hy
         have hl5 := keepI_len (k.sentOf t) 32
         have hnum : ∀ q : Bool, k.sentOf t code = q → ∀ H', Hy.le H' → CallT (Mp Tryz.prog) 39 #[g.val, .int .i64 (code : Nat)] H' (fun v H'' => H'.le H'' ∧ v = .bool q) := fun q hq H' h =>
           CallT.mono (HasNum_c _ H' _ (keepI (k.sentOf t) 32) g.n g.cap (code : Nat) n5 (by omega) (N5.le h)) (by
             rintro v H'' ⟨h1, h2⟩
             have e : decide (((code : Nat) : Int) ∈ keepI (k.sentOf t) 32) = q := by
               rw [← hq, Bool.eq_iff_iff, decide_eq_true_iff, mem_keepI hc]
             rw [e] at h2
             exact ⟨h1, h2⟩)
         refine Tc.db (R' := [(3, .pointer (some ⟨b3, 0, none⟩)), (7, .int .i64 (n : Nat)), (8, u.val), (10, .int .i64 (code : Nat)), (11, g.val), (12, .int .i64 0)]) (L' := [(b3, true, .cells ⟨k.val.cells.toList⟩ 27 (0, 0))]) ?_
         by_cases hcn : n = (placesTo code 7).length
         · have htc : t.length = (placesTo code 7).length := by omega
           have hso : k.sentOf t code = (k.tune (placesTo code 7) (pad6 t)).isSome := by
             unfold Lk.sentOf
             rw [decide_eq_true htc.symm, Bool.true_and]
           cases htu : k.tune (placesTo code 7) (pad6 t) with
           | none =>
             rw [htu] at hso
             have hF := hnum false hso
             refine .r ?_
             refine .x (.ld 0) ?_
             refine .m ?_
             refine .m ?_
             refine .c rfl rfl rfl rfl (fun H hs => .f ca50 rfl (Learn_no _ H k (code : Nat) 10 (by decide) _ u.n u.cap (fun H' h => CallT.mono (hut ▸ Tune_c _ H' k code (glob_le (glob_le hGy hs.base) h) hk hc t hTold (by omega) htc _ u.cap ((hT2.le hs.base).le h)) (by rintro v H'' ⟨h1, h2⟩; rw [htu] at h2; exact ⟨h1, h2⟩)))) ?_
             refine .m ?_
             refine .x .et ?_
             refine .x .et ?_
             refine .e (.al (zz := fun b13 => ?_))
             refine .e (.st 0 (zz := ?_))
             refine .g ?_
             refine .done (.seq (.sr ?_))
             refine .m ?_
             refine .i ?_ (z := neq_f (by omega))
             refine .done (.ff rfl (.skip (.seq (.sr ?_))))
             refine .m ?_
             refine .e (Or.callNew Gl.val Gl.bl (fun g : Gl 3 1 => g.l = placesV (placesTo code 7) ∧ g.n = (placesTo code 7).length) rfl rfl rfl rfl rfl (by decide) gl_nodup (fun H hs => .f ca52 rfl (EdgesOf_m _ H code hc)) (fun g2 ⟨hg2, hn2⟩ => ?_))
             refine .x .ln ?_
             refine .m ?_
             refine .i ?_ (z := neq_f (by omega))
             refine .done (.ff rfl (.skip (.seq (.sr ?_))))
             refine .m ?_
             refine .i ?_ (z := eql_t (by omega))
             refine .done (.tt rfl (.sr ?_))
             refine .m ?_
             refine .m ?_
             refine .c rfl rfl rfl rfl (fun H hs => .f ca39 rfl (hF H hs.base)) ?_
             refine .x .nt ?_
             refine .m ?_
             refine .c rfl rfl rfl rfl (fun H hs => .f ca31 rfl (signalled_c H (glob_le hGy hs.base))) ?_
             refine .x .pk ?_
             refine .g ?_
             refine .done ?_
             exact hR _ _ _ _ rfl hle2
           | some ab =>
             obtain ⟨a, b⟩ := ab
             rw [htu] at hso
             have hF := hnum true hso
             obtain ⟨_, _, q1, q2, q3⟩ := Lk.tune_in htu
             have hk2 := Lk.ok_sent hk q2 q1 q3
             have htu2 := Lk.tune_sent htu
             obtain ⟨k2, ek2⟩ : ∃ k2, k.sent a b = k2 := ⟨_, rfl⟩
             have ek3 : k2.sent a b = k2 := by rw [← ek2]; rfl
             have hLy : ∀ H', Hy.le H' → CallT (Mp Tryz.prog) 50 #[k.val, .int .i64 (code : Nat), u.val] H' (fun v H'' => H'.le H'' ∧ v = .tuple ⟨[k2.val, .int .i64 0]⟩) := fun H' h => by
               rw [← ek2]
               exact Learn_yes _ H' k (code : Nat) a b _ u.n u.cap (fun H'' h' => CallT.mono (hut ▸ Tune_c _ H'' k code (glob_le (glob_le hGy h) h') hk hc t hTold (by omega) htc _ u.cap ((hT2.le h).le h')) (by rintro v H'' ⟨h1, h2⟩; rw [htu] at h2; exact ⟨h1, h2⟩))
             rw [ek2] at hk2 htu2
             have hLz : ∀ H', Hy.le H' → CallT (Mp Tryz.prog) 50 #[k2.val, .int .i64 (code : Nat), u.val] H' (fun v H'' => H'.le H'' ∧ v = .tuple ⟨[k2.val, .int .i64 0]⟩) := fun H' h => by
               have := Learn_yes (Mp Tryz.prog) H' k2 (code : Nat) a b _ u.n u.cap (fun H'' h' => CallT.mono (hut ▸ Tune_c _ H'' k2 code (glob_le (glob_le hGy h) h') hk2 hc t hTold (by omega) htc _ u.cap ((hT2.le h).le h')) (by rintro v H'' ⟨h1, h2⟩; rw [htu2] at h2; exact ⟨h1, h2⟩))
               rw [ek3] at this
               exact this
             refine .r ?_
             refine .x (.ld 0) ?_
             refine .m ?_
             refine .m ?_
             refine .c rfl rfl rfl rfl (fun H hs => .f ca50 rfl (hLy H hs.base)) ?_
             refine .m ?_
             refine .x .et ?_
             refine .x .et ?_
             refine .e (.al (zz := fun b13 => ?_))
             refine .e (.st 0 (zz := ?_))
             refine .g ?_
             refine .done (.seq (.sr ?_))
             refine .m ?_
             refine .i ?_ (z := neq_f (by omega))
             refine .done (.ff rfl (.skip (.seq (.sr ?_))))
             refine .m ?_
             refine .e (Or.callNew Gl.val Gl.bl (fun g : Gl 3 1 => g.l = placesV (placesTo code 7) ∧ g.n = (placesTo code 7).length) rfl rfl rfl rfl rfl (by decide) gl_nodup (fun H hs => .f ca52 rfl (EdgesOf_m _ H code hc)) (fun g2 ⟨hg2, hn2⟩ => ?_))
             refine .x .ln ?_
             refine .m ?_
             refine .i ?_ (z := neq_f (by omega))
             refine .done (.ff rfl (.skip (.seq (.sr ?_))))
             refine .m ?_
             refine .i ?_ (z := eql_f (by omega))
             refine .done (.ff rfl (.skip (.sr ?_)))
             refine .x (.ld 0) ?_
             refine .m ?_
             refine .m ?_
             refine .c rfl rfl rfl rfl (fun H hs => .f ca50 rfl (hLz H hs.base)) ?_
             refine .m ?_
             refine .x .et ?_
             refine .x .et ?_
             refine .e (.al (zz := fun b15 => ?_))
             refine .e (.st 0 (zz := ?_))
             refine .g ?_
             refine .done (.sr ?_)
             refine .m ?_
             refine .i ?_ (z := eql_t (by omega))
             refine .m ?_
             refine .m ?_
             refine .i ?_ (z := eql_t (by omega))
             refine .x .pk ?_
             refine .m ?_
             refine .x (.ld 0) ?_
             refine .x (.ld 1) ?_
             refine .x (OpV.eqA (E := en) true 4 rfl rfl rfl rfl rfl eg27 (by decide) (link_flat k2) (link_flat k2) (by simp)) ?_
             refine .x .pk ?_
             refine .m ?_
             refine .m ?_
             refine .m ?_
             refine .c rfl rfl rfl rfl (fun H hs => .f ca39 rfl (hF H hs.base)) ?_
             refine .x .pk ?_
             refine .m ?_
             refine .c rfl rfl rfl rfl (fun H hs => .f ca31 rfl (signalled_c H (glob_le hGy hs.base))) ?_
             refine .x .pk ?_
             refine .g ?_
             refine .done ?_
             exact hR _ _ _ _ rfl hle2
         · have hso : k.sentOf t code = false := by
             unfold Lk.sentOf
             rw [decide_eq_false (by omega), Bool.false_and]
           have hF := hnum false hso
           refine .r ?_
           refine .x (.ld 0) ?_
           refine .m ?_
           refine .m ?_
           refine .c rfl rfl rfl rfl (fun H hs => .f ca50 rfl (Learn_no _ H k (code : Nat) 2 (by decide) _ u.n u.cap (fun H' h => Tune_tally _ H' k code (glob_le (glob_le hGy hs.base) h) hk hc _ u.n u.cap (by omega)))) ?_
           refine .m ?_
           refine .x .et ?_
           refine .x .et ?_
           refine .e (.al (zz := fun b13 => ?_))
           refine .e (.st 0 (zz := ?_))
           refine .g ?_
           refine .done (.seq (.sr ?_))
           refine .m ?_
           refine .i ?_ (z := neq_f (by omega))
           refine .done (.ff rfl (.skip (.seq (.sr ?_))))
           refine .m ?_
           refine .e (Or.callNew Gl.val Gl.bl (fun g : Gl 3 1 => g.l = placesV (placesTo code 7) ∧ g.n = (placesTo code 7).length) rfl rfl rfl rfl rfl (by decide) gl_nodup (fun H hs => .f ca52 rfl (EdgesOf_m _ H code hc)) (fun g2 ⟨hg2, hn2⟩ => ?_))
           refine .x .ln ?_
           refine .m ?_
           refine .i ?_ (z := neq_t (by omega))
           refine .done (.tt rfl (.sr ?_))
           refine .m ?_
           refine .i ?_ (z := eql_t (by omega))
           refine .m ?_
           refine .m ?_
           refine .m ?_
           refine .c rfl rfl rfl rfl (fun H hs => .f ca39 rfl (hF H hs.base)) ?_
           refine .x .nt ?_
           refine .x .pk ?_
           refine .m ?_
           refine .c rfl rfl rfl rfl (fun H hs => .f ca31 rfl (signalled_c H (glob_le hGy hs.base))) ?_
           refine .x .pk ?_
           refine .g ?_
           refine .done ?_
           exact hR _ _ _ _ rfl hle2
       · have c2 : i < n := by omega
         have c3 : i < l.length := by omega
         rcases hA.2 with hN | ⟨a1, a2, a3, a4, a5, a6, rfl, a7, a8⟩
         · rw [hN] at hn; simp at hn; omega
         have f1 := a8 i c3
         have hxx : -32768 ≤ l[i]?.getD 0 ∧ l[i]?.getD 0 ≤ 32767 := by
           rw [List.getElem?_eq_getElem c3]
           exact hA.1 _ (List.getElem_mem c3)
         have hw2 : IntKind.i64.wrap (l[i]?.getD 0) = l[i]?.getD 0 := wrap64 (by omega) (by omega)
         have hr2 := tm_rem (l[i]?.getD 0)
         refine .seq (.sr ?_)
         refine .m ?_
         refine .m ?_
         refine .i ?_ (z := lss_t (by omega))
         refine .done (.tt rfl (.skip (.seq (.block (.r ?_)))))
         refine .m ?_
         refine .m ?_
         refine .m ?_
         refine .x .ia ?_
         refine .x .l0 ?_
         refine .x .cv ?_
         refine .i ?_ (z := by assumption)
         refine .e (.bs (zz := fun bs => ?_))
         refine .e (Or.append (E := en) 2 rfl rfl rfl rfl rfl rfl rfl rfl rfl rfl rfl rfl rfl rfl rfl (fun H hs => SrcAt.of (hs.get (i := 0) rfl) (Nat.le_of_ble_eq_true rfl)) rfl (by omega) rfl (by decide) (fun u' hn' hl => ?_))
         refine .g ?_
         refine .done (.inBlock (.r ?_))
         refine .m ?_
         refine .i ?_ (z := add_in (by omega) (by omega))
         refine .g ?_
         refine .done ?_
         exact Tc.db (ih ⟨(i + 1, u'), by simp only; omega, by simp only; rw [hl, g2, List.take_succ_eq_append_getElem c3]; unfold intsL; rw [List.map_append, List.map_append, List.getElem?_eq_getElem c3]; rfl⟩ (by simp only; omega))
end Go.Proofs.YtpdaenfglbgfkaaGreatDoor
