/-
  Whatever the past is, of what is seen Sent returns the code, and Tune's band has its pace; what is learnt of that still has the past: the walk.
-/
import Derived.Test.YtpdaenfglbgfkaaGreatDoorW08
import Derived.Test.YtpdaenfglbgfkaaGreatDoorWLate
import Derived.Test.YtpdaenfglbgfkaaGreatDoorWI3
import Derived.Test.YtpdaenfglbgfkaaGreatDoorWI4
namespace Go.Proofs.YtpdaenfglbgfkaaGreatDoor
open Go.RL
set_option maxRecDepth 10000
set_option maxHeartbeats 16000000
theorem places_six : ∀ c : Nat, c < 32 → (placesTo c 7).length = 2 ∨ (placesTo c 7).length = 4 ∨ (placesTo c 7).length = 6 := by decide +kernel
theorem still_40 {place number send lean : Int} (h1 : 0 ≤ place) (h2 : place ≤ 6) (h4 : 0 ≤ send) (h5 : send ≤ 40) (h6 : -9 ≤ lean) (h7 : lean ≤ 9) : -9 ≤ stillF place number send lean ∧ stillF place number send lean ≤ 489 := by
 have h8 : 0 ≤ 2 * place * send := Int.mul_nonneg (by omega) h4
 have h9 : 2 * place * send ≤ 12 * 40 := Int.mul_le_mul (by omega) h5 h4 (by omega)
 unfold stillF
 split <;> omega
theorem seenL_in {k : Lk} (hk : k.ok = true) {c : Nat} (hc : c < 32) {a r n : Int} {mv : List Int} (h : k.Past c a r n mv) : ∀ x ∈ seenL (placesTo c 7) mv a n, -21 ≤ x ∧ x ≤ 501 := by
 obtain ⟨hks, hkr, hkl, hkm⟩ := Lk.ok_in hk
 obtain ⟨hp0, hp6, hpl⟩ := places_in c hc
 have h1 := h.send
 have h2 := h.lean
 have h3 := h.len
 intro x hx
 unfold seenL at hx
 obtain ⟨i, hi, rfl⟩ := List.mem_map.1 hx
 have hi := List.mem_range.1 hi
 have h4 := hpl i hi
 have h5 := h.at_ (j := i) (by omega)
 have h6 := still_40 (place := (((placesTo c 7)[i]?.getD 0 : Nat) : Int)) (number := (i : Nat)) (send := a) (lean := n) (by omega) (by omega) (by omega) (by omega) (by omega) (by omega)
 unfold seenAt
 omega
theorem refLink_yes (M : Md Tryz.prog) (H : View) (k : Lk) (hk : k.ok = true) : CallT M 61 #[k.val] H (fun v H' => H.le H' ∧ v = .int .i64 0) :=
 CallT.mono (refLink_c M H k) (by rintro v H' ⟨h1, h2⟩; rw [hk] at h2; exact ⟨h1, h2⟩)
theorem Lk.Past.sent {k : Lk} {c : Nat} {a r n : Int} {mv : List Int} (h : k.Past c a r n mv) {u w : Int} (h1 : u ≤ a) (h2 : a ≤ w) : (k.sent u w).Past c a r n mv := ⟨⟨h1, h2⟩, h.read, h.lean, h.len, h.moves⟩
theorem Source_w {St : View → Goroutine → Prop} {cs : List Frame} (H : View) (hG : Glob H) (k : Lk) (p q : Int) (hp : 0 ≤ p ∧ p < 256) (hq : 0 ≤ q ∧ q < 256) (A : Option Addr) (l : List Int) (n ca : Nat) (hn : n = l.length) (hA : Picks H A l)
   (hR : ∀ (H₀ : View) (R : Rg) (L : Bl) (kk : List Item), lk R 8 = some (.bool true) → H.le H₀ → Tc (Mp Tryz.prog) St 155 ⟨18, .normal, none⟩ H₀ cs R L [] (.code .ret :: kk)) :
   Tc (Mp Tryz.prog) St 155 ⟨18, .normal, none⟩ H cs (argR [k.val, .int .u8 p, .int .u8 q, .slice A n ca]) [] [] [.code (bodyOf Tryz.f18)] := by
 cases hk : k.ok with
 | false =>
   refine .sr ?_
   refine .e (.bx (zz := fun b4 => ?_))
   refine .g ?_
   refine .done (.seq (.sr ?_))
   refine .x (.ld 0) ?_
   refine .c rfl rfl rfl rfl (fun H hs => .f ca36 rfl (CallT.is (.bool false) (by rewrite [hk]; rfl) (Fit_c _ H k))) ?_
   refine .x .nt ?_
   refine .done (.tt rfl (.sr ?_))
   refine .c rfl rfl rfl rfl (fun H hs => .f ca31 rfl (signalled_c H (glob_le hG hs.base))) ?_
   refine .g ?_
   refine .done ?_
   exact hR _ _ _ _ rfl (View.le_refl _)
 | true =>
   obtain ⟨hks, hkr, hkl, hkm⟩ := Lk.ok_in hk
   obtain ⟨code, hcode⟩ : ∃ c : Nat, p % 32 = (c : Int) := ⟨(p % 32).toNat, by omega⟩
   have hc : code < 32 := by omega
   have hw1 : IntKind.i64.wrap p = p := wrap64 (by omega) (by omega)
   have hw2 : IntKind.i64.wrap q = q := wrap64 (by omega) (by omega)
   have hr1 : intBin .rem .i64 p 32 = some (.int .i64 (code : Nat)) := by rw [rem_in (by omega) (by omega), hcode]
   have hP := Lk.past_of hk code l
   obtain ⟨hp0, hp6, _⟩ := places_in code hc
   have hps := places_six code hc
   obtain ⟨s, hs⟩ : ∃ s, k.pSend l = s := ⟨_, rfl⟩
   obtain ⟨r, hr⟩ : ∃ s, k.pRead l = s := ⟨_, rfl⟩
   obtain ⟨e, he⟩ : ∃ s, k.pLean l = s := ⟨_, rfl⟩
   obtain ⟨mv, hmv⟩ : ∃ s, k.pMoves l (placesTo code 7).length = s := ⟨_, rfl⟩
   have hpast : ∀ H', H.le H' → CallT (Mp Tryz.prog) 73 #[k.val, .int .i64 code, .slice A n ca] H' (fun v H'' => H'.le H'' ∧ ∃ g : Gl 3 1, v = pastV s r e g ∧ g.l = intsL mv ∧ ∀ x ∈ g.bl, H'' x.1 = some x.2 ∧ H' x.1 = none) := fun H' h => by
     rw [← hs, ← hr, ← he, ← hmv]
     exact Past_c _ H' k hk code hc A l n ca hn (hA.le h)
   rw [hs, hr, he, hmv] at hP
   have hPl := hP.len
   obtain ⟨w0, hsl⟩ : ∃ w, seenL (placesTo code 7) mv s e = w := ⟨_, rfl⟩
   have hw0l : w0.length = (placesTo code 7).length := by rw [← hsl, seenL_len]
   have hw0b : ∀ x ∈ w0, -21 ≤ x ∧ x ≤ 501 := by rw [← hsl]; exact seenL_in hk hc hP
   obtain ⟨t, ht⟩ : ∃ t, w0.map (· + q) = t := ⟨_, rfl⟩
   have htl : t.length = (placesTo code 7).length := by rw [← ht, List.length_map, hw0l]
   have hne : t ≠ [] := by
     intro e0
     rw [e0] at htl
     simp at htl
     omega
   have hTold : Told t := ⟨by omega, hne, fun x hx => by
     rw [← ht] at hx
     obtain ⟨y, hy, rfl⟩ := List.mem_map.1 hx
     have := hw0b y hy
     omega⟩
   obtain ⟨u, w, htu, hu1, hu2⟩ : ∃ u w, k.tune (placesTo code 7) (pad6 t) = some (u, w) ∧ u ≤ s ∧ s ≤ w := by
     rw [← ht, ← hsl]
     exact hP.tune hp0 hp6 q
   have hso : k.sentOf t code = true := by
     unfold Lk.sentOf
     rw [htu, decide_eq_true htl.symm]
     rfl
   obtain ⟨_, _, q1, q2, q3⟩ := Lk.tune_in htu
   have hk2 := Lk.ok_sent hk q2 q1 q3
   have hP2 := hP.sent hu1 hu2
   have hin : ∀ H', CallT (Mp Tryz.prog) 59 #[.int .i64 s, .int .i64 u, .int .i64 w] H' (fun v H'' => H'.le H'' ∧ v = .bool true) := fun H' =>
     CallT.mono (In_c _ H' s u w) (by rintro v H'' ⟨h1, h2⟩; rw [decide_eq_true ⟨hu1, hu2⟩] at h2; exact ⟨h1, h2⟩)
   have hins : ∀ H', CallT (Mp Tryz.prog) 81 #[bandV u w, .int .i64 k.s0, .int .i64 k.s1] H' (fun v H'' => H'.le H'' ∧ v = .bool true) := fun H' =>
     CallT.mono (Inside_c _ H' u w k.s0 k.s1) (by rintro v H'' ⟨h1, h2⟩; rw [decide_eq_true ⟨q1, q2, q3⟩] at h2; exact ⟨h1, h2⟩)
   obtain ⟨k2, ek2⟩ : ∃ k2, k.sent u w = k2 := ⟨_, rfl⟩
   have f0 : k2.s0 = u := by rw [← ek2]; rfl
   have f1 : k2.s1 = w := by rw [← ek2]; rfl
   have f2 : k2.r0 = k.r0 := by rw [← ek2]; rfl
   have f3 : k2.r1 = k.r1 := by rw [← ek2]; rfl
   have f4 : k2.l0 = k.l0 := by rw [← ek2]; rfl
   have f5 : k2.l1 = k.l1 := by rw [← ek2]; rfl
   have f6 : k2.m0 = k.m0 := by rw [← ek2]; rfl
   have f7 : k2.m1 = k.m1 := by rw [← ek2]; rfl
   refine .sr ?_
   refine .e (.bx (zz := fun b4 => ?_))
   refine .g ?_
   refine .done (.seq (.sr ?_))
   refine .x (.ld 0) ?_
   refine .c rfl rfl rfl rfl (fun H hs => .f ca36 rfl (CallT.is (.bool true) (by rewrite [hk]; rfl) (Fit_c _ H k))) ?_
   refine .x .nt ?_
   refine .done (.ff rfl (.skip (.sr ?_)))
   refine .m ?_
   refine .x .cv ?_
   refine .i ?_ (z := by assumption)
   refine .g ?_
   refine .done (.sr ?_)
   refine .x (.ld 0) ?_
   refine .m ?_
   refine .m ?_
   refine .e (Or.callNew (fun g : Gl 3 1 => pastV s r e g) Gl.bl (fun g : Gl 3 1 => g.l = intsL mv) rfl rfl rfl rfl rfl (by decide) gl_nodup (fun H hs => .f ca73 rfl (hpast H hs.base)) (fun g hg => ?_))
   refine .e (.al (zz := fun b10 => ?_))
   refine .e (.st 0 (zz := ?_))
   refine .done ?_
   have hgn : g.n = mv.length := by have := g.hl; rw [hg, intsL_len] at this; omega
   refine Tc.lift (L₂ := [(b10, true, .cells ⟨[.int .i64 s, .int .i64 r, .int .i64 e, g.val]⟩ 39 (0, 0)), (b4, true, .cells ⟨k.val.cells.toList⟩ 27 (0, 0))]) (L₁ := g.bl) rfl (fun Hx hx => ?_)
   have hGx := glob_le hG hx.base
   have hle := hx.base
   have hNx := (Nums.of (H := Hx) hg (fun y hy => hx.at_ y hy)).2
   clear hx hpast
   have hgm : g.n = (placesTo code 7).length := by omega
   refine .sr ?_
   refine .x (.ld 1) ?_
   refine .m ?_
   refine .x (.ld 0) ?_
   refine .e (Or.callNew (fun g : Gl 3 1 => .tuple ⟨[g.val, .int .i64 0]⟩) Gl.bl (fun g : Gl 3 1 => g.l = intsL (seenL (placesTo code 7) mv s e)) rfl rfl rfl rfl rfl (by decide) gl_nodup (fun H hs => .f ca72 rfl (Seen_c _ H k (glob_le hGx hs.base) hk code hc s r e mv hP _ g.n g.cap hgm (hNx.le hs.base))) (fun g2 hg2 => ?_))
   refine .m ?_
   refine .x .et ?_
   refine .x .et ?_
   refine .g ?_
   refine .g ?_
   refine .done ?_
   rw [hsl] at hg2
   refine Tc.lift (L₂ := [(b10, true, .cells ⟨[.int .i64 s, .int .i64 r, .int .i64 e, g.val]⟩ 39 (0, 0)), (b4, true, .cells ⟨k.val.cells.toList⟩ 27 (0, 0))]) (L₁ := g2.bl) rfl (fun Hy hy => ?_)
   have hGy := glob_le hGx hy.base
   have hle2 := View.le_trans hle hy.base
   have hNy := hNx.le hy.base
   obtain ⟨n2, N2⟩ := Nums.of (H := Hy) hg2 (fun y hy' => hy.at_ y hy')
   clear hy
   refine .seq (.sr ?_)
   refine .m ?_
   refine .i ?_ (z := neq_f (by omega))
   refine .m ?_
   refine .m ?_
   refine .x .ln ?_
   refine .x .fa ?_
   refine .x (.ld 0) ?_
   refine .x .ln ?_
   refine .i ?_ (z := neq_f (by omega))
   refine .x .pk ?_
   refine .done (.ff rfl (.skip (.sr ?_)))
   refine .m ?_
   refine .m ?_
   refine .x .cv ?_
   refine .e (Or.callNew Gl.val Gl.bl (fun g : Gl 3 1 => g.l = intsL (w0.map (· + q))) rfl rfl rfl rfl rfl (by decide) gl_nodup (fun H hs => .f ca80 rfl (later_c _ H _ w0 g2.n g2.cap q n2 (by omega) (fun x hx => by have := hw0b x hx; omega) hq (N2.le hs.base))) (fun g3 hg3 => ?_))
   refine .g ?_
   refine .done ?_
   rw [ht] at hg3
   refine Tc.lift (L₂ := [(b10, true, .cells ⟨[.int .i64 s, .int .i64 r, .int .i64 e, g.val]⟩ 39 (0, 0)), (b4, true, .cells ⟨k.val.cells.toList⟩ 27 (0, 0))]) (L₁ := g3.bl) rfl (fun Hz hz => ?_)
   have hGz := glob_le hGy hz.base
   have hle3 := View.le_trans hle2 hz.base
   have hNz := hNy.le hz.base
   obtain ⟨n3, N3⟩ := Nums.of (H := Hz) hg3 (fun y hy' => hz.at_ y hy')
   have hT := TimesAt.of_gl (H := Hz) hg3 hne (fun y hy => hz.at_ y hy)
   clear hz
   refine Tc.db (R' := [(2, .int .u8 q), (4, .pointer (some ⟨b4, 0, none⟩)), (9, .int .i64 (code : Nat)), (10, .pointer (some ⟨b10, 0, none⟩)), (11, g3.val)]) (L' := [(b10, true, .cells ⟨[.int .i64 s, .int .i64 r, .int .i64 e, g.val]⟩ 39 (0, 0)), (b4, true, .cells ⟨k.val.cells.toList⟩ 27 (0, 0))]) ?_
   refine .sr ?_
   refine .x (.ld 1) ?_
   refine .m ?_
   refine .e (Or.callNew (fun g : Gl 3 1 => .tuple ⟨[g.val, .int .i64 0]⟩) Gl.bl (fun g : Gl 3 1 => g.l = keepTo (k.sentOf t) 32) rfl rfl rfl rfl rfl (by decide) gl_nodup (fun H hs => .f ca46 rfl (Sent_c _ H k (glob_le hGz hs.base) hk t hTold (by omega) _ g3.n g3.cap n3 (hT.le hs.base))) (fun g4 hg4 => ?_))
   refine .m ?_
   refine .x .et ?_
   refine .x .et ?_
   refine .g ?_
   refine .g ?_
   refine .done ?_
   refine Tc.lift (L₂ := [(b10, true, .cells ⟨[.int .i64 s, .int .i64 r, .int .i64 e, g.val]⟩ 39 (0, 0)), (b4, true, .cells ⟨k.val.cells.toList⟩ 27 (0, 0))]) (L₁ := g4.bl) rfl (fun Hv hv => ?_)
   have hGv := glob_le hGz hv.base
   have hle4 := View.le_trans hle3 hv.base
   have hNv := hNz.le hv.base
   have N3v := N3.le hv.base
   have hTv := hT.le hv.base
   obtain ⟨n4, N4⟩ := Nums.of (H := Hv) (hg4.trans (keepI_eq _ _)) (fun y hy' => hv.at_ y hy')
   clear hv
   have hl4 := keepI_len (k.sentOf t) 32
   have hF : ∀ H', Hv.le H' → CallT (Mp Tryz.prog) 39 #[g4.val, .int .i64 (code : Nat)] H' (fun v H'' => H'.le H'' ∧ v = .bool true) := fun H' h =>
     CallT.mono (HasNum_c _ H' _ (keepI (k.sentOf t) 32) g4.n g4.cap (code : Nat) n4 (by omega) (N4.le h)) (by
       rintro v H'' ⟨h1, h2⟩
       rw [decide_eq_true ((mem_keepI hc).2 hso)] at h2
       exact ⟨h1, h2⟩)
   have hTu : ∀ H', Hv.le H' → CallT (Mp Tryz.prog) 48 #[k.val, .int .i64 (code : Nat), g3.val] H' (fun v H'' => H'.le H'' ∧ v = .tuple ⟨[bandV u w, .int .i64 0]⟩) := fun H' h =>
     CallT.mono (n3 ▸ Tune_c _ H' k code (glob_le hGv h) hk hc t hTold (by omega) htl _ g3.cap (hTv.le h)) (by rintro v H'' ⟨h1, h2⟩; rw [htu] at h2; exact ⟨h1, h2⟩)
   have hLe : ∀ H', Hv.le H' → CallT (Mp Tryz.prog) 50 #[k.val, .int .i64 (code : Nat), g3.val] H' (fun v H'' => H'.le H'' ∧ v = .tuple ⟨[k2.val, .int .i64 0]⟩) := fun H' h => by
     rw [← ek2]
     exact Learn_yes _ H' k (code : Nat) u w _ g3.n g3.cap (fun H'' h' => hTu H'' (View.le_trans h h'))
   rw [ek2] at hk2 hP2
   refine Tc.db (R' := [(2, .int .u8 q), (4, .pointer (some ⟨b4, 0, none⟩)), (9, .int .i64 (code : Nat)), (10, .pointer (some ⟨b10, 0, none⟩)), (11, g3.val), (13, g4.val), (14, .int .i64 0)]) (L' := [(b10, true, .cells ⟨[.int .i64 s, .int .i64 r, .int .i64 e, g.val]⟩ 39 (0, 0)), (b4, true, .cells ⟨k.val.cells.toList⟩ 27 (0, 0))]) ?_
   refine .sr ?_
   refine .x (.ld 1) ?_
   refine .m ?_
   refine .m ?_
   refine .c rfl rfl rfl rfl (fun H hs => .f ca48 rfl (hTu H hs.base)) ?_
   refine .m ?_
   refine .x .et ?_
   refine .x .et ?_
   refine .e (.al (zz := fun b15 => ?_))
   refine .e (.st 0 (zz := ?_))
   refine .g ?_
   refine .done (.sr ?_)
   refine .x (.ld 2) ?_
   refine .m ?_
   refine .m ?_
   refine .c rfl rfl rfl rfl (fun H hs => .f ca50 rfl (hLe H hs.base)) ?_
   refine .m ?_
   refine .x .et ?_
   refine .x .et ?_
   refine .e (.al (zz := fun b17 => ?_))
   refine .e (.st 0 (zz := ?_))
   refine .g ?_
   refine .done (.seq (.seq ?_))
   refine Tc.dropB (R' := [(2, .int .u8 q), (4, .pointer (some ⟨b4, 0, none⟩)), (9, .int .i64 (code : Nat)), (10, .pointer (some ⟨b10, 0, none⟩)), (11, g3.val), (13, g4.val), (14, .int .i64 0), (15, .pointer (some ⟨b15, 0, none⟩)), (16, .int .i64 0), (17, .pointer (some ⟨b17, 0, none⟩)), (18, .int .i64 0)])
     (L' := [(b17, true, .cells ⟨[.int .i64 u, .int .i64 w, .int .i64 k.r0, .int .i64 k.r1, .int .i64 k.l0, .int .i64 k.l1, .int .i64 k.m0, .int .i64 k.m1]⟩ 27 (0, 0)), (b15, true, .cells ⟨[.int .i64 u, .int .i64 w]⟩ 23 (0, 0)), (b10, true, .cells ⟨[.int .i64 s, .int .i64 r, .int .i64 e, g.val]⟩ 39 (0, 0)), (b4, true, .cells ⟨k.val.cells.toList⟩ 27 (0, 0))]) ?_ ⟨rfl, rfl, rfl, rfl, rfl, rfl, rfl, rfl, rfl, rfl, rfl, trivial⟩ (by subst ek2; exact List.Sublist.refl _)
   have hk2' : (k.sent u w).ok = true := by rw [ek2]; exact hk2
   have hP2' : (k.sent u w).Past code s r e mv := by rw [ek2]; exact hP2
   clear hk2 hP2 hLe f0 f1 f2 f3 f4 f5 f6 f7 ek2 k2
   refine .r ?_
   refine .m ?_
   refine .i ?_ (z := neq_f (by omega))
   refine .m ?_
   refine .m ?_
   refine .i ?_ (z := neq_f (by omega))
   refine .x .pk ?_
   refine .m ?_
   refine .m ?_
   refine .i ?_ (z := neq_f (by omega))
   refine .x .pk ?_
   refine .m ?_
   refine .m ?_
   refine .m ?_
   refine .c rfl rfl rfl rfl (fun H hs => .f ca39 rfl (hF H hs.base)) ?_
   refine .x .nt ?_
   refine .x .pk ?_
   refine .m ?_
   refine .x .fa ?_
   refine .x (.ld 2) ?_
   refine .x .fa ?_
   refine .x (.ld 1) ?_
   refine .x .fa ?_
   refine .x (.ld 1) ?_
   refine .c rfl rfl rfl rfl (fun H hs => .f ca59 rfl (hin H)) ?_
   refine .x .nt ?_
   refine .x .pk ?_
   refine .m ?_
   refine .x (.ld 1) ?_
   refine .x .fa ?_
   refine .x .fa ?_
   refine .x (.ld 3) ?_
   refine .x .fa ?_
   refine .x .fa ?_
   refine .x (.ld 3) ?_
   refine .c rfl rfl rfl rfl (fun H hs => .f ca81 rfl (hins H)) ?_
   refine .x .nt ?_
   refine .x .pk ?_
   refine .m ?_
   refine .x .fa ?_
   refine .x (.ld 0) ?_
   refine .x (.ld 1) ?_
   refine .x (OpV.neA (E := en) true 2 rfl rfl rfl rfl rfl eg23 (by decide) (band_flat u w) (band_flat u w) (by simp)) ?_
   refine .x .pk ?_
   refine .m ?_
   refine .x (.ld 0) ?_
   refine .c rfl rfl rfl rfl (fun H hs => .f ca61 rfl (refLink_yes _ H (k.sent u w) hk2')) ?_
   refine .i ?_ (z := neq_f (by omega))
   refine .x .pk ?_
   refine .done (.ff rfl (.skip (.sr ?_)))
   refine .x (.ld 0) ?_
   refine .m ?_
   refine .x (.ld 2) ?_
   refine .e (Or.callNew (fun g : Gl 3 1 => .tuple ⟨[g.val, .int .i64 0]⟩) Gl.bl (fun g : Gl 3 1 => g.l = intsL (seenL (placesTo code 7) mv s e)) rfl rfl rfl rfl rfl (by decide) gl_nodup (fun H hs => .f ca72 rfl (Seen_c _ H (k.sent u w) (glob_le hGv hs.base) hk2' code hc s r e mv hP2' _ g.n g.cap hgm (hNv.le hs.base))) (fun g5 hg5 => ?_))
   refine .m ?_
   refine .x .et ?_
   refine .x .et ?_
   refine .g ?_
   refine .g ?_
   refine .done ?_
   rw [hsl] at hg5
   have n5 : g5.n = w0.length := by have := g5.hl; rw [hg5, intsL_len] at this; omega
   have eg25 : Tryz.prog.eqGuardType Tryz.prog.depth 25 = false := by kernel_rfl
   refine .sr ?_
   refine .m ?_
   refine .i ?_ (z := eql_t (by omega))
   refine .m ?_
   refine .m ?_
   refine .m ?_
   refine .x .cv ?_
   refine .e (Or.callNew Gl.val Gl.bl (fun g : Gl 3 1 => g.l = intsL (w0.map (· + q))) rfl rfl rfl rfl rfl (by decide) gl_nodup (fun H hs => .f ca80 rfl (later_c _ H _ w0 g5.n g5.cap q n5 (by omega) (fun x hx => by have := hw0b x hx; omega) hq (Nums.of hg5 (fun y hy => hs.at_ y (by simp [hy]))).2)) (fun g6 hg6 => ?_))
   refine .m ?_
   refine .c rfl rfl rfl rfl (fun H hs => .f ca23 rfl (SameNums_two _ H _ _ t g6.n g3.n g6.cap g3.cap (by have := g6.hl; rw [hg6, ht, intsL_len] at this; omega) n3 (by omega) (Nums.of (hg6.trans (by rw [ht])) (fun y hy => hs.at_ y (by simp [hy]))).2 (N3v.le hs.base))) ?_
   refine .x .pk ?_
   refine .m ?_
   refine .x .fa ?_
   refine .x (.ld 0) ?_
   refine .x .fa ?_
   refine .x (.ld 3) ?_
   refine .x (OpV.eqA (E := en) true 2 rfl rfl rfl rfl rfl eg23 (by decide) (band_flat k.r0 k.r1) (band_flat k.r0 k.r1) ⟨fun _ => rfl, fun _ => rfl⟩) ?_
   refine .x .pk ?_
   refine .m ?_
   refine .x .fa ?_
   refine .x (.ld 0) ?_
   refine .x .fa ?_
   refine .x (.ld 3) ?_
   refine .x (OpV.eqA (E := en) true 3 rfl rfl rfl rfl rfl eg25 (by decide) (line_flat k.l0 k.l1 k.m0 k.m1) (line_flat k.l0 k.l1 k.m0 k.m1) ⟨fun _ => rfl, fun _ => rfl⟩) ?_
   refine .x .pk ?_
   refine .m ?_
   refine .c rfl rfl rfl rfl (fun H hs => .f ca31 rfl (signalled_c H (glob_le hGv hs.base))) ?_
   refine .x .pk ?_
   refine .g ?_
   refine .done ?_
   exact hR _ _ _ _ rfl hle4
end Go.Proofs.YtpdaenfglbgfkaaGreatDoor
