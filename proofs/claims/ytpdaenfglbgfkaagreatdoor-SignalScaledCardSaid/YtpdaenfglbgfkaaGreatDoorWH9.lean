/-
  Paces, leans and moves that are all so many times as great are read alike: the walk.
-/
import Derived.Test.YtpdaenfglbgfkaaGreatDoorW08
import Derived.Test.YtpdaenfglbgfkaaGreatDoorWH5
namespace Go.Proofs.YtpdaenfglbgfkaaGreatDoor
open Go.RL
set_option maxRecDepth 10000
set_option maxHeartbeats 8000000
theorem missedGo_times {k : Int} (hk : 0 < k) (pace after : Int) : ∀ (f : Nat) (n : Int), missedGo (pace * k) (after * k) f n = missedGo pace after f n
 | 0, n => rfl
 | f + 1, n => by
   unfold missedGo
   have e : ((2 * n + 1) * (pace * k) < after * k) ↔ ((2 * n + 1) * pace < after) := by
     rw [← Int.mul_assoc]
     exact Int.mul_lt_mul_right hk
   by_cases h : (2 * n + 1) * pace < after
   · rw [if_pos h, if_pos (e.2 h)]
     exact missedGo_times hk pace after f (n + 1)
   · rw [if_neg h, if_neg (fun h' => h (e.1 h'))]
theorem stillF_times (place number send lean k : Int) : stillF place number (send * k) (lean * k) = stillF place number send lean * k := by
 unfold stillF
 rw [← Int.mul_assoc]
 split
 · rw [← Int.neg_mul, ← Int.add_mul]
 · rw [← Int.add_mul]
theorem viewFrom_times {k : Int} (hk : 0 < k) (c : Nat) (ps : List Nat) (a r n f : Int) : ∀ (l : List Int) (i v : Nat), (⟨c, ps, a * k, r * k, n * k, f * k, 0, 0⟩ : Stg).viewFrom i v (l.map (· * k)) = (⟨c, ps, a, r, n, f, 0, 0⟩ : Stg).viewFrom i v l
 | [], _, _ => rfl
 | m :: l, i, v => by
   have e : (⟨c, ps, a * k, r * k, n * k, f * k, 0, 0⟩ : Stg).miss i (m * k) = (⟨c, ps, a, r, n, f, 0, 0⟩ : Stg).miss i m := by
     unfold Stg.miss Stg.after
     by_cases h : i = 0
     · rw [if_pos h, if_pos h]
     · rw [if_neg h, if_neg h]
       simp only [stillF_times]
       rw [← Int.sub_mul, ← Int.sub_mul, ← Int.add_mul]
       exact missedGo_times hk r _ 7 0
   show (⟨c, ps, a * k, r * k, n * k, f * k, 0, 0⟩ : Stg).viewFrom (i + 1) _ (l.map (· * k)) = (⟨c, ps, a, r, n, f, 0, 0⟩ : Stg).viewFrom (i + 1) _ l
   rw [e]
   exact viewFrom_times hk c ps a r n f l (i + 1) _
theorem pastView_times {k : Int} (hk : 0 < k) (c : Nat) (a r n : Int) (mv : List Int) : pastView c (a * k) (r * k) (n * k) (mv.map (· * k)) = pastView c a r n mv := by
 unfold pastView Stg.view
 have e : (mv.map (· * k)).headD 0 = mv.headD 0 * k := by cases mv <;> simp
 rw [e]
 exact viewFrom_times hk c _ a r n _ mv 0 127
def Lk.single (k : Lk) (s r n : Int) : Lk := ⟨s, s, r, r, n, n, k.m0, k.m1⟩
def Lk.times (k : Lk) (n : Int) : Lk := ⟨k.s0 * n, k.s1 * n, k.r0 * n, k.r1 * n, k.l0 * n, k.l1 * n, k.m0 * n, k.m1 * n⟩
theorem Lk.ok_single {k : Lk} (h : k.ok = true) {s r n : Int} (hs : k.s0 ≤ s ∧ s ≤ k.s1) (hr : k.r0 ≤ r ∧ r ≤ k.r1) (hn : k.l0 ≤ n ∧ n ≤ k.l1) : (k.single s r n).ok = true := by
 obtain ⟨h1, h2, h3, _⟩ := Lk.ok_in h
 rw [Lk.ok_eq] at h ⊢
 simp only [Bool.and_eq_true] at h ⊢
 obtain ⟨_, _, h4⟩ := h
 exact ⟨⟨decide_eq_true (by show 1 ≤ s ∧ s ≤ s ∧ s ≤ 40 ∧ s - s < 3; omega), decide_eq_true (by show 1 ≤ r ∧ r ≤ r ∧ r ≤ 40 ∧ r - r < 3; omega)⟩, decide_eq_true (by show -9 ≤ n ∧ n ≤ n ∧ n ≤ 9 ∧ n - n < 3; omega), h4⟩
theorem Lk.Past.single {k : Lk} {c : Nat} {a r n : Int} {mv : List Int} (h : k.Past c a r n mv) : (k.single a r n).Past c a r n mv :=
 ⟨⟨Int.le_refl _, Int.le_refl _⟩, ⟨Int.le_refl _, Int.le_refl _⟩, ⟨Int.le_refl _, Int.le_refl _⟩, h.len, h.moves⟩
theorem Lk.Past.times {k : Lk} {c : Nat} {a r n : Int} {mv : List Int} (h : k.Past c a r n mv) {z : Int} (hz : 0 ≤ z) : (k.times z).Past c (a * z) (r * z) (n * z) (mv.map (· * z)) := by
 have g : ∀ {x y w : Int}, x ≤ y ∧ y ≤ w → x * z ≤ y * z ∧ y * z ≤ w * z := fun h => ⟨Int.mul_le_mul_of_nonneg_right h.1 hz, Int.mul_le_mul_of_nonneg_right h.2 hz⟩
 refine ⟨g h.send, g h.read, g h.lean, by rw [List.length_map]; exact h.len, fun m hm => ?_⟩
 obtain ⟨x, hx, rfl⟩ := List.mem_map.1 hm
 exact g (h.moves x hx)
theorem mul4 {x z : Int} (hx : -1000 ≤ x ∧ x ≤ 1000) (hz : 1 ≤ z ∧ z ≤ 4) : (-4000 ≤ x * z ∧ x * z ≤ 4000) ∧ intBin .mul .i64 x z = some (.int .i64 (x * z)) := by
 have h : -4000 ≤ x * z ∧ x * z ≤ 4000 := by
   rcases (by omega : z = 1 ∨ z = 2 ∨ z = 3 ∨ z = 4) with rfl | rfl | rfl | rfl <;> omega
 exact ⟨h, mul_in (by omega) (by omega)⟩
section
variable (M : Md Tryz.prog) (H : View)
theorem single_c (k : Lk) (s r n : Int) : CallT M 37 #[k.val, .int .i64 s, .int .i64 r, .int .i64 n] H (fun v H' => H.le H' ∧ v = (k.single s r n).val) := by
 refine CallT.enter (vs := [k.val, .int .i64 s, .int .i64 r, .int .i64 n]) Tryz.func37 rfl Tryz.ntmps37 (Nat.le_of_ble_eq_true rfl) (SymSt.nil _) fun St c cs hK => ?_
 refine .sr ?_
 refine .e (.bx (zz := fun b4 => ?_))
 refine .e (.al (zz := fun b8 => ?_))
 refine .done (.sr ?_)
 refine .m ?_
 refine .m ?_
 refine .c rfl rfl rfl rfl (fun H hs => .f ca40 rfl (to_c M H s s)) ?_
 refine .m ?_
 refine .m ?_
 refine .c rfl rfl rfl rfl (fun H hs => .f ca40 rfl (to_c M H r r)) ?_
 refine .m ?_
 refine .m ?_
 refine .c rfl rfl rfl rfl (fun H hs => .f ca40 rfl (to_c M H n n)) ?_
 refine .x .fa ?_
 refine .e (.st 1 (zz := ?_))
 refine .x .fa ?_
 refine .e (.st 1 (zz := ?_))
 refine .x .fa ?_
 refine .x .fa ?_
 refine .e (.st 1 (zz := ?_))
 refine .done (.sr ?_)
 refine .x (.ld 1) ?_
 refine .e (.st 0 (zz := ?_))
 refine .done ?_
 refine Tc.retN (E := en) hK Tryz.func37 Tryz.results37 (vs := [_]) (by refine ⟨⟨0, _, _, _, _, _, _, _, rfl, rfl, rfl, rfl⟩, ?_⟩; exact trivial) ?_
 exact fun H' hs => ⟨hs.base, rfl⟩
theorem times_k (a b z : Int) (ha : -1000 ≤ a ∧ a ≤ 1000) (hb : -1000 ≤ b ∧ b ≤ 1000) (hz : 1 ≤ z ∧ z ≤ 4) : CallT M 79 #[bandV a b, .int .i64 z] H (fun v H' => H.le H' ∧ v = bandV (a * z) (b * z)) := by
 have h1 := (mul4 ha hz).2
 have h2 := (mul4 hb hz).2
 refine CallT.enter (vs := [bandV a b, .int .i64 z]) Tryz.func79 rfl Tryz.ntmps79 (Nat.le_of_ble_eq_true rfl) (SymSt.nil _) fun St c cs hK => ?_
 refine .sr ?_
 refine .e (.bx (zz := fun b2 => ?_))
 refine .e (.al (zz := fun b4 => ?_))
 refine .done (.sr ?_)
 refine .x .fa ?_
 refine .x (.ld 1) ?_
 refine .m ?_
 refine .i ?_ (z := by assumption)
 refine .x .fa ?_
 refine .x (.ld 1) ?_
 refine .m ?_
 refine .i ?_ (z := by assumption)
 refine .c rfl rfl rfl rfl (fun H hs => .f ca40 rfl (to_c M H (a * z) (b * z))) ?_
 refine .e (.st 0 (zz := ?_))
 refine .done ?_
 refine Tc.retN (E := en) hK Tryz.func79 Tryz.results79 (vs := [_]) (by refine ⟨⟨0, _, _, _, _, _, _, _, rfl, rfl, rfl, rfl⟩, ?_⟩; exact trivial) ?_
 exact fun H' hs => ⟨hs.base, rfl⟩
end
theorem Scaled_w {St : View → Goroutine → Prop} {cs : List Frame} (H : View) (hG : Glob H) (k : Lk) (p q : Int) (hp : 0 ≤ p ∧ p < 256) (hq : 0 ≤ q ∧ q < 256) (A : Option Addr) (l : List Int) (n ca : Nat) (hn : n = l.length) (hA : Picks H A l)
   (hR : ∀ (H₀ : View) (R : Rg) (L : Bl) (kk : List Item), lk R 8 = some (.bool true) → H.le H₀ → Tc (Mp Tryz.prog) St 136 ⟨17, .normal, none⟩ H₀ cs R L [] (.code .ret :: kk)) :
   Tc (Mp Tryz.prog) St 136 ⟨17, .normal, none⟩ H cs (argR [k.val, .int .u8 p, .int .u8 q, .slice A n ca]) [] [] [.code (bodyOf Tryz.f17)] := by
 cases hk : k.ok with
 | false =>
   refine .sr ?_
   refine .e (.bx (zz := fun b4 => ?_))
   refine .g ?_
   refine .done (.seq (.sr ?_))
   refine .x (.ld 0) ?_
   refine .c rfl rfl rfl rfl (fun H hs => .f ca36 rfl (CallT.is (.bool false) (by rewrite [hk]; rfl) (Fit_c _ H k))) ?_
   refine .x .nt ?_
   refine .done (.tt rfl (.sr ?_))
   refine .c rfl rfl rfl rfl (fun H hs => .f ca31 rfl (signalled_c H (glob_le hG hs.base))) ?_
   refine .g ?_
   refine .done ?_
   exact hR _ _ _ _ rfl (View.le_refl _)
 | true =>
   obtain ⟨hks, hkr, hkl, hkm⟩ := Lk.ok_in hk
   obtain ⟨code, hcode⟩ : ∃ c : Nat, p % 32 = (c : Int) := ⟨(p % 32).toNat, by omega⟩
   have hc : code < 32 := by omega
   obtain ⟨z, hz⟩ : ∃ z : Int, q % 4 + 1 = z := ⟨_, rfl⟩
   have hz4 : 1 ≤ z ∧ z ≤ 4 := by omega
   have hw1 : IntKind.i64.wrap p = p := wrap64 (by omega) (by omega)
   have hw2 : IntKind.i64.wrap q = q := wrap64 (by omega) (by omega)
   have hr1 : intBin .rem .i64 p 32 = some (.int .i64 (code : Nat)) := by rw [rem_in (by omega) (by omega), hcode]
   have hr2 : intBin .rem .i64 q 4 = some (.int .i64 (z - 1)) := by rw [rem_in (by omega) (by omega)]; congr 2; omega
   have hadd : intBin .add .i64 (z - 1) 1 = some (.int .i64 z) := by rw [add_in (by omega) (by omega)]; congr 2; omega
   have hP := Lk.past_of hk code l
   have hp6 := (places_in code hc).2.1
   obtain ⟨s, hs⟩ : ∃ s, k.pSend l = s := ⟨_, rfl⟩
   obtain ⟨r, hr⟩ : ∃ s, k.pRead l = s := ⟨_, rfl⟩
   obtain ⟨e, he⟩ : ∃ s, k.pLean l = s := ⟨_, rfl⟩
   obtain ⟨mv, hmv⟩ : ∃ s, k.pMoves l (placesTo code 7).length = s := ⟨_, rfl⟩
   have hpast : ∀ H', H.le H' → CallT (Mp Tryz.prog) 73 #[k.val, .int .i64 code, .slice A n ca] H' (fun v H'' => H'.le H'' ∧ ∃ g : Gl 3 1, v = pastV s r e g ∧ g.l = intsL mv ∧ ∀ x ∈ g.bl, H'' x.1 = some x.2 ∧ H' x.1 = none) := fun H' h => by
     rw [← hs, ← hr, ← he, ← hmv]
     exact Past_c _ H' k hk code hc A l n ca hn (hA.le h)
   rw [hs, hr, he, hmv] at hP
   have hPs := hP.send
   have hPr := hP.read
   have hPe := hP.lean
   have hPl := hP.len
   have hok1 := Lk.ok_single hk hP.send hP.read hP.lean
   have hP1 := hP.single
   have m1 := mul4 (x := s) (z := z) (by omega) hz4
   have m2 := mul4 (x := r) (z := z) (by omega) hz4
   have m3 := mul4 (x := e) (z := z) (by omega) hz4
   have m1' := m1.2
   have m2' := m2.2
   have m3' := m3.2
   obtain ⟨k2, hk2⟩ : ∃ k2, (k.single s r e).times z = k2 := ⟨_, rfl⟩
   refine .sr ?_
   refine .e (.bx (zz := fun b4 => ?_))
   refine .g ?_
   refine .done (.seq (.sr ?_))
   refine .x (.ld 0) ?_
   refine .c rfl rfl rfl rfl (fun H hs => .f ca36 rfl (CallT.is (.bool true) (by rewrite [hk]; rfl) (Fit_c _ H k))) ?_
   refine .x .nt ?_
   refine .done (.ff rfl (.skip (.sr ?_)))
   refine .m ?_
   refine .x (OpV.convE (E := en) rfl rfl rfl rfl rfl rfl hw1) ?_
   refine .i ?_ (z := hr1)
   refine .m ?_
   refine .x (OpV.convE (E := en) rfl rfl rfl rfl rfl rfl hw2) ?_
   refine .i ?_ (z := hr2)
   refine .i ?_ (z := hadd)
   refine .g ?_
   refine .g ?_
   refine .done (.sr ?_)
   refine .x (.ld 0) ?_
   refine .m ?_
   refine .m ?_
   refine .e (Or.callNew (fun g : Gl 3 1 => pastV s r e g) Gl.bl (fun g : Gl 3 1 => g.l = intsL mv) rfl rfl rfl rfl rfl (by decide) gl_nodup (fun H hs => .f ca73 rfl (hpast H hs.base)) (fun g hg => ?_))
   refine .e (.al (zz := fun b11 => ?_))
   refine .e (.st 0 (zz := ?_))
   refine .done ?_
   have hgn : g.n = mv.length := by have := g.hl; rw [hg, intsL_len] at this; omega
   refine Tc.lift (L₂ := [(b11, true, .cells ⟨[.int .i64 s, .int .i64 r, .int .i64 e, g.val]⟩ 39 (0, 0)), (b4, true, .cells ⟨k.val.cells.toList⟩ 27 (0, 0))]) (L₁ := g.bl) rfl (fun Hx hx => ?_)
   have hGx := glob_le hG hx.base
   have hle := hx.base
   have hNx := (Nums.of (H := Hx) hg (fun y hy => hx.at_ y hy)).2
   clear hx hpast
   refine .sr ?_
   refine .x (.ld 1) ?_
   refine .x .fa ?_
   refine .x (.ld 0) ?_
   refine .x .fa ?_
   refine .x (.ld 0) ?_
   refine .x .fa ?_
   refine .x (.ld 0) ?_
   refine .c rfl rfl rfl rfl (fun H hs => .f ca37 rfl (single_c _ H k s r e)) ?_
   refine .e (.al (zz := fun b12 => ?_))
   refine .e (.st 0 (zz := ?_))
   refine .done (.seq ?_)
   refine Tc.dr [21] [] mixed rfl ?_
   refine .q 0 rfl .fa ?_
   refine .q 1 rfl (.ld 0) ?_
   refine .q 2 rfl .mv ?_
   refine .z 3 rfl (OpV.takeCall rfl rfl rfl rfl (fun H hs => .f ca79 rfl (times_k _ H s s z (by omega) (by omega) hz4))) ?_
   refine .q 4 rfl .fa ?_
   refine .q 5 rfl (.ld 0) ?_
   refine .q 6 rfl .mv ?_
   refine .z 7 rfl (OpV.takeCall rfl rfl rfl rfl (fun H hs => .f ca79 rfl (times_k _ H r r z (by omega) (by omega) hz4))) ?_
   refine .q 8 rfl .fa ?_
   refine .q 9 rfl .fa ?_
   refine .q 10 rfl (.ld 0) ?_
   refine .q 11 rfl .mv ?_
   refine .z 12 rfl (OpV.takeCall rfl rfl rfl rfl (fun H hs => .f ca79 rfl (times_k _ H e e z (by omega) (by omega) hz4))) ?_
   refine .q 13 rfl .fa ?_
   refine .q 14 rfl .fa ?_
   refine .q 15 rfl (.ld 0) ?_
   refine .q 16 rfl .mv ?_
   refine .z 17 rfl (OpV.takeCall rfl rfl rfl rfl (fun H hs => .f ca79 rfl (times_k _ H k.m0 k.m1 z (by omega) (by omega) hz4))) ?_
   refine .q 18 rfl .bu ?_
   refine .q 19 rfl .bu ?_
   refine Ta.each [20] (by kernel_rfl) rfl ⟨TaOp.mk rfl rfl rfl (.al (zz := fun b13 => ⟨S2.mk (by apply List.Sublist.cons; exact List.Sublist.refl _) (.inr (by apply List.Sublist.cons; exact List.Sublist.refl _)), ?_⟩)), trivial⟩
   refine Ta.each [21] (by kernel_rfl) rfl ⟨TaOp.mk rfl rfl rfl (.st 0 (zz := ⟨S2.mk (by apply List.Sublist.cons; exact List.Sublist.refl _) (.inl (by kernel_rfl)), ?_⟩)), trivial⟩
   refine Ta.done (by kernel_rfl) ?_
   refine Tc.db (R' := [(9, .int .i64 (code : Nat)), (10, .int .i64 z), (11, .pointer (some ⟨b11, 0, none⟩)), (12, .pointer (some ⟨b12, 0, none⟩)), (13, .pointer (some ⟨b13, 0, none⟩))]) (L' := [(b13, true, .cells ⟨((k.single s r e).times z).val.cells.toList⟩ 27 (0, 0)), (b12, true, .cells ⟨(k.single s r e).val.cells.toList⟩ 27 (0, 0)), (b11, true, .cells ⟨[.int .i64 s, .int .i64 r, .int .i64 e, g.val]⟩ 39 (0, 0))]) ?_
   rw [hk2]
   refine .seq (.seq ?_)
   cases hok : k2.ok with
   | false =>
     refine .r ?_
     refine .x (.ld 0) ?_
     refine .c rfl rfl rfl rfl (fun H hs => .f ca36 rfl (CallT.is (.bool false) (by rewrite [hok]; rfl) (Fit_c _ H k2))) ?_
     refine .x .nt ?_
     refine .done (.tt rfl (.sr ?_))
     refine .c rfl rfl rfl rfl (fun H hs => .f ca31 rfl (signalled_c H (glob_le hGx hs.base))) ?_
     refine .g ?_
     refine .done ?_
     exact hR _ _ _ _ rfl hle
   | true =>
     have hP2 : k2.Past code (s * z) (r * z) (e * z) (mv.map (· * z)) := by rw [← hk2]; exact hP1.times (by omega)
     have hview := pastView_times (k := z) (by omega) code s r e mv
     obtain ⟨w, o, hrd⟩ : ∃ (w : Int) (o : Bool), readV (readN (pastView code s r e mv)) = .tuple ⟨[.int .i64 w, .bool o, .int .i64 0]⟩ := ⟨_, _, readV_eq _⟩
     have hrd2 : readV (readN (pastView code (s * z) (r * z) (e * z) (mv.map (· * z)))) = .tuple ⟨[.int .i64 w, .bool o, .int .i64 0]⟩ := by rw [hview]; exact hrd
     refine .r ?_
     refine .x (.ld 0) ?_
     refine .c rfl rfl rfl rfl (fun H hs => .f ca36 rfl (CallT.is (.bool true) (by rewrite [hok]; rfl) (Fit_c _ H k2))) ?_
     refine .x .nt ?_
     refine .done (.ff rfl (.skip (.sr ?_)))
     refine .x .fa ?_
     refine .x (.ld 2) ?_
     refine .m ?_
     refine .i ?_ (z := mul_in (by omega) (by omega))
     refine .x .fa ?_
     refine .x (.ld 2) ?_
     refine .m ?_
     refine .i ?_ (z := mul_in (by omega) (by omega))
     refine .x .fa ?_
     refine .x (.ld 2) ?_
     refine .m ?_
     refine .i ?_ (z := mul_in (by omega) (by omega))
     refine .x .bu ?_
     refine .e (.al (zz := fun b14 => ?_))
     refine .e (.st 0 (zz := ?_))
     refine .done (.seq (.sr ?_))
     refine .g ?_
     refine .done (.block ?_)
     refine Tc.db (Tc.loopInv (σ := { x : Nat × Gl 3 1 // x.1 ≤ mv.length ∧ x.2.l = intsL ((mv.take x.1).map (· * z)) })
       (fun x => ([(9, .int .i64 (code : Nat)), (10, .int .i64 z), (11, .pointer (some ⟨b11, 0, none⟩)), (12, .pointer (some ⟨b12, 0, none⟩)), (13, .pointer (some ⟨b13, 0, none⟩)), (14, .pointer (some ⟨b14, 0, none⟩)), (15, .int .i64 (x.1.1 : Nat))],
         (b14, true, .cells ⟨[.int .i64 (s * z), .int .i64 (r * z), .int .i64 (e * z), x.1.2.val]⟩ 39 (0, 0)) :: (b13, true, .cells ⟨k2.val.cells.toList⟩ 27 (0, 0)) :: (b12, true, .cells ⟨(k.single s r e).val.cells.toList⟩ 27 (0, 0)) :: (b11, true, .cells ⟨[.int .i64 s, .int .i64 r, .int .i64 e, g.val]⟩ 39 (0, 0)) :: x.1.2.bl)) (fun x => mv.length - x.1.1) ?_ ⟨(0, Gl.nil 3 1), Nat.zero_le _, rfl⟩)
     rintro ⟨⟨i, u⟩, g1, g2⟩ ih
     simp only at g1 g2
     have hun : u.n = i := by
       have h1 := u.hl
       rw [g2, intsL_len, List.length_map, List.length_take] at h1
       omega
     show Tc (Mp Tryz.prog) St _ _ _ _ [(9, .int .i64 (code : Nat)), (10, .int .i64 z), (11, .pointer (some ⟨b11, 0, none⟩)), (12, .pointer (some ⟨b12, 0, none⟩)), (13, .pointer (some ⟨b13, 0, none⟩)), (14, .pointer (some ⟨b14, 0, none⟩)), (15, .int .i64 (i : Nat))]
         ((b14, true, .cells ⟨[.int .i64 (s * z), .int .i64 (r * z), .int .i64 (e * z), u.val]⟩ 39 (0, 0)) :: (b13, true, .cells ⟨k2.val.cells.toList⟩ 27 (0, 0)) :: (b12, true, .cells ⟨(k.single s r e).val.cells.toList⟩ 27 (0, 0)) :: (b11, true, .cells ⟨[.int .i64 s, .int .i64 r, .int .i64 e, g.val]⟩ 39 (0, 0)) :: u.bl) _ _
     by_cases c1 : i = mv.length
     · subst c1
       rw [List.take_length] at g2
       refine .seq (.sr ?_)
       refine .m ?_
       refine .x .fa ?_
       refine .x (.ld 3) ?_
       refine .x .ln ?_
       refine .i ?_ (z := lss_f (by omega))
       refine .done (.ff rfl (.exit rfl (.sr ?_)))
       refine .x (.ld 2) ?_
       refine .m ?_
       refine .x (.ld 3) ?_
       refine .c rfl rfl rfl rfl (fun H hs => .f ca74 rfl (CallT.is (.tuple ⟨[.int .i64 w, .bool o, .int .i64 0]⟩) (by rewrite [hrd]; rfl) (Read_good _ H (k.single s r e) (glob_le hGx hs.base) hok1 code hc s r e mv hP1 _ g.n g.cap (by rw [hgn]; exact hPl) (hNx.le hs.base)))) ?_
       refine .m ?_
       refine .x .et ?_
       refine .x .et ?_
       refine .x .et ?_
       refine .g ?_
       refine .g ?_
       refine .g ?_
       refine .done (.sr ?_)
       refine .x (.ld 1) ?_
       refine .m ?_
       refine .x (.ld 0) ?_
       refine .c rfl rfl rfl rfl (fun H hs => .f ca74 rfl (CallT.is (.tuple ⟨[.int .i64 w, .bool o, .int .i64 0]⟩) (by rewrite [hrd2]; rfl) (Read_good _ H k2 (glob_le hGx hs.base) hok code hc _ _ _ _ hP2 _ u.n u.cap (by rw [hun]; exact hPl) (Nums.of g2 (fun y hy => hs.at_ y (by simp [hy]))).2))) ?_
       refine .m ?_
       refine .x .et ?_
       refine .x .et ?_
       refine .x .et ?_
       refine .g ?_
       refine .g ?_
       refine .g ?_
       refine .done (.seq ?_)
       clear hrd hrd2
       cases o
       all_goals
         refine .r ?_
         refine .m ?_
         refine .i ?_ (z := eql_t (by omega))
         refine .m ?_
         refine .m ?_
         refine .i ?_ (z := eql_t (by omega))
         refine .x .pk ?_
         refine .m ?_
         refine .m ?_
         refine .m ?_
         refine .i ?_ (z := eql_t (by omega))
         refine .x .pk ?_
         refine .m ?_
         refine .m ?_
         refine .m ?_
         refine .x .eb ?_
         refine .x .pk ?_
         refine .m ?_
         refine .c rfl rfl rfl rfl (fun H hs => .f ca31 rfl (signalled_c H (glob_le hGx hs.base))) ?_
         refine .x .pk ?_
         refine .g ?_
         refine .done ?_
         exact hR _ _ _ _ rfl hle
     · have c2 : i < mv.length := by omega
       rcases hNx with hN | ⟨a1, a2, a3, a4, a5, a6, ha, a7, a8⟩
       · rw [hN] at c2; simp at c2
       have f1 := a8 i c2
       have hmm := hP.at_ c2
       have m4 := (mul4 (x := mv[i]?.getD 0) (z := z) (by omega) hz4).2
       have hgv : g.val = .slice (some ⟨a1, a2, none⟩) g.n g.cap := by unfold Gl.val; rw [ha]
       rw [hgv] at ih ⊢
       refine .seq (.sr ?_)
       refine .m ?_
       refine .x .fa ?_
       refine .x (.ld 3) ?_
       refine .x .ln ?_
       refine .i ?_ (z := lss_t (by omega))
       refine .done (.tt rfl (.skip (.seq (.block ?_))))
       refine Tc.drT [10, 12] [] [0] 4 mixed rfl ?_
       refine Ta.tkC 0 (by kernel_rfl) rfl rfl (by decide) rfl rfl (OpV.take .fa) ?_
       refine Ta.tkC 1 (by kernel_rfl) rfl rfl (by decide) rfl rfl (OpV.take (.ld 0)) ?_
       refine Ta.tkC 2 (by kernel_rfl) rfl rfl (by decide) rfl rfl (OpV.take .fa) ?_
       refine Ta.tkC 3 (by kernel_rfl) rfl rfl (by decide) rfl rfl (OpV.take (.ld 3)) ?_
       refine Ta.tkC 4 (by kernel_rfl) rfl rfl (by decide) rfl rfl (OpV.take .mv) ?_
       refine Ta.tkC 5 (by kernel_rfl) rfl rfl (by decide) rfl rfl (OpV.take .ia) ?_
       refine Ta.tkC 6 (by kernel_rfl) rfl rfl (by decide) rfl rfl (OpV.take .l0) ?_
       refine Ta.tkC 7 (by kernel_rfl) rfl rfl (by decide) rfl rfl (OpV.take .mv) ?_
       refine Ta.tkC 8 (by kernel_rfl) rfl rfl (by decide) rfl rfl (OpV.take (.it (zz := (by assumption)))) ?_
       refine Ta.each [9] (by kernel_rfl) rfl ⟨TaOp.mk rfl rfl rfl (.bs (zz := fun bs => ⟨S3.mk (by apply List.Sublist.cons; apply List.Sublist.cons; exact List.sublist_append_left _ _) (.inr (by apply List.Sublist.cons; exact List.Sublist.refl _)), ?_⟩)), trivial⟩
       refine Ta.each [10] (by kernel_rfl) rfl ⟨TaOp.mk rfl rfl rfl (Or.append (E := en) 5 rfl rfl rfl rfl rfl rfl rfl rfl rfl rfl rfl rfl rfl rfl rfl (fun H hs => SrcAt.of (hs.get (i := 0) rfl) (Nat.le_of_ble_eq_true rfl)) rfl (by omega) rfl (by decide) (fun u' hn' hl => ⟨S3.mk (by apply List.Sublist.cons; apply List.Sublist.cons; exact List.sublist_append_left _ _) (.inl (by kernel_rfl)), ?_⟩)), trivial⟩
       refine Ta.tkwC 11 (by kernel_rfl) rfl rfl rfl (by decide) rfl rfl (OpV.take .fa) ?_
       refine Ta.each [12] (by kernel_rfl) rfl ⟨TaOp.mk rfl rfl rfl (.st 1 (zz := ⟨S3.mk (by apply List.Sublist.cons; apply List.Sublist.cons; exact List.sublist_append_left _ _) (.inl (by kernel_rfl)), ?_⟩)), trivial⟩
       refine Ta.done (by kernel_rfl) ?_
       refine .inBlock (.r ?_)
       refine .m ?_
       refine .i ?_ (z := add_in (by omega) (by omega))
       refine .g ?_
       refine .done ?_
       exact Tc.db (ih ⟨(i + 1, u'), by simp only; omega, by simp only; rw [hl, g2, List.take_succ_eq_append_getElem c2]; unfold intsL; rw [List.map_append, List.map_append, List.getElem?_eq_getElem c2]; rfl⟩ (by simp only; omega))
end Go.Proofs.YtpdaenfglbgfkaaGreatDoor
