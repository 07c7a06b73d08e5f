/-
  With moves within the margin the link is sure of all codes: the walk.
-/
import Derived.Test.YtpdaenfglbgfkaaGreatDoorW08
import Derived.Test.YtpdaenfglbgfkaaGreatDoorWH2
namespace Go.Proofs.YtpdaenfglbgfkaaGreatDoor
open Go.RL
set_option maxRecDepth 10000
set_option maxHeartbeats 8000000
theorem read_right : ∀ c : Nat, c < 32 → readN (rightN c) = some c := by decide +kernel
theorem firstTo_spec {p : Nat → Bool} : ∀ {k n : Nat}, firstTo p k = some n → p n = true ∧ n < k ∧ ∀ i, i < n → p i = false
 | 0, n, h => by cases h
 | k + 1, n, h => by
   unfold firstTo at h
   cases hf : firstTo p k with
   | some x =>
     rw [hf] at h
     have e : x = n := Option.some.inj h
     subst e
     obtain ⟨h1, h2, h3⟩ := firstTo_spec hf
     exact ⟨h1, by omega, h3⟩
   | none =>
     rw [hf] at h
     have h' : (if p k then some k else none) = some n := h
     split at h'
     · rename_i hp
       cases h'
       exact ⟨hp, by omega, (firstTo_none k).1 hf⟩
     · cases h'
theorem Lk.ok_mv {k : Lk} (h : k.ok = true) {n : Int} (h1 : 0 ≤ n) (h2 : n ≤ 12) : (k.mv n).ok = true := by
 rw [Lk.ok_eq] at h ⊢
 simp only [Bool.and_eq_true] at h ⊢
 obtain ⟨⟨a, b⟩, c, _⟩ := h
 exact ⟨⟨a, b⟩, c, decide_eq_true (by show -12 ≤ -n ∧ -n ≤ n ∧ n ≤ 12 ∧ n - -n < 25; omega)⟩
theorem Lk.unfit_iff {k : Lk} {i : Nat} : k.unfit i = false ↔ (k.mv (i : Int)).Sure := by
 unfold Lk.unfit
 rw [← Lk.weak_none]
 cases (k.mv (i : Int)).weak <;> simp
theorem Lk.margin_iff {k : Lk} (hk : k.ok = true) {m : Int} (h0 : 0 ≤ m) (h1 : m ≤ 12) : m ≤ k.margin ↔ (k.mv m).Sure := by
 obtain ⟨_, hkr, _, _⟩ := Lk.ok_in hk
 obtain ⟨i, rfl⟩ : ∃ i : Nat, m = (i : Int) := ⟨m.toNat, by omega⟩
 unfold Lk.margin
 cases hf : firstTo k.unfit 13 with
 | none =>
   have := (firstTo_none 13).1 hf i (by omega)
   simp only
   exact ⟨fun _ => Lk.unfit_iff.1 this, fun _ => by omega⟩
 | some n =>
   obtain ⟨h2, h3, h4⟩ := firstTo_spec hf
   simp only
   constructor
   · intro h
     exact Lk.unfit_iff.1 (h4 i (by omega))
   · intro h
     rcases Nat.lt_or_ge i n with h5 | h5
     · omega
     · have h6 : (k.mv (n : Int)).Sure := Lk.sure_within (k := k.mv (i : Int)) hkr.1 hkr.1 ⟨⟨Int.le_refl _, Int.le_refl _⟩, ⟨Int.le_refl _, Int.le_refl _⟩, ⟨Int.le_refl _, Int.le_refl _⟩, by show -(i : Int) ≤ -(n : Int) ∧ (n : Int) ≤ (i : Int); omega⟩ h
       rw [Lk.unfit_iff.2 h6] at h2
       cases h2
theorem Lk.margin_in {k : Lk} : -1 ≤ k.margin ∧ k.margin ≤ 12 := by
 unfold Lk.margin
 cases hf : firstTo k.unfit 13 with
 | none => simp
 | some n =>
   have := (firstTo_spec hf).2.1
   simp only
   omega
theorem Lk.sure_view {k : Lk} (hk : k.ok = true) (hs : k.Sure) {c : Nat} (hc : c < 32) {a r n : Int} {mv : List Int} (hP : k.Past c a r n mv) : pastView c a r n mv = rightN c := by
 obtain ⟨_, hkr, _, _⟩ := Lk.ok_in hk
 exact (Lk.sure_sees hkr.1).1 hs c hc _ ((Lk.sees_iff hkr.1 hc).2 ⟨a, r, n, mv, hP, rfl⟩)
section
variable (M : Md Tryz.prog) (H : View)
theorem within_k (k : Lk) (n : Int) (h : -1000 ≤ n ∧ n ≤ 1000) : CallT M 78 #[k.val, .int .i64 n] H (fun v H' => H.le H' ∧ v = (k.mv n).val) := by
 refine CallT.enter (vs := [k.val, .int .i64 n]) Tryz.func78 rfl Tryz.ntmps78 (Nat.le_of_ble_eq_true rfl) (SymSt.nil _) fun St c cs hK => ?_
 refine .sr ?_
 refine .e (.bx (zz := fun b2 => ?_))
 refine .e (.al (zz := fun b4 => ?_))
 refine .done (.sr ?_)
 refine .m ?_
 refine .x .ng ?_
 refine .m ?_
 refine .c rfl rfl rfl rfl (fun H hs => .f ca40 rfl (to_c M H (-n) n)) ?_
 refine .x .fa ?_
 refine .x .fa ?_
 refine .e (.st 1 (zz := ?_))
 refine .done (.sr ?_)
 refine .x (.ld 1) ?_
 refine .e (.st 0 (zz := ?_))
 refine .done ?_
 refine Tc.retN (E := en) hK Tryz.func78 Tryz.results78 (vs := [_]) (by refine ⟨⟨0, _, _, _, _, _, _, _, rfl, rfl, rfl, rfl⟩, ?_⟩; exact trivial) ?_
 exact fun H' hs => ⟨hs.base, rfl⟩
end
theorem Margin_w {St : View → Goroutine → Prop} {cs : List Frame} (H : View) (hG : Glob H) (k : Lk) (p q : Int) (hp : 0 ≤ p ∧ p < 256) (hq : 0 ≤ q ∧ q < 256) (A : Option Addr) (l : List Int) (n ca : Nat) (hn : n = l.length) (hA : Picks H A l)
   (hR : ∀ (H₀ : View) (R : Rg) (L : Bl) (kk : List Item), lk R 8 = some (.bool true) → H.le H₀ → Tc (Mp Tryz.prog) St 86 ⟨16, .normal, none⟩ H₀ cs R L [] (.code .ret :: kk)) :
   Tc (Mp Tryz.prog) St 86 ⟨16, .normal, none⟩ H cs (argR [k.val, .int .u8 p, .int .u8 q, .slice A n ca]) [] [] [.code (bodyOf Tryz.f16)] := by
 cases hk : k.ok with
 | false =>
   refine .sr ?_
   refine .e (.bx (zz := fun b4 => ?_))
   refine .g ?_
   refine .done (.seq (.sr ?_))
   refine .x (.ld 0) ?_
   refine .c rfl rfl rfl rfl (fun H hs => .f ca36 rfl (CallT.is (.bool false) (by rewrite [hk]; rfl) (Fit_c _ H k))) ?_
   refine .x .nt ?_
   refine .done (.tt rfl (.sr ?_))
   refine .c rfl rfl rfl rfl (fun H hs => .f ca31 rfl (signalled_c H (glob_le hG hs.base))) ?_
   refine .g ?_
   refine .done ?_
   exact hR _ _ _ _ rfl (View.le_refl _)
 | true =>
   obtain ⟨code, hcode⟩ : ∃ c : Nat, p % 32 = (c : Int) := ⟨(p % 32).toNat, by omega⟩
   have hc : code < 32 := by omega
   obtain ⟨m, hm⟩ : ∃ m : Int, q % 13 = m := ⟨_, rfl⟩
   have hm2 : 0 ≤ m ∧ m ≤ 12 := by omega
   have hw1 : IntKind.i64.wrap p = p := wrap64 (by omega) (by omega)
   have hw2 : IntKind.i64.wrap q = q := wrap64 (by omega) (by omega)
   have hr1 : intBin .rem .i64 p 32 = some (.int .i64 (code : Nat)) := by rw [rem_in (by omega) (by omega), hcode]
   have hr2 : intBin .rem .i64 q 13 = some (.int .i64 m) := by rw [rem_in (by omega) (by omega), hm]
   have hmi := Lk.margin_in (k := k)
   have hmm := Lk.margin_iff hk hm2.1 hm2.2
   have hokm := Lk.ok_mv hk hm2.1 hm2.2
   obtain ⟨is, his⟩ : ∃ is, is = decide (m ≤ k.margin) := ⟨_, rfl⟩
   have e1 : decide ((keepTo (k.mv m).sureOf 32).length = 32) = is := by rw [his, decide_eq_decide, Lk.keep_sure, hmm]
   have hIn : ∀ H, CallT (Mp Tryz.prog) 59 #[.int .i64 k.margin, .int .i64 (-1), .int .i64 12] H (fun v H' => H.le H' ∧ v = .bool true) := fun H => CallT.mono (In_c _ H k.margin (-1) 12) (by rintro v H' ⟨h1, h2⟩; rw [decide_eq_true hmi] at h2; exact ⟨h1, h2⟩)
   refine .sr ?_
   refine .e (.bx (zz := fun b4 => ?_))
   refine .g ?_
   refine .done (.seq (.sr ?_))
   refine .x (.ld 0) ?_
   refine .c rfl rfl rfl rfl (fun H hs => .f ca36 rfl (CallT.is (.bool true) (by rewrite [hk]; rfl) (Fit_c _ H k))) ?_
   refine .x .nt ?_
   refine .done (.ff rfl (.skip (.sr ?_)))
   refine .m ?_
   refine .x .cv ?_
   refine .i ?_ (z := by assumption)
   refine .m ?_
   refine .x .cv ?_
   refine .i ?_ (z := by assumption)
   refine .g ?_
   refine .g ?_
   refine .done (.sr ?_)
   refine .x (.ld 0) ?_
   refine .c rfl rfl rfl rfl (fun H hs => .f ca32 rfl (Margin_c _ H k (glob_le hG hs.base) hk)) ?_
   refine .m ?_
   refine .x .et ?_
   refine .x .et ?_
   refine .g ?_
   refine .g ?_
   refine .done (.seq (.sr ?_))
   refine .m ?_
   refine .i ?_ (z := neq_f (by omega))
   refine .m ?_
   refine .m ?_
   refine .c rfl rfl rfl rfl (fun H hs => .f ca59 rfl (hIn H)) ?_
   refine .x .nt ?_
   refine .x .pk ?_
   refine .done (.ff rfl (.skip (.sr ?_)))
   refine .x (.ld 0) ?_
   refine .m ?_
   refine .c rfl rfl rfl rfl (fun H hs => .f ca78 rfl (within_k _ H k m (by omega))) ?_
   refine .c rfl rfl rfl rfl (fun H hs => .f ca41 rfl (CallT.is (.tuple ⟨[.bool is, .bool true]⟩) (by rewrite [e1]; rfl) (all_c' _ H (k.mv m) (glob_le hG hs.base) hokm))) ?_
   refine .m ?_
   refine .x .et ?_
   refine .x .et ?_
   refine .g ?_
   refine .g ?_
   refine .done ?_
   refine Tc.dropB (R' := [(3, .slice A n ca), (4, .pointer (some ⟨b4, 0, none⟩)), (9, .int .i64 (code : Nat)), (10, .int .i64 m), (11, .int .i64 k.margin), (13, .bool is), (14, .bool true)]) (L' := [(b4, true, .cells ⟨k.val.cells.toList⟩ 27 (0, 0))]) ?_ ⟨rfl, rfl, rfl, rfl, rfl, rfl, rfl, trivial⟩ (List.Sublist.refl _)
   refine .seq (.seq ?_)
   refine Tc.via2 (fun R' L' => AllIn [(3, .slice A n ca), (4, .pointer (some ⟨b4, 0, none⟩)), (9, .int .i64 (code : Nat)), (11, .int .i64 k.margin)] R' ∧ L' = [(b4, true, .cells ⟨k.val.cells.toList⟩ 27 (0, 0))]) ?_ (fun fin => ?_)
   · rintro R' L' ⟨hRR, rfl⟩
     refine Tc.dropB ?_ hRR (List.Sublist.refl _)
     by_cases hneg : k.margin < 0
     · refine .seq (.sr ?_)
       refine .m ?_
       refine .i ?_ (z := lss_t (by omega))
       refine .done (.tt rfl (.sr ?_))
       refine .c rfl rfl rfl rfl (fun H hs => .f ca31 rfl (signalled_c H (glob_le hG hs.base))) ?_
       refine .g ?_
       refine .done ?_
       exact hR _ _ _ _ rfl (View.le_refl _)
     · have hok2 := Lk.ok_mv hk (n := k.margin) (by omega) (by omega)
       have hsu : (k.mv k.margin).Sure := (Lk.margin_iff hk (by omega) (by omega)).1 (Int.le_refl _)
       have hP := Lk.past_of hok2 code l
       have hv := Lk.sure_view hok2 hsu hc hP
       have hrd := read_right code hc
       rw [← hv] at hrd
       refine .seq (.sr ?_)
       refine .m ?_
       refine .i ?_ (z := lss_f (by omega))
       refine .done (.ff rfl (.skip (.seq ?_)))
       refine Tc.dr [] [] mixed rfl ?_
       refine .q 0 rfl (.ld 0) ?_
       refine .q 1 rfl .mv ?_
       refine .z 2 rfl (OpV.takeCall rfl rfl rfl rfl (fun H hs => .f ca78 rfl (within_k _ H k k.margin (by omega)))) ?_
       refine .q 3 rfl .mv ?_
       refine .q 4 rfl (.ld 0) ?_
       refine .q 5 rfl .mv ?_
       refine .z 6 rfl (OpV.takeCall rfl rfl rfl rfl (fun H hs => .f ca78 rfl (within_k _ H k k.margin (by omega)))) ?_
       refine .q 7 rfl .mv ?_
       refine .q 8 rfl .mv ?_
       refine Ta.each [9] (by kernel_rfl) rfl ⟨TaOp.mk rfl rfl rfl (Or.callNew (fun g : Gl 3 1 => pastV ((k.mv k.margin).pSend l) ((k.mv k.margin).pRead l) ((k.mv k.margin).pLean l) g) Gl.bl (fun g : Gl 3 1 => g.l = intsL ((k.mv k.margin).pMoves l (placesTo code 7).length)) rfl rfl rfl rfl rfl (by decide) gl_nodup (fun H hs => .f ca73 rfl (Past_c _ H (k.mv k.margin) hok2 code hc A l n ca hn (hA.le hs.base))) (fun g hg => ⟨S2.mk (by exact List.sublist_append_left _ _) (.inr (by exact List.sublist_append_left _ _)), ?_⟩)), trivial⟩
       refine Ta.each [10] (by kernel_rfl) rfl ⟨TaOp.mk rfl rfl rfl (Or.ofT (OpV.takeCall rfl rfl rfl rfl (fun H hs => .f ca74 rfl (CallT.is (.tuple ⟨[.int .i64 (code : Nat), .bool true, .int .i64 0]⟩) (by rewrite [hrd]; rfl) (Read_good _ H (k.mv k.margin) (glob_le hG hs.base) hok2 code hc _ _ _ _ hP _ g.n g.cap (by rw [← hP.len]; exact (Nums.of hg (fun y hy => hs.at_ y (by simp [hy]))).1) (Nums.of hg (fun y hy => hs.at_ y (by simp [hy]))).2)))) rfl (by decide) ⟨S2.mk (by exact List.sublist_append_left _ _) (.inr (by exact List.sublist_append_left _ _)), ?_⟩), trivial⟩
       refine .q 11 rfl .mv ?_
       refine .q 12 rfl .et ?_
       refine .q 13 rfl .et ?_
       refine .q 14 rfl .et ?_
       refine .q 15 rfl .sg ?_
       refine .q 16 rfl .sg ?_
       refine .q 17 rfl .sg ?_
       refine Ta.done (by kernel_rfl) ?_
       refine .sr ?_
       refine .m ?_
       refine .i ?_ (z := eql_t (by omega))
       refine .m ?_
       refine .m ?_
       refine .x .pk ?_
       refine .m ?_
       refine .m ?_
       refine .m ?_
       refine .i ?_ (z := eql_t (by omega))
       refine .x .pk ?_
       refine .m ?_
       refine .c rfl rfl rfl rfl (fun H hs => .f ca31 rfl (signalled_c H (glob_le hG hs.base))) ?_
       refine .x .pk ?_
       refine .g ?_
       refine .done ?_
       exact hR _ _ _ _ rfl (View.le_refl _)
   · clear e1
     by_cases hc1 : m ≤ k.margin
     · rw [decide_eq_true hc1] at his
       subst his
       refine .r ?_
       refine .m ?_
       refine .x .nt ?_
       refine .m ?_
       refine .m ?_
       refine .m ?_
       refine .m ?_
       refine .i ?_ (z := leq_t (by omega))
       refine .x .nb ?_
       refine .x .pk ?_
       refine .done (.ff rfl (.skip ?_))
       exact fin _ _ ⟨⟨rfl, rfl, rfl, rfl, trivial⟩, rfl⟩
     · rw [decide_eq_false hc1] at his
       subst his
       refine .r ?_
       refine .m ?_
       refine .x .nt ?_
       refine .m ?_
       refine .m ?_
       refine .m ?_
       refine .m ?_
       refine .i ?_ (z := leq_f (by omega))
       refine .x .nb ?_
       refine .x .pk ?_
       refine .done (.ff rfl (.skip ?_))
       exact fin _ _ ⟨⟨rfl, rfl, rfl, rfl, trivial⟩, rfl⟩
end Go.Proofs.YtpdaenfglbgfkaaGreatDoor
