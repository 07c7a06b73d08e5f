/-
  Texts of the proofs over baudot/signal: E3 E4 E5 E6 G1 E7 E8 E9 E2 Less C1 C2 C3 C4.
-/
import Derived.Test.YtpdaenfglbgfkaaGreatDoorW05
section
namespace Go.Proofs.YtpdaenfglbgfkaaGreatDoor
open Go.RL
set_option maxRecDepth 10000
set_option maxHeartbeats 4000000
def Lk.seen (k : Lk) (c : Nat) : Nat := ((List.range 128).filter (k.sees c)).length
def Lk.claim (k : Lk) (c : Nat) : Int := if k.sees c (rightN c) then (if k.seen c = 1 then 1 else 0) else 2
theorem rightTo_lt : ∀ c : Nat, c < 32 → rightN c < 128 := by decide +kernel
theorem nodup_le {α : Type} [DecidableEq α] : ∀ {l m : List α}, l.Nodup → (∀ x ∈ l, x ∈ m) → l.length ≤ m.length
 | [], _, _, _ => by simp
 | x :: l, m, h1, h2 => by
   obtain ⟨h3, h4⟩ := List.nodup_cons.1 h1
   have hx := h2 x List.mem_cons_self
   have h5 := nodup_le (m := m.erase x) h4 fun y hy => (List.mem_erase_of_ne (by rintro rfl; exact h3 hy)).2 (h2 y (List.mem_cons_of_mem _ hy))
   have h6 := List.length_erase_of_mem hx
   have h7 := List.length_pos_of_mem hx
   simp only [List.length_cons]
   omega
theorem seen_size {K : Nat → Bool} {es : Array MapEntry} {cl : Nat} (h : MapOk es cl (vF K)) : es.size = ((List.range 128).filter K).length := by
 classical
 have e1 : es.size = (es.toList.map (·.key)).length := by simp
 have e2 : ((List.range 128).filter K).length = (((List.range 128).filter K).map fun u => Value.int .u8 (u : Nat)).length := by simp
 rw [e1, e2]
 refine Nat.le_antisymm (nodup_le h.keys fun x hx => ?_) (nodup_le ?_ fun x hx => ?_)
 · obtain ⟨e, he, rfl⟩ := List.mem_map.1 hx
   obtain ⟨_, u, h1, h2, h3⟩ := (h.mem e.key e.val).2 ⟨e, he, rfl, rfl⟩
   exact List.mem_map.2 ⟨u, List.mem_filter.2 ⟨List.mem_range.2 h1, h3⟩, h2.symm⟩
 · rw [List.nodup_iff_pairwise_ne, List.pairwise_map]
   refine List.Pairwise.imp ?_ (List.Pairwise.filter K (List.nodup_iff_pairwise_ne.1 List.nodup_range))
   intro a b hab e
   simp only [Value.int.injEq, true_and, Int.natCast_inj] at e
   exact hab e
 · obtain ⟨u, hu, rfl⟩ := List.mem_map.1 hx
   obtain ⟨h1, h2⟩ := List.mem_filter.1 hu
   obtain ⟨e, he, h3, _⟩ := (h.mem (.int .u8 (u : Nat)) (.bool true)).1 ⟨rfl, u, List.mem_range.1 h1, rfl, h2⟩
   exact List.mem_map.2 ⟨e, he, h3⟩
def PastT (o : Option (Int × Int × Int × List Int)) (H : View) (v : Value) (H' : View) : Prop := H.le H' ∧
 match o with
 | none => v = .tuple ⟨[.agg ⟨[.int .i64 0, .int .i64 0, .int .i64 0, .slice none 0 0]⟩, .bool false, .int .i64 0]⟩
 | some (s, r, n, mv) => ∃ g : Gl 3 1, v = .tuple ⟨[pastV s r n g, .bool true, .int .i64 0]⟩ ∧ g.l = intsL mv ∧ ∀ y ∈ g.bl, H' y.1 = some y.2 ∧ H y.1 = none
section
variable (M : Md Tryz.prog) (H : View)
theorem open_n (k : Lk) (code : Nat) (hG : Glob H) (hk : k.ok = true) (hc : code < 32) : CallT M 89 #[k.val, .int .i64 code] H (fun v H' => H.le H' ∧ ∃ x : Nat × Nat × List Value, v = .tuple ⟨[k.val, letN code x, .int .i64 0]⟩ ∧ True ∧ ∀ y ∈ letB code x, H' y.1 = some y.2 ∧ H y.1 = none) :=
 CallT.mono (open_yes M H k code hG hk hc) (by
   rintro v H' ⟨h2, g, rfl, ⟨h3, h4⟩, h5⟩
   obtain ⟨b, hb⟩ := gl_some g (by rw [h3]; exact (places_in code hc).1)
   refine ⟨h2, (b, g.cap, g.junk), ?_, trivial, fun y hy => h5 y ?_⟩
   · unfold letterV letN Gl.val
     rw [hb, h3]
     rfl
   · unfold Gl.bl
     rw [hb, h4]
     exact hy)
theorem Wrong_c (k : Lk) (code : Nat) (hG : Glob H) (hk : k.ok = true) (hc : code < 32) : CallT M 28 #[k.val, .int .i64 code] H (PastT (k.wrong code) H) := by
 refine CallT.enter (vs := [k.val, .int .i64 code]) Tryz.func28 rfl Tryz.ntmps28 (Nat.le_of_ble_eq_true rfl) (SymSt.nil _) fun St c cs hK => ?_
 refine .sr ?_
 refine .e (.bx (zz := fun b2 => ?_))
 refine .e (.al (zz := fun b4 => ?_))
 refine .g ?_
 refine .g ?_
 refine .done (.sr ?_)
 refine .x (.ld 1) ?_
 refine .m ?_
 refine .e (Or.callNew (fun x => .tuple ⟨[k.val, letN code x, .int .i64 0]⟩) (letB code) (fun _ => True) rfl rfl rfl rfl rfl (by decide) (letB_nodup code) (fun H hs => .f ca89 rfl (open_n M H k code (glob_le hG hs.base) hk hc)) (fun x hx => ?_))
 refine .m ?_
 refine .x .et ?_
 refine .x .et ?_
 refine .x .et ?_
 refine .e (.al (zz := fun b7 => ?_))
 refine .e (.al (zz := fun b8 => ?_))
 refine .e (.st 1 (zz := ?_))
 refine .e (.st 0 (zz := ?_))
 refine .g ?_
 refine .done (.seq (.sr ?_))
 refine .m ?_
 refine .i ?_ (z := neq_f (by omega))
 refine .done (.ff rfl (.skip (.seq ?_)))
 cases hw : k.wrong code with
 | none =>
   refine .r ?_
   refine .x (.ld 1) ?_
   refine .x (.ld 0) ?_
   refine .c rfl rfl rfl rfl (fun H hs => .f ca100 rfl (CallT.mono (wrong_c M H k (Lk.fine hk) code x.1 x.2.1 hc (edg_of fun y hy => hs.at_ y (by simp [hy]))) (Q' := fun v H' => H.le H' ∧ v = .tuple ⟨[.agg ⟨[.int .i64 0, .int .i64 0, .int .i64 0, .slice none 0 0]⟩, .bool false]⟩) (by rintro v H' ⟨h1, h2⟩; rw [hw] at h2; exact ⟨h1, h2⟩))) ?_
   refine .m ?_
   refine .x .et ?_
   refine .x .et ?_
   refine .e (.st 2 (zz := ?_))
   refine .g ?_
   refine .done (.sr ?_)
   refine .x (.ld 2) ?_
   refine .m ?_
   refine .e (.st 2 (zz := ?_))
   refine .g ?_
   refine .g ?_
   refine .done ?_
   refine Tc.retN (E := en) hK Tryz.func28 Tryz.results28 (vs := [_, _, _]) (by refine ⟨⟨2, _, _, _, _, _, _, _, rfl, rfl, rfl, rfl⟩, ?_⟩; refine ⟨rfl, ?_⟩; refine ⟨rfl, ?_⟩; exact trivial) ?_
   exact fun H' hs => ⟨hs.base, by rw [hw]; rfl⟩
 | some w =>
   obtain ⟨s, r, n, mv⟩ := w
   refine .r ?_
   refine .x (.ld 1) ?_
   refine .x (.ld 0) ?_
   refine .e (Or.callNew (fun g : Gl 3 1 => .tuple ⟨[pastV s r n g, .bool true]⟩) Gl.bl (fun g => g.l = intsL mv) rfl rfl rfl rfl rfl (by decide) gl_nodup (fun H hs => .f ca100 rfl (CallT.mono (wrong_c M H k (Lk.fine hk) code x.1 x.2.1 hc (edg_of fun y hy => hs.at_ y (by simp [hy]))) (by rintro v H' ⟨h1, h2⟩; rw [hw] at h2; obtain ⟨g, h3, h4, h5⟩ := h2; exact ⟨h1, g, h3, h4, h5⟩))) (fun g hg => ?_))
   refine .m ?_
   refine .x .et ?_
   refine .x .et ?_
   refine .e (.st 2 (zz := ?_))
   refine .g ?_
   refine .done (.sr ?_)
   refine .x (.ld 2) ?_
   refine .m ?_
   refine .e (.st 2 (zz := ?_))
   refine .g ?_
   refine .g ?_
   refine .done ?_
   refine Tc.retN (E := en) hK Tryz.func28 Tryz.results28 (vs := [_, _, _]) (by refine ⟨⟨2, _, _, _, _, _, _, _, rfl, rfl, rfl, rfl⟩, ?_⟩; refine ⟨rfl, ?_⟩; refine ⟨rfl, ?_⟩; exact trivial) ?_
   exact fun H' hs => ⟨hs.base, by rw [hw]; exact ⟨g, rfl, hg, fun y hy => ⟨hs.at_ y (by simp [hy]), hs.out y (by simp [hy])⟩⟩⟩
theorem Right_c (k : Lk) (code : Nat) (hG : Glob H) (hk : k.ok = true) (hc : code < 32) : CallT M 24 #[k.val, .int .i64 code] H (fun v H' => H.le H' ∧ v = .tuple ⟨[.int .i64 (k.claim code), .int .i64 0]⟩) := by
 refine CallT.enter (vs := [k.val, .int .i64 code]) Tryz.func24 rfl Tryz.ntmps24 (Nat.le_of_ble_eq_true rfl) (SymSt.nil _) fun St c cs hK => ?_
 refine .sr ?_
 refine .e (.bx (zz := fun b2 => ?_))
 refine .g ?_
 refine .g ?_
 refine .done (.sr ?_)
 refine .x (.ld 0) ?_
 refine .m ?_
 refine .e (Or.callNew (fun x => .tuple ⟨[k.val, letN code x, .int .i64 0]⟩) (letB code) (fun _ => True) rfl rfl rfl rfl rfl (by decide) (letB_nodup code) (fun H hs => .f ca89 rfl (open_n M H k code (glob_le hG hs.base) hk hc)) (fun x hx => ?_))
 refine .m ?_
 refine .x .et ?_
 refine .x .et ?_
 refine .x .et ?_
 refine .e (.al (zz := fun b6 => ?_))
 refine .e (.al (zz := fun b7 => ?_))
 refine .e (.st 1 (zz := ?_))
 refine .e (.st 0 (zz := ?_))
 refine .g ?_
 refine .done (.seq (.sr ?_))
 refine .m ?_
 refine .i ?_ (z := neq_f (by omega))
 refine .done (.ff rfl (.skip (.seq (.sr ?_))))
 refine .x (.ld 1) ?_
 refine .x (.ld 0) ?_
 refine .e (Or.callNew (fun y : Nat × Array MapEntry × Nat => .map (some y.1)) (fun y => [(y.1, true, .map y.2.1 y.2.2)]) (fun y => MapOk y.2.1 y.2.2 (vF (k.sees code))) rfl rfl rfl rfl rfl (by decide) (fun _ => by simp) (fun H hs => .f ca90 rfl (CallT.mono (all90_c M H k (Lk.fine hk) code x.1 x.2.1 hc (edg_of fun y hy => hs.at_ y (by simp [hy]))) (by rintro v H' ⟨h1, m, es, cl, h2, h3, h4, h5⟩; exact ⟨h1, (m, es, cl), h2, h5, by simp [h3, h4]⟩))) (fun y hm => ?_))
 refine .g ?_
 refine .done ?_
 obtain ⟨m, es, cl⟩ := y
 have hrt := rightTo_lt code hc
 have hfind : ∀ r, FindOk es.toList (.int .u8 (rightN code : Nat)) r → foundV (.bool false) r false = .bool (k.sees code (rightN code)) := by
   intro r hr
   have hf := MapOk.find hm hr
   cases r with
   | none =>
     simp only at hf
     cases hse : k.sees code (rightN code) with
     | false => rfl
     | true => exact (hf (.bool true) ⟨rfl, rightN code, hrt, rfl, hse⟩).elim
   | some p =>
     obtain ⟨j, v⟩ := p
     obtain ⟨rfl, u, h1, h2, h3⟩ := hf
     simp only [Value.int.injEq, true_and, Int.natCast_inj] at h2
     subst h2
     rw [h3]
     rfl
 have hsz := seen_size hm
 refine .block (.seq ?_)
 cases hse : k.sees code (rightN code) with
 | false =>
   rw [hse] at hfind
   have hcl : k.claim code = 2 := by unfold Lk.claim; rw [hse]; rfl
   refine .r ?_
   refine .m ?_
   refine .x (.ld 0) ?_
   refine .c rfl rfl rfl rfl (fun H hs => .f ca95 rfl (right_c M H code _ hc)) ?_
   refine .x (OpV.lookup (E := en) (v := .bool false) 1 rfl rfl rfl (fun H hs => ⟨true, hs.at_ (m, true, .map es cl) (by simp)⟩) rfl rfl rfl (by decide) (view_key _) (vF_keys hm) hfind) ?_
   refine .x .nt ?_
   refine .g ?_
   refine .done (.tt rfl (.sr ?_))
   refine .g ?_
   refine .g ?_
   refine .done ?_
   refine .rt hK Tryz.func24 Tryz.results24 [_, _] ?_
   exact fun H' hs => ⟨hs.base, by rw [hcl]; rfl⟩
 | true =>
   rw [hse] at hfind
   refine .r ?_
   refine .m ?_
   refine .x (.ld 0) ?_
   refine .c rfl rfl rfl rfl (fun H hs => .f ca95 rfl (right_c M H code _ hc)) ?_
   refine .x (OpV.lookup (E := en) (v := .bool true) 1 rfl rfl rfl (fun H hs => ⟨true, hs.at_ (m, true, .map es cl) (by simp)⟩) rfl rfl rfl (by decide) (view_key _) (vF_keys hm) hfind) ?_
   refine .x .nt ?_
   refine .g ?_
   refine .done (.ff rfl (.sr ?_))
   refine .m ?_
   refine .x (OpV.lenMap (E := en) (es := es) (cl₀ := cl) rfl rfl rfl rfl rfl (fun H hs => ⟨true, hs.at_ (m, true, .map es cl) (by simp)⟩) rfl rfl) ?_
   by_cases h1 : es.size = 1
   · have hcl : k.claim code = 1 := by unfold Lk.claim Lk.seen; rw [hse, ← hsz, h1]; rfl
     refine .i ?_ (z := eql_t (by omega))
     refine .g ?_
     refine .done (.tt rfl (.sr ?_))
     refine .g ?_
     refine .g ?_
     refine .done ?_
     refine .rt hK Tryz.func24 Tryz.results24 [_, _] ?_
     exact fun H' hs => ⟨hs.base, by rw [hcl]; rfl⟩
   · have hcl : k.claim code = 0 := by unfold Lk.claim Lk.seen; rw [hse, ← hsz, if_pos rfl, if_neg h1]
     refine .i ?_ (z := eql_f (by omega))
     refine .g ?_
     refine .done (.ff rfl (.skip (.inBlock (.sr ?_))))
     refine .g ?_
     refine .g ?_
     refine .done ?_
     refine .rt hK Tryz.func24 Tryz.results24 [_, _] ?_
     exact fun H' hs => ⟨hs.base, by rw [hcl]; rfl⟩
end
end Go.Proofs.YtpdaenfglbgfkaaGreatDoor
end
section
namespace Go.Proofs.YtpdaenfglbgfkaaGreatDoor
open Go.RL
set_option maxRecDepth 10000
set_option maxHeartbeats 4000000
theorem edge_ld (code : Nat) (x : Nat × Nat × List Value) (j : Nat) (hj : j < (placesTo code 7).length) : ldL true 2 (edgeCells (placesTo code 7) ++ x.2.2) (0 + j * 2) = some (edgeV ((placesTo code 7)[j]?.getD 0) j) := by
 obtain ⟨f, es, et, ez, h1, h2⟩ := edg_of (H := View.put (fun _ => none) x.1 (true, .cells ⟨edgeCells (placesTo code 7) ++ x.2.2⟩ 169 (0, 0))) (code := code) (x := x) (fun y hy => by
   simp only [letB, List.mem_singleton] at hy
   subst hy
   exact View.put_same ..)
 rw [View.put_same] at h1
 simp only [Option.some.injEq, Prod.mk.injEq, Obj.cells.injEq, Array.mk.injEq] at h1
 obtain ⟨_, rfl, _⟩ := h1
 exact h2 j hj
def placesV (l : List Nat) : List Value := l.map fun p => .int .i64 (p : Nat)
theorem placesV_succ (l : List Nat) (j : Nat) (h : j < l.length) : placesV (l.take (j + 1)) = placesV (l.take j) ++ [.int .i64 ((l[j]?.getD 0 : Nat) : Int)] := by
 unfold placesV
 rw [List.take_succ_eq_append_getElem h, List.map_append, List.getElem?_eq_getElem h]
 rfl
section
variable (M : Md Tryz.prog) (H : View)
theorem Edges_c (code : Nat) (hc : code < 32) : CallT M 84 #[.int .i64 code] H (ToldQ (placesV (placesTo code 7)) H) := by
 refine CallT.enter (vs := [.int .i64 code]) Tryz.func84 rfl Tryz.ntmps84 (Nat.le_of_ble_eq_true rfl) (SymSt.nil _) fun St c cs hK => ?_
 have hp6 := (places_in code hc).2.1
 refine .sr ?_
 refine .g ?_
 refine .g ?_
 refine .done (.seq (.sr ?_))
 refine .m ?_
 refine .c rfl rfl rfl rfl (fun H hs => .f ca141 rfl (isCode_yes M H code (by omega))) ?_
 refine .x .nt ?_
 refine .done (.ff rfl (.skip (.sr ?_)))
 refine .g ?_
 refine .done (.seq (.sr ?_))
 refine .m ?_
 refine .e (Or.callNew (letN code) (letB code) (fun _ => True) rfl rfl rfl rfl rfl (by decide) (letB_nodup code) (fun H hs => .f ca113 rfl (letterOf_n M H code hc)) (fun x hx => ?_))
 refine .x .fd ?_
 refine .x .ln ?_
 refine .m ?_
 refine .done (.block ?_)
 refine Tc.db (Tc.loopInv (σ := { s : Nat × Gl 3 1 // s.1 ≤ (placesTo code 7).length ∧ s.2.l = placesV ((placesTo code 7).take s.1) })
   (fun s => ([(14, .int .i64 (s.1.1 : Nat)), (13, .int .i64 ((placesTo code 7).length : Nat)), (12, .slice (some ⟨x.1, 0, none⟩) (placesTo code 7).length x.2.1), (4, s.1.2.val)], letB code x ++ s.1.2.bl)) (fun s => (placesTo code 7).length - s.1.1) ?_ ⟨(0, Gl.nil 3 1), by simp, rfl⟩)
 rintro ⟨⟨j, g⟩, g1, g2⟩ ih
 simp only at g1 g2
 have hlen : g.n = j := by
   have h1 := g.hl
   rw [g2] at h1
   unfold placesV at h1
   rw [List.length_map, List.length_take] at h1
   omega
 show Tc M St _ _ _ _ [(14, .int .i64 (j : Nat)), (13, .int .i64 ((placesTo code 7).length : Nat)), (12, .slice (some ⟨x.1, 0, none⟩) (placesTo code 7).length x.2.1), (4, g.val)] (letB code x ++ g.bl) _ _
 by_cases c1 : j = (placesTo code 7).length
 · subst c1
   refine .sr ?_
   refine .i ?_ (z := lss_f (by omega))
   refine .done (.seq (.ff rfl (.exit rfl (.sr ?_))))
   refine .m ?_
   refine .g ?_
   refine .g ?_
   refine .done ?_
   refine .rt hK Tryz.func84 Tryz.results84 [_, _] ?_
   exact fun H' hs => ⟨hs.base, g, rfl, by rw [g2, List.take_length], fun y hy => ⟨hs.at_ y (by simp [hy]), hs.out y (by simp [hy])⟩⟩
 · have c2 : j < (placesTo code 7).length := by omega
   have f1 : ldL true 2 (edgeCells (placesTo code 7) ++ x.2.2) (0 + (j : Int).toNat * 2) = some (edgeV ((placesTo code 7)[j]?.getD 0) j) := by rw [show (j : Int).toNat = j by simp]; exact edge_ld code x j c2
   refine .sr ?_
   refine .i ?_ (z := lss_t (by omega))
   refine .done (.seq (.tt rfl (.skip (.seq (.block (.sr ?_))))))
   refine .x .ia ?_
   refine .x (.ld 0) ?_
   refine .e (.al (zz := fun b6 => ?_))
   refine .e (.st 0 (zz := ?_))
   refine .done (.r ?_)
   refine .m ?_
   refine .x .fa ?_
   refine .x (.ld 0) ?_
   refine .e (.bs (zz := fun bs => ?_))
   refine .e (Or.append (E := en) 3 rfl rfl rfl rfl rfl rfl rfl rfl rfl rfl rfl rfl rfl rfl rfl (fun H hs => SrcAt.of (hs.get (i := 0) rfl) (Nat.le_of_ble_eq_true rfl)) rfl (by omega) rfl (by decide) (fun g' hn hl => ?_))
   refine .g ?_
   refine .done (.inBlock (.r ?_))
   refine .i ?_ (z := add_in (by omega) (by omega))
   refine .m ?_
   refine .done ?_
   exact Tc.db (ih ⟨(j + 1, g'), by simp only; omega, by simp only; rw [hl, g2, placesV_succ _ _ c2]; rfl⟩ (by simp only; omega))
theorem un_9 : Tryz.prog.underlying 9 = some .string := by kernel_rfl
theorem Len64_0 : CallT M 186 #[.int .u64 0] H (fun v H' => H.le H' ∧ v = .int .i64 0) := by
 refine CallT.enter (vs := [.int .u64 0]) Tryz.func186 rfl Tryz.ntmps186 (Nat.le_of_ble_eq_true rfl) (SymSt.nil _) fun St c cs hK => ?_
 refine .sr ?_
 refine .g ?_
 refine .done (.seq (.sr ?_))
 refine .m ?_
 refine .i ?_ (z := geq_f (by omega))
 refine .done (.ff rfl (.skip (.seq (.sr ?_))))
 refine .m ?_
 refine .i ?_ (z := geq_f (by omega))
 refine .done (.ff rfl (.skip (.seq (.sr ?_))))
 refine .m ?_
 refine .i ?_ (z := geq_f (by omega))
 refine .done (.ff rfl (.skip (.sr ?_)))
 refine .m ?_
 refine .m ?_
 refine .x .cv ?_
 refine .x (OpV.indexStr (c := 0) rfl rfl rfl un_9 (by decide) (by decide +kernel)) ?_
 refine .x .cv ?_
 refine .i ?_ (z := by exact rfl)
 refine .g ?_
 refine .done ?_
 refine .rt hK Tryz.func186 Tryz.results186 [_] ?_
 exact fun H' hs => ⟨hs.base, rfl⟩
theorem Len64_1 : CallT M 186 #[.int .u64 1] H (fun v H' => H.le H' ∧ v = .int .i64 1) := by
 refine CallT.enter (vs := [.int .u64 1]) Tryz.func186 rfl Tryz.ntmps186 (Nat.le_of_ble_eq_true rfl) (SymSt.nil _) fun St c cs hK => ?_
 refine .sr ?_
 refine .g ?_
 refine .done (.seq (.sr ?_))
 refine .m ?_
 refine .i ?_ (z := geq_f (by omega))
 refine .done (.ff rfl (.skip (.seq (.sr ?_))))
 refine .m ?_
 refine .i ?_ (z := geq_f (by omega))
 refine .done (.ff rfl (.skip (.seq (.sr ?_))))
 refine .m ?_
 refine .i ?_ (z := geq_f (by omega))
 refine .done (.ff rfl (.skip (.sr ?_)))
 refine .m ?_
 refine .m ?_
 refine .x .cv ?_
 refine .x (OpV.indexStr (c := 1) rfl rfl rfl un_9 (by decide) (by decide +kernel)) ?_
 refine .x .cv ?_
 refine .i ?_ (z := by exact rfl)
 refine .g ?_
 refine .done ?_
 refine .rt hK Tryz.func186 Tryz.results186 [_] ?_
 exact fun H' hs => ⟨hs.base, rfl⟩
theorem insert_one (sv : Option Addr) (n cap : Nat) (hn : n ≤ 1) : CallT M 176 #[.slice sv n cap, .int .i64 0, .int .i64 n] H (fun v H' => H.le H' ∧ v = .tuple ⟨[]⟩) := by
 refine CallT.enter (vs := [.slice sv n cap, .int .i64 0, .int .i64 n]) Tryz.func176 rfl Tryz.ntmps176 (Nat.le_of_ble_eq_true rfl) (SymSt.nil _) fun St c cs hK => ?_
 refine .sr ?_
 refine .m ?_
 refine .i ?_ (z := add_in (by omega) (by omega))
 refine .g ?_
 refine .done (.block (.loop (.seq (.sr ?_))))
 refine .m ?_
 refine .m ?_
 refine .i ?_ (z := lss_f (by omega))
 refine .done (.ff rfl (.exit rfl ?_))
 refine Tc.overN (E := en) hK Tryz.func176 Tryz.results176 (vs := []) (by exact trivial) ?_
 exact fun H' hs => ⟨hs.base, rfl⟩
theorem pdq_one (sv : Option Addr) (n cap : Nat) (li : Int) (hn : n ≤ 1) : CallT M 148 #[.slice sv n cap, .int .i64 0, .int .i64 n, .int .i64 li] H (fun v H' => H.le H' ∧ v = .tuple ⟨[]⟩) := by
 refine CallT.enter (vs := [.slice sv n cap, .int .i64 0, .int .i64 n, .int .i64 li]) Tryz.func148 rfl Tryz.ntmps148 (Nat.le_of_ble_eq_true rfl) (SymSt.nil _) fun St c cs hK => ?_
 refine .sr ?_
 refine .g ?_
 refine .done (.sr ?_)
 refine .g ?_
 refine .done (.block (.loop (.block (.sr ?_))))
 refine .m ?_
 refine .m ?_
 refine .i ?_ (z := sub_in (by omega) (by omega))
 refine .g ?_
 refine .done (.seq (.sr ?_))
 refine .m ?_
 refine .i ?_ (z := leq_t (by omega))
 refine .done (.tt rfl (.sr ?_))
 refine .m ?_
 refine .m ?_
 refine .m ?_
 refine .c rfl rfl rfl rfl (fun H hs => .f ca176 rfl (insert_one M H sv n cap hn)) ?_
 refine .done ?_
 refine Tc.retN (E := en) hK Tryz.func148 Tryz.results148 (vs := []) (by exact trivial) ?_
 exact fun H' hs => ⟨hs.base, rfl⟩
theorem Sort_one (sv : Option Addr) (n cap : Nat) (hn : n ≤ 1) : CallT M 92 #[.slice sv n cap] H (fun v H' => H.le H' ∧ v = .tuple ⟨[]⟩) := by
 rcases (by omega : n = 0 ∨ n = 1) with rfl | rfl
 · have hlen : ∀ H, CallT M 149 #[.int .u64 0] H (fun v H' => H.le H' ∧ v = .int .i64 0) := fun H => by
     refine CallT.enter (vs := [.int .u64 0]) Tryz.func149 rfl Tryz.ntmps149 (Nat.le_of_ble_eq_true rfl) (SymSt.nil _) fun St c cs hK => ?_
     refine .sr ?_
     refine .g ?_
     refine .done (.seq (.ff rfl (.skip (.sr ?_))))
     refine .m ?_
     refine .c rfl rfl rfl rfl (fun H hs => .f ca186 rfl (Len64_0 M H)) ?_
     refine .g ?_
     refine .done ?_
     refine .rt hK Tryz.func149 Tryz.results149 [_] ?_
     exact fun H' hs => ⟨hs.base, rfl⟩
   refine CallT.enter (vs := [.slice sv 0 cap]) Tryz.func92 rfl Tryz.ntmps92 (Nat.le_of_ble_eq_true rfl) (SymSt.nil _) fun St c cs hK => ?_
   refine .sr ?_
   refine .m ?_
   refine .x .ln ?_
   refine .g ?_
   refine .done (.r ?_)
   refine .m ?_
   refine .m ?_
   refine .m ?_
   refine .x .cv ?_
   refine .c rfl rfl rfl rfl (fun H hs => .f ca149 rfl (hlen H)) ?_
   refine .c rfl rfl rfl rfl (fun H hs => .f ca148 rfl (pdq_one M H sv 0 cap 0 (by omega))) ?_
   refine .done ?_
   refine Tc.overN (E := en) hK Tryz.func92 Tryz.results92 (vs := []) (by exact trivial) ?_
   exact fun H' hs => ⟨hs.base, rfl⟩
 · have hlen : ∀ H, CallT M 149 #[.int .u64 1] H (fun v H' => H.le H' ∧ v = .int .i64 1) := fun H => by
     refine CallT.enter (vs := [.int .u64 1]) Tryz.func149 rfl Tryz.ntmps149 (Nat.le_of_ble_eq_true rfl) (SymSt.nil _) fun St c cs hK => ?_
     refine .sr ?_
     refine .g ?_
     refine .done (.seq (.ff rfl (.skip (.sr ?_))))
     refine .m ?_
     refine .c rfl rfl rfl rfl (fun H hs => .f ca186 rfl (Len64_1 M H)) ?_
     refine .g ?_
     refine .done ?_
     refine .rt hK Tryz.func149 Tryz.results149 [_] ?_
     exact fun H' hs => ⟨hs.base, rfl⟩
   refine CallT.enter (vs := [.slice sv 1 cap]) Tryz.func92 rfl Tryz.ntmps92 (Nat.le_of_ble_eq_true rfl) (SymSt.nil _) fun St c cs hK => ?_
   refine .sr ?_
   refine .m ?_
   refine .x .ln ?_
   refine .g ?_
   refine .done (.r ?_)
   refine .m ?_
   refine .m ?_
   refine .m ?_
   refine .x .cv ?_
   refine .c rfl rfl rfl rfl (fun H hs => .f ca149 rfl (hlen H)) ?_
   refine .c rfl rfl rfl rfl (fun H hs => .f ca148 rfl (pdq_one M H sv 1 cap 1 (by omega))) ?_
   refine .done ?_
   refine Tc.overN (E := en) hK Tryz.func92 Tryz.results92 (vs := []) (by exact trivial) ?_
   exact fun H' hs => ⟨hs.base, rfl⟩
end
end Go.Proofs.YtpdaenfglbgfkaaGreatDoor
end
section
namespace Go.Proofs.YtpdaenfglbgfkaaGreatDoor
open Go.RL
set_option maxRecDepth 10000
set_option maxHeartbeats 4000000
theorem readN_iff : ∀ v : Nat, v < 128 → ∀ n : Nat, n < 32 → (readN v = some n ↔ v = 64 + 2 * n) := by decide +kernel
theorem readN_lt {v n : Nat} (h : readN v = some n) : n < 32 := by
 unfold readN at h
 split at h
 · cases h
   omega
 · cases h
theorem born_unique : ∀ {l : List MapEntry}, (l.map (·.born)).Nodup → ∀ a ∈ l, ∀ b ∈ l, a.born = b.born → a = b
 | [], _, a, ha, _, _, _ => by cases ha
 | x :: l, h, a, ha, b, hb, e => by
   rw [List.map_cons, List.nodup_cons] at h
   rcases List.mem_cons.1 ha with h1 | h1
   · rcases List.mem_cons.1 hb with h2 | h2
     · rw [h1, h2]
     · subst h1
       exact (h.1 (e ▸ List.mem_map_of_mem h2)).elim
   · rcases List.mem_cons.1 hb with h2 | h2
     · subst h2
       exact (h.1 (e ▸ List.mem_map_of_mem h1)).elim
     · exact born_unique h.2 a h1 b h2 e
def keyN (v : Value) : Nat := match v with
 | .int _ i => i.toNat
 | _ => 0
def codeE (e : MapEntry) : Option Value := (readN (keyN e.key)).map fun n => .int .i64 (n : Nat)
def badE (e : MapEntry) : Bool := (readN (keyN e.key)).isNone
def Lk.canRead (k : Lk) (c n : Nat) : Bool := k.sees c (64 + 2 * n)
def Lk.bad (k : Lk) (c : Nat) : Bool := (List.range 128).any fun v => k.sees c v && (readN v).isNone
theorem codes_perm {k : Lk} {c : Nat} {es : Array MapEntry} {cl : Nat} (h : MapOk es cl (vF (k.sees c))) : (es.toList.filterMap codeE).Perm (keepTo (k.canRead c) 32) := by
 have hkey : ∀ e ∈ es.toList, ∃ u : Nat, u < 128 ∧ e.key = .int .u8 (u : Nat) ∧ k.sees c u = true := fun e he => by
   obtain ⟨_, u, h1, h2, h3⟩ := (h.mem e.key e.val).2 ⟨e, he, rfl, rfl⟩
   exact ⟨u, h1, h2, h3⟩
 have nd1 : (es.toList.filterMap codeE).Nodup := by
   have hk := h.keys
   rw [List.nodup_iff_pairwise_ne, List.pairwise_map] at hk
   rw [List.nodup_iff_pairwise_ne]
   rw [List.pairwise_filterMap]
   refine List.Pairwise.imp_of_mem ?_ hk
   intro a b ha hb hab x hx y hy e
   subst e
   obtain ⟨u, u1, u2, _⟩ := hkey a ha
   obtain ⟨w, w1, w2, _⟩ := hkey b hb
   unfold codeE keyN at hx hy
   rw [u2] at hx
   rw [w2] at hy
   simp only [Int.toNat_natCast] at hx hy
   cases hu : readN u with
   | none => rw [hu] at hx; cases hx
   | some n =>
     cases hw : readN w with
     | none => rw [hw] at hy; cases hy
     | some m =>
       rw [hu] at hx
       rw [hw] at hy
       simp only [Option.map_some, Option.some.injEq] at hx hy
       rw [← hx] at hy
       simp only [Value.int.injEq, true_and, Int.natCast_inj] at hy
       subst hy
       have hm := readN_lt hu
       have e1 := (readN_iff u u1 m hm).1 hu
       have e2 := (readN_iff w w1 m hm).1 hw
       exact hab (by rw [u2, w2, e1, e2])
 have nd2 : (keepTo (k.canRead c) 32).Nodup := by
   unfold keepTo
   rw [List.nodup_iff_pairwise_ne, List.pairwise_map]
   refine List.Pairwise.imp ?_ (List.Pairwise.filter _ (List.nodup_iff_pairwise_ne.1 List.nodup_range))
   intro a b hab e
   simp only [Value.int.injEq, true_and, Int.natCast_inj] at e
   exact hab e
 refine (List.perm_ext_iff_of_nodup nd1 nd2).2 fun v => ?_
 unfold keepTo
 simp only [List.mem_filterMap, List.mem_map, List.mem_filter, List.mem_range]
 constructor
 · rintro ⟨e, he, h1⟩
   obtain ⟨u, u1, u2, u3⟩ := hkey e he
   unfold codeE keyN at h1
   rw [u2] at h1
   simp only [Int.toNat_natCast] at h1
   cases hu : readN u with
   | none => rw [hu] at h1; cases h1
   | some n =>
     rw [hu] at h1
     simp only [Option.map_some, Option.some.injEq] at h1
     have hn := readN_lt hu
     have e1 := (readN_iff u u1 n hn).1 hu
     exact ⟨n, ⟨hn, by unfold Lk.canRead; rw [← e1]; exact u3⟩, h1⟩
 · rintro ⟨n, ⟨h1, h2⟩, rfl⟩
   obtain ⟨e, he, h3, _⟩ := (h.mem (.int .u8 ((64 + 2 * n : Nat) : Int)) (.bool true)).1 ⟨rfl, 64 + 2 * n, by omega, rfl, h2⟩
   refine ⟨e, he, ?_⟩
   unfold codeE keyN
   rw [h3]
   simp only [Int.toNat_natCast]
   rw [(readN_iff (64 + 2 * n) (by omega) n h1).2 rfl]
   rfl
theorem bad_any {k : Lk} {c : Nat} {es : Array MapEntry} {cl : Nat} (h : MapOk es cl (vF (k.sees c))) : es.toList.any badE = k.bad c := by
 unfold Lk.bad
 rw [Bool.eq_iff_iff, List.any_eq_true, List.any_eq_true]
 constructor
 · rintro ⟨e, he, h1⟩
   obtain ⟨_, u, u1, u2, u3⟩ := (h.mem e.key e.val).2 ⟨e, he, rfl, rfl⟩
   refine ⟨u, List.mem_range.2 u1, ?_⟩
   unfold badE keyN at h1
   rw [u2] at h1
   rw [u3]
   exact h1
 · rintro ⟨u, hu, h1⟩
   rw [Bool.and_eq_true] at h1
   obtain ⟨e, he, h3, _⟩ := (h.mem (.int .u8 (u : Nat)) (.bool true)).1 ⟨rfl, u, List.mem_range.1 hu, rfl, h1.1⟩
   refine ⟨e, he, ?_⟩
   unfold badE keyN
   rw [h3]
   exact h1.2
def Lk.refused (k : Lk) (c : Nat) : Int := if k.bad c then (if (keepTo (k.canRead c) 32).length = 0 then 1 else 0) else 2
def ReadsQ (l : List Value) (r : Int) (H : View) (v : Value) (H' : View) : Prop := H.le H' ∧ ∃ g : Gl 3 1, v = .tuple ⟨[g.val, .int .i64 r, .int .i64 0]⟩ ∧ g.l = l ∧ ∀ y ∈ g.bl, H' y.1 = some y.2 ∧ H y.1 = none
section
variable (M : Md Tryz.prog) (H : View)
theorem Reads_one (k : Lk) (code : Nat) (hG : Glob H) (hk : k.ok = true) (hc : code < 32) (h1 : (keepTo (k.canRead code) 32).length ≤ 1) : CallT M 21 #[k.val, .int .i64 code] H (ReadsQ (keepTo (k.canRead code) 32) (k.refused code) H) := by
 refine CallT.enter (vs := [k.val, .int .i64 code]) Tryz.func21 rfl Tryz.ntmps21 (Nat.le_of_ble_eq_true rfl) (SymSt.nil _) fun St c cs hK => ?_
 refine .sr ?_
 refine .e (.bx (zz := fun b2 => ?_))
 refine .g ?_
 refine .g ?_
 refine .g ?_
 refine .done (.sr ?_)
 refine .x (.ld 0) ?_
 refine .m ?_
 refine .e (Or.callNew (fun x => .tuple ⟨[k.val, letN code x, .int .i64 0]⟩) (letB code) (fun _ => True) rfl rfl rfl rfl rfl (by decide) (letB_nodup code) (fun H hs => .f ca89 rfl (open_n M H k code (glob_le hG hs.base) hk hc)) (fun x hx => ?_))
 refine .m ?_
 refine .x .et ?_
 refine .x .et ?_
 refine .x .et ?_
 refine .e (.al (zz := fun b7 => ?_))
 refine .e (.al (zz := fun b8 => ?_))
 refine .e (.st 1 (zz := ?_))
 refine .e (.st 0 (zz := ?_))
 refine .g ?_
 refine .done (.seq (.sr ?_))
 refine .m ?_
 refine .i ?_ (z := neq_f (by omega))
 refine .done (.ff rfl (.skip (.sr ?_)))
 refine .g ?_
 refine .done (.seq (.sr ?_))
 refine .x (.ld 1) ?_
 refine .x (.ld 0) ?_
 refine .e (Or.callNew (fun y : Nat × Array MapEntry × Nat => .map (some y.1)) (fun y => [(y.1, true, .map y.2.1 y.2.2)]) (fun y => MapOk y.2.1 y.2.2 (vF (k.sees code))) rfl rfl rfl rfl rfl (by decide) (fun _ => by simp) (fun H hs => .f ca90 rfl (CallT.mono (all90_c M H k (Lk.fine hk) code x.1 x.2.1 hc (edg_of fun y hy => hs.at_ y (by simp [hy]))) (by rintro v H' ⟨h1, m, es, cl, h2, h3, h4, h5⟩; exact ⟨h1, (m, es, cl), h2, h5, by simp [h3, h4]⟩))) (fun y hm => ?_))
 obtain ⟨m, es, cl⟩ := y
 simp only at hm
 have hperm := codes_perm hm
 have hbad := bad_any hm
 refine .e (Or.range (E := en) (es := es) (cl := cl) rfl rfl (fun H hs => ⟨true, hs.at_ (m, true, .map es cl) (by simp)⟩) rfl rfl rfl (by decide) (fun it => ?_))
 refine .done ?_
 refine Tc.lift (L₂ := [(it, true, .mapIter (some m) cl #[] cl)]) rfl (fun Hm hsm => ?_)
 have hmap : Hm m = some (true, .map es cl) := hsm.at_ (m, true, .map es cl) (by simp)
 have hfr : ∀ b x, Hm b = none → H b = some x → False := fun b x h2 h3 => by rw [hsm.base _ _ h3] at h2; cases h2
 refine .block ?_
 refine Tc.db (Tc.loopInv (σ := { s : Array Nat × Gl 3 1 × Bool // (s.2.1.l ++ (unseen es s.1).filterMap codeE).Perm (keepTo (k.canRead code) 32) ∧ (s.2.2 || (unseen es s.1).any badE) = k.bad code })
   (fun s => ([(26, .pointer (some ⟨it, 0, none⟩)), (4, s.1.2.1.val), (9, .bool s.1.2.2)], [(it, true, .mapIter (some m) cl s.1.1 cl)] ++ s.1.2.1.bl)) (fun s => (unseen es s.1.1).length) ?_ ⟨(#[], Gl.nil 3 1, false), by rw [unseen_start]; exact hperm, by rw [unseen_start, hbad]; rfl⟩)
 rintro ⟨⟨seen, g, bd⟩, g1, g2⟩ ih
 simp only at g1 g2
 have hgl := g1.length_eq
 rw [List.length_append] at hgl
 have hgn := g.hl
 rw [Nat.mul_one] at hgn
 show Tc M St _ _ _ _ [(26, .pointer (some ⟨it, 0, none⟩)), (4, g.val), (9, .bool bd)] ([(it, true, .mapIter (some m) cl seen cl)] ++ g.bl) _ _
 refine .sr ?_
 refine .e (Or.next (es := es) 0 rfl rfl rfl (fun H hs => ⟨true, hs.base _ _ hmap⟩) hm.lt rfl (by decide) (fun e he hse => ?_) (fun hall => ?_))
 · have hp := unseen_next hm.borns he hse
   obtain ⟨_, u, u1, u2, u3⟩ := (hm.mem e.key e.val).2 ⟨e, he, rfl, rfl⟩
   have hfind : es.find? (fun x => x.born == e.born) = some e := by
     rw [← Array.find?_toList]
     cases hf : es.toList.find? (fun x => x.born == e.born) with
     | none => have := List.find?_eq_none.1 hf e he; simp at this
     | some e' =>
       have h3 := List.mem_of_find?_eq_some hf
       have h4 := List.find?_some hf
       simp only [beq_iff_eq] at h4
       rw [born_unique hm.borns e' h3 e he h4]
   refine .x .et ?_
   refine .done (.seq (.tt rfl (.skip (.block (.sr ?_)))))
   refine .e (Or.entry (es := es) (e := e) (st := e.born) rfl rfl (fun H hs => ⟨true, hs.get (i := 0) rfl⟩) (fun H hs => ⟨true, hs.base _ _ hmap⟩) (by simp) hfind rfl (by decide) ?_)
   rw [u2]
   refine .x .et ?_
   refine .g ?_
   refine .done (.seq ?_)
   have hc1 := hp.filterMap codeE
   have hb1 := hp.any_eq (f := badE)
   have hbE : badE e = (readN u).isNone := by unfold badE keyN; rw [u2]; rfl
   have hcE : codeE e = (readN u).map fun n => .int .i64 (n : Nat) := by unfold codeE keyN; rw [u2]; rfl
   cases hu : readN u with
   | none =>
     rw [hu] at hbE hcE
     refine .r ?_
     refine .m ?_
     refine .c rfl rfl rfl rfl (fun H hs => .f ca91 rfl (CallT.is (.tuple ⟨[.int .i64 0, .bool false]⟩) (by rewrite [hu]; rfl) (read_c M H u u1))) ?_
     refine .m ?_
     refine .x .et ?_
     refine .x .et ?_
     refine .g ?_
     refine .g ?_
     refine .done (.sr ?_)
     refine .m ?_
     refine .done (.ff rfl (.r ?_))
     refine .g ?_
     refine .done (.inBlock ?_)
     exact Tc.db (ih ⟨(seen.push e.born, g, true), by simp only; rw [List.filterMap_cons_none hcE] at hc1; exact (List.Perm.append_left _ hc1.symm).trans g1, by simp only; rw [← g2, hb1, List.any_cons, hbE]; simp⟩ (by simp only; rw [hp.length_eq]; simp))
   | some n =>
     rw [hu] at hbE hcE
     have hn := readN_lt hu
     have hroom : g.n + 1 ≤ 1 := by
       rw [← hgn]
       have h5 := hc1.length_eq
       rw [List.filterMap_cons_some hcE, List.length_cons] at h5
       omega
     refine .r ?_
     refine .m ?_
     refine .c rfl rfl rfl rfl (fun H hs => .f ca91 rfl (CallT.is (.tuple ⟨[.int .i64 (n : Nat), .bool true]⟩) (by rewrite [hu]; rfl) (read_c M H u u1))) ?_
     refine .m ?_
     refine .x .et ?_
     refine .x .et ?_
     refine .g ?_
     refine .g ?_
     refine .done (.sr ?_)
     refine .m ?_
     refine .done (.tt rfl (.r ?_))
     refine .m ?_
     refine .m ?_
     refine .e (.bs (zz := fun bs => ?_))
     refine .e (Or.append (E := en) 2 rfl rfl rfl rfl rfl rfl rfl rfl rfl rfl rfl rfl rfl rfl rfl (fun H hs => SrcAt.of (hs.get (i := 0) rfl) (Nat.le_of_ble_eq_true rfl)) rfl (by omega) rfl (by decide) (fun g' hn' hl => ?_))
     refine .g ?_
     refine .done (.inBlock ?_)
     exact Tc.db (ih ⟨(seen.push e.born, g', bd), by simp only; rw [hl, List.append_assoc]; rw [List.filterMap_cons_some hcE] at hc1; exact (List.Perm.append_left _ hc1.symm).trans g1, by simp only; rw [← g2, hb1, List.any_cons, hbE]; simp⟩ (by simp only; rw [hp.length_eq]; simp))
 · have hun := unseen_done hall
   rw [hun] at g1 g2
   simp only [List.filterMap_nil, List.append_nil, List.any_nil, Bool.or_false] at g1 g2
   have hle1 : g.n ≤ 1 := by have := g1.length_eq; omega
   have hgl2 : g.l = keepTo (k.canRead code) 32 := by
     have h3 := g1.length_eq
     match hx : g.l, hy : keepTo (k.canRead code) 32 with
     | [], [] => rfl
     | [a], [b] => rw [hx, hy] at g1; exact List.perm_singleton.1 g1.symm ▸ rfl
     | [], _ :: _ => rw [hx, hy] at h3; simp at h3
     | _ :: _, [] => rw [hx, hy] at h3; simp at h3
     | _ :: _ :: _, _ => rw [hx] at hgn; simp at hgn; omega
     | _, _ :: _ :: _ => rw [hy] at h1; simp at h1
   subst g2
   refine .x .et ?_
   refine .done (.seq (.ff rfl (.exit rfl (.sr ?_))))
   refine .m ?_
   refine .c rfl rfl rfl rfl (fun H hs => .f ca92 rfl (Sort_one M H _ g.n g.cap hle1)) ?_
   refine .done (.seq (.block (.seq ?_)))
   cases hbd : k.bad code with
   | false =>
     have hr : k.refused code = 2 := by unfold Lk.refused; rw [hbd]; rfl
     refine .r ?_
     refine .m ?_
     refine .x .nt ?_
     refine .g ?_
     refine .done (.tt rfl (.sr ?_))
     refine .m ?_
     refine .g ?_
     refine .g ?_
     refine .g ?_
     refine .done ?_
     refine .rt hK Tryz.func21 Tryz.results21 [_, _, _] ?_
     exact fun H' hs => ⟨View.le_trans hsm.base hs.base, g, by rw [hr]; rfl, hgl2, fun y hy => ⟨hs.at_ y (by simp [hy]), by cases h : H y.1 with | none => rfl | some x => exact (hfr _ x (hs.out y (by simp [hy])) h).elim⟩⟩
   | true =>
     refine .r ?_
     refine .m ?_
     refine .x .nt ?_
     refine .g ?_
     refine .done (.ff rfl (.seq ?_))
     by_cases h0 : g.n = 0
     · have hr : k.refused code = 1 := by unfold Lk.refused; rw [hbd, ← hgl2, hgn, h0]; rfl
       refine .r ?_
       refine .m ?_
       refine .x .ln ?_
       refine .i ?_ (z := eql_t (by omega))
       refine .g ?_
       refine .done (.tt rfl (.sr ?_))
       refine .g ?_
       refine .g ?_
       refine .g ?_
       refine .done ?_
       refine .rt hK Tryz.func21 Tryz.results21 [_, _, _] ?_
       exact fun H' hs => ⟨View.le_trans hsm.base hs.base, Gl.nil 3 1, by rw [hr]; rfl, by rw [← hgl2]; exact (List.eq_nil_of_length_eq_zero (by omega)).symm, by simp [Gl.nil, Gl.bl]⟩
     · have hr : k.refused code = 0 := by unfold Lk.refused; rw [hbd, ← hgl2, hgn, if_pos rfl, if_neg h0]
       refine .r ?_
       refine .m ?_
       refine .x .ln ?_
       refine .i ?_ (z := eql_f (by omega))
       refine .g ?_
       refine .done (.ff rfl (.skip (.inBlock (.sr ?_))))
       refine .m ?_
       refine .g ?_
       refine .g ?_
       refine .g ?_
       refine .done ?_
       refine .rt hK Tryz.func21 Tryz.results21 [_, _, _] ?_
       exact fun H' hs => ⟨View.le_trans hsm.base hs.base, g, by rw [hr]; rfl, hgl2, fun y hy => ⟨hs.at_ y (by simp [hy]), by cases h : H y.1 with | none => rfl | some x => exact (hfr _ x (hs.out y (by simp [hy])) h).elim⟩⟩
end
end Go.Proofs.YtpdaenfglbgfkaaGreatDoor
end
section
namespace Go.Proofs.YtpdaenfglbgfkaaGreatDoor
open Go.RL
set_option maxRecDepth 10000
set_option maxHeartbeats 4000000
theorem letterOf_m (M : Md Tryz.prog) (H : View) (code : Nat) (h1 : code < 32) : CallT M 113 #[.int .i64 code] H (fun v H' => H.le H' ∧ ∃ x, v = letN code x ∧ (placesTo code 7).length ≤ x.2.1 ∧ ∀ y ∈ letB code x, H' y.1 = some y.2 ∧ H y.1 = none) :=
 CallT.mono (letterOf_c M H code h1) (by
   rintro v H' ⟨h2, g, rfl, h3, h4, h5⟩
   obtain ⟨b, hb⟩ := gl_some g (by rw [h3]; exact (places_in code h1).1)
   refine ⟨h2, (b, g.cap, g.junk), ?_, by rw [← h3]; exact g.hc, fun y hy => h5 y ?_⟩
   · unfold letN Gl.val
     rw [hb, h3]
     rfl
   · unfold Gl.bl
     rw [hb, h4]
     exact hy)
theorem open_m (M : Md Tryz.prog) (H : View) (k : Lk) (code : Nat) (hG : Glob H) (hk : k.ok = true) (hc : code < 32) : CallT M 89 #[k.val, .int .i64 code] H (fun v H' => H.le H' ∧ ∃ x : Nat × Nat × List Value, v = .tuple ⟨[k.val, letN code x, .int .i64 0]⟩ ∧ (placesTo code 7).length ≤ x.2.1 ∧ ∀ y ∈ letB code x, H' y.1 = some y.2 ∧ H y.1 = none) :=
 CallT.mono (open_yes M H k code hG hk hc) (by
   rintro v H' ⟨h2, g, rfl, ⟨h3, h4⟩, h5⟩
   obtain ⟨b, hb⟩ := gl_some g (by rw [h3]; exact (places_in code hc).1)
   refine ⟨h2, (b, g.cap, g.junk), ?_, by rw [← h3]; exact g.hc, fun y hy => h5 y ?_⟩
   · unfold letterV letN Gl.val
     rw [hb, h3]
     rfl
   · unfold Gl.bl
     rw [hb, h4]
     exact hy)
theorem eg135 : Tryz.prog.eqGuardType Tryz.prog.depth 135 = false := by kernel_rfl
theorem ints_flat (l : List Int) (h : l.length = 6) : flat en 2 135 (intsL l) := by
 refine ⟨_, rfl, by rw [intsL_len, h]; rfl, fun i hi => ⟨l[i]?.getD 0, ?_⟩⟩
 have h3 : i < l.length := by rw [h]; exact hi
 unfold chunk
 show ((intsL l).drop (i * 1)).take 1 = _
 rw [Nat.mul_one]
 unfold intsL
 have h4 : i < (l.map fun x => Value.int .i64 x).length := by rw [List.length_map]; exact h3
 rw [List.drop_eq_getElem_cons h4, List.getElem_map, List.getElem?_eq_getElem h3]
 rfl
def gMove (ps : List Nat) (send lean n : Int) (af : List Int) (i : Nat) : Int := stillF (ps[0]?.getD 0 : Nat) 0 send lean + n + af[i + 1]?.getD 0 - stillF (ps[i + 1]?.getD 0 : Nat) (i + 1 : Nat) send lean
def gMoves (ps : List Nat) (send lean n : Int) (af : List Int) (d : Nat) : List Int := n :: (List.range d).map (gMove ps send lean n af)
def Lk.inMove (k : Lk) (x : Int) : Bool := decide (k.m0 ≤ x ∧ x ≤ k.m1)
def Lk.gives₂ (k : Lk) (ps : List Nat) (send lean n : Int) (af : List Int) : Bool :=
 ((List.range (ps.length - 1)).all fun i => k.inMove (gMove ps send lean n af i)) && (afterTo (seenTo ps (gMoves ps send lean n af (ps.length - 1)) send lean ps.length) ps.length == af)
def Lk.gives₁ (k : Lk) (ps : List Nat) (send lean : Int) (af : List Int) (l : List Int) : Bool := l.any fun n => k.gives₂ ps send lean n af
def Lk.gives (k : Lk) (ps : List Nat) (send : Int) (af : List Int) : Bool := (upTo k.l0 k.l1).any fun lean => k.gives₁ ps send lean af (upTo k.m0 k.m1)
theorem intsL_ld {l : List Int} {i : Nat} (h : i < l.length) : ldL false 1 (intsL l) (0 + i * 1) = some (.int .i64 (l[i]?.getD 0)) := by
 show (intsL l)[0 + i * 1]? = _
 rw [Nat.zero_add, Nat.mul_one]
 unfold intsL
 rw [List.getElem?_map, List.getElem?_eq_getElem h]
 rfl
theorem gMoves_succ (ps : List Nat) (send lean n : Int) (af : List Int) (d : Nat) : gMoves ps send lean n af (d + 1) = gMoves ps send lean n af d ++ [gMove ps send lean n af d] := by
 unfold gMoves
 rw [List.range_succ, List.map_append]
 rfl
theorem gMoves_len (ps : List Nat) (send lean n : Int) (af : List Int) (d : Nat) : (gMoves ps send lean n af d).length = d + 1 := by simp [gMoves]
theorem gMoves_in {k : Lk} {ps : List Nat} {send lean n : Int} {af : List Int} {d : Nat} (hm : -1000 ≤ k.m0 ∧ k.m1 ≤ 1000) (hn : k.m0 ≤ n ∧ n ≤ k.m1) (h : ∀ i, i < d → k.inMove (gMove ps send lean n af i) = true) (i : Nat) : -1000 ≤ (gMoves ps send lean n af d)[i]?.getD 0 ∧ (gMoves ps send lean n af d)[i]?.getD 0 ≤ 1000 := by
 by_cases e : i < (gMoves ps send lean n af d).length
 · rw [List.getElem?_eq_getElem e]
   have hmem := List.getElem_mem e
   simp only [Option.getD_some]
   generalize (gMoves ps send lean n af d)[i] = z at hmem
   unfold gMoves at hmem
   rcases List.mem_cons.1 hmem with rfl | hmem
   · omega
   · obtain ⟨j, hj, rfl⟩ := List.mem_map.1 hmem
     have := h j (List.mem_range.1 hj)
     unfold Lk.inMove at this
     rw [decide_eq_true_iff] at this
     omega
 · rw [List.getElem?_eq_none (by omega)]
   simp
theorem intsL_inj : ∀ {l m : List Int}, intsL l = intsL m → l = m
 | [], [], _ => rfl
 | [], _ :: _, h => by cases h
 | _ :: _, [], h => by cases h
 | a :: l, b :: m, h => by
   have h1 : Value.int .i64 a :: intsL l = Value.int .i64 b :: intsL m := h
   injection h1 with h2 h3
   injection h2 with _ h4
   rw [h4, intsL_inj h3]
section
variable (M : Md Tryz.prog) (H : View)
def gL (code eb ec : Nat) (k : Lk) (send : Int) (af : List Int) (found : Bool) (b4 b5 b6 b7 b8 b9 : Nat) : Bl :=
 [(b9, true, .cells ⟨[.int .i64 k.m0, .int .i64 k.m1]⟩ 180 (0, 0)), (b8, true, .cells ⟨[.bool found]⟩ 4 (0, 0)), (b7, true, .cells ⟨intsL af⟩ 135 (0, 0)), (b6, true, .cells ⟨[.int .i64 send]⟩ 3 (0, 0)), (b5, true, .cells ⟨[.int .i64 code, .slice (some ⟨eb, 0, none⟩) (placesTo code 7).length ec]⟩ 112 (0, 0)),
   (b4, true, .cells ⟨k.val.cells.toList⟩ 109 (0, 0))]
theorem gives_c (k : Lk) (hk : k.Fine) (code eb ec : Nat) (send : Int) (af : List Int) (hc : code < 32) (hE : Edg H (placesTo code 7) eb) (hec : (placesTo code 7).length ≤ ec) (h2 : 2 ≤ (placesTo code 7).length) (h6 : af.length = 6) (hb : ∀ x ∈ af, -100000 ≤ x ∧ x ≤ 100000) (hs0 : 0 ≤ send ∧ send ≤ 1000) :
   CallT M 157 #[k.val, .agg ⟨[.int .i64 code, .slice (some ⟨eb, 0, none⟩) (placesTo code 7).length ec]⟩, .int .i64 send, timesV af] H (fun v H' => H.le H' ∧ v = .bool (k.gives (placesTo code 7) send af)) := by
 obtain ⟨hp0, hp6, hpl⟩ := places_in code hc
 have hbd := hk.bounds
 simp only [List.mem_cons, List.not_mem_nil, or_false, forall_eq_or_imp, forall_eq] at hbd
 obtain ⟨k1, k2, k3, k4, k5, k6, k7, k8⟩ := hbd
 have hkl := hk.l
 have hkm := hk.m
 refine CallT.enter (vs := [k.val, .agg ⟨[.int .i64 code, .slice (some ⟨eb, 0, none⟩) (placesTo code 7).length ec]⟩, .int .i64 send, timesV af]) Tryz.func157 rfl Tryz.ntmps157 (Nat.le_of_ble_eq_true rfl) (SymSt.nil _) fun St c cs hK => ?_
 refine .sr ?_
 refine .e (.bx (zz := fun b4 => ?_))
 refine .e (.bx (zz := fun b5 => ?_))
 refine .e (.bx (zz := fun b6 => ?_))
 refine .e (.bx (zz := fun b7 => ?_))
 refine .e (.al (zz := fun b8 => ?_))
 refine .done (.sr ?_)
 refine .x .fa ?_
 refine .x .fa ?_
 refine .x .fa ?_
 refine .x (.ld 4) ?_
 refine .c rfl rfl rfl rfl (fun H hs => .f ca155 rfl (bandOf_c M H k.m0 k.m1)) ?_
 refine .e (.al (zz := fun b9 => ?_))
 refine .e (.st 0 (zz := ?_))
 refine .done (.seq (.sr ?_))
 refine .x .fa ?_
 refine .x .fa ?_
 refine .x .fa ?_
 refine .x (.ld 5) ?_
 refine .c rfl rfl rfl rfl (fun H hs => .f ca155 rfl (bandOf_c M H k.l0 k.l1)) ?_
 refine .x .mf ?_
 refine .done (.block ?_)
 have itL := fun H (_ : (fun _ : View => True) H) => all_it M H k.l0 k.l1 (by omega) (by omega)
 have itM := fun H (_ : (fun _ : View => True) H) => all_it M H k.m0 k.m1 (by omega) (by omega)
 refine Tc.db (R' := [(27, .func (.func 156) #[bandV k.l0 k.l1] #[]), (5, .pointer (some ⟨b5, 0, none⟩)), (6, .pointer (some ⟨b6, 0, none⟩)), (7, .pointer (some ⟨b7, 0, none⟩)), (8, .pointer (some ⟨b8, 0, none⟩)), (9, .pointer (some ⟨b9, 0, none⟩))]) (L' := gL code eb ec k send af false b4 b5 b6 b7 b8 b9) ?_
 refine Tc.rangeL (A := []) (xs := upTo k.l0 k.l1) (ts := [28]) (fun rest H₁ L₁ => L₁ = gL code eb ec k send af false b4 b5 b6 b7 b8 b9 ∧ H.le H₁ ∧ (rest.any fun lean => k.gives₁ (placesTo code 7) send lean af (upTo k.m0 k.m1)) = k.gives (placesTo code 7) send af)
   (fun j H₁ L₁ => j = .ret ∧ H.le H₁ ∧ k.gives (placesTo code 7) send af = true ∧ L₁ = gL code eb ec k send af true b4 b5 b6 b7 b8 b9) rfl rfl rfl rfl itL (fun _ _ _ h => h) (fun _ _ _ _ => trivial) rfl (fun _ _ => rfl) ⟨rfl, View.le_refl _, rfl⟩ ?_ ?_ ?_
 · rintro r lean rest e l tmps asg bdy H₁ _ hl ⟨rfl, hle1, hany⟩ Q1 St1 cc1 cs1 hK1 q1 q1'
   have hl' := mem_upTo.1 hl
   unfold gL
   refine .r ?_
   refine .e (.al (zz := fun b10 => ?_))
   refine .e (.st 0 (zz := ?_))
   refine .done ?_
   refine Tc.beginRound (i := 1) rfl rfl rfl ?_
   refine .block ?_
   refine Tc.scope ?_
   refine .seq ?_
   refine Tc.label ?_
   refine .sr ?_
   refine .x (.ld 3) ?_
   refine .x .mf ?_
   refine .done (.block ?_)
   refine Tc.rangeLIn (A := []) (i := 1) (xs := upTo k.m0 k.m1) (ts := [31]) (fun rest2 H₂ L₂ => L₂ = (b10, true, .cells ⟨[.int .i64 lean]⟩ 3 (0, 0)) :: (l, true, .loop { Loop.fresh 157 tmps [28].toArray asg bdy r with state := .busy }) :: (r, true, .deferred (some [])) :: gL code eb ec k send af false b4 b5 b6 b7 b8 b9 ∧ H.le H₂ ∧ k.gives₁ (placesTo code 7) send lean af rest2 = k.gives₁ (placesTo code 7) send lean af (upTo k.m0 k.m1))
     (fun j H₂ L₂ => j = .ret ∧ H.le H₂ ∧ k.gives (placesTo code 7) send af = true ∧ L₂ = (b10, true, .cells ⟨[.int .i64 lean]⟩ 3 (0, 0)) :: (l, true, .loop { Loop.fresh 157 tmps [28].toArray asg bdy r with state := .busy }) :: (r, true, .deferred (some [])) :: gL code eb ec k send af true b4 b5 b6 b7 b8 b9)
     rfl rfl rfl rfl rfl itM (fun _ _ _ h => h) (fun _ _ _ _ => trivial) rfl (fun _ _ => rfl) ⟨rfl, hle1, rfl⟩ ?_ ?_ ?_
   · rintro n rest2 e2 l2 tmps2 asg2 bdy2 H₂ _ hn ⟨rfl, hle2, hany2⟩ Q2 St2 cc2 cs2 hK2 q2 q2'
     have hn' := mem_upTo.1 hn
     unfold gL
     refine .r ?_
     refine .g ?_
     refine .done ?_
     refine Tc.beginRound (i := 0) rfl rfl rfl ?_
     refine .block (.sr ?_)
     refine .x (.ld 7) ?_
     refine .x (.ld 1) ?_
     refine .m ?_
     refine .e (.bs (zz := fun bs => ?_))
     refine .x .bu ?_
     refine .e (.al (zz := fun b12 => ?_))
     refine .e (.st 0 (zz := ?_))
     refine .done ?_
     refine Tc.lift (L₂ := [_, _]) rfl (fun Hx hx => ?_)
     have x10 := hx.get (i := 1) rfl
     have x9 := hx.get (i := 4) rfl
     have x8 := hx.get (i := 5) rfl
     have x7 := hx.get (i := 6) rfl
     have x6 := hx.get (i := 7) rfl
     have x5 := hx.get (i := 8) rfl
     obtain ⟨fe, es, et, ez, hE1, hE2⟩ := hE.le (View.le_trans hle2 hx.base)
     have f0 : ldL true 2 es (0 + (0 : Int).toNat * 2) = some (edgeV ((placesTo code 7)[0]?.getD 0) 0) := hE2 0 hp0
     have b0 := hpl 0 hp0
     have st0 := still_in (place := ((placesTo code 7)[0]?.getD 0 : Nat)) (number := ((0 : Nat) : Int)) (send := send) (lean := lean) (by omega) (by omega) hs0.1 hs0.2 (by omega) (by omega)
     have st0' := still_in (place := ((placesTo code 7)[0]?.getD 0 : Nat)) (number := 0) (send := send) (lean := lean) (by omega) (by omega) hs0.1 hs0.2 (by omega) (by omega)
     have f7 : ldL true 6 (intsL af) 0 = some (.agg ⟨intsL af⟩) := by
       unfold ldL
       have e1 : Nat.ble (0 + 6) (intsL af).length = true := by rw [intsL_len, h6]; rfl
       simp only [e1]
       rw [List.drop_zero, List.take_of_length_le (by rw [intsL_len, h6]; exact Nat.le_refl _)]
     refine .seq ?_
     refine Tc.dr [] [] mixed rfl ?_
     refine .q 0 rfl .fa ?_
     refine .q 1 rfl .l0 ?_
     refine .q 2 rfl .ia ?_
     refine .q 3 rfl .l0 ?_
     refine .q 4 rfl .l0 ?_
     refine .q 5 rfl .l0 ?_
     refine .z 6 rfl (OpV.takeCall rfl rfl rfl rfl (fun H hs => .f ca172 rfl (still_c M H ((placesTo code 7)[0]?.getD 0 : Nat) ((0 : Nat) : Int) send lean (by omega) (by omega) (by omega) hs0.1 hs0.2 (by omega) (by omega)))) ?_
     refine .q 7 rfl .mv ?_
     refine .q 8 rfl (.it (zz := add_in (by omega) (by omega))) ?_
     refine .q 9 rfl .sg ?_
     refine Ta.done (by kernel_rfl) ?_
     refine .seq (.sr ?_)
     refine .x .fa ?_
     refine .x .l0 ?_
     refine .x (OpV.slice (E := en) (l := 1) (h := ((placesTo code 7).length : Nat)) (off' := 0 + 1 * 2) rfl rfl rfl rfl rfl rfl rfl rfl (by omega) (by omega) (by omega) (by rw [if_neg (by omega)]; rfl)) ?_
     refine .x .ln ?_
     refine .m ?_
     refine .done (.block ?_)
     refine Tc.dropB (Tc.loopInv (σ := { s : Nat × Gl 3 1 // s.1 ≤ (placesTo code 7).length - 1 ∧ s.2.l = intsL (gMoves (placesTo code 7) send lean n af s.1) ∧ ∀ i, i < s.1 → k.inMove (gMove (placesTo code 7) send lean n af i) = true })
       (fun s => ([(50, .int .i64 (s.1.1 : Nat)), (49, .int .i64 (((placesTo code 7).length - 1 : Nat) : Int)), (48, .slice (some ⟨eb, 0 + 1 * 2, none⟩) ((placesTo code 7).length - 1) (ec - 1)), (13, .int .i64 (stillF ((placesTo code 7)[0]?.getD 0 : Nat) 0 send lean + n)), (12, .pointer (some ⟨b12, 0, none⟩)), (10, .pointer (some ⟨b10, 0, none⟩)), (5, .pointer (some ⟨b5, 0, none⟩)), (6, .pointer (some ⟨b6, 0, none⟩)), (7, .pointer (some ⟨b7, 0, none⟩)), (8, .pointer (some ⟨b8, 0, none⟩)), (9, .pointer (some ⟨b9, 0, none⟩))], (b12, true, .cells ⟨[.int .i64 send, .int .i64 0, .int .i64 lean, s.1.2.val]⟩ 39 (0, 0)) :: s.1.2.bl)) (fun s => (placesTo code 7).length - 1 - s.1.1) ?_
       ⟨(0, ⟨some bs, 1, 1, [.int .i64 n], [], rfl, Nat.le_refl _, rfl, nofun⟩), by simp, rfl, nofun⟩) ⟨rfl, rfl, rfl, rfl, rfl, rfl, rfl, rfl, rfl, rfl, rfl, trivial⟩ (List.Sublist.refl _)
     rintro ⟨⟨j, g⟩, g1, g2, g3⟩ ih
     simp only at g1 g2 g3
     show Tc _ _ _ _ _ _ [(50, .int .i64 (j : Nat)), (49, .int .i64 (((placesTo code 7).length - 1 : Nat) : Int)), (48, .slice (some ⟨eb, 0 + 1 * 2, none⟩) ((placesTo code 7).length - 1) (ec - 1)), (13, .int .i64 (stillF ((placesTo code 7)[0]?.getD 0 : Nat) 0 send lean + n)), (12, .pointer (some ⟨b12, 0, none⟩)), (10, .pointer (some ⟨b10, 0, none⟩)), (5, .pointer (some ⟨b5, 0, none⟩)), (6, .pointer (some ⟨b6, 0, none⟩)), (7, .pointer (some ⟨b7, 0, none⟩)), (8, .pointer (some ⟨b8, 0, none⟩)), (9, .pointer (some ⟨b9, 0, none⟩))] ((b12, true, .cells ⟨[.int .i64 send, .int .i64 0, .int .i64 lean, g.val]⟩ 39 (0, 0)) :: g.bl) _ _
     by_cases c1 : j = (placesTo code 7).length - 1
     · have hgn : g.n = (placesTo code 7).length := by
         have h1 := g.hl
         rw [g2, intsL_len, gMoves_len] at h1
         omega
       obtain ⟨_ | vb, gn, gc, gll, gj, e1, e2, e3, e4⟩ := g
       · have := e4 rfl
         simp only at hgn
         omega
       simp only at hgn g2
       subst hgn
       subst g2
       have hmv := gMoves_in (ps := placesTo code 7) (send := send) (lean := lean) (n := n) (af := af) hkm hn' g3
       rw [c1] at hmv g3
       have hV2 : ∀ i : Nat, i < (placesTo code 7).length → ldL false 1 (intsL (gMoves (placesTo code 7) send lean n af ((placesTo code 7).length - 1)) ++ gj) (0 + i * 1) = some (.int .i64 ((gMoves (placesTo code 7) send lean n af ((placesTo code 7).length - 1))[i]?.getD 0)) := fun i hi => by
         have hi' : i < (gMoves (placesTo code 7) send lean n af ((placesTo code 7).length - 1)).length := by rw [gMoves_len]; omega
         have := intsL_ld hi'
         unfold ldL at this ⊢
         simp only at this ⊢
         rw [List.getElem?_append_left (by rw [intsL_len]; omega)]
         exact this
       have hsl := afterTo_len (seenTo (placesTo code 7) (gMoves (placesTo code 7) send lean n af ((placesTo code 7).length - 1)) send lean (placesTo code 7).length) (placesTo code 7).length
       rw [seenTo_len] at hsl
       have hsb : ∀ z ∈ seenTo (placesTo code 7) (gMoves (placesTo code 7) send lean n af ((placesTo code 7).length - 1)) send lean (placesTo code 7).length, -1000000000 ≤ z ∧ z ≤ 1000000000 := by
         intro z hz
         unfold seenTo at hz
         obtain ⟨i, hi, rfl⟩ := List.mem_map.1 hz
         split
         · rename_i hi2
           unfold seenAt
           have h1 := hmv i
           have h2 := hpl i hi2
           have h3 := still_in (place := ((placesTo code 7)[i]?.getD 0 : Nat)) (number := (i : Nat)) (send := send) (lean := lean) (by omega) (by omega) hs0.1 hs0.2 (by omega) (by omega)
           omega
         · omega
       subst c1
       have hall : ((List.range ((placesTo code 7).length - 1)).all fun i => k.inMove (gMove (placesTo code 7) send lean n af i)) = true := by
         rw [List.all_eq_true]
         intro i hi
         exact g3 i (List.mem_range.1 hi)
       by_cases hq : afterTo (seenTo (placesTo code 7) (gMoves (placesTo code 7) send lean n af ((placesTo code 7).length - 1)) send lean (placesTo code 7).length) (placesTo code 7).length = af
       · have hg2 : k.gives₂ (placesTo code 7) send lean n af = true := by
           unfold Lk.gives₂
           rw [hall, hq]
           simp
         have htot : k.gives (placesTo code 7) send af = true := by
           rw [← hany, List.any_cons, ← hany2]
           unfold Lk.gives₁
           rw [List.any_cons, hg2]
           rfl
         refine .sr ?_
         refine .i ?_ (z := lss_f (by omega))
         refine .done (.seq (.ff rfl (.exit rfl (.seq ?_))))
         refine Tc.dr [] [] mixed rfl ?_
         refine .q 0 rfl .l0 ?_
         refine .q 1 rfl (.ld 0) ?_
         refine .z 2 rfl (OpV.takeCall rfl rfl rfl rfl (fun H hs => .f ca135 rfl (seen_c M H (code : Int) send 0 lean (placesTo code 7) (gMoves (placesTo code 7) send lean n af ((placesTo code 7).length - 1)) eb 0 ec vb 0 gc fe true es _ et 3 ez (0, 0) (hs.base _ _ hE1) hE2 (hs.get (i := 1) rfl) hV2 hp6 hpl hmv hs0.1 hs0.2 (by omega) (by omega) _ (Nat.le_refl _)))) ?_
         refine .q 3 rfl .fa ?_
         refine .q 4 rfl .l0 ?_
         refine .q 5 rfl .ln ?_
         refine .z 6 rfl (OpV.takeCall rfl rfl rfl rfl (fun H hs => .f ca137 rfl (after_c M H _ (placesTo code 7).length (seenTo_len ..) hp6 hsb))) ?_
         refine .q 7 rfl .l0 ?_
         refine .q 8 rfl (OpV.eqA (E := en) true 2 rfl rfl rfl rfl rfl eg135 (by decide) (ints_flat _ hsl) (ints_flat af h6) ⟨fun _ => by rw [hq], fun _ => rfl⟩) ?_
         refine Ta.done (by kernel_rfl) ?_
         refine Tc.expand hx ?_
         refine .tt rfl (.sr ?_)
         refine .e (.st 7 (zz := ?_))
         refine .done ?_
         refine Tc.leaveRound hK2 (i := 2) rfl (.inr (.inl ⟨_, rfl, rfl⟩)) (fun H' hs' => q2' H' _ _ _ (hs'.less (by apply List.Sublist.cons; apply List.Sublist.cons; exact List.Sublist.refl _)) ⟨rfl, hle2, htot, rfl⟩)
       · have hg2 : k.gives₂ (placesTo code 7) send lean n af = false := by
           unfold Lk.gives₂
           rw [hall]
           simp [hq]
         have hany3 : k.gives₁ (placesTo code 7) send lean af rest2 = k.gives₁ (placesTo code 7) send lean af (upTo k.m0 k.m1) := by
           rw [← hany2]
           unfold Lk.gives₁
           rw [List.any_cons, hg2]
           rfl
         refine .sr ?_
         refine .i ?_ (z := lss_f (by omega))
         refine .done (.seq (.ff rfl (.exit rfl (.seq ?_))))
         refine Tc.dr [] [] mixed rfl ?_
         refine .q 0 rfl .l0 ?_
         refine .q 1 rfl (.ld 0) ?_
         refine .z 2 rfl (OpV.takeCall rfl rfl rfl rfl (fun H hs => .f ca135 rfl (seen_c M H (code : Int) send 0 lean (placesTo code 7) (gMoves (placesTo code 7) send lean n af ((placesTo code 7).length - 1)) eb 0 ec vb 0 gc fe true es _ et 3 ez (0, 0) (hs.base _ _ hE1) hE2 (hs.get (i := 1) rfl) hV2 hp6 hpl hmv hs0.1 hs0.2 (by omega) (by omega) _ (Nat.le_refl _)))) ?_
         refine .q 3 rfl .fa ?_
         refine .q 4 rfl .l0 ?_
         refine .q 5 rfl .ln ?_
         refine .z 6 rfl (OpV.takeCall rfl rfl rfl rfl (fun H hs => .f ca137 rfl (after_c M H _ (placesTo code 7).length (seenTo_len ..) hp6 hsb))) ?_
         refine .q 7 rfl .l0 ?_
         refine .q 8 rfl (OpV.eqA (E := en) false 2 rfl rfl rfl rfl rfl eg135 (by decide) (ints_flat _ hsl) (ints_flat af h6) ⟨(fun h => nomatch h), fun h => (hq (intsL_inj h)).elim⟩) ?_
         refine Ta.done (by kernel_rfl) ?_
         refine Tc.expand hx ?_
         refine .ff rfl (.skip (.inBlock ?_))
         refine Tc.leaveRound hK2 (i := 2) rfl (.inl ⟨rfl, rfl⟩) (fun H' hs' => q2 H' _ _ (hs'.less (by apply List.Sublist.cons; apply List.Sublist.cons; exact List.Sublist.refl _)) ⟨rfl, hle2, hany3⟩)
     · have c2 : j < (placesTo code 7).length - 1 := by omega
       have hgn : g.n = j + 1 := by
         have h1 := g.hl
         rw [g2, intsL_len, gMoves_len] at h1
         omega
       have f1 : ldL true 2 es ((0 + 1 * 2) + (j : Int).toNat * 2) = some (edgeV ((placesTo code 7)[j + 1]?.getD 0) (j + 1)) := by
         rw [show (0 + 1 * 2) + (j : Int).toNat * 2 = 0 + (j + 1) * 2 by simp; omega]
         exact hE2 (j + 1) (by omega)
       have f2 : ldL false 1 (intsL af) (0 + ((j : Int) + 1).toNat * 1) = some (.int .i64 (af[j + 1]?.getD 0)) := by
         rw [show ((j : Int) + 1).toNat = j + 1 by omega]
         exact intsL_ld (by omega)
       have hb1 := hpl (j + 1) (by omega)
       have st1 := still_in (place := ((placesTo code 7)[j + 1]?.getD 0 : Nat)) (number := ((j + 1 : Nat) : Int)) (send := send) (lean := lean) (by omega) (by omega) hs0.1 hs0.2 (by omega) (by omega)
       have hbf : -100000 ≤ af[j + 1]?.getD 0 ∧ af[j + 1]?.getD 0 ≤ 100000 := by
         have hlt : j + 1 < af.length := by omega
         rw [List.getElem?_eq_getElem hlt]
         exact hb _ (List.getElem_mem hlt)
       cases hin : k.inMove (gMove (placesTo code 7) send lean n af j) with
       | true =>
         refine .sr ?_
         refine .i ?_ (z := lss_t (by omega))
         refine .done (.seq (.tt rfl (.skip (.seq (.block (.sr ?_))))))
         refine .m ?_
         refine .x .ia ?_
         refine .x .l0 ?_
         refine .e (.al (zz := fun b15 => ?_))
         refine .g ?_
         refine .e (.st 0 (zz := ?_))
         refine .done (.seq ?_)
         refine Tc.dr [] [] mixed rfl ?_
         refine .q 0 rfl .mv ?_
         refine .q 1 rfl .mv ?_
         refine .q 2 rfl (.it (zz := add_in (by omega) (by omega))) ?_
         refine .q 3 rfl .ib ?_
         refine .q 4 rfl .l0 ?_
         refine .q 5 rfl (.it (zz := add_in (by omega) (by omega))) ?_
         refine .q 6 rfl (.ld 0) ?_
         refine .q 7 rfl .l0 ?_
         refine .q 8 rfl .l0 ?_
         refine .z 9 rfl (OpV.takeCall rfl rfl rfl rfl (fun H hs => .f ca172 rfl (still_c M H ((placesTo code 7)[j + 1]?.getD 0 : Nat) ((j + 1 : Nat) : Int) send lean (by omega) (by omega) (by omega) hs0.1 hs0.2 (by omega) (by omega)))) ?_
         refine .q 10 rfl (.it (zz := sub_in (by omega) (by omega))) ?_
         refine .q 11 rfl .sg ?_
         refine Ta.done (by kernel_rfl) ?_
         refine .seq (.sr ?_)
         refine .x .l0 ?_
         refine .m ?_
         refine .c rfl rfl rfl rfl (fun H hs => .f ca169 rfl (CallT.mono (has_c M H k.m0 k.m1 (gMove (placesTo code 7) send lean n af j)) (Q' := fun v H' => H.le H' ∧ v = .bool true) (by rintro v H' ⟨h1, h2⟩; unfold Lk.inMove at hin; rw [hin] at h2; exact ⟨h1, h2⟩))) ?_
         refine .x .nt ?_
         refine .done (.ff rfl (.skip (.r ?_)))
         refine .x .fa ?_
         refine .x (.ld 1) ?_
         refine .m ?_
         refine .e (.bs (zz := fun bs2 => ?_))
         refine .e (Or.append (E := en) 3 rfl rfl rfl rfl rfl rfl rfl rfl rfl rfl rfl rfl rfl rfl rfl (fun H hs => SrcAt.of (hs.get (i := 0) rfl) (Nat.le_of_ble_eq_true rfl)) rfl (by omega) rfl (by decide) (fun g' hn2 hl2 => ?_))
         refine .x .fa ?_
         refine .e (.st 2 (zz := ?_))
         refine .done (.inBlock (.r ?_))
         refine .i ?_ (z := add_in (by omega) (by omega))
         refine .m ?_
         refine .done ?_
         exact Tc.db (ih ⟨(j + 1, g'), by simp only; omega, by simp only; rw [hl2, g2, gMoves_succ]; unfold intsL; rw [List.map_append]; rfl, by simp only; intro i hi; rcases Nat.lt_succ_iff_lt_or_eq.1 hi with h | rfl; exact g3 i h; exact hin⟩ (by simp only; omega))
       | false =>
         have hg2 : k.gives₂ (placesTo code 7) send lean n af = false := by
           unfold Lk.gives₂
           rw [Bool.and_eq_false_iff]
           refine .inl ?_
           rw [List.all_eq_false]
           exact ⟨j, List.mem_range.2 c2, by rw [hin]; simp⟩
         have hany3 : k.gives₁ (placesTo code 7) send lean af rest2 = k.gives₁ (placesTo code 7) send lean af (upTo k.m0 k.m1) := by
           rw [← hany2]
           unfold Lk.gives₁
           rw [List.any_cons, hg2]
           rfl
         refine .sr ?_
         refine .i ?_ (z := lss_t (by omega))
         refine .done (.seq (.tt rfl (.skip (.seq (.block (.sr ?_))))))
         refine .m ?_
         refine .x .ia ?_
         refine .x .l0 ?_
         refine .e (.al (zz := fun b15 => ?_))
         refine .g ?_
         refine .e (.st 0 (zz := ?_))
         refine .done (.seq ?_)
         refine Tc.dr [] [] mixed rfl ?_
         refine .q 0 rfl .mv ?_
         refine .q 1 rfl .mv ?_
         refine .q 2 rfl (.it (zz := add_in (by omega) (by omega))) ?_
         refine .q 3 rfl .ib ?_
         refine .q 4 rfl .l0 ?_
         refine .q 5 rfl (.it (zz := add_in (by omega) (by omega))) ?_
         refine .q 6 rfl (.ld 0) ?_
         refine .q 7 rfl .l0 ?_
         refine .q 8 rfl .l0 ?_
         refine .z 9 rfl (OpV.takeCall rfl rfl rfl rfl (fun H hs => .f ca172 rfl (still_c M H ((placesTo code 7)[j + 1]?.getD 0 : Nat) ((j + 1 : Nat) : Int) send lean (by omega) (by omega) (by omega) hs0.1 hs0.2 (by omega) (by omega)))) ?_
         refine .q 10 rfl (.it (zz := sub_in (by omega) (by omega))) ?_
         refine .q 11 rfl .sg ?_
         refine Ta.done (by kernel_rfl) ?_
         refine .seq (.sr ?_)
         refine .x .l0 ?_
         refine .m ?_
         refine .c rfl rfl rfl rfl (fun H hs => .f ca169 rfl (CallT.mono (has_c M H k.m0 k.m1 (gMove (placesTo code 7) send lean n af j)) (Q' := fun v H' => H.le H' ∧ v = .bool false) (by rintro v H' ⟨h1, h2⟩; unfold Lk.inMove at hin; rw [hin] at h2; exact ⟨h1, h2⟩))) ?_
         refine .x .nt ?_
         refine .done ?_
         refine Tc.dropB (R' := [(69, .bool true)]) (L' := []) ?_ ⟨rfl, trivial⟩ (List.nil_sublist _)
         refine Tc.expand hx ?_
         refine .tt rfl (.exit rfl ?_)
         refine Tc.leaveRound hK2 (i := 0) rfl (.inl ⟨rfl, rfl⟩) (fun H' hs' => q2 H' _ _ (hs'.less (by exact List.Sublist.refl _)) ⟨rfl, hle2, hany3⟩)
   · rintro H₂ _ ⟨rfl, hle2, hany2⟩
     have hno : k.gives₁ (placesTo code 7) send lean af (upTo k.m0 k.m1) = false := hany2.symm
     have hany3 : (rest.any fun lean => k.gives₁ (placesTo code 7) send lean af (upTo k.m0 k.m1)) = k.gives (placesTo code 7) send af := by
       rw [← hany, List.any_cons, hno]
       rfl
     refine .inBlock ?_
     refine Tc.inScope ?_
     refine .inBlock ?_
     refine Tc.leaveRound hK1 (i := 1) rfl (.inl ⟨rfl, rfl⟩) (fun H' hs' => q1 H' _ _ (hs'.less (by apply List.Sublist.cons; exact List.Sublist.refl _)) ⟨rfl, hle2, hany3⟩)
   · rintro j H₂ _ ⟨rfl, hle2, htot, rfl⟩
     refine Tc.leaveRound hK1 (i := 1) rfl (.inr (.inl ⟨_, rfl, rfl⟩)) (fun H' hs' => q1' H' _ _ _ (hs'.less (by apply List.Sublist.cons; exact List.Sublist.refl _)) ⟨rfl, hle2, htot, rfl⟩)
 · rintro r H₁ _ ⟨rfl, hle1, hany⟩
   have hno : k.gives (placesTo code 7) send af = false := hany.symm
   unfold gL
   refine .inBlock (.sr ?_)
   refine .e (.st 2 (zz := ?_))
   refine .done ?_
   refine Tc.retD (E := en) (i := 0) hK Tryz.func157 Tryz.results157 (vs := [_]) rfl (by refine ⟨⟨2, _, _, _, _, _, _, _, rfl, rfl, rfl, rfl⟩, ?_⟩; exact trivial) ?_
   exact fun H' hs => ⟨View.le_trans hle1 hs.base, by rw [hno]; rfl⟩
 · rintro r j H₁ _ ⟨rfl, hle1, htot, rfl⟩
   unfold gL
   refine Tc.retD (E := en) (i := 0) hK Tryz.func157 Tryz.results157 (vs := [_]) rfl (by refine ⟨⟨2, _, _, _, _, _, _, _, rfl, rfl, rfl, rfl⟩, ?_⟩; exact trivial) ?_
   exact fun H' hs => ⟨View.le_trans hle1 hs.base, by rw [htot]; rfl⟩
end
end Go.Proofs.YtpdaenfglbgfkaaGreatDoor
end
section
namespace Go.Proofs.YtpdaenfglbgfkaaGreatDoor
open Go.RL
set_option maxRecDepth 10000
set_option maxHeartbeats 4000000
def Nums (H : View) (A : Option Addr) (l : List Int) : Prop :=
 l = [] ∨ ∃ ab ao f gs gt gz, A = some ⟨ab, ao, none⟩ ∧ H ab = some (f, .cells ⟨gs⟩ gt gz) ∧ ∀ j : Nat, j < l.length → ldL false 1 gs (ao + (j : Int).toNat * 1) = some (.int .i64 (l[j]?.getD 0))
theorem Nums.le {H H' : View} {A : Option Addr} {l : List Int} (h : Nums H A l) (k : H.le H') : Nums H' A l := by
 rcases h with h | ⟨ab, ao, f, gs, gt, gz, h1, h2, h3⟩
 · exact .inl h
 · exact .inr ⟨ab, ao, f, gs, gt, gz, h1, k _ _ h2, h3⟩
theorem Nums.of {H : View} {g : Gl 3 1} {l : List Int} (hl : g.l = intsL l) (h : ∀ y ∈ g.bl, H y.1 = some y.2) : g.n = l.length ∧ Nums H (g.blk.map fun b => ⟨b, 0, none⟩) l := by
 have hn : g.n = l.length := by
   have := g.hl
   rw [hl, intsL_len] at this
   omega
 refine ⟨hn, ?_⟩
 obtain ⟨_ | b, n, cap, gl, gj, h1, h2, h3, h4⟩ := g
 · have := h4 rfl
   simp only at hn h2
   refine .inl (List.eq_nil_of_length_eq_zero (by omega))
 · refine .inr ⟨b, 0, true, gl ++ gj, 3, (0, 0), rfl, h (b, true, .cells ⟨gl ++ gj⟩ 3 (0, 0)) (by simp [Gl.bl]), fun j hj => ?_⟩
   simp only at hl
   subst hl
   show (intsL l ++ gj)[0 + (j : Int).toNat * 1]? = _
   rw [Nat.zero_add, Nat.mul_one, Int.toNat_natCast, List.getElem?_append_left (by rw [intsL_len]; exact hj)]
   unfold intsL
   rw [List.getElem?_map, List.getElem?_eq_getElem hj]
   rfl
def keepI (p : Nat → Bool) (k : Nat) : List Int := ((List.range k).filter p).map fun i : Nat => (i : Int)
theorem keepI_eq (p : Nat → Bool) (k : Nat) : keepTo p k = intsL (keepI p k) := by
 unfold keepTo keepI intsL
 rw [List.map_map]
 rfl
section
variable (M : Md Tryz.prog) (H : View)
theorem to_c (a b : Int) : CallT M 40 #[.int .i64 a, .int .i64 b] H (fun v H' => H.le H' ∧ v = bandV a b) := by
 refine CallT.enter (vs := [.int .i64 a, .int .i64 b]) Tryz.func40 rfl Tryz.ntmps40 (Nat.le_of_ble_eq_true rfl) (SymSt.nil _) fun St c cs hK => ?_
 refine .sr ?_
 refine .e (.al (zz := fun b4 => ?_))
 refine .done (.sr ?_)
 refine .m ?_
 refine .m ?_
 refine .x .bu ?_
 refine .e (.st 0 (zz := ?_))
 refine .done ?_
 refine Tc.retN (E := en) hK Tryz.func40 Tryz.results40 (vs := [_]) (by refine ⟨⟨0, _, _, _, _, _, _, _, rfl, rfl, rfl, rfl⟩, ?_⟩; exact trivial) ?_
 exact fun H' hs => ⟨hs.base, rfl⟩
theorem In_c (x a b : Int) : CallT M 59 #[.int .i64 x, .int .i64 a, .int .i64 b] H (fun v H' => H.le H' ∧ v = .bool (decide (a ≤ x ∧ x ≤ b))) := by
 refine CallT.enter (vs := [.int .i64 x, .int .i64 a, .int .i64 b]) Tryz.func59 rfl Tryz.ntmps59 (Nat.le_of_ble_eq_true rfl) (SymSt.nil _) fun St c cs hK => ?_
 by_cases c1 : a ≤ x
 all_goals by_cases c2 : x ≤ b
 all_goals (
   refine .sr ?_
   refine .g ?_
   refine .done (.sr ?_)
   refine .m ?_
   refine .m ?_
   refine .i ?_ (z := by first | exact geq_t (by omega) | exact geq_f (by omega))
   refine .m ?_
   first | (refine .sk ?_) | (refine .m ?_)
   first | (refine .sk ?_) | (refine .m ?_)
   first | (refine .sk ?_) | (refine .x (.it (zz := (by first | exact leq_t (by omega) | exact leq_f (by omega)))) ?_)
   refine .x .pk ?_
   refine .g ?_
   refine .done ?_
   refine .rt hK Tryz.func59 Tryz.results59 [_] ?_
   exact fun H' hs => ⟨hs.base, by simp [c1, c2]; rfl⟩)
theorem Inside_c (a b low high : Int) : CallT M 81 #[bandV a b, .int .i64 low, .int .i64 high] H (fun v H' => H.le H' ∧ v = .bool (decide (a ≤ b ∧ low ≤ a ∧ b ≤ high))) := by
 refine CallT.enter (vs := [bandV a b, .int .i64 low, .int .i64 high]) Tryz.func81 rfl Tryz.ntmps81 (Nat.le_of_ble_eq_true rfl) (SymSt.nil _) fun St c cs hK => ?_
 by_cases c1 : a ≤ b
 all_goals by_cases c2 : low ≤ a
 all_goals by_cases c3 : b ≤ high
 all_goals (
   refine .sr ?_
   refine .e (.bx (zz := fun b3 => ?_))
   refine .g ?_
   refine .done (.sr ?_)
   refine .x .fa ?_
   refine .x (.ld 0) ?_
   refine .x .fa ?_
   refine .x (.ld 0) ?_
   refine .i ?_ (z := by first | exact leq_t (by omega) | exact leq_f (by omega))
   refine .m ?_
   first | (refine .sk ?_) | (refine .x .fa ?_)
   first | (refine .sk ?_) | ((refine .x (.ld 0) ?_))
   first | (refine .sk ?_) | (refine .m ?_)
   first | (refine .sk ?_) | (refine .x (.it (zz := (by first | exact geq_t (by omega) | exact geq_f (by omega)))) ?_)
   refine .x .pk ?_
   refine .m ?_
   first | (refine .sk ?_) | (refine .x .fa ?_)
   first | (refine .sk ?_) | ((refine .x (.ld 0) ?_))
   first | (refine .sk ?_) | (refine .m ?_)
   first | (refine .sk ?_) | (refine .x (.it (zz := (by first | exact leq_t (by omega) | exact leq_f (by omega)))) ?_)
   refine .x .pk ?_
   refine .g ?_
   refine .done ?_
   refine .rt hK Tryz.func81 Tryz.results81 [_] ?_
   exact fun H' hs => ⟨hs.base, by simp [c1, c2, c3]; rfl⟩)
theorem refPaces_c (a b : Int) : CallT M 123 #[bandV a b] H (fun v H' => H.le H' ∧ v = .bool (paceOk a b)) := by
 refine CallT.enter (vs := [bandV a b]) Tryz.func123 rfl Tryz.ntmps123 (Nat.le_of_ble_eq_true rfl) (SymSt.nil _) fun St c cs hK => ?_
 by_cases c1 : a ≤ b ∧ 1 ≤ a ∧ b ≤ 40
 · by_cases c2 : b - a < 3
   · have e : paceOk a b = true := decide_eq_true (by omega)
     refine .sr ?_
     refine .e (.bx (zz := fun b1 => ?_))
     refine .g ?_
     refine .done (.sr ?_)
     refine .x (.ld 0) ?_
     refine .c rfl rfl rfl rfl (fun H hs => .f ca81 rfl (CallT.is (.bool true) (by rewrite [decide_eq_true c1]; rfl) (Inside_c M H a b 1 40))) ?_
     refine .m ?_
     refine .x .fa ?_
     refine .x (.ld 0) ?_
     refine .x .fa ?_
     refine .x (.ld 0) ?_
     refine .i ?_ (z := sub_in (by omega) (by omega))
     refine .i ?_ (z := lss_t (by omega))
     refine .x .pk ?_
     refine .g ?_
     refine .done ?_
     refine .rt hK Tryz.func123 Tryz.results123 [_] ?_
     exact fun H' hs => ⟨hs.base, by rw [e]; rfl⟩
   · have e : paceOk a b = false := decide_eq_false (by omega)
     refine .sr ?_
     refine .e (.bx (zz := fun b1 => ?_))
     refine .g ?_
     refine .done (.sr ?_)
     refine .x (.ld 0) ?_
     refine .c rfl rfl rfl rfl (fun H hs => .f ca81 rfl (CallT.is (.bool true) (by rewrite [decide_eq_true c1]; rfl) (Inside_c M H a b 1 40))) ?_
     refine .m ?_
     refine .x .fa ?_
     refine .x (.ld 0) ?_
     refine .x .fa ?_
     refine .x (.ld 0) ?_
     refine .i ?_ (z := sub_in (by omega) (by omega))
     refine .i ?_ (z := lss_f (by omega))
     refine .x .pk ?_
     refine .g ?_
     refine .done ?_
     refine .rt hK Tryz.func123 Tryz.results123 [_] ?_
     exact fun H' hs => ⟨hs.base, by rw [e]; rfl⟩
 · have e : paceOk a b = false := decide_eq_false (by omega)
   refine .sr ?_
   refine .e (.bx (zz := fun b1 => ?_))
   refine .g ?_
   refine .done (.sr ?_)
   refine .x (.ld 0) ?_
   refine .c rfl rfl rfl rfl (fun H hs => .f ca81 rfl (CallT.is (.bool false) (by rewrite [decide_eq_false c1]; rfl) (Inside_c M H a b 1 40))) ?_
   refine .m ?_
   refine .sk ?_
   refine .sk ?_
   refine .sk ?_
   refine .sk ?_
   refine .sk ?_
   refine .sk ?_
   refine .x .pk ?_
   refine .g ?_
   refine .done ?_
   refine .rt hK Tryz.func123 Tryz.results123 [_] ?_
   exact fun H' hs => ⟨hs.base, by rw [e]; rfl⟩
theorem refLine_c (a b x y : Int) : CallT M 82 #[.agg ⟨[.int .i64 a, .int .i64 b, .int .i64 x, .int .i64 y]⟩] H (fun v H' => H.le H' ∧ v = .int .i64 (if leanOk a b && moveOk x y then 0 else 1)) := by
 refine CallT.enter (vs := [.agg ⟨[.int .i64 a, .int .i64 b, .int .i64 x, .int .i64 y]⟩]) Tryz.func82 rfl Tryz.ntmps82 (Nat.le_of_ble_eq_true rfl) (SymSt.nil _) fun St c cs hK => ?_
 by_cases c1 : a ≤ b ∧ -9 ≤ a ∧ b ≤ 9
 · by_cases c2 : b - a ≥ 3
   · have e : (leanOk a b && moveOk x y) = false := by unfold leanOk; rw [decide_eq_false (by omega)]; rfl
     refine .sr ?_
     refine .e (.bx (zz := fun b1 => ?_))
     refine .g ?_
     refine .done (.seq (.sr ?_))
     refine .x .fa ?_
     refine .x (.ld 0) ?_
     refine .c rfl rfl rfl rfl (fun H hs => .f ca81 rfl (CallT.is (.bool true) (by rewrite [decide_eq_true c1]; rfl) (Inside_c M H a b (-9) 9))) ?_
     refine .x .nt ?_
     refine .m ?_
     refine .x .fa ?_
     refine .x .fa ?_
     refine .x (.ld 0) ?_
     refine .x .fa ?_
     refine .x .fa ?_
     refine .x (.ld 0) ?_
     refine .i ?_ (z := sub_in (by omega) (by omega))
     refine .i ?_ (z := geq_t (by omega))
     refine .x .pk ?_
     refine .m ?_
     refine .sk ?_
     refine .sk ?_
     refine .sk ?_
     refine .sk ?_
     refine .x .pk ?_
     refine .done (.tt rfl (.sr ?_))
     refine .g ?_
     refine .done ?_
     refine .rt hK Tryz.func82 Tryz.results82 [_] ?_
     exact fun H' hs => ⟨hs.base, by rw [e]; rfl⟩
   · by_cases c3 : x ≤ y ∧ -12 ≤ x ∧ y ≤ 12
     · have e : (leanOk a b && moveOk x y) = true := by unfold leanOk moveOk; rw [decide_eq_true (by omega), decide_eq_true (by omega)]; rfl
       refine .sr ?_
       refine .e (.bx (zz := fun b1 => ?_))
       refine .g ?_
       refine .done (.seq (.sr ?_))
       refine .x .fa ?_
       refine .x (.ld 0) ?_
       refine .c rfl rfl rfl rfl (fun H hs => .f ca81 rfl (CallT.is (.bool true) (by rewrite [decide_eq_true c1]; rfl) (Inside_c M H a b (-9) 9))) ?_
       refine .x .nt ?_
       refine .m ?_
       refine .x .fa ?_
       refine .x .fa ?_
       refine .x (.ld 0) ?_
       refine .x .fa ?_
       refine .x .fa ?_
       refine .x (.ld 0) ?_
       refine .i ?_ (z := sub_in (by omega) (by omega))
       refine .i ?_ (z := geq_f (by omega))
       refine .x .pk ?_
       refine .m ?_
       refine .x .fa ?_
       refine .x (.ld 0) ?_
       refine .c rfl rfl rfl rfl (fun H hs => .f ca81 rfl (CallT.is (.bool true) (by rewrite [decide_eq_true c3]; rfl) (Inside_c M H x y (-12) 12))) ?_
       refine .x .nt ?_
       refine .x .pk ?_
       refine .done (.ff rfl (.skip (.sr ?_)))
       refine .g ?_
       refine .done ?_
       refine .rt hK Tryz.func82 Tryz.results82 [_] ?_
       exact fun H' hs => ⟨hs.base, by rw [e]; rfl⟩
     · have e : (leanOk a b && moveOk x y) = false := by unfold moveOk; rw [decide_eq_false (p := -12 ≤ x ∧ x ≤ y ∧ y ≤ 12 ∧ y - x < 25) (by omega)]; simp
       refine .sr ?_
       refine .e (.bx (zz := fun b1 => ?_))
       refine .g ?_
       refine .done (.seq (.sr ?_))
       refine .x .fa ?_
       refine .x (.ld 0) ?_
       refine .c rfl rfl rfl rfl (fun H hs => .f ca81 rfl (CallT.is (.bool true) (by rewrite [decide_eq_true c1]; rfl) (Inside_c M H a b (-9) 9))) ?_
       refine .x .nt ?_
       refine .m ?_
       refine .x .fa ?_
       refine .x .fa ?_
       refine .x (.ld 0) ?_
       refine .x .fa ?_
       refine .x .fa ?_
       refine .x (.ld 0) ?_
       refine .i ?_ (z := sub_in (by omega) (by omega))
       refine .i ?_ (z := geq_f (by omega))
       refine .x .pk ?_
       refine .m ?_
       refine .x .fa ?_
       refine .x (.ld 0) ?_
       refine .c rfl rfl rfl rfl (fun H hs => .f ca81 rfl (CallT.is (.bool false) (by rewrite [decide_eq_false c3]; rfl) (Inside_c M H x y (-12) 12))) ?_
       refine .x .nt ?_
       refine .x .pk ?_
       refine .done (.tt rfl (.sr ?_))
       refine .g ?_
       refine .done ?_
       refine .rt hK Tryz.func82 Tryz.results82 [_] ?_
       exact fun H' hs => ⟨hs.base, by rw [e]; rfl⟩
 · have e : (leanOk a b && moveOk x y) = false := by unfold leanOk; rw [decide_eq_false (by omega)]; rfl
   refine .sr ?_
   refine .e (.bx (zz := fun b1 => ?_))
   refine .g ?_
   refine .done (.seq (.sr ?_))
   refine .x .fa ?_
   refine .x (.ld 0) ?_
   refine .c rfl rfl rfl rfl (fun H hs => .f ca81 rfl (CallT.is (.bool false) (by rewrite [decide_eq_false c1]; rfl) (Inside_c M H a b (-9) 9))) ?_
   refine .x .nt ?_
   refine .m ?_
   refine .sk ?_
   refine .sk ?_
   refine .sk ?_
   refine .sk ?_
   refine .sk ?_
   refine .sk ?_
   refine .sk ?_
   refine .sk ?_
   refine .x .pk ?_
   refine .m ?_
   refine .sk ?_
   refine .sk ?_
   refine .sk ?_
   refine .sk ?_
   refine .x .pk ?_
   refine .done (.tt rfl (.sr ?_))
   refine .g ?_
   refine .done ?_
   refine .rt hK Tryz.func82 Tryz.results82 [_] ?_
   exact fun H' hs => ⟨hs.base, by rw [e]; rfl⟩
theorem Lk.ok_eq (k : Lk) : k.ok = (k.sends && k.reads && (k.leans && k.moves)) := by
 simp [Lk.ok, allTo, Lk.chk, Bool.and_assoc]
theorem refLink_c (k : Lk) : CallT M 61 #[k.val] H (fun v H' => H.le H' ∧ v = .int .i64 (if k.ok then 0 else 1)) := by
 refine CallT.enter (vs := [k.val]) Tryz.func61 rfl Tryz.ntmps61 (Nat.le_of_ble_eq_true rfl) (SymSt.nil _) fun St c cs hK => ?_
 cases h1 : k.sends with
 | false =>
   have e : k.ok = false := by rw [Lk.ok_eq, h1]; rfl
   refine .sr ?_
   refine .e (.bx (zz := fun b1 => ?_))
   refine .g ?_
   refine .done (.seq (.sr ?_))
   refine .x .fa ?_
   refine .x (.ld 0) ?_
   refine .c rfl rfl rfl rfl (fun H hs => .f ca123 rfl (CallT.mono (refPaces_c M H k.s0 k.s1) (Q' := fun v H' => H.le H' ∧ v = .bool false) (by rintro v H' ⟨h2, h3⟩; exact ⟨h2, h3.trans (congrArg Value.bool h1)⟩))) ?_
   refine .x .nt ?_
   refine .m ?_
   refine .sk ?_
   refine .sk ?_
   refine .sk ?_
   refine .sk ?_
   refine .x .pk ?_
   refine .done (.tt rfl (.sr ?_))
   refine .g ?_
   refine .done ?_
   refine .rt hK Tryz.func61 Tryz.results61 [_] ?_
   exact fun H' hs => ⟨hs.base, by rw [e]; rfl⟩
 | true =>
   cases h2 : k.reads with
   | false =>
     have e : k.ok = false := by rw [Lk.ok_eq, h1, h2]; rfl
     refine .sr ?_
     refine .e (.bx (zz := fun b1 => ?_))
     refine .g ?_
     refine .done (.seq (.sr ?_))
     refine .x .fa ?_
     refine .x (.ld 0) ?_
     refine .c rfl rfl rfl rfl (fun H hs => .f ca123 rfl (CallT.mono (refPaces_c M H k.s0 k.s1) (Q' := fun v H' => H.le H' ∧ v = .bool true) (by rintro v H' ⟨h2, h3⟩; exact ⟨h2, h3.trans (congrArg Value.bool h1)⟩))) ?_
     refine .x .nt ?_
     refine .m ?_
     refine .x .fa ?_
     refine .x (.ld 0) ?_
     refine .c rfl rfl rfl rfl (fun H hs => .f ca123 rfl (CallT.mono (refPaces_c M H k.r0 k.r1) (Q' := fun v H' => H.le H' ∧ v = .bool false) (by rintro v H' ⟨h4, h3⟩; exact ⟨h4, h3.trans (congrArg Value.bool h2)⟩))) ?_
     refine .x .nt ?_
     refine .x .pk ?_
     refine .done (.tt rfl (.sr ?_))
     refine .g ?_
     refine .done ?_
     refine .rt hK Tryz.func61 Tryz.results61 [_] ?_
     exact fun H' hs => ⟨hs.base, by rw [e]; rfl⟩
   | true =>
     have e : k.ok = (leanOk k.l0 k.l1 && moveOk k.m0 k.m1) := by rw [Lk.ok_eq, h1, h2]; rfl
     refine .sr ?_
     refine .e (.bx (zz := fun b1 => ?_))
     refine .g ?_
     refine .done (.seq (.sr ?_))
     refine .x .fa ?_
     refine .x (.ld 0) ?_
     refine .c rfl rfl rfl rfl (fun H hs => .f ca123 rfl (CallT.mono (refPaces_c M H k.s0 k.s1) (Q' := fun v H' => H.le H' ∧ v = .bool true) (by rintro v H' ⟨h2, h3⟩; exact ⟨h2, h3.trans (congrArg Value.bool h1)⟩))) ?_
     refine .x .nt ?_
     refine .m ?_
     refine .x .fa ?_
     refine .x (.ld 0) ?_
     refine .c rfl rfl rfl rfl (fun H hs => .f ca123 rfl (CallT.mono (refPaces_c M H k.r0 k.r1) (Q' := fun v H' => H.le H' ∧ v = .bool true) (by rintro v H' ⟨h4, h3⟩; exact ⟨h4, h3.trans (congrArg Value.bool h2)⟩))) ?_
     refine .x .nt ?_
     refine .x .pk ?_
     refine .done (.ff rfl (.skip (.sr ?_)))
     refine .x .fa ?_
     refine .x (.ld 0) ?_
     refine .c rfl rfl rfl rfl (fun H hs => .f ca82 rfl (refLine_c M H k.l0 k.l1 k.m0 k.m1)) ?_
     refine .g ?_
     refine .done ?_
     refine .rt hK Tryz.func61 Tryz.results61 [_] ?_
     exact fun H' hs => ⟨hs.base, by rw [e]; rfl⟩
theorem Fit_c (k : Lk) : CallT M 36 #[k.val] H (fun v H' => H.le H' ∧ v = .bool k.ok) := by
 refine CallT.enter (vs := [k.val]) Tryz.func36 rfl Tryz.ntmps36 (Nat.le_of_ble_eq_true rfl) (SymSt.nil _) fun St c cs hK => ?_
 cases h : k.ok with
 | true =>
   refine .sr ?_
   refine .e (.bx (zz := fun b1 => ?_))
   refine .g ?_
   refine .done (.sr ?_)
   refine .x (.ld 0) ?_
   refine .c rfl rfl rfl rfl (fun H hs => .f ca61 rfl (CallT.is (.int .i64 0) (by rewrite [h]; rfl) (refLink_c M H k))) ?_
   refine .i ?_ (z := eql_t (by omega))
   refine .g ?_
   refine .done ?_
   refine .rt hK Tryz.func36 Tryz.results36 [_] ?_
   exact fun H' hs => ⟨hs.base, by rw [h]; rfl⟩
 | false =>
   refine .sr ?_
   refine .e (.bx (zz := fun b1 => ?_))
   refine .g ?_
   refine .done (.sr ?_)
   refine .x (.ld 0) ?_
   refine .c rfl rfl rfl rfl (fun H hs => .f ca61 rfl (CallT.is (.int .i64 1) (by rewrite [h]; rfl) (refLink_c M H k))) ?_
   refine .i ?_ (z := eql_f (by omega))
   refine .g ?_
   refine .done ?_
   refine .rt hK Tryz.func36 Tryz.results36 [_] ?_
   exact fun H' hs => ⟨hs.base, by rw [h]; rfl⟩
end
end Go.Proofs.YtpdaenfglbgfkaaGreatDoor
end
section
namespace Go.Proofs.YtpdaenfglbgfkaaGreatDoor
open Go.RL
set_option maxRecDepth 10000
set_option maxHeartbeats 4000000
def pad6 (l : List Int) : List Int := l ++ List.replicate (6 - l.length) 0
theorem pad6_len {l : List Int} (h : l.length ≤ 6) : (pad6 l).length = 6 := by simp [pad6]; omega
def tuneTo (p : Int → Bool) : List Int → Option (Int × Int) → Option (Int × Int)
 | [], o => o
 | n :: l, o => tuneTo p l (if p n then some (match o with | some (a, _) => (a, n) | none => (n, n)) else o)
def Lk.tune (k : Lk) (ps : List Nat) (t : List Int) : Option (Int × Int) := tuneTo (fun n => k.gives ps n (afterTo t ps.length)) (upTo k.s0 k.s1) none
def bandO (o : Option (Int × Int)) : Value := match o with | some (a, b) => bandV a b | none => bandV 0 0
def bandCells (o : Option (Int × Int)) : List Value := match o with | some (a, b) => [.int .i64 a, .int .i64 b] | none => [.int .i64 0, .int .i64 0]
section
variable (M : Md Tryz.prog) (H : View)
def tL (code eb ec : Nat) (k : Lk) (t : List Int) (o : Option (Int × Int)) (b3 b4 b5 b6 b7 b8 n : Nat) : Bl :=
 [(b8, true, .cells ⟨intsL (afterTo t n)⟩ 135 (0, 0)), (b7, true, .cells ⟨[.bool o.isSome]⟩ 4 (0, 0)), (b6, true, .cells ⟨bandCells o⟩ 23 (0, 0)), (b5, true, .cells ⟨intsL t⟩ 135 (0, 0)),
   (b4, true, .cells ⟨[.int .i64 code, .slice (some ⟨eb, 0, none⟩) n ec]⟩ 112 (0, 0)), (b3, true, .cells ⟨k.val.cells.toList⟩ 109 (0, 0))]
theorem tune_c (k : Lk) (hk : k.Fine) (code eb ec : Nat) (t : List Int) (hc : code < 32) (hE : Edg H (placesTo code 7) eb) (hec : (placesTo code 7).length ≤ ec) (h2 : 2 ≤ (placesTo code 7).length) (h6 : t.length = 6) (hb : ∀ x ∈ t, -10000 ≤ x ∧ x ≤ 10000) :
   CallT M 114 #[k.val, .agg ⟨[.int .i64 code, .slice (some ⟨eb, 0, none⟩) (placesTo code 7).length ec]⟩, timesV t] H (fun v H' => H.le H' ∧ v = .tuple ⟨[bandO (k.tune (placesTo code 7) t), .bool (k.tune (placesTo code 7) t).isSome]⟩) := by
 obtain ⟨hp0, hp6, hpl⟩ := places_in code hc
 have hbd := hk.bounds
 simp only [List.mem_cons, List.not_mem_nil, or_false, forall_eq_or_imp, forall_eq] at hbd
 obtain ⟨k1, k2, k3, k4, k5, k6, k7, k8⟩ := hbd
 have hks := hk.s
 have hal : (afterTo t (placesTo code 7).length).length = 6 := by rw [afterTo_len, h6]
 have hab : ∀ x ∈ afterTo t (placesTo code 7).length, -100000 ≤ x ∧ x ≤ 100000 := by
   intro x hx
   unfold afterTo at hx
   obtain ⟨y, hy, rfl⟩ := List.mem_map.1 hx
   have h3 := hb y.1 (by
     have := List.mem_zipIdx_iff_getElem?.1 hy
     exact List.mem_of_getElem? this)
   have h4 : -10000 ≤ t.headD 0 ∧ t.headD 0 ≤ 10000 := by
     cases t with
     | nil => cases h6
     | cons a l => exact hb a List.mem_cons_self
   split <;> omega
 have fT : ldL true 6 (intsL t) 0 = some (.agg ⟨intsL t⟩) := by
   unfold ldL
   have e1 : Nat.ble (0 + 6) (intsL t).length = true := by rw [intsL_len, h6]; rfl
   simp only [e1]
   rw [List.drop_zero, List.take_of_length_le (by rw [intsL_len, h6]; exact Nat.le_refl _)]
 have fA : ldL true 6 (intsL (afterTo t (placesTo code 7).length)) 0 = some (.agg ⟨intsL (afterTo t (placesTo code 7).length)⟩) := by
   unfold ldL
   have e1 : Nat.ble (0 + 6) (intsL (afterTo t (placesTo code 7).length)).length = true := by rw [intsL_len, hal]; rfl
   simp only [e1]
   rw [List.drop_zero, List.take_of_length_le (by rw [intsL_len, hal]; exact Nat.le_refl _)]
 have lA : Nat.beq (intsL (afterTo t (placesTo code 7).length)).length 6 = true := by rw [intsL_len, hal]; rfl
 have lB : (intsL (afterTo t (placesTo code 7).length)).all single = true := by
   rw [List.all_eq_true]
   intro y hy
   obtain ⟨z, _, rfl⟩ := List.mem_map.1 hy
   rfl
 have lC : stL [Value.int .i64 0, .int .i64 0, .int .i64 0, .int .i64 0, .int .i64 0, .int .i64 0] 0 (intsL (afterTo t (placesTo code 7).length)) = intsL (afterTo t (placesTo code 7).length) := by
   unfold stL
   rw [List.take_zero, List.nil_append, List.drop_eq_nil_of_le (by rw [intsL_len, hal]; simp), List.append_nil]
 refine CallT.enter (vs := [k.val, .agg ⟨[.int .i64 code, .slice (some ⟨eb, 0, none⟩) (placesTo code 7).length ec]⟩, timesV t]) Tryz.func114 rfl Tryz.ntmps114 (Nat.le_of_ble_eq_true rfl) (SymSt.nil _) fun St c cs hK => ?_
 refine .sr ?_
 refine .e (.bx (zz := fun b3 => ?_))
 refine .e (.bx (zz := fun b4 => ?_))
 refine .e (.bx (zz := fun b5 => ?_))
 refine .e (.al (zz := fun b6 => ?_))
 refine .e (.al (zz := fun b7 => ?_))
 refine .done (.sr ?_)
 refine .x (.ld 2) ?_
 refine .x .fa ?_
 refine .x (.ld 3) ?_
 refine .x .ln ?_
 refine .c rfl rfl rfl rfl (fun H hs => .f ca137 rfl (after_c M H t (placesTo code 7).length h6 hp6 (fun x hx => by have := hb x hx; omega))) ?_
 refine .e (.al (zz := fun b8 => ?_))
 refine .e (Or.storeT (E := en) 0 rfl rfl rfl rfl rfl lA rfl (by exact rfl) lB rfl lC ?_)
 refine .done (.seq (.sr ?_))
 refine .x .fa ?_
 refine .x .fa ?_
 refine .x (.ld 5) ?_
 refine .c rfl rfl rfl rfl (fun H hs => .f ca155 rfl (bandOf_c M H k.s0 k.s1)) ?_
 refine .x .mf ?_
 refine .done (.block ?_)
 have itS := fun H (_ : (fun _ : View => True) H) => all_it M H k.s0 k.s1 (by omega) (by omega)
 refine Tc.db (R' := [(19, .func (.func 156) #[bandV k.s0 k.s1] #[]), (3, .pointer (some ⟨b3, 0, none⟩)), (4, .pointer (some ⟨b4, 0, none⟩)), (6, .pointer (some ⟨b6, 0, none⟩)), (7, .pointer (some ⟨b7, 0, none⟩)), (8, .pointer (some ⟨b8, 0, none⟩))]) (L' := tL code eb ec k t none b3 b4 b5 b6 b7 b8 (placesTo code 7).length) ?_
 refine Tc.rangeL (A := []) (xs := upTo k.s0 k.s1) (ts := [20]) (fun rest H₁ L₁ => ∃ o, L₁ = tL code eb ec k t o b3 b4 b5 b6 b7 b8 (placesTo code 7).length ∧ H.le H₁ ∧ tuneTo (fun n => k.gives (placesTo code 7) n (afterTo t (placesTo code 7).length)) rest o = k.tune (placesTo code 7) t)
   (fun _ _ _ => False) rfl rfl rfl rfl itS (fun _ _ _ h => h) (fun _ _ _ _ => trivial) rfl (fun _ _ => rfl) ⟨none, rfl, View.le_refl _, rfl⟩ ?_ ?_ ?_
 · rintro r n rest e l tmps asg bdy H₁ _ hn ⟨o, rfl, hle1, hto⟩ Q1 St1 cc1 cs1 hK1 q1 q1'
   have hn' := mem_upTo.1 hn
   unfold tL
   refine .r ?_
   refine .g ?_
   refine .done ?_
   refine Tc.beginRound (i := 0) rfl rfl rfl ?_
   refine .block (.seq (.seq ?_))
   cases hg : k.gives (placesTo code 7) n (afterTo t (placesTo code 7).length) with
   | false =>
     have hto2 : tuneTo (fun n => k.gives (placesTo code 7) n (afterTo t (placesTo code 7).length)) rest o = k.tune (placesTo code 7) t := by
       rw [← hto]
       unfold tuneTo
       simp only [hg]
       cases rest <;> rfl
     refine .r ?_
     refine .x (.ld 7) ?_
     refine .x (.ld 6) ?_
     refine .m ?_
     refine .x (.ld 2) ?_
     refine .c rfl rfl rfl rfl (fun H hs => .f ca157 rfl (CallT.is (.bool false) (by rewrite [hg]; rfl) (gives_c M H k hk code eb ec n (afterTo t (placesTo code 7).length) hc ((hE.le hle1).le hs.base) hec h2 hal hab (by omega)))) ?_
     refine .x .nt ?_
     refine .done (.tt rfl (.exit rfl ?_))
     refine Tc.leaveRound hK1 (i := 0) rfl (.inl ⟨rfl, rfl⟩) (fun H' hs' => q1 H' _ _ (hs'.less (by exact List.Sublist.refl _)) ⟨o, rfl, hle1, hto2⟩)
   | true =>
     refine .r ?_
     refine .x (.ld 7) ?_
     refine .x (.ld 6) ?_
     refine .m ?_
     refine .x (.ld 2) ?_
     refine .c rfl rfl rfl rfl (fun H hs => .f ca157 rfl (CallT.is (.bool true) (by rewrite [hg]; rfl) (gives_c M H k hk code eb ec n (afterTo t (placesTo code 7).length) hc ((hE.le hle1).le hs.base) hec h2 hal hab (by omega)))) ?_
     refine .x .nt ?_
     refine .done ?_
     cases o with
     | none =>
       have hto2 : tuneTo (fun n => k.gives (placesTo code 7) n (afterTo t (placesTo code 7).length)) rest (some (n, n)) = k.tune (placesTo code 7) t := by
         rw [← hto]
         show _ = tuneTo _ rest _
         simp only [hg]
         rfl
       refine .ff rfl (.skip (.seq (.sr ?_)))
       refine .x (.ld 3) ?_
       refine .x .nt ?_
       refine .done (.tt rfl (.r ?_))
       refine .m ?_
       refine .x .fa ?_
       refine .e (.st 4 (zz := ?_))
       refine .done (.r ?_)
       refine .m ?_
       refine .x .fa ?_
       refine .e (.st 4 (zz := ?_))
       refine .e (.st 3 (zz := ?_))
       refine .done (.inBlock ?_)
       refine Tc.leaveRound hK1 (i := 0) rfl (.inl ⟨rfl, rfl⟩) (fun H' hs' => q1 H' _ _ (hs'.less (by exact List.Sublist.refl _)) ⟨some (n, n), rfl, hle1, hto2⟩)
     | some ab =>
       obtain ⟨a, b⟩ := ab
       have hto2 : tuneTo (fun n => k.gives (placesTo code 7) n (afterTo t (placesTo code 7).length)) rest (some (a, n)) = k.tune (placesTo code 7) t := by
         rw [← hto]
         show _ = tuneTo _ rest _
         simp only [hg]
         rfl
       refine .ff rfl (.skip (.seq (.sr ?_)))
       refine .x (.ld 3) ?_
       refine .x .nt ?_
       refine .done (.ff rfl (.skip (.r ?_)))
       refine .m ?_
       refine .x .fa ?_
       refine .e (.st 4 (zz := ?_))
       refine .e (.st 3 (zz := ?_))
       refine .done (.inBlock ?_)
       refine Tc.leaveRound hK1 (i := 0) rfl (.inl ⟨rfl, rfl⟩) (fun H' hs' => q1 H' _ _ (hs'.less (by exact List.Sublist.refl _)) ⟨some (a, n), rfl, hle1, hto2⟩)
 · rintro r H₁ _ ⟨o, rfl, hle1, hto⟩
   have hto2 : o = k.tune (placesTo code 7) t := hto
   unfold tL
   refine .inBlock (.seq ?_)
   cases o with
   | none =>
     refine Tc.dr [2, 3] [3] mixed rfl ?_
     refine .q 0 rfl (.ld 3) ?_
     refine Ta.tkw 1 (by kernel_rfl) rfl rfl rfl (by decide) rfl rfl (OpV.take (.ld 2)) ?_
     refine Ta.each [2] (by kernel_rfl) rfl ⟨TaOp.mk rfl rfl rfl (.st 3 (zz := ⟨S2.mk (by apply List.Sublist.cons_cons; apply List.Sublist.cons_cons; apply List.Sublist.cons_cons; apply List.Sublist.cons; exact List.Sublist.refl _) (.inl (by kernel_rfl)), ?_⟩)), trivial⟩
     refine Ta.each [3] (by kernel_rfl) rfl ⟨TaOp.mk rfl rfl rfl (.st 2 (zz := ⟨S2.mk (by apply List.Sublist.cons_cons; apply List.Sublist.cons_cons; apply List.Sublist.cons_cons; apply List.Sublist.cons; exact List.Sublist.refl _) (.inl (by kernel_rfl)), ?_⟩)), trivial⟩
     refine Ta.done (by kernel_rfl) ?_
     refine Tc.retD (E := en) (i := 0) hK Tryz.func114 Tryz.results114 (vs := [_, _]) rfl (by refine ⟨⟨3, _, _, _, _, _, _, _, rfl, rfl, rfl, rfl⟩, ?_⟩; refine ⟨⟨2, _, _, _, _, _, _, _, rfl, rfl, rfl, rfl⟩, ?_⟩; exact trivial) ?_
     exact fun H' hs => ⟨View.le_trans hle1 hs.base, by rw [← hto2]; rfl⟩
   | some ab =>
     obtain ⟨a, b⟩ := ab
     refine Tc.dr [2, 3] [3] mixed rfl ?_
     refine .q 0 rfl (.ld 3) ?_
     refine Ta.tkw 1 (by kernel_rfl) rfl rfl rfl (by decide) rfl rfl (OpV.take (.ld 2)) ?_
     refine Ta.each [2] (by kernel_rfl) rfl ⟨TaOp.mk rfl rfl rfl (.st 3 (zz := ⟨S2.mk (by apply List.Sublist.cons_cons; apply List.Sublist.cons_cons; apply List.Sublist.cons_cons; apply List.Sublist.cons; exact List.Sublist.refl _) (.inl (by kernel_rfl)), ?_⟩)), trivial⟩
     refine Ta.each [3] (by kernel_rfl) rfl ⟨TaOp.mk rfl rfl rfl (.st 2 (zz := ⟨S2.mk (by apply List.Sublist.cons_cons; apply List.Sublist.cons_cons; apply List.Sublist.cons_cons; apply List.Sublist.cons; exact List.Sublist.refl _) (.inl (by kernel_rfl)), ?_⟩)), trivial⟩
     refine Ta.done (by kernel_rfl) ?_
     refine Tc.retD (E := en) (i := 0) hK Tryz.func114 Tryz.results114 (vs := [_, _]) rfl (by refine ⟨⟨3, _, _, _, _, _, _, _, rfl, rfl, rfl, rfl⟩, ?_⟩; refine ⟨⟨2, _, _, _, _, _, _, _, rfl, rfl, rfl, rfl⟩, ?_⟩; exact trivial) ?_
     exact fun H' hs => ⟨View.le_trans hle1 hs.base, by rw [← hto2]; rfl⟩
 · rintro r j H₁ _ h
   exact h.elim
end
end Go.Proofs.YtpdaenfglbgfkaaGreatDoor
end
section
namespace Go.Proofs.YtpdaenfglbgfkaaGreatDoor
open Go.RL
set_option maxRecDepth 10000
set_option maxHeartbeats 4000000
structure Told (l : List Int) : Prop where
 len : l.length ≤ 6
 pos : l ≠ []
 max : ∀ x ∈ l, -999 ≤ x ∧ x ≤ 999
structure TimesAt (H : View) (A : Option Addr) (l : List Int) : Prop where
 ex : ∃ ab ao f gs gt gz, A = some ⟨ab, ao, none⟩ ∧ H ab = some (f, .cells ⟨gs⟩ gt gz) ∧ ao + l.length * 1 ≤ gs.length ∧ (gs.drop ao).take (l.length * 1) = intsL l
theorem TimesAt.le {H H' : View} {A : Option Addr} {l : List Int} (h : TimesAt H A l) (k : H.le H') : TimesAt H' A l := by
 obtain ⟨ab, ao, f, gs, gt, gz, h1, h2, h3, h4⟩ := h.ex
 exact ⟨ab, ao, f, gs, gt, gz, h1, k _ _ h2, h3, h4⟩
theorem times_ld {gs : List Value} {ao : Nat} {l : List Int} (h : (gs.drop ao).take (l.length * 1) = intsL l) {j : Nat} (hj : j < l.length) : ldL false 1 gs (ao + (j : Int).toNat * 1) = some (.int .i64 (l[j]?.getD 0)) := by
 show gs[ao + (j : Int).toNat * 1]? = _
 rw [Nat.mul_one, Int.toNat_natCast]
 have h1 : ((gs.drop ao).take (l.length * 1))[j]? = (intsL l)[j]? := by rw [h]
 rw [List.getElem?_take_of_lt (by omega), List.getElem?_drop] at h1
 rw [h1]
 unfold intsL
 rw [List.getElem?_map, List.getElem?_eq_getElem hj]
 rfl
section
variable (M : Md Tryz.prog) (H : View)
theorem told_c (l : List Int) (hl : Told l) (A : Option Addr) (cap : Nat) (hT : TimesAt H A l) : CallT M 111 #[.slice A l.length cap] H (fun v H' => H.le H' ∧ v = .tuple ⟨[timesV (pad6 l), .int .i64 0]⟩) := by
 obtain ⟨ab, ao, f, gs, gt, gz, rfl, hA1, hA2, hA3⟩ := hT.ex
 obtain ⟨hl6, hne, hmax⟩ := hl
 have hn0 : intsL l ≠ [] := by
   cases l with
   | nil => exact (hne rfl).elim
   | cons a l => intro e; cases e
 have hsg : (intsL l).all single = true := by
   rw [List.all_eq_true]
   intro y hy
   obtain ⟨z, _, rfl⟩ := List.mem_map.1 hy
   rfl
 have hst : stL [Value.int .i64 0, .int .i64 0, .int .i64 0, .int .i64 0, .int .i64 0, .int .i64 0] 0 (intsL l) = intsL (pad6 l) := by
   unfold stL pad6
   rw [List.take_zero, List.nil_append, Nat.zero_add, intsL_len]
   have e1 : intsL (l ++ List.replicate (6 - l.length) 0) = intsL l ++ intsL (List.replicate (6 - l.length) 0) := by unfold intsL; rw [List.map_append]
   rw [e1]
   congr 1
   have : l.length = 0 ∨ l.length = 1 ∨ l.length = 2 ∨ l.length = 3 ∨ l.length = 4 ∨ l.length = 5 ∨ l.length = 6 := by omega
   rcases this with h | h | h | h | h | h | h <;> rw [h] <;> rfl
 have hp6 := pad6_len hl6
 have fP : ldL true 6 (intsL (pad6 l)) 0 = some (.agg ⟨intsL (pad6 l)⟩) := by
   unfold ldL
   have e1 : Nat.ble (0 + 6) (intsL (pad6 l)).length = true := by rw [intsL_len, hp6]; rfl
   simp only [e1]
   rw [List.drop_zero, List.take_of_length_le (by rw [intsL_len, hp6]; exact Nat.le_refl _)]
 have lA : Nat.beq (intsL (pad6 l)).length 6 = true := by rw [intsL_len, hp6]; rfl
 have lB : (intsL (pad6 l)).all single = true := by
   rw [List.all_eq_true]
   intro y hy
   obtain ⟨z, _, rfl⟩ := List.mem_map.1 hy
   rfl
 have lC : stL [Value.int .i64 0, .int .i64 0, .int .i64 0, .int .i64 0, .int .i64 0, .int .i64 0] 0 (intsL (pad6 l)) = intsL (pad6 l) := by
   unfold stL
   rw [List.take_zero, List.nil_append, List.drop_eq_nil_of_le (by rw [intsL_len, hp6]; simp), List.append_nil]
 refine CallT.enter (vs := [.slice (some ⟨ab, ao, none⟩) l.length cap]) Tryz.func111 rfl Tryz.ntmps111 (Nat.le_of_ble_eq_true rfl) (SymSt.nil _) fun St c cs hK => ?_
 refine .sr ?_
 refine .e (.al (zz := fun b2 => ?_))
 refine .g ?_
 refine .done (.sr ?_)
 refine .e (.al (zz := fun b4 => ?_))
 refine .done (.seq (.sr ?_))
 refine .m ?_
 refine .x .ln ?_
 refine .m ?_
 refine .done (.block ?_)
 refine Tc.db (Tc.loopInv (σ := { j : Nat // j ≤ l.length }) (fun j => ([(0, .slice (some ⟨ab, ao, none⟩) l.length cap), (2, .pointer (some ⟨b2, 0, none⟩)), (4, .pointer (some ⟨b4, 0, none⟩)), (7, .slice (some ⟨ab, ao, none⟩) l.length cap), (8, .int .i64 (l.length : Nat)), (9, .int .i64 (j.1 : Nat))],
   [(b4, true, .cells ⟨[.int .i64 0, .int .i64 0, .int .i64 0, .int .i64 0, .int .i64 0, .int .i64 0]⟩ 135 (0, 0)), (b2, true, .cells ⟨[.int .i64 0, .int .i64 0, .int .i64 0, .int .i64 0, .int .i64 0, .int .i64 0]⟩ 135 (0, 0))])) (fun j => l.length - j.1) ?_ ⟨0, by omega⟩)
 rintro ⟨j, hj⟩ ih
 show Tc M St _ _ _ _ [(0, .slice (some ⟨ab, ao, none⟩) l.length cap), (2, .pointer (some ⟨b2, 0, none⟩)), (4, .pointer (some ⟨b4, 0, none⟩)), (7, .slice (some ⟨ab, ao, none⟩) l.length cap), (8, .int .i64 (l.length : Nat)), (9, .int .i64 (j : Nat))]
   [(b4, true, .cells ⟨[.int .i64 0, .int .i64 0, .int .i64 0, .int .i64 0, .int .i64 0, .int .i64 0]⟩ 135 (0, 0)), (b2, true, .cells ⟨[.int .i64 0, .int .i64 0, .int .i64 0, .int .i64 0, .int .i64 0, .int .i64 0]⟩ 135 (0, 0))] _ _
 by_cases c1 : j = l.length
 · refine .sr ?_
   refine .i ?_ (z := lss_f (by omega))
   refine .done (.seq (.ff rfl (.exit rfl (.sr ?_))))
   refine .x (OpV.sliceA (E := en) (off' := 0) rfl rfl rfl rfl rfl rfl rfl rfl (by decide) (by decide) (by decide) (by rw [if_neg (by decide)]; rfl)) ?_
   refine .m ?_
   refine .e (Or.copy (E := en) (m := l.length) 0 rfl rfl rfl rfl rfl rfl rfl rfl rfl rfl rfl (fun H hs => hA3 ▸ SrcAt.of (hs.base _ _ hA1) hA2) hsg hl6 (by decide) hn0 rfl (by decide) hst ?_)
   refine .done (.sr ?_)
   refine .x (.ld 0) ?_
   refine .e (Or.storeT (E := en) 1 rfl rfl rfl rfl rfl lA rfl (by exact rfl) lB rfl lC ?_)
   refine .g ?_
   refine .done ?_
   refine Tc.retN (E := en) hK Tryz.func111 Tryz.results111 (vs := [.agg ⟨intsL (pad6 l)⟩, _]) (by refine ⟨⟨1, _, _, _, _, _, _, _, rfl, rfl, rfl, fP⟩, ⟨rfl, trivial⟩⟩) ?_
   exact fun H' hs => ⟨hs.base, rfl⟩
 · have c2 : j < l.length := by omega
   have f1 := times_ld hA3 c2
   have hm := hmax (l[j]?.getD 0) (by rw [List.getElem?_eq_getElem c2]; exact List.getElem_mem c2)
   refine .sr ?_
   refine .i ?_ (z := lss_t (by omega))
   refine .done (.seq (.tt rfl (.skip (.seq (.block (.sr ?_))))))
   refine .x .ia ?_
   refine .x .l0 ?_
   refine .g ?_
   refine .done (.sr ?_)
   refine .m ?_
   refine .i ?_ (z := lss_f (by omega))
   refine .m ?_
   refine .m ?_
   refine .i ?_ (z := gtr_f (by omega))
   refine .x .pk ?_
   refine .done (.ff rfl (.skip (.inBlock (.r ?_))))
   refine .i ?_ (z := add_in (by omega) (by omega))
   refine .m ?_
   refine .done ?_
   exact Tc.db (ih ⟨j + 1, by omega⟩ (by simp only; omega))
theorem Index_2 (b cap : Nat) (hb : H b = some (true, .cells ⟨[.int .i64 2, .int .i64 4, .int .i64 6]⟩ 3 (0, 0))) : CallT M 154 #[.slice (some ⟨b, 0, none⟩) 3 cap, .int .i64 2] H (fun v H' => H.le H' ∧ v = .int .i64 0) := by
 refine CallT.enter (vs := [.slice (some ⟨b, 0, none⟩) 3 cap, .int .i64 2]) Tryz.func154 rfl Tryz.ntmps154 (Nat.le_of_ble_eq_true rfl) (SymSt.nil _) fun St c cs hK => ?_
 refine .sr ?_
 refine .g ?_
 refine .done (.seq (.sr ?_))
 refine .m ?_
 refine .x .ln ?_
 refine .m ?_
 refine .done (.block (.loop (.sr ?_)))
 refine .i ?_ (z := lss_t (by omega))
 refine .done (.seq (.tt rfl (.skip (.seq (.block (.sr ?_))))))
 refine .m ?_
 refine .g ?_
 refine .done (.sr ?_)
 refine .m ?_
 refine .m ?_
 refine .m ?_
 refine .x .ia ?_
 refine .x .l0 ?_
 refine .i ?_ (z := eql_t (by omega))
 refine .done (.tt rfl (.sr ?_))
 refine .m ?_
 refine .g ?_
 refine .done ?_
 refine .rt hK Tryz.func154 Tryz.results154 [_] ?_
 exact fun H' hs => ⟨hs.base, rfl⟩
theorem Contains_2 (b cap : Nat) (hb : H b = some (true, .cells ⟨[.int .i64 2, .int .i64 4, .int .i64 6]⟩ 3 (0, 0))) : CallT M 110 #[.slice (some ⟨b, 0, none⟩) 3 cap, .int .i64 2] H (fun v H' => H.le H' ∧ v = .bool true) := by
 refine CallT.enter (vs := [.slice (some ⟨b, 0, none⟩) 3 cap, .int .i64 2]) Tryz.func110 rfl Tryz.ntmps110 (Nat.le_of_ble_eq_true rfl) (SymSt.nil _) fun St c cs hK => ?_
 refine .sr ?_
 refine .g ?_
 refine .done (.sr ?_)
 refine .m ?_
 refine .m ?_
 refine .c rfl rfl rfl rfl (fun H hs => .f ca154 rfl (Index_2 M H b cap (hs.base _ _ hb))) ?_
 refine .i ?_ (z := geq_t (by omega))
 refine .g ?_
 refine .done ?_
 refine .rt hK Tryz.func110 Tryz.results110 [_] ?_
 exact fun H' hs => ⟨hs.base, rfl⟩
end
end Go.Proofs.YtpdaenfglbgfkaaGreatDoor
end
section
namespace Go.Proofs.YtpdaenfglbgfkaaGreatDoor
open Go.RL
set_option maxRecDepth 10000
set_option maxHeartbeats 4000000
theorem pad6_in {l : List Int} (h : Told l) : ∀ x ∈ pad6 l, -10000 ≤ x ∧ x ≤ 10000 := by
 intro x hx
 unfold pad6 at hx
 rcases List.mem_append.1 hx with h1 | h1
 · have := h.max x h1; omega
 · have := (List.mem_replicate.1 h1).2; omega
theorem pad6_ld {l : List Int} (h : l.length ≤ 6) : ldL true 6 (intsL (pad6 l)) 0 = some (.agg ⟨intsL (pad6 l)⟩) := by
 have hp6 := pad6_len h
 unfold ldL
 have e1 : Nat.ble (0 + 6) (intsL (pad6 l)).length = true := by rw [intsL_len, hp6]; rfl
 simp only [e1]
 rw [List.drop_zero, List.take_of_length_le (by rw [intsL_len, hp6]; exact Nat.le_refl _)]
def Lk.sentOf (k : Lk) (l : List Int) (c : Nat) : Bool := decide ((placesTo c 7).length = l.length) && (k.tune (placesTo c 7) (pad6 l)).isSome
def TuneQ (o : Option (Int × Int)) (H : View) (v : Value) (H' : View) : Prop := H.le H' ∧ v = (match o with | some (a, b) => .tuple ⟨[bandV a b, .int .i64 0]⟩ | none => .tuple ⟨[bandV 0 0, .int .i64 10]⟩)
section
variable (M : Md Tryz.prog) (H : View)
theorem Contains_two (m : Nat) (h : m = 2) (b cap : Nat) (hb : H b = some (true, .cells ⟨[.int .i64 2, .int .i64 4, .int .i64 6]⟩ 3 (0, 0))) : CallT M 110 #[.slice (some ⟨b, 0, none⟩) 3 cap, .int .i64 (m : Nat)] H (fun v H' => H.le H' ∧ v = .bool true) := by
 subst h
 exact Contains_2 M H b cap hb
theorem sent_asks (k : Lk) (hk : k.Fine) (l : List Int) (hl : Told l) (h2 : 2 ≤ l.length) (A : Option Addr) (cap b3 b2 b7 : Nat) (hb3 : H b3 = some (true, .cells ⟨[.slice A l.length cap]⟩ 28 (0, 0))) (hb2 : H b2 = some (true, .cells ⟨k.val.cells.toList⟩ 27 (0, 0)))
   (hb7 : H b7 = some (true, .cells ⟨intsL (pad6 l)⟩ 135 (0, 0))) : Asks M H (.func (.func 112) #[] #[.pointer (some ⟨b3, 0, none⟩), .pointer (some ⟨b2, 0, none⟩), .pointer (some ⟨b7, 0, none⟩)]) 32 (k.sentOf l) := fun i hi H' hle => by
 refine FnT.of (first := []) (captured := [_, _, _]) ca112 rfl ?_
 have h3 := hle _ _ hb3
 have h2' := hle _ _ hb2
 have h7 := hle _ _ hb7
 have fP := pad6_ld hl.len
 refine CallT.enter (vs := [.int .i64 (i : Nat), .pointer (some ⟨b3, 0, none⟩), .pointer (some ⟨b2, 0, none⟩), .pointer (some ⟨b7, 0, none⟩)]) Tryz.func112 rfl Tryz.ntmps112 (Nat.le_of_ble_eq_true rfl) (SymSt.nil _) fun St c cs hK => ?_
 refine .sr ?_
 refine .g ?_
 refine .done (.sr ?_)
 refine .m ?_
 refine .e (Or.callNew (letN i) (letB i) (fun x => (placesTo i 7).length ≤ x.2.1) rfl rfl rfl rfl rfl (by decide) (letB_nodup i) (fun H hs => .f ca113 rfl (letterOf_m M H i hi)) (fun x hx => ?_))
 refine .e (.al (zz := fun b6 => ?_))
 refine .e (.st 0 (zz := ?_))
 refine .done (.seq (.seq ?_))
 by_cases hlen : (placesTo i 7).length = l.length
 · refine .r ?_
   refine .x .fa ?_
   refine .x (.ld 0) ?_
   refine .x .ln ?_
   refine .x .l0 ?_
   refine .x .ln ?_
   refine .i ?_ (z := neq_f (by omega))
   refine .done (.ff rfl (.skip (.seq ?_)))
   cases ht : k.tune (placesTo i 7) (pad6 l) with
   | none =>
     have hso : k.sentOf l i = false := by unfold Lk.sentOf; rw [ht]; simp
     refine .r ?_
     refine .x .l0 ?_
     refine .x .bu ?_
     refine .x (.ld 0) ?_
     refine .x .l0 ?_
     refine .c rfl rfl rfl rfl (fun H hs => .f ca114 rfl (CallT.is (.tuple ⟨[bandV 0 0, .bool false]⟩) (by rewrite [ht]; rfl) (tune_c M H k hk i x.1 x.2.1 (pad6 l) hi (edg_of fun y hy => hs.at_ y (by simp [hy])) hx (by omega) (pad6_len hl.len) (pad6_in hl)))) ?_
     refine .m ?_
     refine .x .et ?_
     refine .x .et ?_
     refine .e (.al (zz := fun b8 => ?_))
     refine .e (.st 0 (zz := ?_))
     refine .g ?_
     refine .done (.sr ?_)
     refine .m ?_
     refine .g ?_
     refine .done ?_
     refine .rt hK Tryz.func112 Tryz.results112 [_] ?_
     exact fun H2 hs => ⟨hs.base, by rw [hso]; rfl⟩
   | some ab =>
     obtain ⟨a, b⟩ := ab
     have hso : k.sentOf l i = true := by unfold Lk.sentOf; rw [ht, decide_eq_true hlen]; rfl
     refine .r ?_
     refine .x .l0 ?_
     refine .x .bu ?_
     refine .x (.ld 0) ?_
     refine .x .l0 ?_
     refine .c rfl rfl rfl rfl (fun H hs => .f ca114 rfl (CallT.is (.tuple ⟨[bandV a b, .bool true]⟩) (by rewrite [ht]; rfl) (tune_c M H k hk i x.1 x.2.1 (pad6 l) hi (edg_of fun y hy => hs.at_ y (by simp [hy])) hx (by omega) (pad6_len hl.len) (pad6_in hl)))) ?_
     refine .m ?_
     refine .x .et ?_
     refine .x .et ?_
     refine .e (.al (zz := fun b8 => ?_))
     refine .e (.st 0 (zz := ?_))
     refine .g ?_
     refine .done (.sr ?_)
     refine .m ?_
     refine .g ?_
     refine .done ?_
     refine .rt hK Tryz.func112 Tryz.results112 [_] ?_
     exact fun H2 hs => ⟨hs.base, by rw [hso]; rfl⟩
 · have hso : k.sentOf l i = false := by unfold Lk.sentOf; rw [decide_eq_false hlen]; rfl
   refine .r ?_
   refine .x .fa ?_
   refine .x (.ld 0) ?_
   refine .x .ln ?_
   refine .x .l0 ?_
   refine .x .ln ?_
   refine .i ?_ (z := neq_t (by omega))
   refine .done (.tt rfl (.sr ?_))
   refine .g ?_
   refine .done ?_
   refine .rt hK Tryz.func112 Tryz.results112 [_] ?_
   exact fun H2 hs => ⟨hs.base, by rw [hso]; rfl⟩
theorem Sent_two (k : Lk) (hG : Glob H) (hk : k.ok = true) (l : List Int) (hl : Told l) (h2 : l.length = 2) (A : Option Addr) (cap : Nat) (hT : TimesAt H A l) : CallT M 46 #[k.val, .slice A l.length cap] H (ToldQ (keepTo (k.sentOf l) 32) H) := by
 refine CallT.enter (vs := [k.val, .slice A l.length cap]) Tryz.func46 rfl Tryz.ntmps46 (Nat.le_of_ble_eq_true rfl) (SymSt.nil _) fun St c cs hK => ?_
 have hp6 := pad6_len hl.len
 have lA : Nat.beq (intsL (pad6 l)).length 6 = true := by rw [intsL_len, hp6]; rfl
 have lB : (intsL (pad6 l)).all single = true := by
   rw [List.all_eq_true]
   intro y hy
   obtain ⟨z, _, rfl⟩ := List.mem_map.1 hy
   rfl
 have lC : stL [Value.int .i64 0, .int .i64 0, .int .i64 0, .int .i64 0, .int .i64 0, .int .i64 0] 0 (intsL (pad6 l)) = intsL (pad6 l) := by
   unfold stL
   rw [List.take_zero, List.nil_append, List.drop_eq_nil_of_le (by rw [intsL_len, hp6]; simp), List.append_nil]
 refine .sr ?_
 refine .e (.bx (zz := fun b2 => ?_))
 refine .e (.bx (zz := fun b3 => ?_))
 refine .g ?_
 refine .g ?_
 refine .done (.seq (.sr ?_))
 refine .x (.ld 1) ?_
 refine .c rfl rfl rfl rfl (fun H hs => .f ca86 rfl (checkLink_good M H k (glob_le hG hs.base) hk)) ?_
 refine .g ?_
 refine .done (.sr ?_)
 refine .m ?_
 refine .i ?_ (z := neq_f (by omega))
 refine .done (.ff rfl (.skip (.seq (.sr ?_))))
 refine .e (.bs (zz := fun b4 => ?_))
 refine .x (.ld 1) ?_
 refine .x .ln ?_
 refine .c rfl rfl rfl rfl (fun H hs => .f ca110 rfl (Contains_two M H l.length h2 b4 3 (hs.get (i := 0) rfl))) ?_
 refine .x .nt ?_
 refine .done (.ff rfl (.skip (.sr ?_)))
 refine .x (.ld 1) ?_
 refine .c rfl rfl rfl rfl (fun H hs => .f ca111 rfl (told_c M H l hl A cap (hT.le hs.base))) ?_
 refine .m ?_
 refine .x .et ?_
 refine .x .et ?_
 refine .e (.al (zz := fun b7 => ?_))
 refine .e (Or.storeT (E := en) 0 rfl rfl rfl rfl rfl lA rfl (by exact rfl) lB rfl lC ?_)
 refine .g ?_
 refine .done (.seq (.sr ?_))
 refine .m ?_
 refine .i ?_ (z := neq_f (by omega))
 refine .done (.ff rfl (.skip (.sr ?_)))
 refine .x .mf ?_
 refine .e (Or.callNew Gl.val Gl.bl (fun g : Gl 3 1 => g.l = keepTo (k.sentOf l) 32) rfl rfl rfl rfl rfl (by decide) gl_nodup (fun H hs => .f ca97 rfl (keep_n M H 32 _ (k.sentOf l) (by decide) (sent_asks M H k (Lk.fine hk) l hl (by omega) A cap b3 b2 b7 (hs.get (i := 2) rfl) (hs.get (i := 3) rfl) (hs.get (i := 0) rfl)))) (fun g hg => ?_))
 refine .g ?_
 refine .g ?_
 refine .done ?_
 refine .rt hK Tryz.func46 Tryz.results46 [_, _] ?_
 exact fun H' hs => ⟨hs.base, g, rfl, hg, fun y hy => ⟨hs.at_ y (by simp [hy]), hs.out y (by simp [hy])⟩⟩
theorem Tune_c (k : Lk) (code : Nat) (hG : Glob H) (hk : k.ok = true) (hc : code < 32) (l : List Int) (hl : Told l) (h2 : 2 ≤ l.length) (hlen : l.length = (placesTo code 7).length) (A : Option Addr) (cap : Nat) (hT : TimesAt H A l) :
   CallT M 48 #[k.val, .int .i64 code, .slice A l.length cap] H (TuneQ (k.tune (placesTo code 7) (pad6 l)) H) := by
 refine CallT.enter (vs := [k.val, .int .i64 code, .slice A l.length cap]) Tryz.func48 rfl Tryz.ntmps48 (Nat.le_of_ble_eq_true rfl) (SymSt.nil _) fun St c cs hK => ?_
 have hp6 := pad6_len hl.len
 have fP := pad6_ld hl.len
 have lA : Nat.beq (intsL (pad6 l)).length 6 = true := by rw [intsL_len, hp6]; rfl
 have lB : (intsL (pad6 l)).all single = true := by
   rw [List.all_eq_true]
   intro y hy
   obtain ⟨z, _, rfl⟩ := List.mem_map.1 hy
   rfl
 have lC : stL [Value.int .i64 0, .int .i64 0, .int .i64 0, .int .i64 0, .int .i64 0, .int .i64 0] 0 (intsL (pad6 l)) = intsL (pad6 l) := by
   unfold stL
   rw [List.take_zero, List.nil_append, List.drop_eq_nil_of_le (by rw [intsL_len, hp6]; simp), List.append_nil]
 refine .sr ?_
 refine .e (.bx (zz := fun b3 => ?_))
 refine .e (.al (zz := fun b6 => ?_))
 refine .g ?_
 refine .done (.sr ?_)
 refine .x (.ld 1) ?_
 refine .m ?_
 refine .e (Or.callNew (fun x => .tuple ⟨[k.val, letN code x, .int .i64 0]⟩) (letB code) (fun x => (placesTo code 7).length ≤ x.2.1) rfl rfl rfl rfl rfl (by decide) (letB_nodup code) (fun H hs => .f ca89 rfl (open_m M H k code (glob_le hG hs.base) hk hc)) (fun x hx => ?_))
 refine .m ?_
 refine .x .et ?_
 refine .x .et ?_
 refine .x .et ?_
 refine .e (.al (zz := fun b8 => ?_))
 refine .e (.al (zz := fun b9 => ?_))
 refine .e (.st 1 (zz := ?_))
 refine .e (.st 0 (zz := ?_))
 refine .g ?_
 refine .done (.seq (.sr ?_))
 refine .m ?_
 refine .i ?_ (z := neq_f (by omega))
 refine .done (.ff rfl (.skip (.seq (.sr ?_))))
 refine .m ?_
 refine .x .ln ?_
 refine .x .fa ?_
 refine .x (.ld 0) ?_
 refine .x .ln ?_
 refine .i ?_ (z := neq_f (by omega))
 refine .done (.ff rfl (.skip (.sr ?_)))
 refine .m ?_
 refine .c rfl rfl rfl rfl (fun H hs => .f ca111 rfl (told_c M H l hl A cap (hT.le hs.base))) ?_
 refine .m ?_
 refine .x .et ?_
 refine .x .et ?_
 refine .e (.al (zz := fun b11 => ?_))
 refine .e (Or.storeT (E := en) 0 rfl rfl rfl rfl rfl lA rfl (by exact rfl) lB rfl lC ?_)
 refine .g ?_
 refine .done (.seq (.sr ?_))
 refine .m ?_
 refine .i ?_ (z := neq_f (by omega))
 refine .done (.ff rfl (.skip (.seq ?_)))
 cases ht : k.tune (placesTo code 7) (pad6 l) with
 | none =>
   refine .r ?_
   refine .x (.ld 2) ?_
   refine .x (.ld 1) ?_
   refine .x (.ld 0) ?_
   refine .c rfl rfl rfl rfl (fun H hs => .f ca114 rfl (CallT.is (.tuple ⟨[bandV 0 0, .bool false]⟩) (by rewrite [ht]; rfl) (tune_c M H k (Lk.fine hk) code x.1 x.2.1 (pad6 l) hc (edg_of fun y hy => hs.at_ y (by simp [hy])) hx (by omega) (pad6_len hl.len) (pad6_in hl)))) ?_
   refine .m ?_
   refine .x .et ?_
   refine .x .et ?_
   refine .e (.al (zz := fun b12 => ?_))
   refine .e (.st 0 (zz := ?_))
   refine .g ?_
   refine .done (.seq (.sr ?_))
   refine .m ?_
   refine .x .nt ?_
   refine .done (.tt rfl (.sr ?_))
   refine .x .bu ?_
   refine .e (.st 4 (zz := ?_))
   refine .g ?_
   refine .done ?_
   refine Tc.retN (E := en) hK Tryz.func48 Tryz.results48 (vs := [_, _]) (by refine ⟨⟨4, _, _, _, _, _, _, _, rfl, rfl, rfl, rfl⟩, ?_⟩; refine ⟨rfl, ?_⟩; exact trivial) ?_
   exact fun H2 hs => ⟨hs.base, by rw [ht]; rfl⟩
 | some ab =>
   obtain ⟨a, b⟩ := ab
   refine .r ?_
   refine .x (.ld 2) ?_
   refine .x (.ld 1) ?_
   refine .x (.ld 0) ?_
   refine .c rfl rfl rfl rfl (fun H hs => .f ca114 rfl (CallT.is (.tuple ⟨[bandV a b, .bool true]⟩) (by rewrite [ht]; rfl) (tune_c M H k (Lk.fine hk) code x.1 x.2.1 (pad6 l) hc (edg_of fun y hy => hs.at_ y (by simp [hy])) hx (by omega) (pad6_len hl.len) (pad6_in hl)))) ?_
   refine .m ?_
   refine .x .et ?_
   refine .x .et ?_
   refine .e (.al (zz := fun b12 => ?_))
   refine .e (.st 0 (zz := ?_))
   refine .g ?_
   refine .done (.seq (.sr ?_))
   refine .m ?_
   refine .x .nt ?_
   refine .done (.ff rfl (.skip (.sr ?_)))
   refine .x (.ld 0) ?_
   refine .e (.st 4 (zz := ?_))
   refine .g ?_
   refine .done ?_
   refine Tc.retN (E := en) hK Tryz.func48 Tryz.results48 (vs := [_, _]) (by refine ⟨⟨4, _, _, _, _, _, _, _, rfl, rfl, rfl, rfl⟩, ?_⟩; refine ⟨rfl, ?_⟩; exact trivial) ?_
   exact fun H2 hs => ⟨hs.base, by rw [ht]; rfl⟩
end
end Go.Proofs.YtpdaenfglbgfkaaGreatDoor
end
section
namespace Go.Proofs.YtpdaenfglbgfkaaGreatDoor
open Go.RL
set_option maxRecDepth 10000
set_option maxHeartbeats 4000000
structure Ch where
 s0 : Int
 s1 : Int
 a0 : Int
 a1 : Int
 r0 : Int
 r1 : Int
 n : Nat
 x : Nat → Int
 y : Nat → Int
 z : Nat → Int
 u : Nat → Int
 m : Nat
 at_ : Nat → Nat
def Ch.val (c : Ch) (lb lo lc ac : Nat) (A : Option Addr) : Value :=
 .agg ⟨[.int .i64 c.s0, .int .i64 c.s1, .slice (some ⟨lb, lo, none⟩) c.n lc, .int .i64 c.a0, .int .i64 c.a1, .int .i64 c.r0, .int .i64 c.r1, .slice A c.m ac]⟩
structure Ch.Ok (c : Ch) : Prop where
 n0 : 0 < c.n
 n4 : c.n ≤ 4
 x : ∀ i, i < c.n → -1000000 ≤ c.x i ∧ c.x i ≤ 1000000
 y : ∀ i, i < c.n → -1000000 ≤ c.y i ∧ c.y i ≤ 1000000
 z : ∀ i, i < c.n → -1000000 ≤ c.z i ∧ c.z i ≤ 1000000
 u : ∀ i, i < c.n → -1000000 ≤ c.u i ∧ c.u i ≤ 1000000
 lt : ∀ i, i < c.m → c.at_ i + 1 < c.n
 mono : ∀ i, i + 1 < c.m → c.at_ i < c.at_ (i + 1)
structure ChAt (H : View) (c : Ch) (lb lo lc : Nat) (A : Option Addr) : Prop where
 ln : ∃ f gs gt gz, H lb = some (f, .cells ⟨gs⟩ gt gz) ∧ ∀ i : Nat, i < c.n → ldL true 4 gs (lo + i * 4) = some (lineV (c.x i) (c.y i) (c.z i) (c.u i))
 lc : c.n ≤ lc
 at_ : 0 < c.m → ∃ ab ao f gs gt gz, A = some ⟨ab, ao, none⟩ ∧ H ab = some (f, .cells ⟨gs⟩ gt gz) ∧ ∀ i : Nat, i < c.m → ldL false 1 gs (ao + i * 1) = some (.int .i64 (c.at_ i : Nat))
theorem ChAt.le {H H' : View} {c : Ch} {lb lo lc : Nat} {A : Option Addr} (h : ChAt H c lb lo lc A) (k : H.le H') : ChAt H' c lb lo lc A := by
 obtain ⟨⟨f, gs, gt, gz, h1, h2⟩, h3, h4⟩ := h
 refine ⟨⟨f, gs, gt, gz, k _ _ h1, h2⟩, h3, fun hm => ?_⟩
 obtain ⟨ab, ao, f, gs, gt, gz, h5, h6, h7⟩ := h4 hm
 exact ⟨ab, ao, f, gs, gt, gz, h5, k _ _ h6, h7⟩
def Ch.fr (c : Ch) (i : Nat) : Nat := if i = 0 then 0 else c.at_ (i - 1) + 1
def Ch.to (c : Ch) (i : Nat) : Nat := if i < c.m then c.at_ i + 1 else c.n
def Ch.lk (c : Ch) (i : Nat) : Lk :=
 ⟨if i = 0 then c.s0 else c.a0, if i = 0 then c.s1 else c.a1, if i < c.m then c.a0 else c.r0, if i < c.m then c.a1 else c.r1,
   sumI (fun j => c.x (c.fr i + j)) (c.to i - c.fr i), sumI (fun j => c.y (c.fr i + j)) (c.to i - c.fr i), sumI (fun j => c.z (c.fr i + j)) (c.to i - c.fr i), sumI (fun j => c.u (c.fr i + j)) (c.to i - c.fr i)⟩
def Ch.fits (c : Ch) (i : Nat) : Bool := (⟨0, 0, 0, 0, (c.lk i).l0, (c.lk i).l1, (c.lk i).m0, (c.lk i).m1⟩ : Lk).lineOk
theorem Ch.Ok.mono' {c : Ch} (h : c.Ok) : ∀ j i : Nat, i < j → j < c.m → c.at_ i < c.at_ j
 | 0, i, h1, _ => by omega
 | j + 1, i, h1, h2 => by
   have h3 := h.mono j h2
   by_cases e : i = j
   · subst e; exact h3
   · have := h.mono' j i (by omega) (by omega); omega
theorem Ch.Ok.up {c : Ch} (h : c.Ok) : ∀ j : Nat, j < c.m → j ≤ c.at_ j
 | 0, _ => by omega
 | j + 1, h2 => by
   have h3 := h.mono j h2
   have := h.up j (by omega)
   omega
theorem Ch.Ok.m_lt {c : Ch} (h : c.Ok) : c.m < c.n := by
 have h0 := h.n0
 by_cases e : c.m = 0
 · omega
 · have h1 := h.up (c.m - 1) (by omega)
   have h2 := h.lt (c.m - 1) (by omega)
   omega
theorem Ch.Ok.ends {c : Ch} (h : c.Ok) {i : Nat} (hi : i ≤ c.m) : c.fr i < c.to i ∧ c.to i ≤ c.n := by
 unfold Ch.fr Ch.to
 have h0 := h.n0
 by_cases e : i = 0
 · rw [if_pos e]
   split
   · have := h.lt i (by omega); omega
   · omega
 · rw [if_neg e]
   have h1 := h.lt (i - 1) (by omega)
   split
   · have h2 := h.lt i (by omega)
     have := h.mono' i (i - 1) (by omega) (by omega)
     omega
   · omega
section
variable {M : Md Tryz.prog} {St : View → Goroutine → Prop} {n : Nat} {b : FB} {H₀ : View} {cs : List Frame} {R : Rg} {L : Bl} {ds : List Deferred} {k : List Item}
theorem Tc.via2 {x y : Item} (F : Rg → Bl → Prop) (hF : ∀ R L, F R L → Tc M St n b H₀ cs R L ds k) (h : (∀ R L, F R L → Tc M St n b H₀ cs R L ds k) → Tc M St n b H₀ cs R L ds (x :: y :: k)) : Tc M St n b H₀ cs R L ds (x :: y :: k) := h hF
end
section
variable (M : Md Tryz.prog) (H : View)
theorem section_c (ch : Ch) (i lb lo lc ac : Nat) (A : Option Addr) (hc : ch.Ok) (hA : ChAt H ch lb lo lc A) (hi : i ≤ ch.m) (hG : Glob H) :
   CallT M 122 #[ch.val lb lo lc ac A, .int .i64 i] H (fun v H' => H.le H' ∧ v = .tuple ⟨[(ch.lk i).val, .bool (ch.fits i)]⟩) := by
 refine CallT.enter (vs := [ch.val lb lo lc ac A, .int .i64 i]) Tryz.func122 rfl Tryz.ntmps122 (Nat.le_of_ble_eq_true rfl) (SymSt.nil _) fun St c cs hK => ?_
 have hend := hc.ends hi
 have hm3 : ch.at_ i + 1 < ch.n ∨ ch.m ≤ i := by
   by_cases e : i < ch.m
   · exact .inl (hc.lt i e)
   · exact .inr (by omega)
 have hn4 := hc.n4
 have hmn := hc.m_lt
 refine .sr ?_
 refine .e (.bx (zz := fun b2 => ?_))
 refine .e (.al (zz := fun b4 => ?_))
 refine .g ?_
 refine .done (.sr ?_)
 refine .x .fa ?_
 refine .x .fa ?_
 refine .x (.ld 1) ?_
 refine .x .fa ?_
 refine .x .fa ?_
 refine .x (.ld 1) ?_
 refine .x .bu ?_
 refine .x .bu ?_
 refine .e (.al (zz := fun b6 => ?_))
 refine .e (.st 0 (zz := ?_))
 refine .done (.seq ?_)
 refine Tc.dr [] [] mixed rfl ?_
 refine .q 0 rfl .fa ?_
 refine .q 1 rfl .fa ?_
 refine .q 2 rfl (.ld 2) ?_
 refine .q 3 rfl .ln ?_
 refine .q 4 rfl .sg ?_
 refine .q 5 rfl .sg ?_
 refine Ta.done (by kernel_rfl) ?_
 refine .seq (.seq ?_)
 refine Tc.via2 (fun R' L' => AllIn [(1, .int .i64 (i : Nat)), (2, .pointer (some ⟨b2, 0, none⟩)), (4, .pointer (some ⟨b4, 0, none⟩)), (6, .pointer (some ⟨b6, 0, none⟩)), (7, .int .i64 (ch.fr i : Nat)), (8, .int .i64 (ch.n : Nat))] R' ∧
   L' = [(b6, true, .cells ⟨[.int .i64 (ch.lk i).s0, .int .i64 (ch.lk i).s1, .int .i64 ch.r0, .int .i64 ch.r1, .int .i64 0, .int .i64 0, .int .i64 0, .int .i64 0]⟩ 109 (0, 0)), (b4, true, .cells ⟨[.int .i64 0, .int .i64 0, .int .i64 0, .int .i64 0, .int .i64 0, .int .i64 0, .int .i64 0, .int .i64 0]⟩ 109 (0, 0)), (b2, true, .cells ⟨(ch.val lb lo lc ac A).cells.toList⟩ 146 (0, 0))]) ?_ (fun fin => ?_)
 · rintro R' L' ⟨hR, rfl⟩
   refine Tc.dropB ?_ hR (List.Sublist.refl _)
   refine .seq (.seq ?_)
   refine Tc.via2 (fun R' L' => AllIn [(2, .pointer (some ⟨b2, 0, none⟩)), (4, .pointer (some ⟨b4, 0, none⟩)), (6, .pointer (some ⟨b6, 0, none⟩)), (7, .int .i64 (ch.fr i : Nat)), (8, .int .i64 (ch.to i : Nat))] R' ∧
     L' = [(b6, true, .cells ⟨[.int .i64 (ch.lk i).s0, .int .i64 (ch.lk i).s1, .int .i64 (ch.lk i).r0, .int .i64 (ch.lk i).r1, .int .i64 0, .int .i64 0, .int .i64 0, .int .i64 0]⟩ 109 (0, 0)), (b4, true, .cells ⟨[.int .i64 0, .int .i64 0, .int .i64 0, .int .i64 0, .int .i64 0, .int .i64 0, .int .i64 0, .int .i64 0]⟩ 109 (0, 0)), (b2, true, .cells ⟨(ch.val lb lo lc ac A).cells.toList⟩ 146 (0, 0))]) ?_ (fun fin => ?_)
   · rintro R' L' ⟨hR, rfl⟩
     refine Tc.dropB ?_ hR (List.Sublist.refl _)
     obtain ⟨f, gs, gt, gz, hA1, hA2⟩ := hA.ln
     have hlc := hA.lc
     have hj : ∀ j : Nat, j < ch.to i - ch.fr i → ldL true 4 gs ((lo + ch.fr i * 4) + j * 4) = some (lineV (ch.x (ch.fr i + j)) (ch.y (ch.fr i + j)) (ch.z (ch.fr i + j)) (ch.u (ch.fr i + j))) := fun j hj => by
       rw [show lo + ch.fr i * 4 + j * 4 = lo + (ch.fr i + j) * 4 by omega]
       exact hA2 _ (by omega)
     refine .sr ?_
     refine .x .fa ?_
     refine .x .fa ?_
     refine .x (.ld 2) ?_
     refine .m ?_
     refine .m ?_
     refine .x (OpV.slice (E := en) (l := (ch.fr i : Nat)) (h := (ch.to i : Nat)) (off' := lo + ch.fr i * 4) rfl rfl rfl rfl rfl rfl rfl rfl (by omega) (by omega) (by omega) (by rw [if_neg (by omega)]; rfl)) ?_
     refine .c rfl rfl rfl rfl (fun H hs => .f ca125 rfl (join_c M H lb (lo + ch.fr i * 4) (ch.to i - ch.fr i) (lc - ch.fr i) f gs gt gz (fun j => ch.x (ch.fr i + j)) (fun j => ch.y (ch.fr i + j)) (fun j => ch.z (ch.fr i + j)) (fun j => ch.u (ch.fr i + j)) (by omega) (hs.base _ _ hA1) hj (fun j hj => hc.x _ (by omega)) (fun j hj => hc.y _ (by omega)) (fun j hj => hc.z _ (by omega)) (fun j hj => hc.u _ (by omega)))) ?_
     refine .x .fa ?_
     refine .x .fa ?_
     refine .e (.st 0 (zz := ?_))
     refine .done (.seq ?_)
     cases hf : ch.fits i with
     | true =>
       refine Tc.dr [6] [1] mixed rfl ?_
       refine .q 0 rfl (.ld 0) ?_
       refine Ta.tkw 1 (by kernel_rfl) rfl rfl rfl (by decide) rfl rfl (OpV.take .fa) ?_
       refine Ta.tkw 2 (by kernel_rfl) rfl rfl rfl (by decide) rfl rfl (OpV.take .fa) ?_
       refine Ta.tkw 3 (by kernel_rfl) rfl rfl rfl (by decide) rfl rfl (OpV.take (.ld 0)) ?_
       refine .z 4 rfl (OpV.takeCall rfl rfl rfl rfl (fun H hs => .f ca126 rfl (CallT.mono (checkLine_c M H (ch.lk i).l0 (ch.lk i).l1 (ch.lk i).m0 (ch.lk i).m1 (glob_le hG hs.base)) (Q' := fun v H' => H.le H' ∧ v = .int .i64 0) (by rintro v H' ⟨h1, h2⟩; unfold Ch.fits at hf; rw [hf] at h2; exact ⟨h1, h2⟩)))) ?_
       refine Ta.tkw 5 (by kernel_rfl) rfl rfl rfl (by decide) rfl rfl (OpV.take (.it (zz := eql_t (by omega)))) ?_
       refine Ta.each [6] (by kernel_rfl) rfl ⟨TaOp.mk rfl rfl rfl (.st 1 (zz := ⟨S2.mk (by apply List.Sublist.cons_cons; apply List.Sublist.cons; exact List.Sublist.refl _) (.inl (by kernel_rfl)), ?_⟩)), trivial⟩
       refine Ta.tkw 7 (by kernel_rfl) rfl rfl rfl (by decide) rfl rfl (OpV.take .sg) ?_
       refine Ta.done (by kernel_rfl) ?_
       refine Tc.retN (E := en) hK Tryz.func122 Tryz.results122 (vs := [_, _]) (by refine ⟨⟨1, _, _, _, _, _, _, _, rfl, rfl, rfl, rfl⟩, ?_⟩; refine ⟨rfl, ?_⟩; exact trivial) ?_
       exact fun H' hs => ⟨hs.base, by rw [hf]; rfl⟩
     | false =>
       refine Tc.dr [6] [1] mixed rfl ?_
       refine .q 0 rfl (.ld 0) ?_
       refine Ta.tkw 1 (by kernel_rfl) rfl rfl rfl (by decide) rfl rfl (OpV.take .fa) ?_
       refine Ta.tkw 2 (by kernel_rfl) rfl rfl rfl (by decide) rfl rfl (OpV.take .fa) ?_
       refine Ta.tkw 3 (by kernel_rfl) rfl rfl rfl (by decide) rfl rfl (OpV.take (.ld 0)) ?_
       refine .z 4 rfl (OpV.takeCall rfl rfl rfl rfl (fun H hs => .f ca126 rfl (CallT.mono (checkLine_c M H (ch.lk i).l0 (ch.lk i).l1 (ch.lk i).m0 (ch.lk i).m1 (glob_le hG hs.base)) (Q' := fun v H' => H.le H' ∧ v = .int .i64 1) (by rintro v H' ⟨h1, h2⟩; unfold Ch.fits at hf; rw [hf] at h2; exact ⟨h1, h2⟩)))) ?_
       refine Ta.tkw 5 (by kernel_rfl) rfl rfl rfl (by decide) rfl rfl (OpV.take (.it (zz := eql_f (by omega)))) ?_
       refine Ta.each [6] (by kernel_rfl) rfl ⟨TaOp.mk rfl rfl rfl (.st 1 (zz := ⟨S2.mk (by apply List.Sublist.cons_cons; apply List.Sublist.cons; exact List.Sublist.refl _) (.inl (by kernel_rfl)), ?_⟩)), trivial⟩
       refine Ta.tkw 7 (by kernel_rfl) rfl rfl rfl (by decide) rfl rfl (OpV.take .sg) ?_
       refine Ta.done (by kernel_rfl) ?_
       refine Tc.retN (E := en) hK Tryz.func122 Tryz.results122 (vs := [_, _]) (by refine ⟨⟨1, _, _, _, _, _, _, _, rfl, rfl, rfl, rfl⟩, ?_⟩; refine ⟨rfl, ?_⟩; exact trivial) ?_
       exact fun H' hs => ⟨hs.base, by rw [hf]; rfl⟩
   · by_cases h0 : i < ch.m
     · have e1 : ch.to i = ch.at_ i + 1 := if_pos h0
       have e2 : (ch.lk i).r0 = ch.a0 := if_pos h0
       have e3 : (ch.lk i).r1 = ch.a1 := if_pos h0
       obtain ⟨ab, ao, f, gs, gt, gz, rfl, hA3, hA4⟩ := hA.at_ (by omega)
       have hld : ldL false 1 gs (ao + ((i : Nat) : Int).toNat * 1) = some (.int .i64 (ch.at_ i : Nat)) := hA4 i h0
       have hlt := hc.lt i h0
       refine .r ?_
       refine .m ?_
       refine .x .fa ?_
       refine .x (.ld 2) ?_
       refine .x .ln ?_
       refine .i ?_ (z := lss_t (by omega))
       refine .done (.tt rfl ?_)
       refine Tc.dr [11] [0] mixed rfl ?_
       refine .q 0 rfl .fa ?_
       refine .q 1 rfl .fa ?_
       refine .q 2 rfl (.ld 2) ?_
       refine Ta.tkw 3 (by kernel_rfl) rfl rfl rfl (by decide) rfl rfl (OpV.take .fa) ?_
       refine Ta.tkw 4 (by kernel_rfl) rfl rfl rfl (by decide) rfl rfl (OpV.take (.ld 1)) ?_
       refine Ta.tkw 5 (by kernel_rfl) rfl rfl rfl (by decide) rfl rfl (OpV.take .mv) ?_
       refine Ta.tkw 6 (by kernel_rfl) rfl rfl rfl (by decide) rfl rfl (OpV.take .ia) ?_
       refine Ta.tkw 7 (by kernel_rfl) rfl rfl rfl (by decide) rfl rfl (OpV.take .l0) ?_
       refine Ta.tkw 8 (by kernel_rfl) rfl rfl rfl (by decide) rfl rfl (OpV.take (.it (zz := add_in (by omega) (by omega)))) ?_
       refine Ta.tkw 9 (by kernel_rfl) rfl rfl rfl (by decide) rfl rfl (OpV.take .fa) ?_
       refine .q 10 rfl .fa ?_
       refine Ta.each [11] (by kernel_rfl) rfl ⟨TaOp.mk rfl rfl rfl (.st 0 (zz := ⟨S2.mk (by apply List.Sublist.cons; exact List.Sublist.refl _) (.inl (by kernel_rfl)), ?_⟩)), trivial⟩
       refine Ta.tkw 12 (by kernel_rfl) rfl rfl rfl (by decide) rfl rfl (OpV.take .sg) ?_
       refine Ta.done (by kernel_rfl) ?_
       refine fin _ _ ⟨?_, ?_⟩
       · rw [e1]
         refine ⟨rfl, ?_⟩; refine ⟨rfl, ?_⟩; refine ⟨rfl, ?_⟩; refine ⟨rfl, ?_⟩; refine ⟨rfl, ?_⟩; exact trivial
       · rw [e2, e3]
         rfl
     · have e1 : ch.to i = ch.n := if_neg h0
       have e2 : (ch.lk i).r0 = ch.r0 := if_neg h0
       have e3 : (ch.lk i).r1 = ch.r1 := if_neg h0
       refine .r ?_
       refine .m ?_
       refine .x .fa ?_
       refine .x (.ld 2) ?_
       refine .x .ln ?_
       refine .i ?_ (z := lss_f (by omega))
       refine .done (.ff rfl (.skip ?_))
       refine fin _ _ ⟨?_, ?_⟩
       · rw [e1]
         refine ⟨rfl, ?_⟩; refine ⟨rfl, ?_⟩; refine ⟨rfl, ?_⟩; refine ⟨rfl, ?_⟩; refine ⟨rfl, ?_⟩; exact trivial
       · rw [e2, e3]
 · by_cases h0 : i = 0
   · subst h0
     refine .r ?_
     refine .m ?_
     refine .i ?_ (z := gtr_f (by omega))
     refine .done (.ff rfl (.skip ?_))
     exact fin _ _ ⟨⟨rfl, rfl, rfl, rfl, rfl, rfl, trivial⟩, rfl⟩
   · have e1 : ch.fr i = ch.at_ (i - 1) + 1 := if_neg h0
     have e2 : (ch.lk i).s0 = ch.a0 := if_neg h0
     have e3 : (ch.lk i).s1 = ch.a1 := if_neg h0
     obtain ⟨ab, ao, f, gs, gt, gz, rfl, hA3, hA4⟩ := hA.at_ (by omega)
     have hld : ldL false 1 gs (ao + (((i : Nat) : Int) - 1).toNat * 1) = some (.int .i64 (ch.at_ (i - 1) : Nat)) := by
       rw [show (((i : Nat) : Int) - 1).toNat = i - 1 by omega]
       exact hA4 (i - 1) (by omega)
     have hlt := hc.lt (i - 1) (by omega)
     refine .r ?_
     refine .m ?_
     refine .i ?_ (z := gtr_t (by omega))
     refine .done (.tt rfl ?_)
     refine Tc.dr [12] [0] mixed rfl ?_
     refine .q 0 rfl .fa ?_
     refine .q 1 rfl .fa ?_
     refine .q 2 rfl (.ld 2) ?_
     refine Ta.tkw 3 (by kernel_rfl) rfl rfl rfl (by decide) rfl rfl (OpV.take .fa) ?_
     refine Ta.tkw 4 (by kernel_rfl) rfl rfl rfl (by decide) rfl rfl (OpV.take (.ld 1)) ?_
     refine Ta.tkw 5 (by kernel_rfl) rfl rfl rfl (by decide) rfl rfl (OpV.take .mv) ?_
     refine Ta.tkw 6 (by kernel_rfl) rfl rfl rfl (by decide) rfl rfl (OpV.take (.it (zz := sub_in (by omega) (by omega)))) ?_
     refine Ta.tkw 7 (by kernel_rfl) rfl rfl rfl (by decide) rfl rfl (OpV.take .ia) ?_
     refine Ta.tkw 8 (by kernel_rfl) rfl rfl rfl (by decide) rfl rfl (OpV.take .l0) ?_
     refine Ta.tkw 9 (by kernel_rfl) rfl rfl rfl (by decide) rfl rfl (OpV.take (.it (zz := add_in (by omega) (by omega)))) ?_
     refine Ta.tkw 10 (by kernel_rfl) rfl rfl rfl (by decide) rfl rfl (OpV.take .fa) ?_
     refine .q 11 rfl .fa ?_
     refine Ta.each [12] (by kernel_rfl) rfl ⟨TaOp.mk rfl rfl rfl (.st 0 (zz := ⟨S2.mk (by apply List.Sublist.cons; exact List.Sublist.refl _) (.inl (by kernel_rfl)), ?_⟩)), trivial⟩
     refine Ta.tkw 13 (by kernel_rfl) rfl rfl rfl (by decide) rfl rfl (OpV.take .sg) ?_
     refine Ta.done (by kernel_rfl) ?_
     refine fin _ _ ⟨?_, ?_⟩
     · rw [e1]
       refine ⟨rfl, ?_⟩; refine ⟨rfl, ?_⟩; refine ⟨rfl, ?_⟩; refine ⟨rfl, ?_⟩; refine ⟨rfl, ?_⟩; refine ⟨rfl, ?_⟩; exact trivial
     · rw [e2, e3]
       rfl
end
end Go.Proofs.YtpdaenfglbgfkaaGreatDoor
end
section
namespace Go.RL
open Go.Conc Go.ConcN Go.RL.Au
open Go.ConcR (stA smA mk)
open Go.ConcM (muA msA OsLater)
section
variable {P : Program} {X : Fk} {κ : Nat}
theorem Sat.left {H F : View} {w : World} (h : Sat (H.plus F) w) : Sat H w := fun b f o hb => h b f o (plus_left hb)
theorem Qt.mono {K K' : Goroutine → Prop} (hk : ∀ g, K g → K' g) : ∀ {n : Nat} {g : Goroutine}, Qt P K n g → Qt P K' n g
 | 0, _, h => hk _ h
 | _ + 1, _, ⟨h1, g', h2, h3⟩ => ⟨h1, g', h2, Qt.mono hk h3⟩
theorem plus_putW {H F : View} {c : Nat} {x : Bool × Obj} : (H.plus F).put c x = (H.put c x).plus (F.without c) := by
 funext b
 by_cases e : b = c
 · subst e
   rw [View.put_same, plus_left (View.put_same ..)]
 · rw [View.put_other _ _ e]
   unfold View.plus
   rw [View.put_other _ _ e, without_other e]
theorem Dj.putW {H F : View} (h : Dj H F) {c : Nat} {x : Bool × Obj} : Dj (H.put c x) (F.without c) := fun b y hb => by
 by_cases e : b = c
 · subst e; simp [View.without] at hb
 · rw [without_other e] at hb
   rw [View.put_other _ _ e]
   exact h b y hb
theorem T.less {M : Md P} {St : View → Goroutine → Prop} {H F : View} {g : Goroutine} (hc : ∀ H g F, Dj H F → St H g → St (H.plus F) g) (h : T M St H g) (hd : Dj H F) : T M St (H.plus F) g :=
 (h.frame F hd).bind fun _ _ ⟨H', e, h1, h2⟩ => .stop (e ▸ hc H' _ F h1 h2)
theorem WS.less : ∀ (k : Nat) (t : Th) (D : Nat → Bool) (H : View) (g : Goroutine) (F : View), Dj H F → WS P X κ k t D H g → WS P X κ k t D (H.plus F) g
 | 0, _, _, _, _, _, _, _ => trivial
 | k + 1, t, D, H, g, F, hd, ⟨h1, h2, h3, h4, h5, h6⟩ => by
   have hT : ∀ (t : Th) (D : Nat → Bool) (H F : View) (g : Goroutine), Dj H F → T (Mw P false X.ok) (WS P X κ k t D) H g → T (Mw P false X.ok) (WS P X κ k t D) (H.plus F) g := fun t D H F g hd h => T.less (fun H g F hd h => WS.less k t D H g F hd h) h hd
   refine ⟨h1, fun e D' o hD ho w hw => ?_, fun e => ?_, fun e w hw => ?_, h5, fun e w s hw hs ho hl hf => ?_⟩
   · obtain ⟨g', h7, h8⟩ := h2 e D' o hD ho w hw.left
     refine ⟨g', h7, ?_⟩
     rw [plus_putW]
     exact hT _ _ _ _ _ hd.putW h8
   · obtain ⟨o, H', rfl, h7, h8, h9⟩ := h3 e
     have hF : F X.C = none := by
       cases hx : F X.C with
       | none => rfl
       | some y => have := hd _ _ hx; rw [View.put_same] at this; cases this
     have hd' : Dj H' F := fun b x hb => by
       have := hd b x hb
       have hne : b ≠ X.C := by rintro rfl; rw [hF] at hb; cases hb
       rwa [View.put_other _ _ hne] at this
     refine ⟨o, H'.plus F, ?_, ?_, h8, fun w hw => ?_⟩
     · rw [plus_putW]
       congr 1
       funext b
       by_cases e : b = X.C
       · subst e; simp [View.without, hF]
       · rw [without_other e]
     · rw [plus_right h7, hF]
     · obtain ⟨g', h10, h11⟩ := h9 w hw.left
       exact ⟨g', h10, hT _ _ _ _ _ hd' h11⟩
   · obtain ⟨g', h7, n, h8⟩ := h4 e w hw.left
     exact ⟨g', h7, n, h8.mono fun g hg => WS.less k _ _ _ _ _ hd hg⟩
   · rcases h6 e w s hw.left hs ho hl hf with h7 | ⟨t', s', g', w', es, a1, a2, a3, a4, a5, a6, a7, a8, a9⟩
     · exact .inl h7
     · refine .inr ⟨t', s', g', w', es, a1, a2, a3, a4, a5, a6, a7, fun b1 b2 => ?_, fun b => hT _ _ _ _ _ hd (a9 b)⟩
       obtain ⟨n, hn⟩ := a8 b1 b2
       exact ⟨n, hn.mono fun g hg => WS.less k _ _ _ _ _ hd hg⟩
theorem Jw.less {k : Nat} {t : Th} {D : Nat → Bool} {H F : View} {g : Goroutine} (h : Jw P X κ k t D H g) (hd : Dj H F) : Jw P X κ k t D (H.plus F) g :=
 ⟨h.1, fun e hm => let ⟨n, hn⟩ := h.2.1 e hm; ⟨n, hn.mono fun _ hg => WS.less k _ _ _ _ _ hd hg⟩, fun hm => T.less (fun H g F hd h => WS.less k t D H g F hd h) (h.2.2 hm) hd⟩
theorem without_plus {H : View} {b : Nat} : ∃ F, Dj (H.without b) F ∧ (H.without b).plus F = H := by
 refine ⟨fun c => if c = b then H c else none, fun c x hc => ?_, ?_⟩
 · by_cases e : c = b
   · subst e; simp [View.without]
   · simp [e] at hc
 · funext c
   by_cases e : c = b
   · subst e; simp [View.plus, View.without]
   · simp [View.plus, View.without, e]
     cases H c <;> rfl
theorem Jw.forget {k : Nat} {t : Th} {D : Nat → Bool} {H : View} (b : Nat) {g : Goroutine} (h : Jw P X κ k t D (H.without b) g) : Jw P X κ k t D H g := by
 obtain ⟨F, h1, h2⟩ := without_plus (H := H) (b := b)
 have := h.less h1
 rwa [h2] at this
theorem OpP.makeFunc {n : Nat} {sh : Shp} {R : Rg} {o : Oper} {f : Fn} {first caps : Array Operand} {vs ws : List Value} (hop : o.op = .makeFunc f first caps) (h1 : evRs R first.toList = some vs) (h2 : evRs R caps.toList = some ws) : OpP P sh n R o (.func f vs.toArray ws.toArray) := fun tmps hr => by
 unfold execOp; rw [hop]
 show Next.value _ = _
 have e1 : first.map (evT tmps) = vs.toArray := by
   rw [← hr.evs h1, List.map_toArray.symm]
 have e2 : caps.map (evT tmps) = ws.toArray := by
   rw [← hr.evs h2, List.map_toArray.symm]
 rw [e1, e2]
theorem T.none {M : Md P} {St : View → Goroutine → Prop} {C : Nat} {H : View} {g : Goroutine} (hok : ∀ w, M.ok w → C < w.heap.size) (hph : ∀ H g Po, ¬ M.Ph H g Po) (h : T M St H g) : H C = Option.none → T M (fun H' g' => H' C = Option.none ∧ St H' g') H g :=
 h (fun H g => H C = Option.none → T M (fun H' g' => H' C = Option.none ∧ St H' g') H g) (fun _ _ hs hc => .stop ⟨hc, hs⟩) (fun H g hs hc => .step ⟨hs.1, fun w hw ho => by
   obtain ⟨g', w', es, H', h1, h2, h3⟩ := hs.2 w hw ho
   refine ⟨g', w', es, H', h1, h2, h3 ?_⟩
   cases hx : H' C with
   | none => rfl
   | some x =>
     obtain ⟨f, o⟩ := x
     rcases h2.ext _ _ _ hx with ⟨o', ho'⟩ | ⟨_, hle⟩
     · rw [hc] at ho'; cases ho'
     · have := hok w ho; omega⟩) (fun _ _ _ hp => (hph _ _ _ hp).elim)
theorem T.none' {main : Bool} {St : View → Goroutine → Prop} {H : View} {g : Goroutine} (hc : H X.C = Option.none) (h : T (Mw P main X.ok) (fun H' g' => H' X.C = Option.none → T (Mw P main X.ok) St H' g') H g) : T (Mw P main X.ok) St H g :=
 (T.none (M := Mw P main X.ok) (C := X.C) (fun _ (h : X.ok _) => h.1) (fun _ _ _ h => h) h hc).bind fun _ _ ⟨h1, h2⟩ => h2 h1
theorem Sc.none {main : Bool} {St : View → Goroutine → Prop} {H : View} {n : Nat} {b : FB} {cs : List Frame} {R : Rg} {ds : List Deferred} {kk : List Item} (hc : H X.C = Option.none)
   (h : Sc (T (Mw P main X.ok) (fun H' g' => H' X.C = Option.none → T (Mw P main X.ok) St H' g') H) n b cs R ds kk) : Sc (T (Mw P main X.ok) St H) n b cs R ds kk := fun tmps hr => T.none' hc (h tmps hr)
theorem Sc.stopNone {main : Bool} {St : View → Goroutine → Prop} {H : View} {n : Nat} {b : FB} {cs : List Frame} {R : Rg} {ds : List Deferred} {kk : List Item}
   (h : H X.C = Option.none → Sc (T (Mw P main X.ok) St H) n b cs R ds kk) : Sc (T (Mw P main X.ok) (fun H' g' => H' X.C = Option.none → T (Mw P main X.ok) St H' g') H) n b cs R ds kk := fun tmps hr => .stop fun hc => h hc tmps hr
theorem Sc.mono {J J' : Goroutine → Prop} {n : Nat} {b : FB} {cs : List Frame} {R : Rg} {ds : List Deferred} {kk : List Item} (h : Sc J n b cs R ds kk) (hj : ∀ g, J g → J' g) : Sc J' n b cs R ds kk := fun tmps hr => hj _ (h tmps hr)
end
end Go.RL
end
section
namespace Go.Proofs.YtpdaenfglbgfkaaGreatDoor
open Go.RL Go.Conc
set_option maxRecDepth 10000
theorem e190 : Ent Tryz.prog 190 (Extern.Race.marked .releaseMerge) := ⟨Tryz.f190, Tryz.func190, by kernel_rfl, by kernel_rfl, by kernel_rfl, by kernel_rfl⟩
theorem e191 : Ent Tryz.prog 191 disE := ⟨Tryz.f191, Tryz.func191, by kernel_rfl, by kernel_rfl, by kernel_rfl, by kernel_rfl⟩
theorem e192 : Ent Tryz.prog 192 enE := ⟨Tryz.f192, Tryz.func192, by kernel_rfl, by kernel_rfl, by kernel_rfl, by kernel_rfl⟩
theorem e193 : Ent Tryz.prog 193 (fun _ => pure (.bool false)) := ⟨Tryz.f193, Tryz.func193, by kernel_rfl, by kernel_rfl, by kernel_rfl, by kernel_rfl⟩
theorem e198 : Ent Tryz.prog 198 (Extern.Race.marked .read) := ⟨Tryz.f198, Tryz.func198, by kernel_rfl, by kernel_rfl, by kernel_rfl, by kernel_rfl⟩
theorem e202 : Ent Tryz.prog 202 Extern.Sync.semrelease := ⟨Tryz.f202, Tryz.func202, by kernel_rfl, by kernel_rfl, by kernel_rfl, by kernel_rfl⟩
theorem e205 : Ent Tryz.prog 205 (Extern.Race.marked .acquire) := ⟨Tryz.f205, Tryz.func205, by kernel_rfl, by kernel_rfl, by kernel_rfl, by kernel_rfl⟩
theorem e208 : Ent Tryz.prog 208 (Extern.Race.marked .write) := ⟨Tryz.f208, Tryz.func208, by kernel_rfl, by kernel_rfl, by kernel_rfl, by kernel_rfl⟩
theorem e209 : Ent Tryz.prog 209 Extern.Sync.semacquire := ⟨Tryz.f209, Tryz.func209, by kernel_rfl, by kernel_rfl, by kernel_rfl, by kernel_rfl⟩
theorem e217 : Ent Tryz.prog 217 (Extern.Atomic.update (Op.intArith .add) .u64 true) := ⟨Tryz.f217, Tryz.func217, by kernel_rfl, by kernel_rfl, by kernel_rfl, by kernel_rfl⟩
theorem e218 : Ent Tryz.prog 218 (Extern.Atomic.loadT (.int .u64)) := ⟨Tryz.f218, Tryz.func218, by kernel_rfl, by kernel_rfl, by kernel_rfl, by kernel_rfl⟩
theorem e219 : Ent Tryz.prog 219 Extern.Atomic.storeT := ⟨Tryz.f219, Tryz.func219, by kernel_rfl, by kernel_rfl, by kernel_rfl, by kernel_rfl⟩
theorem e220 : Ent Tryz.prog 220 (Extern.Atomic.casT (.int .i32)) := ⟨Tryz.f220, Tryz.func220, by kernel_rfl, by kernel_rfl, by kernel_rfl, by kernel_rfl⟩
theorem e222 : Ent Tryz.prog 222 (Extern.Atomic.update (Op.intArith .add) .i32 true) := ⟨Tryz.f222, Tryz.func222, by kernel_rfl, by kernel_rfl, by kernel_rfl, by kernel_rfl⟩
theorem e224 : Ent Tryz.prog 224 (Extern.Atomic.casT (.int .u64)) := ⟨Tryz.f224, Tryz.func224, by kernel_rfl, by kernel_rfl, by kernel_rfl, by kernel_rfl⟩
theorem e226 : Ent Tryz.prog 226 Extern.Sync.canSpin := ⟨Tryz.f226, Tryz.func226, by kernel_rfl, by kernel_rfl, by kernel_rfl, by kernel_rfl⟩
theorem e227 : Ent Tryz.prog 227 Extern.Sync.nothing := ⟨Tryz.f227, Tryz.func227, by kernel_rfl, by kernel_rfl, by kernel_rfl, by kernel_rfl⟩
theorem e229 : EntN Tryz.prog 229 := ⟨Tryz.f229, Tryz.func229, by kernel_rfl, by kernel_rfl, by kernel_rfl, by kernel_rfl, by kernel_rfl⟩
theorem e230 : Ent Tryz.prog 230 Extern.Sync.semacquire := ⟨Tryz.f230, Tryz.func230, by kernel_rfl, by kernel_rfl, by kernel_rfl, by kernel_rfl⟩
theorem e232 : Ent Tryz.prog 232 Extern.Sync.semrelease := ⟨Tryz.f232, Tryz.func232, by kernel_rfl, by kernel_rfl, by kernel_rfl, by kernel_rfl⟩
theorem fo_202_0 : fldOff Tryz.prog 202 0 = some 0 := by kernel_rfl
theorem fo_202_1 : fldOff Tryz.prog 202 1 = some 1 := by kernel_rfl
theorem fo_204_1 : fldOff Tryz.prog 204 1 = some 0 := by kernel_rfl
theorem fo_209_2 : fldOff Tryz.prog 209 2 = some 0 := by kernel_rfl
theorem fo_211_1 : fldOff Tryz.prog 211 1 = some 0 := by kernel_rfl
theorem fo_211_2 : fldOff Tryz.prog 211 2 = some 1 := by kernel_rfl
theorem un_234 : Tryz.prog.underlying 234 = some (.pointer 211) := by kernel_rfl
theorem un_236 : Tryz.prog.underlying 236 = some .unsafePointer := by kernel_rfl
theorem un_241 : Tryz.prog.underlying 241 = some (.pointer 200) := by kernel_rfl
theorem un_262 : Tryz.prog.underlying 262 = some (.pointer 202) := by kernel_rfl
theorem un_3 : Tryz.prog.underlying 3 = some (.int .i64) := by kernel_rfl
theorem un_21 : Tryz.prog.underlying 21 = some (.int .i32) := by kernel_rfl
theorem un_200 : Tryz.prog.underlying 200 = some (.int .u32) := by kernel_rfl
theorem un_207 : Tryz.prog.underlying 207 = some (.int .u64) := by kernel_rfl
theorem sz_211 : (Tryz.prog.info? 211).map (·.size) = some (1 + 1) := by kernel_rfl
theorem sz_200 : (Tryz.prog.info? 200).map (·.size) = some (0 + 1) := by kernel_rfl
theorem sz_202 : (Tryz.prog.info? 202).map (·.size) = some (1 + 1) := by kernel_rfl
theorem ag_21 : tyAgg Tryz.prog 21 = some false := by kernel_rfl
end Go.Proofs.YtpdaenfglbgfkaaGreatDoor
end
section
namespace Go.Proofs.YtpdaenfglbgfkaaGreatDoor
open Go.RL Go.Conc Go.ConcN Go.RL.Au
open Go.ConcR (stA smA)
open Go.ConcM (muA msA)
set_option maxRecDepth 10000
section
variable {main : Bool} {sh : Shp} {J : Goroutine → Prop} {K : Value → (Goroutine → Prop) → Prop} {blk off : Nat}
def KC (main : Bool) (K : Value → (Goroutine → Prop) → Prop) : Prop := ∀ v J', K v J' → ∃ sh', Cl Tryz.prog main sh' J'
theorem add64 {d : Int} (hc : Cl Tryz.prog main sh J) (hk : KC main K) (h : AtC J 217 [.pointer (some ⟨blk, off, none⟩), .int .u64 d] K) : AtC J 197 [.pointer (some ⟨blk, off, none⟩), .int .u64 d] K := by
 refine InC.at (by exact hc) ca197 (InC.enter (vs := [.pointer (some ⟨blk, off, none⟩), .int .u64 d]) Tryz.func197 rfl Tryz.ntmps197 (Nat.le_of_ble_eq_true rfl) fun c cs hK => ?_)
 refine .sq (.rg rfl rfl ?_)
 refine .g ?_
 refine .dn (.sq (.rg rfl rfl ?_))
 refine .m ?_
 refine .x .nk ?_
 refine .x (.fa (zz := fo_209_2)) ?_
 refine .m ?_
 refine So.callD rfl rfl rfl nofun rfl (.mk' rfl) rfl (h) ?_
 intro v J' hv
 obtain ⟨sh', hc⟩ := hk v J' hv
 refine .g ?_
 refine .dn ?_
 refine Sc.retCode (by exact hc) rfl (Sb.leave (by exact hc) Tryz.func197 rfl (by exact .inr ⟨_, Tryz.results197, rfl⟩) ?_)
 exact hK v J' hv
theorem load64 (hc : Cl Tryz.prog main sh J) (hk : KC main K) (h : AtC J 218 [.pointer (some ⟨blk, off, none⟩)] K) : AtC J 199 [.pointer (some ⟨blk, off, none⟩)] K := by
 refine InC.at (by exact hc) ca199 (InC.enter (vs := [.pointer (some ⟨blk, off, none⟩)]) Tryz.func199 rfl Tryz.ntmps199 (Nat.le_of_ble_eq_true rfl) fun c cs hK => ?_)
 refine .sq (.rg rfl rfl ?_)
 refine .g ?_
 refine .dn (.sq (.rg rfl rfl ?_))
 refine .m ?_
 refine .x .nk ?_
 refine .x (.fa (zz := fo_209_2)) ?_
 refine So.callD rfl rfl rfl nofun rfl (.mk' rfl) rfl (h) ?_
 intro v J' hv
 obtain ⟨sh', hc⟩ := hk v J' hv
 refine .g ?_
 refine .dn ?_
 refine Sc.retCode (by exact hc) rfl (Sb.leave (by exact hc) Tryz.func199 rfl (by exact .inr ⟨_, Tryz.results199, rfl⟩) ?_)
 exact hK v J' hv
theorem store64 {d : Int} (hc : Cl Tryz.prog main sh J) (hk : KC main K) (hu : ∀ v J', K v J' → v = .tuple #[]) (h : AtC J 219 [.pointer (some ⟨blk, off, none⟩), .int .u64 d] K) : AtC J 200 [.pointer (some ⟨blk, off, none⟩), .int .u64 d] K := by
 refine InC.at (by exact hc) ca200 (InC.enter (vs := [.pointer (some ⟨blk, off, none⟩), .int .u64 d]) Tryz.func200 rfl Tryz.ntmps200 (Nat.le_of_ble_eq_true rfl) fun c cs hK => ?_)
 refine .rg rfl rfl ?_
 refine .m ?_
 refine .x .nk ?_
 refine .x (.fa (zz := fo_209_2)) ?_
 refine .m ?_
 refine So.callD rfl rfl rfl nofun rfl (.mk' rfl) rfl (h) ?_
 intro v J' hv
 obtain ⟨sh', hc⟩ := hk v J' hv
 refine .dn ?_
 refine Sc.over (by exact hc) rfl (Sb.leave (by exact hc) Tryz.func200 rfl (by exact .inl ⟨Tryz.results200, rfl⟩) ?_)
 exact hu v J' hv ▸ hK v J' hv
theorem cas64 {d e : Int} (hc : Cl Tryz.prog main sh J) (hk : KC main K) (h : AtC J 224 [.pointer (some ⟨blk, off, none⟩), .int .u64 d, .int .u64 e] K) : AtC J 207 [.pointer (some ⟨blk, off, none⟩), .int .u64 d, .int .u64 e] K := by
 refine InC.at (by exact hc) ca207 (InC.enter (vs := [.pointer (some ⟨blk, off, none⟩), .int .u64 d, .int .u64 e]) Tryz.func207 rfl Tryz.ntmps207 (Nat.le_of_ble_eq_true rfl) fun c cs hK => ?_)
 refine .sq (.rg rfl rfl ?_)
 refine .g ?_
 refine .dn (.sq (.rg rfl rfl ?_))
 refine .m ?_
 refine .x .nk ?_
 refine .x (.fa (zz := fo_209_2)) ?_
 refine .m ?_
 refine .m ?_
 refine So.callD rfl rfl rfl nofun rfl (.mk' rfl) rfl (h) ?_
 intro v J' hv
 obtain ⟨sh', hc⟩ := hk v J' hv
 refine .g ?_
 refine .dn ?_
 refine Sc.retCode (by exact hc) rfl (Sb.leave (by exact hc) Tryz.func207 rfl (by exact .inr ⟨_, Tryz.results207, rfl⟩) ?_)
 exact hK v J' hv
end
end Go.Proofs.YtpdaenfglbgfkaaGreatDoor
end
section
namespace Go.Proofs.YtpdaenfglbgfkaaGreatDoor
open Go.RL Go.Conc Go.ConcN Go.RL.Au
open Go.ConcR (stA smA)
open Go.ConcM (muA msA)
set_option maxRecDepth 10000
set_option maxHeartbeats 4000000
theorem and5 : ∀ x : Nat, x < 128 → bitI .and .i32 (x : Int) 5 = ((x % 2 + x / 4 % 2 * 4 : Nat) : Int) := by decide +kernel
theorem and4 : ∀ x : Nat, x < 128 → bitI .and .i32 (x : Int) 4 = ((x / 4 % 2 * 4 : Nat) : Int) := by decide +kernel
theorem and3 : ∀ x : Nat, x < 128 → bitI .and .i32 (x : Int) 3 = ((x % 4 : Nat) : Int) := by decide +kernel
theorem and2 : ∀ x : Nat, x < 128 → bitI .and .i32 (x : Int) 2 = ((x / 2 % 2 * 2 : Nat) : Int) := by decide +kernel
theorem and1 : ∀ x : Nat, x < 128 → bitI .and .i32 (x : Int) 1 = ((x % 2 : Nat) : Int) := by decide +kernel
theorem and7 : ∀ x : Nat, x < 128 → bitI .and .i32 (x : Int) 7 = ((x % 8 : Nat) : Int) := by decide +kernel
theorem or1 : ∀ x : Nat, x < 128 → bitI .or .i32 (x : Int) 1 = ((x + 1 - x % 2 : Nat) : Int) := by decide +kernel
theorem or2 : ∀ x : Nat, x < 128 → bitI .or .i32 (x : Int) 2 = ((x + 2 - x / 2 % 2 * 2 : Nat) : Int) := by decide +kernel
theorem or4 : ∀ x : Nat, x < 128 → bitI .or .i32 (x : Int) 4 = ((x + 4 - x / 4 % 2 * 4 : Nat) : Int) := by decide +kernel
theorem andNot2 : ∀ x : Nat, x < 128 → bitI .andNot .i32 (x : Int) 2 = ((x - x / 2 % 2 * 2 : Nat) : Int) := by decide +kernel
theorem shr3 : ∀ x : Nat, x < 128 → (x : Int).fdiv (2 ^ (min (3 : Int).toNat IntKind.i32.bits)) = ((x / 8 : Nat) : Int) := by decide +kernel
theorem and5_ (x : Nat) (h : x < 128) : intBin .and .i32 (x : Int) 5 = some (.int .i32 ((x % 2 + x / 4 % 2 * 4 : Nat) : Int)) := by rw [← and5 x h]; rfl
theorem and4_ (x : Nat) (h : x < 128) : intBin .and .i32 (x : Int) 4 = some (.int .i32 ((x / 4 % 2 * 4 : Nat) : Int)) := by rw [← and4 x h]; rfl
theorem and3_ (x : Nat) (h : x < 128) : intBin .and .i32 (x : Int) 3 = some (.int .i32 ((x % 4 : Nat) : Int)) := by rw [← and3 x h]; rfl
theorem and2_ (x : Nat) (h : x < 128) : intBin .and .i32 (x : Int) 2 = some (.int .i32 ((x / 2 % 2 * 2 : Nat) : Int)) := by rw [← and2 x h]; rfl
theorem and1_ (x : Nat) (h : x < 128) : intBin .and .i32 (x : Int) 1 = some (.int .i32 ((x % 2 : Nat) : Int)) := by rw [← and1 x h]; rfl
theorem and7_ (x : Nat) (h : x < 128) : intBin .and .i32 (x : Int) 7 = some (.int .i32 ((x % 8 : Nat) : Int)) := by rw [← and7 x h]; rfl
theorem or1_ (x : Nat) (h : x < 128) : intBin .or .i32 (x : Int) 1 = some (.int .i32 ((x + 1 - x % 2 : Nat) : Int)) := by rw [← or1 x h]; rfl
theorem or2_ (x : Nat) (h : x < 128) : intBin .or .i32 (x : Int) 2 = some (.int .i32 ((x + 2 - x / 2 % 2 * 2 : Nat) : Int)) := by rw [← or2 x h]; rfl
theorem or4_ (x : Nat) (h : x < 128) : intBin .or .i32 (x : Int) 4 = some (.int .i32 ((x + 4 - x / 4 % 2 * 4 : Nat) : Int)) := by rw [← or4 x h]; rfl
theorem andNot2_ (x : Nat) (h : x < 128) : intBin .andNot .i32 (x : Int) 2 = some (.int .i32 ((x - x / 2 % 2 * 2 : Nat) : Int)) := by rw [← andNot2 x h]; rfl
theorem shr3_ (x : Nat) (h : x < 128) : shiftV .shr .i32 (x : Int) 3 = some (.int .i32 ((x / 8 : Nat) : Int)) := by rw [← shr3 x h]; rfl
theorem add8_ (x : Nat) (h : x < 1000) : intBin .add .i32 (x : Int) 8 = some (.int .i32 ((x + 8 : Nat) : Int)) := by
 show some (Value.int .i32 (IntKind.i32.wrap ((x : Int) + 8))) = _
 rw [wrap_i32 (by omega) (by omega)]; rfl
theorem add1_ (x : Nat) (h : x < 1000) : intBin .add .i32 (x : Int) 1 = some (.int .i32 ((x + 1 : Nat) : Int)) := by
 show some (Value.int .i32 (IntKind.i32.wrap ((x : Int) + 1))) = _
 rw [wrap_i32 (by omega) (by omega)]; rfl
theorem sub8_ (x : Nat) (h : 8 ≤ x ∧ x < 1000) : intBin .sub .i32 (x : Int) 8 = some (.int .i32 ((x - 8 : Nat) : Int)) := by
 show some (Value.int .i32 (IntKind.i32.wrap ((x : Int) - 8))) = _
 rw [wrap_i32 (by omega) (by omega)]
 congr 2
 omega
theorem nr221 : (Tryz.prog.funcs[221]?).any (·.norace) = true := by kernel_rfl
noncomputable def code221 : Code := bodyOf Tryz.f221
noncomputable def at221 : Code := cR (cR (cR (cR (cR code221))))
noncomputable def B221 : Code := cB (cB (cL at221))
noncomputable def tail221 : Code := cR at221
abbrev b221 : FB := ⟨221, .normal, none⟩
section
variable {X : Fk} {κ : Nat} {D : Nat → Bool} {H : View} {cc : Frame} {cs : List Frame}
def LockK (X : Fk) (κ : Nat) (H : View) (v : Value) (J' : Goroutine → Prop) : Prop := v = .tuple #[] ∧ ∃ k' D' o, D' κ = false ∧ X.GI D' o ∧ J' = Jw Tryz.prog X κ k' .up D' (H.put X.C (true, o))
theorem shp_mu (X : Fk) : ∃ e c, X.shp X.Mu = some (e, c) ∧ 0 < c := ⟨X.tM, 2, by simp [Fk.shp], by decide⟩
theorem slow_tail {k : Nat} {R : Rg} (hK : ∀ v J', LockK X κ H v J' → J' (G (cc.finish v) cs)) (h0 : lk R 0 = some (.pointer (some ⟨X.Mu, 0, none⟩))) : Sc (Jw Tryz.prog X κ k .le D H) 139 b221 (cc :: cs) R [] [.code tail221] := by
 refine Sc.drop (R' := [(0, .pointer (some ⟨X.Mu, 0, none⟩))]) ⟨h0, trivial⟩ ?_
 refine .tt rfl (.sq (.rg rfl rfl ?_))
 refine So.callD rfl rfl rfl nofun rfl (.mk' rfl) rfl (Jw.le e192) ?_
 rintro v J' ⟨k, t, -, ⟨rfl, rfl⟩, rfl⟩
 refine .dn ?_
 have hsh := shp_mu X
 refine .rg rfl rfl ?_
 refine .m ?_
 refine .x (OpP.raw rfl rfl un_262 un_236 sz_202 (by assumption)) ?_
 refine So.callD rfl rfl rfl nofun rfl (.mk' rfl) rfl (Jw.la e205) ?_
 rintro v J' ⟨rfl, k', D', o, -, h1, h2, rfl⟩
 refine .dn ?_
 refine Sc.over (by exact Jw.clX rfl) rfl (Sb.leave (by exact Jw.clX rfl) Tryz.func221 rfl (by exact .inl ⟨Tryz.results221, rfl⟩) ?_)
 exact hK _ _ ⟨rfl, k', D', o, h1, h2, rfl⟩
abbrev RH (X : Fk) (o : Nat) (c : Lc) (z : Int) : Rg := [(0, .pointer (some ⟨X.Mu, 0, none⟩)), (2, .int .i64 z), (3, .bool c.sv), (4, .bool c.aw), (5, .int .i64 (c.it : Int)), (6, .int .i32 (o : Int))]
def Head (X : Fk) (κ : Nat) (D : Nat → Bool) (H : View) (cc : Frame) (cs : List Frame) (k : Nat) : Prop :=
 ∀ (o : Nat) (c : Lc) (z : Int), o < 64 → (c.aw = true → o / 2 % 2 = 1 ∧ o / 4 % 2 = 0) → (c.sv = true → c.aw = true) → c.ws = decide (z ≠ 0) →
   Sc (Jw Tryz.prog X κ k (hd o c) D H) 139 b221 (cc :: cs) (RH X o c z) [] [.code B221, .inLoop B221, .inBlock 0, .code tail221]
noncomputable def BB : Code := cB B221
noncomputable def if221 : Code := cR (cR (cR (cR (cR (cR (cR BB))))))
noncomputable def XX : Code := cT if221
theorem slow_back {k2 : Nat} (hK : ∀ v J', LockK X κ H v J' → J' (G (cc.finish v) cs)) (IH : ∀ k' < k2, Head X κ D H cc cs k') (ne : X.Mu ≠ X.Wg) {R' : Rg} {aw sv' ws : Bool} {it : Nat} {z : Int} (hw : ws = decide (z ≠ 0))
   (hR' : AllIn [(0, .pointer (some ⟨X.Mu, 0, none⟩)), (2, .int .i64 z), (3, .bool sv'), (5, .int .i64 (it : Int)), (4, .bool aw)] R') : Sc (Jw Tryz.prog X κ k2 (.r2 ⟨aw, sv', ws, it⟩) D H) 139 b221 (cc :: cs) R' [] [.code (cR (cR (cR (cR (cR XX))))), .inBlock 1, .inLoop B221, .inBlock 0, .code tail221] := by
 refine Sc.drop hR' ?_
 refine .sq (.rg rfl rfl ?_)
 refine .m ?_
 refine .x .nk ?_
 refine .x (.fa (zz := fo_202_0)) ?_
 refine Jw.ldM rfl rfl rfl rfl rfl rfl rfl ag_21 nr221 (fun s hok hloc hf => ?_)
 obtain ⟨g1, g2⟩ := hok
 have h64 := hf.1
 by_cases h4 : s.m / 4 % 2 = 1
 · obtain ⟨m1, m2, m8⟩ := g1 h4
   cases sv' with
   | false =>
     refine ⟨.a1 true, by simp [Th.mv, h4], rfl, fun k3 hk3 => ?_⟩
     refine .g ?_
     refine .dn (.sq (.sq (.rg rfl rfl ?_)))
     refine .m ?_
     refine .i ?_ (z := and4_ _ (by omega))
     refine .i ?_ (z := neq_t (by omega))
     refine .dn (.tt rfl (.sq (.sq (.rg rfl rfl ?_))))
     refine .m ?_
     refine .i ?_ (z := and3_ _ (by omega))
     refine .i ?_ (z := neq_f (by omega))
     refine .m ?_
     refine .m ?_
     refine .x (OpP.shift rfl rfl rfl (by omega) (by exact shr3_ _ (by omega))) ?_
     refine .i ?_ (z := eql_f (by omega))
     refine .x .pk ?_
     refine .dn (.ff rfl (.sp (.sq (.rg rfl rfl ?_))))
     refine .g ?_
     refine .dn (.sq (.sq (.rg rfl rfl ?_)))
     refine .m ?_
     refine .x .nt ?_
     refine .m ?_
     refine .sk ?_
     refine .sk ?_
     refine .sk ?_
     refine .x .pk ?_
     refine .dn (.tt rfl (.rg rfl rfl ?_))
     refine .m ?_
     refine .i ?_ (z := by exact rfl)
     refine .g ?_
     refine .dn (.sq (.rg rfl rfl ?_))
     refine .m ?_
     refine .x .nk ?_
     refine .x (.fa (zz := fo_202_0)) ?_
     refine .m ?_
     refine So.callD rfl rfl rfl nofun rfl (.mk' rfl) rfl (Jw.a1 (bb := true) ne e222) ?_
     rintro v J' ⟨k4, t, -, ⟨⟨y, rfl⟩, rfl⟩, rfl⟩
     refine .dn (.xt rfl ?_)
     exact slow_tail hK rfl
   | true =>
     by_cases e : s.m / 8 = 1
     · refine ⟨.a1 true, by simp [Th.mv, h4, e], rfl, fun k3 hk3 => ?_⟩
       refine .g ?_
       refine .dn (.sq (.sq (.rg rfl rfl ?_)))
       refine .m ?_
       refine .i ?_ (z := and4_ _ (by omega))
       refine .i ?_ (z := neq_t (by omega))
       refine .dn (.tt rfl (.sq (.sq (.rg rfl rfl ?_))))
       refine .m ?_
       refine .i ?_ (z := and3_ _ (by omega))
       refine .i ?_ (z := neq_f (by omega))
       refine .m ?_
       refine .m ?_
       refine .x (OpP.shift rfl rfl rfl (by omega) (by exact shr3_ _ (by omega))) ?_
       refine .i ?_ (z := eql_f (by omega))
       refine .x .pk ?_
       refine .dn (.ff rfl (.sp (.sq (.rg rfl rfl ?_))))
       refine .g ?_
       refine .dn (.sq (.sq (.rg rfl rfl ?_)))
       refine .m ?_
       refine .x .nt ?_
       refine .m ?_
       refine .m ?_
       refine .x (OpP.shift rfl rfl rfl (by omega) (by exact shr3_ _ (by omega))) ?_
       refine .i ?_ (z := eql_t (by omega))
       refine .x .pk ?_
       refine .dn (.tt rfl (.rg rfl rfl ?_))
       refine .m ?_
       refine .i ?_ (z := by exact rfl)
       refine .g ?_
       refine .dn (.sq (.rg rfl rfl ?_))
       refine .m ?_
       refine .x .nk ?_
       refine .x (.fa (zz := fo_202_0)) ?_
       refine .m ?_
       refine So.callD rfl rfl rfl nofun rfl (.mk' rfl) rfl (Jw.a1 (bb := true) ne e222) ?_
       rintro v J' ⟨k4, t, -, ⟨⟨y, rfl⟩, rfl⟩, rfl⟩
       refine .dn (.xt rfl ?_)
       exact slow_tail hK rfl
     · refine ⟨.a1 false, by simp [Th.mv, h4, e], rfl, fun k3 hk3 => ?_⟩
       refine .g ?_
       refine .dn (.sq (.sq (.rg rfl rfl ?_)))
       refine .m ?_
       refine .i ?_ (z := and4_ _ (by omega))
       refine .i ?_ (z := neq_t (by omega))
       refine .dn (.tt rfl (.sq (.sq (.rg rfl rfl ?_))))
       refine .m ?_
       refine .i ?_ (z := and3_ _ (by omega))
       refine .i ?_ (z := neq_f (by omega))
       refine .m ?_
       refine .m ?_
       refine .x (OpP.shift rfl rfl rfl (by omega) (by exact shr3_ _ (by omega))) ?_
       refine .i ?_ (z := eql_f (by omega))
       refine .x .pk ?_
       refine .dn (.ff rfl (.sp (.sq (.rg rfl rfl ?_))))
       refine .g ?_
       refine .dn (.sq (.sq (.rg rfl rfl ?_)))
       refine .m ?_
       refine .x .nt ?_
       refine .m ?_
       refine .m ?_
       refine .x (OpP.shift rfl rfl rfl (by omega) (by exact shr3_ _ (by omega))) ?_
       refine .i ?_ (z := eql_f (by omega))
       refine .x .pk ?_
       refine .dn (.ff rfl (.sp (.sq (.rg rfl rfl ?_))))
       refine .m ?_
       refine .x .nk ?_
       refine .x (.fa (zz := fo_202_0)) ?_
       refine .m ?_
       refine So.callD rfl rfl rfl nofun rfl (.mk' rfl) rfl (Jw.a1 (bb := false) ne e222) ?_
       rintro v J' ⟨k4, t, -, ⟨⟨y, rfl⟩, rfl⟩, rfl⟩
       refine .dn (.xt rfl ?_)
       exact slow_tail hK rfl
 · have h2 := g2 (by omega)
   refine ⟨hd s.m ⟨true, sv', ws, 0⟩, by simp [Th.mv, h4], (by unfold hd; split <;> rfl), fun k3 hk3 => ?_⟩
   refine .g ?_
   refine .dn (.sq (.sq (.rg rfl rfl ?_)))
   refine .m ?_
   refine .i ?_ (z := and4_ _ (by omega))
   refine .i ?_ (z := neq_f (by omega))
   refine .dn (.ff rfl (.sp (.sq (.rg rfl rfl ?_))))
   refine .g ?_
   refine .dn (.rg rfl rfl ?_)
   refine .g ?_
   refine .dn (.ib ?_)
   refine Sc.inLoop (by exact Jw.cl0) ?_
   exact Sc.drop (by exact ⟨rfl, rfl, rfl, rfl, rfl, rfl, trivial⟩) (IH k3 (by omega) s.m ⟨true, sv', ws, 0⟩ z h64 (fun _ => ⟨h2, by omega⟩) (fun _ => rfl) hw)
theorem slow_wait {k : Nat} (hK : ∀ v J', LockK X κ H v J' → J' (G (cc.finish v) cs)) (IH : ∀ k' < k, Head X κ D H cc cs k') (ne : X.Mu ≠ X.Wg) {R : Rg} {o : Nat} {aw sv ws q : Bool} {it : Nat} {z : Int} (hw : ws = decide (z ≠ 0))
   (hR : AllIn ((8, .bool q) :: RH X o ⟨aw, sv, ws, it⟩ z) R) : Sc (Jw Tryz.prog X κ k (.s1 ⟨aw, sv, ws, it⟩) D H) 139 b221 (cc :: cs) R [] [.code (cR (cR (cR XX))), .inBlock 1, .inLoop B221, .inBlock 0, .code tail221] := by
 refine Sc.drop hR ?_
 refine .sq (.rg rfl rfl ?_)
 refine .m ?_
 refine .x .nk ?_
 refine .x (.fa (zz := fo_202_1)) ?_
 refine .m ?_
 refine So.callD rfl rfl rfl nofun rfl (.mk' rfl) rfl (Jw.s1 ne (vs := [.pointer (some ⟨X.Mu, 1, none⟩), .bool q, .int .i64 2]) e230 rfl) ?_
 rintro v J' ⟨k1, t, hk1, ⟨rfl, rfl⟩, rfl⟩
 refine .dn (.sq ?_)
 cases sv with
 | true =>
   refine .rg rfl rfl ?_
   refine Jw.t2' rfl rfl rfl .mv (fun k2 hk2 => ?_)
   refine .m ?_
   refine .sk ?_
   refine .sk ?_
   refine .sk ?_
   refine .sk ?_
   refine .x .pk ?_
   refine .g ?_
   refine .dn ?_
   exact slow_back hK (fun k' h => IH k' (by omega)) ne hw ⟨rfl, rfl, rfl, rfl, rfl, trivial⟩
 | false =>
   refine .rg rfl rfl ?_
   refine .m ?_
   refine .m ?_
   skip
   refine So.callD rfl rfl rfl nofun rfl (.mk' rfl) rfl (Jw.t2 e229 (fun z1 => decide (IntKind.i64.wrap (z1 - z) > 1000000)) (fun z1 => by cases decide (IntKind.i64.wrap (z1 - z) > 1000000) <;> simp)) ?_
   rintro v J' ⟨k2, z1, hk2, rfl, rfl⟩
   refine .m ?_
   refine .i ?_ (z := by exact rfl)
   refine .i ?_ (z := by exact rfl)
   refine .x .pk ?_
   refine .g ?_
   refine .dn ?_
   exact slow_back hK (fun k' h => IH k' (by omega)) ne hw ⟨rfl, rfl, rfl, rfl, rfl, trivial⟩
end
end Go.Proofs.YtpdaenfglbgfkaaGreatDoor
end
section
namespace Go.Proofs.YtpdaenfglbgfkaaGreatDoor
open Go.RL Go.Conc Go.ConcN Go.RL.Au
open Go.ConcR (stA smA)
open Go.ConcM (muA msA)
set_option maxRecDepth 10000
set_option maxHeartbeats 4000000
section
variable {X : Fk} {κ : Nat} {D : Nat → Bool} {H : View} {cc : Frame} {cs : List Frame}
theorem slow_sleep {k : Nat} (hK : ∀ v J', LockK X κ H v J' → J' (G (cc.finish v) cs)) (IH : ∀ k' < k, Head X κ D H cc cs k') (ne : X.Mu ≠ X.Wg) {R : Rg} {o : Nat} {aw sv ws : Bool} {it : Nat} {z : Int} (hw : ws = decide (z ≠ 0))
   (hR : AllIn (RH X o ⟨aw, sv, ws, it⟩ z) R) : Sc (Jw Tryz.prog X κ k (if ws then .s1 ⟨aw, sv, ws, it⟩ else .t1 ⟨aw, sv, ws, it⟩) D H) 139 b221 (cc :: cs) R [] [.code (cR XX), .inBlock 1, .inLoop B221, .inBlock 0, .code tail221] := by
 refine Sc.drop hR ?_
 by_cases hz : z = 0
 · subst hz
   have hw' : ws = false := by rw [hw]; rfl
   subst hw'
   simp only [Bool.false_eq_true, if_false]
   refine .sq (.rg rfl rfl ?_)
   refine .m ?_
   refine .i ?_ (z := neq_f (by omega))
   refine .g ?_
   refine .dn (.sq (.sq (.rg rfl rfl ?_)))
   refine .m ?_
   refine .i ?_ (z := eql_t (by omega))
   refine .dn (.tt rfl (.rg rfl rfl ?_))
   refine So.callD rfl rfl rfl nofun rfl (.mk' rfl) rfl (Jw.t1 e229) ?_
   rintro v J' ⟨k1, z1, hk1, rfl, rfl⟩
   refine .g ?_
   refine .dn ?_
   exact slow_wait (o := o) (q := false) hK (fun k' h => IH k' (by omega)) ne rfl ⟨rfl, rfl, rfl, rfl, rfl, rfl, rfl, trivial⟩
 · have hw' : ws = true := by rw [hw]; exact decide_eq_true hz
   subst hw'
   simp only [if_true]
   refine .sq (.rg rfl rfl ?_)
   refine .m ?_
   refine .i ?_ (z := neq_t (by omega))
   refine .g ?_
   refine .dn (.sq (.sq (.rg rfl rfl ?_)))
   refine .m ?_
   refine .i ?_ (z := eql_f (by omega))
   refine .dn (.ff rfl (.sp ?_))
   exact slow_wait (o := o) (q := true) hK (fun k' h => IH k' (by omega)) ne hw ⟨rfl, rfl, rfl, rfl, rfl, rfl, rfl, trivial⟩
theorem newW_eq {o : Nat} {c : Lc} {x : Int} (hx : x = ((newW o c : Nat) : Int)) {k : Nat} (ne : X.Mu ≠ X.Wg) : AtC (Jw Tryz.prog X κ k (.c2 o c) D H) 220 [.pointer (some (muA X.Mu)), .int .i32 (o : Int), .int .i32 x] fun v J' => ∃ k' t', k' < k ∧ ((v = .bool true ∧ t' = (if o % 2 = 0 ∧ o / 4 % 2 = 0 then Th.le else if c.ws then .s1 c else .t1 c)) ∨ (v = .bool false ∧ t' = Th.r3 c)) ∧ J' = Jw Tryz.prog X κ k' t' D H :=
 hx ▸ Jw.c2 ne e220
theorem slow_c2 {k : Nat} (hK : ∀ v J', LockK X κ H v J' → J' (G (cc.finish v) cs)) (IH : ∀ k' < k, Head X κ D H cc cs k') (ne : X.Mu ≠ X.Wg) {R : Rg} {o : Nat} {aw sv ws : Bool} {it : Nat} {z : Int} (ho : o < 64) (ha : aw = true → o / 2 % 2 = 1 ∧ o / 4 % 2 = 0) (hs : sv = true → aw = true) (hw : ws = decide (z ≠ 0))
   (hR : AllIn (RH X o ⟨aw, sv, ws, it⟩ z) R) : Sc (Jw Tryz.prog X κ k (.c2 o ⟨aw, sv, ws, it⟩) D H) 139 b221 (cc :: cs) R [] [.code (cR BB), .inBlock 1, .inLoop B221, .inBlock 0, .code tail221] := by
 refine Sc.drop hR ?_
 have key : ∀ (x : Int) (R' : Rg), x = ((newW o ⟨aw, sv, ws, it⟩ : Nat) : Int) → AllIn ((7, .int .i32 x) :: RH X o ⟨aw, sv, ws, it⟩ z) R' → Sc (Jw Tryz.prog X κ k (.c2 o ⟨aw, sv, ws, it⟩) D H) 139 b221 (cc :: cs) R' [] [.code (cR (cR (cR (cR (cR (cR BB)))))), .inBlock 1, .inLoop B221, .inBlock 0, .code tail221] := by
   intro x R' hx hR'
   refine Sc.drop hR' ?_
   refine .sq (.rg rfl rfl ?_)
   refine .m ?_
   refine .x .nk ?_
   refine .x (.fa (zz := fo_202_0)) ?_
   refine .m ?_
   refine .m ?_
   refine So.callD rfl rfl rfl nofun rfl (.mk' rfl) rfl (newW_eq hx ne) ?_
   rintro v J' ⟨k1, t, hk1, hv, rfl⟩
   rcases hv with ⟨rfl, rfl⟩ | ⟨rfl, rfl⟩
   · by_cases h0 : o % 2 = 0 ∧ o / 4 % 2 = 0
     · rw [if_pos h0]
       obtain ⟨h1, h4⟩ := h0
       refine .dn (.tt rfl (.sq (.sq (.rg rfl rfl ?_))))
       refine .m ?_
       refine .i ?_ (z := and5_ _ (by omega))
       refine .i ?_ (z := eql_t (by omega))
       refine .dn (.tt rfl (.xt rfl ?_))
       exact slow_tail hK rfl
     · rw [if_neg h0]
       refine .dn (.tt rfl (.sq (.sq (.rg rfl rfl ?_))))
       refine .m ?_
       refine .i ?_ (z := and5_ _ (by omega))
       refine .i ?_ (z := eql_f (by omega))
       refine .dn (.ff rfl (.sp ?_))
       exact slow_sleep (o := o) hK (fun k' h => IH k' (by omega)) ne hw ⟨rfl, rfl, rfl, rfl, rfl, rfl, trivial⟩
   · refine .dn (.ff rfl (.rg rfl rfl ?_))
     refine .m ?_
     refine .x .nk ?_
     refine .x (.fa (zz := fo_202_0)) ?_
     refine Jw.ldM rfl rfl rfl rfl rfl rfl rfl ag_21 nr221 (fun s hok hloc hf => ⟨hd s.m ⟨aw, sv, ws, it⟩, by simp [Th.mv], (by unfold hd; split <;> rfl), fun k2 hk2 => ?_⟩)
     refine .g ?_
     refine .dn (.ib ?_)
     refine Sc.inLoop (by exact Jw.cl0) ?_
     exact Sc.drop (by exact ⟨rfl, rfl, rfl, rfl, rfl, rfl, trivial⟩) (IH k2 (by omega) s.m ⟨aw, sv, ws, it⟩ z hf.1 hok hs hw)
 rcases Nat.mod_two_eq_zero_or_one o with h1 | h1
 · rcases Nat.mod_two_eq_zero_or_one (o / 4) with h4 | h4
   · cases aw with
     | false =>
       cases sv with
       | true => exact nomatch hs rfl
       | false =>
         refine .sq (.rg rfl rfl ?_)
         refine .m ?_
         refine .g ?_
         refine .dn (.sq (.sq (.rg rfl rfl ?_)))
         refine .m ?_
         refine .i ?_ (z := and4_ _ (by omega))
         refine .i ?_ (z := eql_t (by omega))
         refine .dn (.tt rfl (.rg rfl rfl ?_))
         refine .m ?_
         refine .i ?_ (z := or1_ _ (by omega))
         refine .g ?_
         refine .dn (.sq (.sq (.rg rfl rfl ?_)))
         refine .m ?_
         refine .i ?_ (z := and5_ _ (by omega))
         refine .i ?_ (z := neq_f (by omega))
         refine .dn (.ff rfl (.sp (.sq (.sq (.rg rfl rfl ?_)))))
         refine .m ?_
         refine .m ?_
         refine .sk ?_
         refine .sk ?_
         refine .sk ?_
         refine .x .pk ?_
         refine .dn (.ff rfl (.sp (.sq (.sq (.rg rfl rfl ?_)))))
         refine .m ?_
         refine .dn (.ff rfl (.sp ?_))
         refine key _ _ ?_ ⟨rfl, rfl, rfl, rfl, rfl, rfl, rfl, trivial⟩
         simp [newW, h1, h4] <;> omega
     | true =>
       cases sv with
       | true =>
         refine .sq (.rg rfl rfl ?_)
         refine .m ?_
         refine .g ?_
         refine .dn (.sq (.sq (.rg rfl rfl ?_)))
         refine .m ?_
         refine .i ?_ (z := and4_ _ (by omega))
         refine .i ?_ (z := eql_t (by omega))
         refine .dn (.tt rfl (.rg rfl rfl ?_))
         refine .m ?_
         refine .i ?_ (z := or1_ _ (by omega))
         refine .g ?_
         refine .dn (.sq (.sq (.rg rfl rfl ?_)))
         refine .m ?_
         refine .i ?_ (z := and5_ _ (by omega))
         refine .i ?_ (z := neq_f (by omega))
         refine .dn (.ff rfl (.sp (.sq (.sq (.rg rfl rfl ?_)))))
         refine .m ?_
         refine .m ?_
         refine .m ?_
         refine .i ?_ (z := and1_ _ (by omega))
         refine .i ?_ (z := neq_f (by omega))
         refine .x .pk ?_
         refine .dn (.ff rfl (.sp (.sq (.sq (.rg rfl rfl ?_)))))
         refine .m ?_
         refine .dn ?_
         obtain ⟨g2, -⟩ := ha rfl
         refine .tt rfl (.sq (.sq (.rg rfl rfl ?_)))
         refine .m ?_
         refine .i ?_ (z := and2_ _ (by omega))
         refine .i ?_ (z := eql_f (by omega))
         refine .dn (.ff rfl (.sp (.rg rfl rfl ?_)))
         refine .m ?_
         refine .i ?_ (z := andNot2_ _ (by omega))
         refine .g ?_
         refine .dn ?_
         refine key _ _ ?_ ⟨rfl, rfl, rfl, rfl, rfl, rfl, rfl, trivial⟩
         simp [newW, h1, h4] <;> omega
       | false =>
         refine .sq (.rg rfl rfl ?_)
         refine .m ?_
         refine .g ?_
         refine .dn (.sq (.sq (.rg rfl rfl ?_)))
         refine .m ?_
         refine .i ?_ (z := and4_ _ (by omega))
         refine .i ?_ (z := eql_t (by omega))
         refine .dn (.tt rfl (.rg rfl rfl ?_))
         refine .m ?_
         refine .i ?_ (z := or1_ _ (by omega))
         refine .g ?_
         refine .dn (.sq (.sq (.rg rfl rfl ?_)))
         refine .m ?_
         refine .i ?_ (z := and5_ _ (by omega))
         refine .i ?_ (z := neq_f (by omega))
         refine .dn (.ff rfl (.sp (.sq (.sq (.rg rfl rfl ?_)))))
         refine .m ?_
         refine .m ?_
         refine .sk ?_
         refine .sk ?_
         refine .sk ?_
         refine .x .pk ?_
         refine .dn (.ff rfl (.sp (.sq (.sq (.rg rfl rfl ?_)))))
         refine .m ?_
         refine .dn ?_
         obtain ⟨g2, -⟩ := ha rfl
         refine .tt rfl (.sq (.sq (.rg rfl rfl ?_)))
         refine .m ?_
         refine .i ?_ (z := and2_ _ (by omega))
         refine .i ?_ (z := eql_f (by omega))
         refine .dn (.ff rfl (.sp (.rg rfl rfl ?_)))
         refine .m ?_
         refine .i ?_ (z := andNot2_ _ (by omega))
         refine .g ?_
         refine .dn ?_
         refine key _ _ ?_ ⟨rfl, rfl, rfl, rfl, rfl, rfl, rfl, trivial⟩
         simp [newW, h1, h4] <;> omega
   · cases aw with
     | true => exact absurd (ha rfl).2 (by omega)
     | false =>
       cases sv with
       | true => exact nomatch hs rfl
       | false =>
         refine .sq (.rg rfl rfl ?_)
         refine .m ?_
         refine .g ?_
         refine .dn (.sq (.sq (.rg rfl rfl ?_)))
         refine .m ?_
         refine .i ?_ (z := and4_ _ (by omega))
         refine .i ?_ (z := eql_f (by omega))
         refine .dn (.ff rfl (.sp (.sq (.sq (.rg rfl rfl ?_)))))
         refine .m ?_
         refine .i ?_ (z := and5_ _ (by omega))
         refine .i ?_ (z := neq_t (by omega))
         refine .dn (.tt rfl (.rg rfl rfl ?_))
         refine .m ?_
         refine .i ?_ (z := add8_ _ (by omega))
         refine .g ?_
         refine .dn (.sq (.sq (.rg rfl rfl ?_)))
         refine .m ?_
         refine .m ?_
         refine .sk ?_
         refine .sk ?_
         refine .sk ?_
         refine .x .pk ?_
         refine .dn (.ff rfl (.sp (.sq (.sq (.rg rfl rfl ?_)))))
         refine .m ?_
         refine .dn (.ff rfl (.sp ?_))
         refine key _ _ ?_ ⟨rfl, rfl, rfl, rfl, rfl, rfl, rfl, trivial⟩
         simp [newW, h1, h4] <;> omega
 · rcases Nat.mod_two_eq_zero_or_one (o / 4) with h4 | h4
   · cases aw with
     | false =>
       cases sv with
       | true => exact nomatch hs rfl
       | false =>
         refine .sq (.rg rfl rfl ?_)
         refine .m ?_
         refine .g ?_
         refine .dn (.sq (.sq (.rg rfl rfl ?_)))
         refine .m ?_
         refine .i ?_ (z := and4_ _ (by omega))
         refine .i ?_ (z := eql_t (by omega))
         refine .dn (.tt rfl (.rg rfl rfl ?_))
         refine .m ?_
         refine .i ?_ (z := or1_ _ (by omega))
         refine .g ?_
         refine .dn (.sq (.sq (.rg rfl rfl ?_)))
         refine .m ?_
         refine .i ?_ (z := and5_ _ (by omega))
         refine .i ?_ (z := neq_t (by omega))
         refine .dn (.tt rfl (.rg rfl rfl ?_))
         refine .m ?_
         refine .i ?_ (z := add8_ _ (by omega))
         refine .g ?_
         refine .dn (.sq (.sq (.rg rfl rfl ?_)))
         refine .m ?_
         refine .m ?_
         refine .sk ?_
         refine .sk ?_
         refine .sk ?_
         refine .x .pk ?_
         refine .dn (.ff rfl (.sp (.sq (.sq (.rg rfl rfl ?_)))))
         refine .m ?_
         refine .dn (.ff rfl (.sp ?_))
         refine key _ _ ?_ ⟨rfl, rfl, rfl, rfl, rfl, rfl, rfl, trivial⟩
         simp [newW, h1, h4] <;> omega
     | true =>
       cases sv with
       | true =>
         refine .sq (.rg rfl rfl ?_)
         refine .m ?_
         refine .g ?_
         refine .dn (.sq (.sq (.rg rfl rfl ?_)))
         refine .m ?_
         refine .i ?_ (z := and4_ _ (by omega))
         refine .i ?_ (z := eql_t (by omega))
         refine .dn (.tt rfl (.rg rfl rfl ?_))
         refine .m ?_
         refine .i ?_ (z := or1_ _ (by omega))
         refine .g ?_
         refine .dn (.sq (.sq (.rg rfl rfl ?_)))
         refine .m ?_
         refine .i ?_ (z := and5_ _ (by omega))
         refine .i ?_ (z := neq_t (by omega))
         refine .dn (.tt rfl (.rg rfl rfl ?_))
         refine .m ?_
         refine .i ?_ (z := add8_ _ (by omega))
         refine .g ?_
         refine .dn (.sq (.sq (.rg rfl rfl ?_)))
         refine .m ?_
         refine .m ?_
         refine .m ?_
         refine .i ?_ (z := and1_ _ (by omega))
         refine .i ?_ (z := neq_t (by omega))
         refine .x .pk ?_
         refine .dn (.tt rfl (.rg rfl rfl ?_))
         refine .m ?_
         refine .i ?_ (z := or4_ _ (by omega))
         refine .g ?_
         refine .dn (.sq (.sq (.rg rfl rfl ?_)))
         refine .m ?_
         refine .dn ?_
         obtain ⟨g2, -⟩ := ha rfl
         refine .tt rfl (.sq (.sq (.rg rfl rfl ?_)))
         refine .m ?_
         refine .i ?_ (z := and2_ _ (by omega))
         refine .i ?_ (z := eql_f (by omega))
         refine .dn (.ff rfl (.sp (.rg rfl rfl ?_)))
         refine .m ?_
         refine .i ?_ (z := andNot2_ _ (by omega))
         refine .g ?_
         refine .dn ?_
         refine key _ _ ?_ ⟨rfl, rfl, rfl, rfl, rfl, rfl, rfl, trivial⟩
         simp [newW, h1, h4] <;> omega
       | false =>
         refine .sq (.rg rfl rfl ?_)
         refine .m ?_
         refine .g ?_
         refine .dn (.sq (.sq (.rg rfl rfl ?_)))
         refine .m ?_
         refine .i ?_ (z := and4_ _ (by omega))
         refine .i ?_ (z := eql_t (by omega))
         refine .dn (.tt rfl (.rg rfl rfl ?_))
         refine .m ?_
         refine .i ?_ (z := or1_ _ (by omega))
         refine .g ?_
         refine .dn (.sq (.sq (.rg rfl rfl ?_)))
         refine .m ?_
         refine .i ?_ (z := and5_ _ (by omega))
         refine .i ?_ (z := neq_t (by omega))
         refine .dn (.tt rfl (.rg rfl rfl ?_))
         refine .m ?_
         refine .i ?_ (z := add8_ _ (by omega))
         refine .g ?_
         refine .dn (.sq (.sq (.rg rfl rfl ?_)))
         refine .m ?_
         refine .m ?_
         refine .sk ?_
         refine .sk ?_
         refine .sk ?_
         refine .x .pk ?_
         refine .dn (.ff rfl (.sp (.sq (.sq (.rg rfl rfl ?_)))))
         refine .m ?_
         refine .dn ?_
         obtain ⟨g2, -⟩ := ha rfl
         refine .tt rfl (.sq (.sq (.rg rfl rfl ?_)))
         refine .m ?_
         refine .i ?_ (z := and2_ _ (by omega))
         refine .i ?_ (z := eql_f (by omega))
         refine .dn (.ff rfl (.sp (.rg rfl rfl ?_)))
         refine .m ?_
         refine .i ?_ (z := andNot2_ _ (by omega))
         refine .g ?_
         refine .dn ?_
         refine key _ _ ?_ ⟨rfl, rfl, rfl, rfl, rfl, rfl, rfl, trivial⟩
         simp [newW, h1, h4] <;> omega
   · cases aw with
     | true => exact absurd (ha rfl).2 (by omega)
     | false =>
       cases sv with
       | true => exact nomatch hs rfl
       | false =>
         refine .sq (.rg rfl rfl ?_)
         refine .m ?_
         refine .g ?_
         refine .dn (.sq (.sq (.rg rfl rfl ?_)))
         refine .m ?_
         refine .i ?_ (z := and4_ _ (by omega))
         refine .i ?_ (z := eql_f (by omega))
         refine .dn (.ff rfl (.sp (.sq (.sq (.rg rfl rfl ?_)))))
         refine .m ?_
         refine .i ?_ (z := and5_ _ (by omega))
         refine .i ?_ (z := neq_t (by omega))
         refine .dn (.tt rfl (.rg rfl rfl ?_))
         refine .m ?_
         refine .i ?_ (z := add8_ _ (by omega))
         refine .g ?_
         refine .dn (.sq (.sq (.rg rfl rfl ?_)))
         refine .m ?_
         refine .m ?_
         refine .sk ?_
         refine .sk ?_
         refine .sk ?_
         refine .x .pk ?_
         refine .dn (.ff rfl (.sp (.sq (.sq (.rg rfl rfl ?_)))))
         refine .m ?_
         refine .dn (.ff rfl (.sp ?_))
         refine key _ _ ?_ ⟨rfl, rfl, rfl, rfl, rfl, rfl, rfl, trivial⟩
         simp [newW, h1, h4] <;> omega
end
end Go.Proofs.YtpdaenfglbgfkaaGreatDoor
end
