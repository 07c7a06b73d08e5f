/-
  Texts of the proofs over baudot/signal: C5 C6 C6b F1 F2 C7 C8 C9 F3 F4 F5 L1 L2 G3 G2 F6 G4 G6.
-/
import Derived.Test.YtpdaenfglbgfkaaGreatDoorW06
section
namespace Go.Proofs.YtpdaenfglbgfkaaGreatDoor
open Go.RL Go.Conc Go.ConcN Go.RL.Au
open Go.ConcR (stA smA)
open Go.ConcM (muA msA)
set_option maxRecDepth 10000
set_option maxHeartbeats 4000000
section
variable {X : Fk} {κ : Nat} {D : Nat → Bool} {H : View} {cc : Frame} {cs : List Frame}
noncomputable def spin221 : Code := cT (cR (cL BB))
theorem slow_spin {k : Nat} (IH : ∀ k' < k, Head X κ D H cc cs k') {R : Rg} {o : Nat} {aw sv ws : Bool} {it : Nat} {z : Int} (hw : ws = decide (z ≠ 0)) (hit : it < 4)
   (hR : AllIn (RH X o ⟨aw, sv, ws, it⟩ z) R) : Sc (Jw Tryz.prog X κ k (.ds ⟨aw, sv, ws, it⟩) D H) 139 b221 (cc :: cs) R [] [.code (cR spin221), .code (cR BB), .inBlock 1, .inLoop B221, .inBlock 0, .code tail221] := by
 refine Sc.drop hR ?_
 refine .sq (.rg rfl rfl ?_)
 refine So.callD rfl rfl rfl nofun rfl (.mk' rfl) rfl (Jw.ds e227 rfl) ?_
 rintro v J' ⟨k1, t, hk1, ⟨rfl, rfl⟩, rfl⟩
 have hadd : intBin .add .i64 (it : Int) 1 = some (.int .i64 ((it + 1 : Nat) : Int)) := by
   rw [add_in (by omega) (by omega)]
   congr 2
 refine .dn (.sq (.rg rfl rfl ?_))
 refine .m ?_
 refine .i ?_ (z := by assumption)
 refine .g ?_
 refine .dn (.sq (.rg rfl rfl ?_))
 refine .m ?_
 refine .x .nk ?_
 refine .x (.fa (zz := fo_202_0)) ?_
 refine Jw.ldM rfl rfl rfl rfl rfl rfl rfl ag_21 nr221 (fun s hok hloc hf => ⟨hd s.m ⟨aw, sv, ws, it + 1⟩, by simp [Th.mv], (by unfold hd; split <;> rfl), fun k2 hk2 => ?_⟩)
 refine .g ?_
 refine .dn (.xt rfl ?_)
 refine Sc.inLoop (by exact Jw.cl0) ?_
 exact Sc.drop (by exact ⟨rfl, rfl, rfl, rfl, rfl, rfl, trivial⟩) (IH k2 (by omega) s.m ⟨aw, sv, ws, it + 1⟩ z hf.1 hok hloc.1 hw)
theorem c1_eq {o : Nat} {c : Lc} {x : Int} (hx : x = ((o + 2 : Nat) : Int)) {k : Nat} (ne : X.Mu ≠ X.Wg) : AtC (Jw Tryz.prog X κ k (.c1 o c) D H) 220 [.pointer (some (muA X.Mu)), .int .i32 (o : Int), .int .i32 x] fun v J' => ∃ k' t', k' < k ∧ ((v = .bool true ∧ t' = Th.ds { c with aw := true }) ∨ (v = .bool false ∧ t' = Th.ds c)) ∧ J' = Jw Tryz.prog X κ k' t' D H :=
 hx ▸ Jw.c1 ne e220
theorem slow_head (hK : ∀ v J', LockK X κ H v J' → J' (G (cc.finish v) cs)) (ne : X.Mu ≠ X.Wg) (k : Nat) : Head X κ D H cc cs k := by
 induction k using Nat.strongRecOn with
 | ind k IH =>
   rintro o ⟨aw, sv, ws, it⟩ z ho ha hs hw
   simp only at ha hs hw
   by_cases h5 : o % 2 = 1 ∧ o / 4 % 2 = 0
   · have hh : hd o ⟨aw, sv, ws, it⟩ = .sq o ⟨aw, sv, ws, it⟩ := if_pos h5
     obtain ⟨h1, h4⟩ := h5
     rw [hh]
     refine Sc.block Jw.cl0 (Sc.seq Jw.cl0 ?_)
     refine .sq (.rg rfl rfl ?_)
     refine .m ?_
     refine .i ?_ (z := and5_ _ (by omega))
     refine .i ?_ (z := eql_t (by omega))
     refine .m ?_
     refine .m ?_
     skip
     refine So.callD rfl rfl rfl nofun rfl (.mk' rfl) rfl (Jw.sq e226) ?_
     rintro v J' ⟨k1, t, hk1, ⟨rfl, hit, rfl⟩ | ⟨rfl, rfl⟩, rfl⟩
     · refine .x .pk ?_
       refine .dn (.tt rfl ?_)
       rcases Nat.mod_two_eq_zero_or_one (o / 2) with h2 | h2
       · cases aw with
         | true => exact absurd (ha rfl).1 (by omega)
         | false =>
           by_cases h8 : o / 8 = 0
           · rw [if_neg (by omega)]
             refine .sq (.sq (.rg rfl rfl ?_))
             refine .m ?_
             refine .x .nt ?_
             refine .m ?_
             refine .m ?_
             refine .i ?_ (z := and2_ _ (by omega))
             refine .i ?_ (z := eql_t (by omega))
             refine .x .pk ?_
             refine .m ?_
             refine .m ?_
             refine .x (OpP.shift rfl rfl rfl (by omega) (by exact shr3_ _ (by omega))) ?_
             refine .i ?_ (z := neq_f (by omega))
             refine .x .pk ?_
             refine .m ?_
             refine .sk ?_
             refine .sk ?_
             refine .sk ?_
             refine .sk ?_
             refine .sk ?_
             refine .sk ?_
             refine .sk ?_
             refine .x .pk ?_
             refine .dn (.ff rfl (.sp ?_))
             exact slow_spin (o := o) (fun k' h => IH k' (by omega)) hw hit ⟨rfl, rfl, rfl, rfl, rfl, rfl, trivial⟩
           · rw [if_pos ⟨rfl, h2, h8⟩]
             refine .sq (.sq (.rg rfl rfl ?_))
             refine .m ?_
             refine .x .nt ?_
             refine .m ?_
             refine .m ?_
             refine .i ?_ (z := and2_ _ (by omega))
             refine .i ?_ (z := eql_t (by omega))
             refine .x .pk ?_
             refine .m ?_
             refine .m ?_
             refine .x (OpP.shift rfl rfl rfl (by omega) (by exact shr3_ _ (by omega))) ?_
             refine .i ?_ (z := neq_t (by omega))
             refine .x .pk ?_
             refine .m ?_
             refine .m ?_
             refine .x .nk ?_
             refine .x (.fa (zz := fo_202_0)) ?_
             refine .m ?_
             refine .m ?_
             refine .i ?_ (z := or2_ _ (by omega))
             skip
             refine So.callD rfl rfl rfl nofun rfl (.mk' rfl) rfl (c1_eq (by congr 1; omega) ne) ?_
             rintro v J' ⟨k2, t, hk2, ⟨rfl, rfl⟩ | ⟨rfl, rfl⟩, rfl⟩
             · refine .x .pk ?_
               refine .dn (.tt rfl (.rg rfl rfl ?_))
               refine .g ?_
               refine .dn ?_
               exact slow_spin (o := o) (fun k' h => IH k' (by omega)) hw hit ⟨rfl, rfl, rfl, rfl, rfl, rfl, trivial⟩
             · refine .x .pk ?_
               refine .dn (.ff rfl (.sp ?_))
               exact slow_spin (o := o) (fun k' h => IH k' (by omega)) hw hit ⟨rfl, rfl, rfl, rfl, rfl, rfl, trivial⟩
       · rw [if_neg (by omega)]
         cases aw with
         | true =>
           refine .sq (.sq (.rg rfl rfl ?_))
           refine .m ?_
           refine .x .nt ?_
           refine .m ?_
           refine .sk ?_
           refine .sk ?_
           refine .sk ?_
           refine .x .pk ?_
           refine .m ?_
           refine .sk ?_
           refine .sk ?_
           refine .sk ?_
           refine .x .pk ?_
           refine .m ?_
           refine .sk ?_
           refine .sk ?_
           refine .sk ?_
           refine .sk ?_
           refine .sk ?_
           refine .sk ?_
           refine .sk ?_
           refine .x .pk ?_
           refine .dn (.ff rfl (.sp ?_))
           exact slow_spin (o := o) (fun k' h => IH k' (by omega)) hw hit ⟨rfl, rfl, rfl, rfl, rfl, rfl, trivial⟩
         | false =>
           refine .sq (.sq (.rg rfl rfl ?_))
           refine .m ?_
           refine .x .nt ?_
           refine .m ?_
           refine .m ?_
           refine .i ?_ (z := and2_ _ (by omega))
           refine .i ?_ (z := eql_f (by omega))
           refine .x .pk ?_
           refine .m ?_
           refine .sk ?_
           refine .sk ?_
           refine .sk ?_
           refine .x .pk ?_
           refine .m ?_
           refine .sk ?_
           refine .sk ?_
           refine .sk ?_
           refine .sk ?_
           refine .sk ?_
           refine .sk ?_
           refine .sk ?_
           refine .x .pk ?_
           refine .dn (.ff rfl (.sp ?_))
           exact slow_spin (o := o) (fun k' h => IH k' (by omega)) hw hit ⟨rfl, rfl, rfl, rfl, rfl, rfl, trivial⟩
     · refine .x .pk ?_
       refine .dn (.ff rfl (.sp ?_))
       exact slow_c2 hK (fun k' h => IH k' (by omega)) ne ho ha hs hw ⟨rfl, rfl, rfl, rfl, rfl, rfl, trivial⟩
   · have hh : hd o ⟨aw, sv, ws, it⟩ = .c2 o ⟨aw, sv, ws, it⟩ := if_neg h5
     rw [hh]
     refine Sc.block Jw.cl0 (Sc.seq Jw.cl0 ?_)
     refine .sq (.rg rfl rfl ?_)
     refine .m ?_
     refine .i ?_ (z := and5_ _ (by omega))
     refine .i ?_ (z := eql_f (by omega))
     refine .m ?_
     refine .sk ?_
     refine .sk ?_
     refine .x .pk ?_
     refine .dn (.ff rfl (.sp ?_))
     exact slow_c2 hK (fun k' h => IH k' (by omega)) ne ho ha hs hw ⟨rfl, rfl, rfl, rfl, rfl, rfl, trivial⟩
theorem slow_c {k : Nat} (ne : X.Mu ≠ X.Wg) : AtC (Jw Tryz.prog X κ k .r0 D H) 221 [.pointer (some ⟨X.Mu, 0, none⟩)] (LockK X κ H) := by
 refine InC.at (by exact Jw.clX rfl) ca221 (InC.enter (vs := [.pointer (some ⟨X.Mu, 0, none⟩)]) Tryz.func221 rfl Tryz.ntmps221 (Nat.le_of_ble_eq_true rfl) fun c cs hK => ?_)
 refine .sq (.rg rfl rfl ?_)
 refine .g ?_
 refine .dn (.sq (.rg rfl rfl ?_))
 refine .g ?_
 refine .dn (.sq (.rg rfl rfl ?_))
 refine .g ?_
 refine .dn (.sq (.rg rfl rfl ?_))
 refine .g ?_
 refine .dn (.sq (.rg rfl rfl ?_))
 refine .m ?_
 refine .x .nk ?_
 refine .x (.fa (zz := fo_202_0)) ?_
 refine Jw.ldM rfl rfl rfl rfl rfl rfl rfl ag_21 nr221 (fun s hok hloc hf => ⟨hd s.m ⟨false, false, false, 0⟩, by simp [Th.mv], (by unfold hd; split <;> rfl), fun k2 hk2 => ?_⟩)
 refine .g ?_
 refine .dn (.sq (.bl ?_))
 refine Sc.loop (by exact Jw.cl0) ?_
 exact Sc.drop (by exact ⟨rfl, rfl, rfl, rfl, rfl, rfl, trivial⟩) (slow_head hK ne k2 s.m ⟨false, false, false, 0⟩ 0 hf.1 (fun h => nomatch h) (fun h => nomatch h) rfl)
theorem ilock_c {k : Nat} (ne : X.Mu ≠ X.Wg) : AtC (Jw Tryz.prog X κ k .ld D H) 203 [.pointer (some ⟨X.Mu, 0, none⟩)] (LockK X κ H) := by
 refine InC.at (by exact Jw.clX rfl) ca203 (InC.enter (vs := [.pointer (some ⟨X.Mu, 0, none⟩)]) Tryz.func203 rfl Tryz.ntmps203 (Nat.le_of_ble_eq_true rfl) fun c cs hK => ?_)
 refine .sq (.rg rfl rfl ?_)
 refine So.callD rfl rfl rfl nofun rfl (.mk' rfl) rfl (Jw.ld e191) ?_
 rintro v J' ⟨k1, t, hk1, ⟨rfl, rfl⟩, rfl⟩
 refine .dn (.sq (.sq (.rg rfl rfl ?_)))
 refine .m ?_
 refine .x .nk ?_
 refine .x (.fa (zz := fo_202_0)) ?_
 refine So.callD rfl rfl rfl nofun rfl (.mk' rfl) rfl (Jw.l0 ne e220) ?_
 rintro v J' ⟨k2, t, hk2, ⟨rfl, rfl⟩ | ⟨rfl, rfl⟩, rfl⟩
 · refine .dn (.tt rfl (.sq (.tt rfl (.sq (.rg rfl rfl ?_)))))
   refine So.callD rfl rfl rfl nofun rfl (.mk' rfl) rfl (Jw.le e192) ?_
   rintro v J' ⟨k3, t, hk3, ⟨rfl, rfl⟩, rfl⟩
   refine .dn ?_
   have hsh := shp_mu X
   refine .rg rfl rfl ?_
   refine .m ?_
   refine .x (OpP.raw rfl rfl un_262 un_236 sz_202 (by assumption)) ?_
   refine So.callD rfl rfl rfl nofun rfl (.mk' rfl) rfl (Jw.la e205) ?_
   rintro v J' ⟨rfl, k', D', o, -, h1, h2, rfl⟩
   refine .dn ?_
   refine Sc.retCode (by exact Jw.clX rfl) rfl (Sb.leave (by exact Jw.clX rfl) Tryz.func203 rfl (by exact .inl ⟨Tryz.results203, rfl⟩) ?_)
   exact hK _ _ ⟨rfl, k', D', o, h1, h2, rfl⟩
 · refine .dn (.ff rfl (.sp (.rg rfl rfl ?_)))
   refine .m ?_
   refine So.callD rfl rfl rfl nofun rfl (.mk' rfl) rfl (slow_c ne) ?_
   rintro v J' ⟨rfl, k', D', o, h1, h2, rfl⟩
   refine .dn ?_
   refine Sc.over (by exact Jw.clX rfl) rfl (Sb.leave (by exact Jw.clX rfl) Tryz.func203 rfl (by exact .inl ⟨Tryz.results203, rfl⟩) ?_)
   exact hK _ _ ⟨rfl, k', D', o, h1, h2, rfl⟩
theorem lock_c {k : Nat} (ne : X.Mu ≠ X.Wg) : AtC (Jw Tryz.prog X κ k .ld D H) 163 [.pointer (some ⟨X.Mu, 0, none⟩)] (LockK X κ H) := by
 refine InC.at (by exact Jw.clX rfl) ca163 (InC.enter (vs := [.pointer (some ⟨X.Mu, 0, none⟩)]) Tryz.func163 rfl Tryz.ntmps163 (Nat.le_of_ble_eq_true rfl) fun c cs hK => ?_)
 refine .rg rfl rfl ?_
 refine .m ?_
 refine .x .nk ?_
 refine .x (.fa (zz := fo_204_1)) ?_
 refine So.callD rfl rfl rfl nofun rfl (.mk' rfl) rfl (ilock_c ne) ?_
 rintro v J' ⟨rfl, k', D', o, h1, h2, rfl⟩
 refine .dn ?_
 refine Sc.over (by exact Jw.clX rfl) rfl (Sb.leave (by exact Jw.clX rfl) Tryz.func163 rfl (by exact .inl ⟨Tryz.results163, rfl⟩) ?_)
 exact hK _ _ ⟨rfl, k', D', o, h1, h2, rfl⟩
end
end Go.Proofs.YtpdaenfglbgfkaaGreatDoor
end
section
namespace Go.Proofs.YtpdaenfglbgfkaaGreatDoor
open Go.RL Go.Conc Go.ConcN Go.RL.Au
open Go.ConcR (stA smA)
open Go.ConcM (muA msA)
set_option maxRecDepth 10000
set_option maxHeartbeats 4000000
section
variable {X : Fk} {κ : Nat} {D : Nat → Bool} {H : View} {cc : Frame} {cs : List Frame}
def UslK (X : Fk) (κ : Nat) (D : Nat → Bool) (H : View) (v : Value) (J' : Goroutine → Prop) : Prop := v = .tuple #[] ∧ ∃ k', J' = Jw Tryz.prog X κ k' .ue D H
noncomputable def loop223 : Code := cR (cT (cR (cR (bodyOf Tryz.f223))))
noncomputable def B223 : Code := cB (cB loop223)
abbrev b223 : FB := ⟨223, .normal, none⟩
theorem nr223 : (Tryz.prog.funcs[223]?).any (·.norace) = true := by kernel_rfl
theorem nr204 : (Tryz.prog.funcs[204]?).any (·.norace) = true := by kernel_rfl
def ulT (n : Nat) : Th := if n / 8 = 0 ∨ n % 8 ≠ 0 then .ue else .uc n
def HeadU (X : Fk) (κ : Nat) (D : Nat → Bool) (H : View) (cc : Frame) (cs : List Frame) (k : Nat) : Prop :=
 ∀ (n : Nat) (R : Rg), n < 64 → AllIn [(0, .pointer (some ⟨X.Mu, 0, none⟩)), (4, .int .i32 (n : Int))] R → Sc (Jw Tryz.prog X κ k (ulT n) D H) 43 b223 (cc :: cs) R [] [.code B223, .inLoop B223, .inBlock 0]
theorem uc_eq {o : Nat} {x : Int} (hx : x = ((o - 6 : Nat) : Int)) {k : Nat} (ne : X.Mu ≠ X.Wg) : AtC (Jw Tryz.prog X κ k (.uc o) D H) 220 [.pointer (some (muA X.Mu)), .int .i32 (o : Int), .int .i32 x] fun v J' => ∃ k' t', k' < k ∧ ((v = .bool true ∧ t' = Th.us false) ∨ (v = .bool false ∧ t' = Th.ux)) ∧ J' = Jw Tryz.prog X κ k' t' D H :=
 hx ▸ Jw.uc ne e220
theorem usl_head (hK : ∀ v J', UslK X κ D H v J' → J' (G (cc.finish v) cs)) (ne : X.Mu ≠ X.Wg) (k : Nat) : HeadU X κ D H cc cs k := by
 induction k using Nat.strongRecOn with
 | ind k IH =>
   intro n R hn hR
   refine Sc.drop hR ?_
   by_cases h0 : n / 8 = 0
   · have ht : ulT n = .ue := if_pos (.inl h0)
     rw [ht]
     refine .bl (.sq (.sq (.rg rfl rfl ?_)))
     refine .m ?_
     refine .x (OpP.shift rfl rfl rfl (by omega) (by exact shr3_ _ (by omega))) ?_
     refine .i ?_ (z := eql_t (by omega))
     refine .m ?_
     refine .sk ?_
     refine .sk ?_
     refine .sk ?_
     refine .x .pk ?_
     refine .dn (.tt rfl ?_)
     refine Sc.retCode (by exact Jw.clX rfl) rfl (Sb.leave (by exact Jw.clX rfl) Tryz.func223 rfl (by exact .inl ⟨Tryz.results223, rfl⟩) ?_)
     exact hK _ _ ⟨rfl, k, rfl⟩
   · by_cases h8 : n % 8 = 0
     · have ht : ulT n = .uc n := if_neg (by omega)
       rw [ht]
       refine .bl (.sq (.sq (.rg rfl rfl ?_)))
       refine .m ?_
       refine .x (OpP.shift rfl rfl rfl (by omega) (by exact shr3_ _ (by omega))) ?_
       refine .i ?_ (z := eql_f (by omega))
       refine .m ?_
       refine .m ?_
       refine .i ?_ (z := and7_ _ (by omega))
       refine .i ?_ (z := neq_f (by omega))
       refine .x .pk ?_
       refine .dn (.ff rfl (.sp (.sq (.rg rfl rfl ?_))))
       refine .m ?_
       refine .i ?_ (z := sub8_ _ (by omega))
       refine .i ?_ (z := or2_ _ (by omega))
       refine .g ?_
       refine .dn (.sq (.sq (.rg rfl rfl ?_)))
       refine .m ?_
       refine .x .nk ?_
       refine .x (.fa (zz := fo_202_0)) ?_
       refine .m ?_
       refine .m ?_
       refine So.callD rfl rfl rfl nofun rfl (.mk' rfl) rfl (uc_eq (by congr 1; omega) ne) ?_
       rintro v J' ⟨k1, t, hk1, ⟨rfl, rfl⟩ | ⟨rfl, rfl⟩, rfl⟩
       · refine .dn (.tt rfl (.sq (.rg rfl rfl ?_)))
         refine .m ?_
         refine .x .nk ?_
         refine .x (.fa (zz := fo_202_1)) ?_
         refine So.callD rfl rfl rfl nofun rfl (.mk' rfl) rfl (Jw.us (vs := [.pointer (some ⟨X.Mu, 1, none⟩), .bool false, .int .i64 2]) ne e232 rfl) ?_
         rintro v J' ⟨k2, t, hk2, ⟨rfl, rfl⟩, rfl⟩
         refine .dn ?_
         refine Sc.retCode (by exact Jw.clX rfl) rfl (Sb.leave (by exact Jw.clX rfl) Tryz.func223 rfl (by exact .inl ⟨Tryz.results223, rfl⟩) ?_)
         exact hK _ _ ⟨rfl, k2, rfl⟩
       · refine .dn (.ff rfl (.sp (.rg rfl rfl ?_)))
         refine .m ?_
         refine .x .nk ?_
         refine .x (.fa (zz := fo_202_0)) ?_
         refine Jw.ldM rfl rfl rfl rfl rfl rfl rfl ag_21 nr223 (fun s hok hloc hf => ⟨ulT s.m, by simp [Th.mv, ulT], (by unfold ulT; split <;> rfl), fun k2 hk2 => ?_⟩)
         refine .g ?_
         refine .dn (.ib ?_)
         refine Sc.inLoop (by exact Jw.cl0) ?_
         exact IH k2 (by omega) s.m _ hf.1 ⟨rfl, rfl, trivial⟩
     · have ht : ulT n = .ue := if_pos (.inr h8)
       rw [ht]
       refine .bl (.sq (.sq (.rg rfl rfl ?_)))
       refine .m ?_
       refine .x (OpP.shift rfl rfl rfl (by omega) (by exact shr3_ _ (by omega))) ?_
       refine .i ?_ (z := eql_f (by omega))
       refine .m ?_
       refine .m ?_
       refine .i ?_ (z := and7_ _ (by omega))
       refine .i ?_ (z := neq_t (by omega))
       refine .x .pk ?_
       refine .dn (.tt rfl ?_)
       refine Sc.retCode (by exact Jw.clX rfl) rfl (Sb.leave (by exact Jw.clX rfl) Tryz.func223 rfl (by exact .inl ⟨Tryz.results223, rfl⟩) ?_)
       exact hK _ _ ⟨rfl, k, rfl⟩
theorem usl_c {k n : Nat} (hn : n < 64) (h1 : n % 2 = 0) (ne : X.Mu ≠ X.Wg) : AtC (Jw Tryz.prog X κ k (if n / 4 % 2 = 1 then .us true else ulT n) D H) 223 [.pointer (some ⟨X.Mu, 0, none⟩), .int .i32 (n : Int)] (UslK X κ D H) := by
 by_cases h4 : n / 4 % 2 = 1
 · rw [if_pos h4]
   refine InC.at (by exact Jw.clX rfl) ca223 (InC.enter (vs := [.pointer (some ⟨X.Mu, 0, none⟩), .int .i32 (n : Int)]) Tryz.func223 rfl Tryz.ntmps223 (Nat.le_of_ble_eq_true rfl) fun c cs hK => ?_)
   refine .sq (.sq (.rg rfl rfl ?_))
   refine .m ?_
   refine .i ?_ (z := add1_ _ (by omega))
   refine .i ?_ (z := and1_ _ (by omega))
   refine .i ?_ (z := eql_f (by omega))
   refine .dn (.ff rfl (.sp (.sq (.rg rfl rfl ?_))))
   refine .m ?_
   refine .i ?_ (z := and4_ _ (by omega))
   refine .i ?_ (z := eql_f (by omega))
   refine .dn (.ff rfl (.rg rfl rfl ?_))
   refine .m ?_
   refine .x .nk ?_
   refine .x (.fa (zz := fo_202_1)) ?_
   refine So.callD rfl rfl rfl nofun rfl (.mk' rfl) rfl (Jw.us (vs := [.pointer (some ⟨X.Mu, 1, none⟩), .bool true, .int .i64 2]) ne e232 rfl) ?_
   rintro v J' ⟨k2, t, hk2, ⟨rfl, rfl⟩, rfl⟩
   refine .dn ?_
   refine Sc.over (by exact Jw.clX rfl) rfl (Sb.leave (by exact Jw.clX rfl) Tryz.func223 rfl (by exact .inl ⟨Tryz.results223, rfl⟩) ?_)
   exact hK _ _ ⟨rfl, k2, rfl⟩
 · rw [if_neg h4]
   refine InC.at (by exact Jw.cl0) ca223 (InC.enter (vs := [.pointer (some ⟨X.Mu, 0, none⟩), .int .i32 (n : Int)]) Tryz.func223 rfl Tryz.ntmps223 (Nat.le_of_ble_eq_true rfl) fun c cs hK => ?_)
   refine .sq (.sq (.rg rfl rfl ?_))
   refine .m ?_
   refine .i ?_ (z := add1_ _ (by omega))
   refine .i ?_ (z := and1_ _ (by omega))
   refine .i ?_ (z := eql_f (by omega))
   refine .dn (.ff rfl (.sp (.sq (.rg rfl rfl ?_))))
   refine .m ?_
   refine .i ?_ (z := and4_ _ (by omega))
   refine .i ?_ (z := eql_t (by omega))
   refine .dn (.tt rfl (.sq (.rg rfl rfl ?_)))
   refine .m ?_
   refine .g ?_
   refine .dn (.bl ?_)
   refine Sc.loop (by exact Jw.cl0) ?_
   exact usl_head hK ne k n _ hn ⟨rfl, rfl, trivial⟩
def UnlockK (X : Fk) (κ : Nat) (D : Nat → Bool) (H : View) (v : Value) (J' : Goroutine → Prop) : Prop := v = .tuple #[] ∧ ∃ k', J' = Jw Tryz.prog X κ k' .wr D H
theorem iunlock_c {k : Nat} {o : Obj} (ne : X.Mu ≠ X.Wg) (hC : H X.C = none) (hG : X.GI (also D κ) o) : AtC (Jw Tryz.prog X κ k .up D (H.put X.C (true, o))) 204 [.pointer (some ⟨X.Mu, 0, none⟩)] (UnlockK X κ D H) := by
 refine InC.at (by exact Jw.clX rfl) ca204 (InC.enter (vs := [.pointer (some ⟨X.Mu, 0, none⟩)]) Tryz.func204 rfl Tryz.ntmps204 (Nat.le_of_ble_eq_true rfl) fun c cs hK => ?_)
 refine .sq (.tt rfl (.sq (.rg rfl rfl ?_)))
 refine .m ?_
 refine .x .nk ?_
 refine .x (.fa (zz := fo_202_0)) ?_
 refine Jw.ldM rfl rfl rfl rfl rfl rfl rfl ag_21 nr204 (fun s hok hloc hf => ⟨.ur, by simp [Th.mv], rfl, fun k1 hk1 => ?_⟩)
 refine .dn ?_
 have hsh := shp_mu X
 refine .sq (.rg rfl rfl ?_)
 refine .m ?_
 refine .x (OpP.raw rfl rfl un_262 un_236 sz_202 (by assumption)) ?_
 refine So.callD rfl rfl rfl nofun rfl (.mk' rfl) rfl (Jw.ur e190 hC hG) ?_
 rintro v J' ⟨rfl, k2, hk2, rfl⟩
 refine .dn (.rg rfl rfl ?_)
 refine So.callD rfl rfl rfl nofun rfl (.mk' rfl) rfl (Jw.ud e191) ?_
 rintro v J' ⟨k3, t, hk3, ⟨rfl, rfl⟩, rfl⟩
 refine .dn (.sq (.rg rfl rfl ?_))
 refine .m ?_
 refine .x .nk ?_
 refine .x (.fa (zz := fo_202_0)) ?_
 refine So.callD rfl rfl rfl nofun rfl (.mk' rfl) rfl (Jw.u0 ne e222) ?_
 rintro v J' ⟨k4, t, hk4, ⟨m, hm, h1, rfl, rfl⟩, rfl⟩
 by_cases e : m = 1
 · rw [if_pos e]
   refine .g ?_
   refine .dn (.sq (.sq (.rg rfl rfl ?_)))
   refine .m ?_
   refine .i ?_ (z := neq_f (by omega))
   refine .dn (.ff rfl (.sp (.rg rfl rfl ?_)))
   refine So.callD rfl rfl rfl nofun rfl (.mk' rfl) rfl (Jw.ue e192) ?_
   rintro v J' ⟨k5, t, hk5, ⟨rfl, rfl⟩, rfl⟩
   refine .dn ?_
   refine Sc.over (by exact Jw.clX rfl) rfl (Sb.leave (by exact Jw.clX rfl) Tryz.func204 rfl (by exact .inl ⟨Tryz.results204, rfl⟩) ?_)
   exact hK _ _ ⟨rfl, k5, rfl⟩
 · rw [if_neg e]
   refine .g ?_
   refine .dn (.sq (.sq (.rg rfl rfl ?_)))
   refine .m ?_
   refine .i ?_ (z := neq_t (by omega))
   refine .dn (.tt rfl (.rg rfl rfl ?_))
   refine .m ?_
   refine .m ?_
   refine So.callD rfl rfl rfl nofun rfl (.mk' rfl) rfl (usl_c (n := m - 1) (by omega) (by omega) ne) ?_
   rintro v J' ⟨rfl, k5, rfl⟩
   refine .dn (.rg rfl rfl ?_)
   refine So.callD rfl rfl rfl nofun rfl (.mk' rfl) rfl (Jw.ue e192) ?_
   rintro v J' ⟨k6, t, hk6, ⟨rfl, rfl⟩, rfl⟩
   refine .dn ?_
   refine Sc.over (by exact Jw.clX rfl) rfl (Sb.leave (by exact Jw.clX rfl) Tryz.func204 rfl (by exact .inl ⟨Tryz.results204, rfl⟩) ?_)
   exact hK _ _ ⟨rfl, k6, rfl⟩
theorem unlock_d {k n : Nat} {b : FB} {R : Rg} {ds : List Deferred} {o : Obj} (hb : b.rd = none) (ne : X.Mu ≠ X.Wg) (hC : H X.C = none) (hG : X.GI (also D κ) o)
   (h : ∀ k', Sb (Jw Tryz.prog X κ k' .wr D H) n b cs R ds) : Sb (Jw Tryz.prog X κ k .up D (H.put X.C (true, o))) n b cs R (dcall 164 #[.pointer (some ⟨X.Mu, 0, none⟩)] :: ds) := by
 refine Sb.enterD (vs := [.pointer (some ⟨X.Mu, 0, none⟩)]) Jw.cl0 hb Tryz.func164 (by kernel_rfl) rfl Tryz.ntmps164 (Nat.le_of_ble_eq_true rfl) fun c hm hc => ?_
 refine .rg rfl rfl ?_
 refine .m ?_
 refine .x .nk ?_
 refine .x (.fa (zz := fo_204_1)) ?_
 refine So.callD rfl rfl rfl nofun rfl (.mk' rfl) rfl (iunlock_c ne hC hG) ?_
 rintro v J' ⟨rfl, k', rfl⟩
 refine .dn ?_
 refine Sc.over Jw.cl0 rfl (Sb.leaveD Jw.cl0 Tryz.func164 rfl Tryz.results164 (.inl hm) (hc _ (h k')))
end
end Go.Proofs.YtpdaenfglbgfkaaGreatDoor
end
section
namespace Go.Proofs.YtpdaenfglbgfkaaGreatDoor
open Go.RL Go.Conc Go.ConcN Go.RL.Au
open Go.ConcR (stA smA)
open Go.ConcM (muA msA)
set_option maxRecDepth 10000
set_option maxHeartbeats 1000000
theorem g64_hi : ∀ a : Nat, a < 8 → ∀ b : Nat, b < 2 → bitI .and .u64 ((a * 4294967296 + b : Nat) : Int) 2147483648 = 0 := by decide +kernel
theorem g64_lo : ∀ a : Nat, a < 8 → ∀ b : Nat, b < 2 → bitI .and .u64 ((a * 4294967296 + b : Nat) : Int) 2147483647 = (b : Int) := by decide +kernel
theorem g64_sh : ∀ a : Nat, a < 8 → ∀ b : Nat, b < 2 → ((a * 4294967296 + b : Nat) : Int).fdiv (2 ^ (min (32 : Int).toNat IntKind.u64.bits)) = (a : Int) := by decide +kernel
theorem w64_m1 : IntKind.u64.wrap (-1) = 18446744073709551615 := by decide +kernel
theorem sh64_m1 : shiftV .shl .u64 18446744073709551615 32 = some (.int .u64 18446744069414584320) := by
 show some (Value.int .u64 (IntKind.u64.wrap (18446744073709551615 * 2 ^ (min (32 : Int).toNat IntKind.u64.bits)))) = _
 rw [show IntKind.u64.wrap (18446744073709551615 * 2 ^ (min (32 : Int).toNat IntKind.u64.bits)) = 18446744069414584320 by decide +kernel]
theorem w64_1 : IntKind.u64.wrap 1 = 1 := by decide +kernel
theorem sh64_1 : shiftV .shl .u64 1 32 = some (.int .u64 4294967296) := by
 show some (Value.int .u64 (IntKind.u64.wrap (1 * 2 ^ (min (32 : Int).toNat IntKind.u64.bits)))) = _
 rw [show IntKind.u64.wrap (1 * 2 ^ (min (32 : Int).toNat IntKind.u64.bits)) = 4294967296 by decide +kernel]
theorem w32_m1 : IntKind.i32.wrap (-1) = -1 := by decide +kernel
theorem w32_s : ∀ a : Nat, a < 8 → IntKind.i32.wrap (a : Int) = (a : Int) := by decide +kernel
theorem wu32_s : ∀ a : Nat, a < 8 → IntKind.u32.wrap (a : Int) = (a : Int) := by decide +kernel
end Go.Proofs.YtpdaenfglbgfkaaGreatDoor
end
section
namespace Go.Proofs.YtpdaenfglbgfkaaGreatDoor
open Go.RL Go.Conc Go.ConcN Go.RL.Au
open Go.ConcR (stA smA)
open Go.ConcM (muA msA)
set_option maxRecDepth 10000
set_option maxHeartbeats 4000000
def Ch.bad (c : Ch) (i : Nat) : Option Int := if c.fits i then (c.lk i).weak.map (fun n => (n : Int)) else some (-1)
def wF (c : Ch) (D : Nat → Bool) (k v : Value) : Prop := ∃ (i : Nat) (z : Int), i ≤ c.m ∧ D i = true ∧ c.bad i = some z ∧ k = .int .i64 (i : Nat) ∧ v = .int .i64 z
def GIc (c : Ch) (D : Nat → Bool) (o : Obj) : Prop := ∃ es cl, o = .map es cl ∧ MapOk es cl (wF c D)
theorem int_key (i : Int) : KeyFl en 1 3 (.int .i64 i) := ⟨_, [_], rfl, rfl, _, rfl⟩
theorem wF_keys {c : Ch} {D : Nat → Bool} {es : Array MapEntry} {cl : Nat} (h : MapOk es cl (wF c D)) : ∀ e ∈ es.toList, KeyFl en 1 3 e.key := fun e he => by
 obtain ⟨i, z, _, _, _, hk, _⟩ := (h.mem e.key e.val).2 ⟨e, he, rfl, rfl⟩
 rw [hk]
 exact int_key _
theorem wF_none {c : Ch} {D : Nat → Bool} {κ : Nat} (h : c.bad κ = none) (k v : Value) : wF c (also D κ) k v ↔ wF c D k v := by
 unfold wF also
 constructor
 · rintro ⟨i, z, h1, h2, h3, h4, h5⟩
   refine ⟨i, z, h1, ?_, h3, h4, h5⟩
   by_cases e : i = κ
   · subst e; rw [h] at h3; cases h3
   · simpa [e] using h2
 · rintro ⟨i, z, h1, h2, h3, h4, h5⟩
   exact ⟨i, z, h1, by simp [h2], h3, h4, h5⟩
theorem wF_some {c : Ch} {D : Nat → Bool} {κ : Nat} {z : Int} (hκ : κ ≤ c.m) (h : c.bad κ = some z) (k v : Value) :
   wF c (also D κ) k v ↔ (k = .int .i64 (κ : Nat) ∧ v = .int .i64 z) ∨ (k ≠ .int .i64 (κ : Nat) ∧ wF c D k v) := by
 unfold wF also
 constructor
 · rintro ⟨i, z', h1, h2, h3, h4, h5⟩
   by_cases e : i = κ
   · subst e
     rw [h] at h3
     cases h3
     exact .inl ⟨h4, h5⟩
   · refine .inr ⟨?_, i, z', h1, by simpa [e] using h2, h3, h4, h5⟩
     rw [h4]
     intro hh
     simp only [Value.int.injEq, true_and, Int.natCast_inj] at hh
     exact e hh
 · rintro (⟨rfl, rfl⟩ | ⟨_, i, z', h1, h2, h3, h4, h5⟩)
   · exact ⟨κ, z, hκ, by simp, h, rfl, rfl⟩
   · exact ⟨i, z', h1, by simp [h2], h3, h4, h5⟩
theorem put_without {H : View} {b : Nat} {x : Bool × Obj} (h : H b = some x) : (H.without b).put b x = H := by
 funext c
 by_cases e : c = b
 · subst e; rw [View.put_same, h]
 · rw [View.put_other _ _ e, without_other e]
structure WkAt (X : Fk) (c : Ch) (H : View) (κ b1 b8 b7 lb lo lc ac : Nat) (A : Option Addr) : Prop where
 ne : X.Mu ≠ X.Wg
 ok : c.Ok
 ch : ChAt H c lb lo lc A
 h1 : ∃ f, H b1 = some (f, .cells ⟨(c.val lb lo lc ac A).cells.toList⟩ 146 (0, 0))
 h8 : ∃ f, H b8 = some (f, .cells ⟨[.int .i64 (κ : Nat)]⟩ 3 (0, 0))
 h7 : ∃ f, H b7 = some (f, .cells ⟨[.map (some X.C)]⟩ 212 (0, 0))
 fine : ∀ i, i ≤ c.m → c.fits i = true → (c.lk i).Fine
 kn : κ ≤ c.m
 glob : Glob H
 C0 : H X.C = none
 GI : X.GI = GIc c
def wkVs (X : Fk) (b1 b8 b7 : Nat) : List Value := [.pointer (some ⟨X.Wg, 0, none⟩), .pointer (some ⟨b1, 0, none⟩), .pointer (some ⟨b8, 0, none⟩), .pointer (some ⟨X.Mu, 0, none⟩), .pointer (some ⟨b7, 0, none⟩)]
section
variable {X : Fk} {c : Ch} {H : View} {κ b1 b8 b7 lb lo lc ac : Nat} {A : Option Addr}
theorem worker_c (w : WkAt X c H κ b1 b8 b7 lb lo lc ac A)
   (done : ∀ (H' : View) (D : Nat → Bool) (k n : Nat) (b : FB) (cs : List Frame) (R : Rg) (ds : List Deferred), b.rd = none → Sb (Jq Tryz.prog 0) n b cs R ds → Sb (Jw Tryz.prog X κ k .wr D H') n b cs R (dcall 162 #[.pointer (some ⟨X.Wg, 0, none⟩)] :: ds)) (k : Nat) :
   Jw Tryz.prog X κ k .ld (fun _ => false) H (Go.Conc.born Tryz.prog { target := .fn (.func 161) (wkVs X b1 b8 b7).toArray, args := #[] }) := by
 obtain ⟨ne, hok, hch, ⟨f1, h1⟩, ⟨f8, h8⟩, ⟨f7, h7⟩, hfine, hκ, hG, hC0, hGI⟩ := w
 have l8 : ldL false 1 [Value.int .i64 (κ : Nat)] 0 = some (.int .i64 (κ : Nat)) := rfl
 refine Cl.born (vs := wkVs X b1 b8 b7) Jw.cl0 Tryz.func161 (by kernel_rfl) rfl Tryz.ntmps161 (Nat.le_of_ble_eq_true rfl) (by simp) ?_
 have fin : ∀ (z : Int) (is : Bool) (H1 : View), c.bad κ = (if is then some z else none) → H.le H1 → Sc (Jw Tryz.prog X κ k .ld (fun _ => false) (H1.without X.C)) 26 ⟨161, .deferred, none⟩ [botF Tryz.prog]
     [(0, .pointer (some ⟨X.Wg, 0, none⟩)), (2, .pointer (some ⟨b8, 0, none⟩)), (3, .pointer (some ⟨X.Mu, 0, none⟩)), (4, .pointer (some ⟨b7, 0, none⟩)), (5, .int .i64 z), (6, .bool is)] [dcall 162 #[.pointer (some ⟨X.Wg, 0, none⟩)]] [.code (cR (cR (cR (bodyOf Tryz.f161))))] := by
   intro z is H1 hb hle
   have hC : H1.without X.C X.C = none := by simp [View.without]
   have g8 : H1.without X.C b8 = some (f8, .cells ⟨[.int .i64 (κ : Nat)]⟩ 3 (0, 0)) := by
     rw [without_other (by rintro rfl; rw [hC0] at h8; cases h8)]; exact hle _ _ h8
   have g7 : H1.without X.C b7 = some (f7, .cells ⟨[.map (some X.C)]⟩ 212 (0, 0)) := by
     rw [without_other (by rintro rfl; rw [hC0] at h7; cases h7)]; exact hle _ _ h7
   generalize H1.without X.C = H2 at hC g8 g7
   refine .sq (.rg rfl rfl ?_)
   refine So.callD rfl rfl rfl nofun rfl (.mk' rfl) rfl (lock_c ne) ?_
   rintro v' J' ⟨rfl, k', D', o, hD, hGo, rfl⟩
   rw [hGI] at hGo
   refine .dn (.sq (.rg rfl rfl ?_))
   refine So.defer Jw.cl0 (f := 164) (vs := [.pointer (some ⟨X.Mu, 0, none⟩)]) rfl nofun rfl rfl ⟨_, rfl⟩ rfl ?_
   refine .dn (.sq (.rg rfl rfl ?_))
   refine .m ?_
   refine .dn ?_
   have bot : ∀ (H' : View) (R : Rg) (k' : Nat), Sb (Jw Tryz.prog X κ k' .wr D' H') 26 ⟨161, .deferred, none⟩ [botF Tryz.prog] R [dcall 162 #[.pointer (some ⟨X.Wg, 0, none⟩)]] := fun H' R k' =>
     done H' D' k' 26 _ _ R [] rfl (Sb.leaveD Jq.cl Tryz.func161 rfl Tryz.results161 (.inr rfl) Jq.bot)
   cases is with
   | false =>
     have hG2 : X.GI (also D' κ) o := by
       rw [hGI]
       obtain ⟨es, cl, h2, h3⟩ := hGo
       exact ⟨es, cl, h2, h3.congr (wF_none hb)⟩
     refine .ff rfl (.sp ?_)
     exact Sc.over Jw.cl0 rfl (unlock_d rfl ne hC hG2 fun k'' => bot _ _ k'')
   | true =>
     obtain ⟨es, cl, rfl, hm⟩ := hGo
     refine Sc.mono ?_ (fun g hg => Jw.ofT rfl hg)
     refine Sc.ofTc (SymSt.pop hC (SymSt.nil _)) ?_
     refine .tt rfl (.r ?_)
     refine .x .l0 ?_
     refine .x .l0 ?_
     refine .m ?_
     refine .e (Or.mapUpdate (E := en) 0 1 rfl rfl rfl rfl rfl rfl rfl (by decide) (int_key _) (wF_keys hm) rfl (fun rr hr => ?_))
     obtain ⟨es', cl', hput, hm'⟩ := hm.put (.int .i64 z) hr
     rw [hput]
     refine .done ?_
     refine Tc.ofSc (fun H3 hs => ?_)
     have hc3 := hs.get (i := 0) rfl
     refine Sc.mono ?_ (fun g hg => Jw.toT rfl hg)
     rw [← put_without hc3]
     have hG2 : X.GI (also D' κ) (.map es' cl') := by
       rw [hGI]
       exact ⟨es', cl', rfl, hm'.congr (wF_some hκ hb)⟩
     exact Sc.over Jw.cl0 rfl (unlock_d rfl ne (by simp [View.without]) hG2 fun k'' => bot _ _ k'')
 refine .sq (.rg rfl rfl ?_)
 refine So.defer Jw.cl0 (f := 162) (vs := [.pointer (some ⟨X.Wg, 0, none⟩)]) rfl nofun rfl rfl ⟨_, rfl⟩ rfl ?_
 refine .dn ?_
 refine Sc.mono ?_ (fun g hg => Jw.ofT rfl hg)
 refine Sc.ofTc (SymSt.nil H) ?_
 refine .sr ?_
 refine .g ?_
 refine .g ?_
 refine .done (.seq ?_)
 refine Tc.via (fun R' _ => ∃ z is, c.bad κ = (if is then some z else none) ∧ AllIn [(0, .pointer (some ⟨X.Wg, 0, none⟩)), (2, .pointer (some ⟨b8, 0, none⟩)), (3, .pointer (some ⟨X.Mu, 0, none⟩)), (4, .pointer (some ⟨b7, 0, none⟩)), (5, .int .i64 z), (6, .bool is)] R') ?_ (fun fin' => ?_)
 · rintro R' L' ⟨z, is, hb, hR⟩
   refine Tc.dropB (L' := []) ?_ hR (List.nil_sublist _)
   refine Tc.ofSc (fun H1 hs => ?_)
   exact Sc.mono (fin z is H1 hb hs.base) (fun g hg => Jw.toT rfl (Jw.forget X.C hg))
 · cases hf : c.fits κ with
   | false =>
     refine .sr ?_
     refine .x .l0 ?_
     refine .x .l0 ?_
     refine .c rfl rfl rfl rfl (fun H hs => .f ca122 rfl (CallT.is (.tuple ⟨[(c.lk κ).val, .bool false]⟩) (by rewrite [hf]; rfl) (section_c _ H c κ lb lo lc ac A hok (hch.le hs.base) hκ (glob_le hG hs.base)))) ?_
     refine .m ?_
     refine .x .et ?_
     refine .x .et ?_
     refine .e (.al (zz := fun _ => ?_))
     refine .e (.st 0 (zz := ?_))
     refine .g ?_
     refine .done (.sr ?_)
     refine .m ?_
     refine .done (.ff rfl (.skip ?_))
     exact fin' _ _ ⟨-1, true, by unfold Ch.bad; rw [hf]; rfl, ⟨rfl, rfl, rfl, rfl, rfl, rfl, trivial⟩⟩
   | true =>
     refine .sr ?_
     refine .x .l0 ?_
     refine .x .l0 ?_
     refine .c rfl rfl rfl rfl (fun H hs => .f ca122 rfl (CallT.is (.tuple ⟨[(c.lk κ).val, .bool true]⟩) (by rewrite [hf]; rfl) (section_c _ H c κ lb lo lc ac A hok (hch.le hs.base) hκ (glob_le hG hs.base)))) ?_
     refine .m ?_
     refine .x .et ?_
     refine .x .et ?_
     refine .e (.al (zz := fun _ => ?_))
     refine .e (.st 0 (zz := ?_))
     refine .g ?_
     refine .done (.sr ?_)
     refine .m ?_
     refine .done (.tt rfl ?_)
     cases hw : (c.lk κ).weak with
     | none =>
       refine .r ?_
       refine .x (.ld 0) ?_
       refine .c rfl rfl rfl rfl (fun H hs => .f ca106 rfl (CallT.is (.tuple ⟨[.int .i64 0, .bool false]⟩) (by rewrite [hw]; rfl) (weak_c _ H (c.lk κ) (hfine κ hκ hf)))) ?_
       refine .m ?_
       refine .x .et ?_
       refine .x .et ?_
       refine .g ?_
       refine .g ?_
       refine .done ?_
       exact fin' _ _ ⟨0, false, by unfold Ch.bad; rw [hf, hw]; rfl, ⟨rfl, rfl, rfl, rfl, rfl, rfl, trivial⟩⟩
     | some n =>
       refine .r ?_
       refine .x (.ld 0) ?_
       refine .c rfl rfl rfl rfl (fun H hs => .f ca106 rfl (CallT.is (.tuple ⟨[.int .i64 (n : Nat), .bool true]⟩) (by rewrite [hw]; rfl) (weak_c _ H (c.lk κ) (hfine κ hκ hf)))) ?_
       refine .m ?_
       refine .x .et ?_
       refine .x .et ?_
       refine .g ?_
       refine .g ?_
       refine .done ?_
       exact fin' _ _ ⟨n, true, by unfold Ch.bad; rw [hf, hw]; rfl, ⟨rfl, rfl, rfl, rfl, rfl, rfl, trivial⟩⟩
end
end Go.Proofs.YtpdaenfglbgfkaaGreatDoor
end
section
namespace Go.Proofs.YtpdaenfglbgfkaaGreatDoor
open Go.RL
set_option maxRecDepth 10000
set_option maxHeartbeats 4000000
structure Ch.Good (c : Ch) : Prop where
 ok : c.Ok
 s : paceOk c.s0 c.s1 = true
 a : paceOk c.a0 c.a1 = true
 r : paceOk c.r0 c.r1 = true
 ln : ∀ i, i < c.n → (⟨0, 0, 0, 0, c.x i, c.y i, c.z i, c.u i⟩ : Lk).lineOk = true
theorem Ch.Good.fine {c : Ch} (h : c.Good) (i : Nat) (hf : c.fits i = true) : (c.lk i).ok = true := by
 have hs : (c.lk i).sends = true := by
   show paceOk (if i = 0 then c.s0 else c.a0) (if i = 0 then c.s1 else c.a1) = true
   by_cases e : i = 0
   · rw [if_pos e, if_pos e]; exact h.s
   · rw [if_neg e, if_neg e]; exact h.a
 have hr : (c.lk i).reads = true := by
   show paceOk (if i < c.m then c.a0 else c.r0) (if i < c.m then c.a1 else c.r1) = true
   by_cases e : i < c.m
   · rw [if_pos e, if_pos e]; exact h.a
   · rw [if_neg e, if_neg e]; exact h.r
 unfold Ch.fits at hf
 simp only [Lk.lineOk, allTo, Lk.chk, Bool.true_and, Bool.and_eq_true] at hf
 obtain ⟨h1, h2⟩ := hf
 have h1' : (c.lk i).leans = true := h1
 have h2' : (c.lk i).moves = true := h2
 simp [Lk.ok, allTo, Lk.chk, hs, hr, h1', h2']
def Ch.val7 (c : Ch) (lb lo lc : Nat) : Value := .agg ⟨[.int .i64 c.s0, .int .i64 c.s1, .slice (some ⟨lb, lo, none⟩) c.n lc, .int .i64 c.a0, .int .i64 c.a1, .int .i64 c.r0, .int .i64 c.r1]⟩
section
variable (M : Md Tryz.prog) (H : View)
theorem isPaces_good (a b : Int) (h : paceOk a b = true) : CallT M 129 #[bandV a b] H (fun v H' => H.le H' ∧ v = .bool true) :=
 CallT.mono (isPaces_c M H a b) (by rintro v H' ⟨h1, h2⟩; exact ⟨h1, h2.trans (congrArg Value.bool h)⟩)
theorem checkLine_good (x y z u : Int) (hG : Glob H) (h : (⟨0, 0, 0, 0, x, y, z, u⟩ : Lk).lineOk = true) : CallT M 126 #[lineV x y z u] H (fun v H' => H.le H' ∧ v = .int .i64 0) :=
 CallT.mono (checkLine_c M H x y z u hG) (by rintro v H' ⟨h1, h2⟩; rw [h] at h2; exact ⟨h1, h2⟩)
theorem checkLines_good (ch : Ch) (lb lo lc : Nat) (A : Option Addr) (hA : ChAt H ch lb lo lc A) (hg : ch.Good) (hG : Glob H) :
   CallT M 124 #[.slice (some ⟨lb, lo, none⟩) ch.n lc] H (fun v H' => H.le H' ∧ v = .int .i64 0) := by
 refine CallT.enter (vs := [.slice (some ⟨lb, lo, none⟩) ch.n lc]) Tryz.func124 rfl Tryz.ntmps124 (Nat.le_of_ble_eq_true rfl) (SymSt.nil _) fun St c cs hK => ?_
 obtain ⟨f, gs, gt, gz, hA1, hA2⟩ := hA.ln
 have hn0 := hg.ok.n0
 have hn4 := hg.ok.n4
 refine .sr ?_
 refine .g ?_
 refine .done (.seq (.sr ?_))
 refine .m ?_
 refine .x .ln ?_
 refine .i ?_ (z := lss_f (by omega))
 refine .m ?_
 refine .m ?_
 refine .x .ln ?_
 refine .i ?_ (z := gtr_f (by omega))
 refine .x .pk ?_
 refine .done (.ff rfl (.skip (.seq (.sr ?_))))
 refine .m ?_
 refine .x .ln ?_
 refine .m ?_
 refine .done (.block ?_)
 refine Tc.db (Tc.loopInv (σ := { j : Nat // j ≤ ch.n }) (fun j => ([(14, .slice (some ⟨lb, lo, none⟩) ch.n lc), (15, .int .i64 (ch.n : Nat)), (16, .int .i64 (j.1 : Nat)), (2, .int .i64 0)], [])) (fun j => ch.n - j.1) ?_ ⟨0, by omega⟩)
 rintro ⟨j, hj⟩ ih
 show Tc M St _ _ _ _ [(14, .slice (some ⟨lb, lo, none⟩) ch.n lc), (15, .int .i64 (ch.n : Nat)), (16, .int .i64 (j : Nat)), (2, .int .i64 0)] [] _ _
 by_cases c1 : j = ch.n
 · subst c1
   refine .sr ?_
   refine .i ?_ (z := lss_f (by omega))
   refine .done (.seq (.ff rfl (.exit rfl (.sr ?_))))
   refine .g ?_
   refine .done ?_
   refine .rt hK Tryz.func124 Tryz.results124 [_] ?_
   exact fun H' hs => ⟨hs.base, rfl⟩
 · have c2 : j < ch.n := by omega
   have f1 : ldL true 4 gs (lo + (j : Int).toNat * 4) = some (lineV (ch.x j) (ch.y j) (ch.z j) (ch.u j)) := by rw [show (j : Int).toNat = j by simp]; exact hA2 j c2
   refine .sr ?_
   refine .i ?_ (z := lss_t (by omega))
   refine .done (.seq (.tt rfl (.skip (.seq (.block (.sr ?_))))))
   refine .x .ia ?_
   refine .x .l0 ?_
   refine .e (.al (zz := fun b4 => ?_))
   refine .e (.st 0 (zz := ?_))
   refine .done (.sr ?_)
   refine .x (.ld 0) ?_
   refine .c rfl rfl rfl rfl (fun H hs => .f ca126 rfl (checkLine_good M H (ch.x j) (ch.y j) (ch.z j) (ch.u j) (glob_le hG hs.base) (hg.ln j c2))) ?_
   refine .g ?_
   refine .done (.sr ?_)
   refine .m ?_
   refine .i ?_ (z := neq_f (by omega))
   refine .done (.ff rfl (.skip (.inBlock (.r ?_))))
   refine .i ?_ (z := add_in (by omega) (by omega))
   refine .m ?_
   refine .done ?_
   exact Tc.db (ih ⟨j + 1, by omega⟩ (by simp only; omega))
theorem CheckChain_good (ch : Ch) (lb lo lc : Nat) (A : Option Addr) (hA : ChAt H ch lb lo lc A) (hg : ch.Good) (hG : Glob H) :
   CallT M 66 #[ch.val7 lb lo lc] H (fun v H' => H.le H' ∧ v = .int .i64 0) := by
 refine CallT.enter (vs := [ch.val7 lb lo lc]) Tryz.func66 rfl Tryz.ntmps66 (Nat.le_of_ble_eq_true rfl) (SymSt.nil _) fun St c cs hK => ?_
 refine .sr ?_
 refine .e (.bx (zz := fun b1 => ?_))
 refine .g ?_
 refine .done (.seq (.sr ?_))
 refine .x .fa ?_
 refine .x (.ld 0) ?_
 refine .x .fa ?_
 refine .x (.ld 0) ?_
 refine .x .fa ?_
 refine .x (.ld 0) ?_
 refine .x .bu ?_
 refine .m ?_
 refine .done (.block ?_)
 refine Tc.db (Tc.loopInv (σ := { j : Nat // j ≤ 3 }) (fun j => ([(11, .agg ⟨[.int .i64 ch.s0, .int .i64 ch.s1, .int .i64 ch.a0, .int .i64 ch.a1, .int .i64 ch.r0, .int .i64 ch.r1]⟩), (1, .pointer (some ⟨b1, 0, none⟩)), (12, .int .i64 (j.1 : Nat)), (2, .int .i64 0)], [(b1, true, .cells ⟨(ch.val7 lb lo lc).cells.toList⟩ 73 (0, 0))])) (fun j => 3 - j.1) ?_ ⟨0, by omega⟩)
 rintro ⟨j, hj⟩ ih
 show Tc M St _ _ _ _ [(11, .agg ⟨[.int .i64 ch.s0, .int .i64 ch.s1, .int .i64 ch.a0, .int .i64 ch.a1, .int .i64 ch.r0, .int .i64 ch.r1]⟩), (1, .pointer (some ⟨b1, 0, none⟩)), (12, .int .i64 (j : Nat)), (2, .int .i64 0)] [(b1, true, .cells ⟨(ch.val7 lb lo lc).cells.toList⟩ 73 (0, 0))] _ _
 rcases (by omega : j = 0 ∨ j = 1 ∨ j = 2 ∨ j = 3) with rfl | rfl | rfl | rfl
 · refine .sr ?_
   refine .i ?_ (z := lss_t (by omega))
   refine .done (.seq (.tt rfl (.skip (.seq (.block (.sr ?_))))))
   refine .x .ix ?_
   refine .e (.al (zz := fun b4 => ?_))
   refine .e (.st 0 (zz := ?_))
   refine .done (.sr ?_)
   refine .x (.ld 0) ?_
   refine .c rfl rfl rfl rfl (fun H hs => .f ca129 rfl (isPaces_good M H ch.s0 ch.s1 hg.s)) ?_
   refine .x .nt ?_
   refine .done (.ff rfl (.skip (.inBlock (.r ?_))))
   refine .i ?_ (z := add_in (by omega) (by omega))
   refine .m ?_
   refine .done ?_
   exact Tc.db (ih ⟨1, by omega⟩ (by simp))
 · refine .sr ?_
   refine .i ?_ (z := lss_t (by omega))
   refine .done (.seq (.tt rfl (.skip (.seq (.block (.sr ?_))))))
   refine .x .ix ?_
   refine .e (.al (zz := fun b4 => ?_))
   refine .e (.st 0 (zz := ?_))
   refine .done (.sr ?_)
   refine .x (.ld 0) ?_
   refine .c rfl rfl rfl rfl (fun H hs => .f ca129 rfl (isPaces_good M H ch.a0 ch.a1 hg.a)) ?_
   refine .x .nt ?_
   refine .done (.ff rfl (.skip (.inBlock (.r ?_))))
   refine .i ?_ (z := add_in (by omega) (by omega))
   refine .m ?_
   refine .done ?_
   exact Tc.db (ih ⟨2, by omega⟩ (by simp))
 · refine .sr ?_
   refine .i ?_ (z := lss_t (by omega))
   refine .done (.seq (.tt rfl (.skip (.seq (.block (.sr ?_))))))
   refine .x .ix ?_
   refine .e (.al (zz := fun b4 => ?_))
   refine .e (.st 0 (zz := ?_))
   refine .done (.sr ?_)
   refine .x (.ld 0) ?_
   refine .c rfl rfl rfl rfl (fun H hs => .f ca129 rfl (isPaces_good M H ch.r0 ch.r1 hg.r)) ?_
   refine .x .nt ?_
   refine .done (.ff rfl (.skip (.inBlock (.r ?_))))
   refine .i ?_ (z := add_in (by omega) (by omega))
   refine .m ?_
   refine .done ?_
   exact Tc.db (ih ⟨3, by omega⟩ (by simp))
 · refine .sr ?_
   refine .i ?_ (z := lss_f (by omega))
   refine .done (.seq (.ff rfl (.exit rfl (.sr ?_))))
   refine .x .fa ?_
   refine .x (.ld 0) ?_
   refine .c rfl rfl rfl rfl (fun H hs => .f ca124 rfl (checkLines_good M H ch lb lo lc A (hA.le hs.base) hg (glob_le hG hs.base))) ?_
   refine .g ?_
   refine .done ?_
   refine .rt hK Tryz.func66 Tryz.results66 [_] ?_
   exact fun H' hs => ⟨hs.base, rfl⟩
theorem openChain_good (ch : Ch) (lb lo lc ac : Nat) (A : Option Addr) (hA : ChAt H ch lb lo lc A) (hg : ch.Good) (hG : Glob H) :
   CallT M 121 #[ch.val7 lb lo lc, .slice A ch.m ac] H (fun v H' => H.le H' ∧ v = .tuple ⟨[ch.val lb lo lc ac A, .int .i64 0]⟩) := by
 refine CallT.enter (vs := [ch.val7 lb lo lc, .slice A ch.m ac]) Tryz.func121 rfl Tryz.ntmps121 (Nat.le_of_ble_eq_true rfl) (SymSt.nil _) fun St c cs hK => ?_
 have hn0 := hg.ok.n0
 have hn4 := hg.ok.n4
 have hmn := hg.ok.m_lt
 refine .sr ?_
 refine .e (.bx (zz := fun b2 => ?_))
 refine .e (.al (zz := fun b4 => ?_))
 refine .g ?_
 refine .done (.seq (.sr ?_))
 refine .x (.ld 1) ?_
 refine .c rfl rfl rfl rfl (fun H hs => .f ca66 rfl (CheckChain_good M H ch lb lo lc A (hA.le hs.base) hg (glob_le hG hs.base))) ?_
 refine .g ?_
 refine .done (.sr ?_)
 refine .m ?_
 refine .i ?_ (z := neq_f (by omega))
 refine .done (.ff rfl (.skip (.seq (.sr ?_))))
 refine .m ?_
 refine .x .ln ?_
 refine .m ?_
 refine .done (.block ?_)
 refine Tc.db (Tc.loopInv (σ := { j : Nat // j ≤ ch.m }) (fun j => ([(1, .slice A ch.m ac), (2, .pointer (some ⟨b2, 0, none⟩)), (4, .pointer (some ⟨b4, 0, none⟩)), (15, .slice A ch.m ac), (16, .int .i64 (ch.m : Nat)), (17, .int .i64 (j.1 : Nat))],
   [(b4, true, .cells ⟨[.int .i64 0, .int .i64 0, .slice none 0 0, .int .i64 0, .int .i64 0, .int .i64 0, .int .i64 0, .slice none 0 0]⟩ 146 (0, 0)), (b2, true, .cells ⟨(ch.val7 lb lo lc).cells.toList⟩ 73 (0, 0))])) (fun j => ch.m - j.1) ?_ ⟨0, by omega⟩)
 rintro ⟨j, hj⟩ ih
 show Tc M St _ _ _ _ [(1, .slice A ch.m ac), (2, .pointer (some ⟨b2, 0, none⟩)), (4, .pointer (some ⟨b4, 0, none⟩)), (15, .slice A ch.m ac), (16, .int .i64 (ch.m : Nat)), (17, .int .i64 (j : Nat))]
   [(b4, true, .cells ⟨[.int .i64 0, .int .i64 0, .slice none 0 0, .int .i64 0, .int .i64 0, .int .i64 0, .int .i64 0, .slice none 0 0]⟩ 146 (0, 0)), (b2, true, .cells ⟨(ch.val7 lb lo lc).cells.toList⟩ 73 (0, 0))] _ _
 by_cases c1 : j = ch.m
 · subst c1
   refine .sr ?_
   refine .i ?_ (z := lss_f (by omega))
   refine .done (.seq (.ff rfl (.exit rfl (.sr ?_))))
   refine .x (.ld 1) ?_
   refine .m ?_
   refine .x .bu ?_
   refine .e (.st 0 (zz := ?_))
   refine .g ?_
   refine .done ?_
   refine Tc.retN (E := en) hK Tryz.func121 Tryz.results121 (vs := [_, _]) (by refine ⟨⟨0, _, _, _, _, _, _, _, rfl, rfl, rfl, rfl⟩, ?_⟩; refine ⟨rfl, ?_⟩; exact trivial) ?_
   exact fun H' hs => ⟨hs.base, rfl⟩
 · have c2 : j < ch.m := by omega
   obtain ⟨ab, ao, f, gs, gt, gz, rfl, hA3, hA4⟩ := hA.at_ (by omega)
   have f1 : ldL false 1 gs (ao + (j : Int).toNat * 1) = some (.int .i64 (ch.at_ j : Nat)) := by rw [show (j : Int).toNat = j by simp]; exact hA4 j c2
   have hlt := hg.ok.lt j c2
   by_cases c0 : j = 0
   · subst c0
     refine .sr ?_
     refine .i ?_ (z := lss_t (by omega))
     refine .done (.seq (.tt rfl (.skip (.seq (.block (.sr ?_))))))
     refine .m ?_
     refine .x .ia ?_
     refine .x .l0 ?_
     refine .g ?_
     refine .g ?_
     refine .done (.block (.sr ?_))
     refine .m ?_
     refine .i ?_ (z := lss_f (by omega))
     refine .m ?_
     refine .m ?_
     refine .x .fa ?_
     refine .x (.ld 1) ?_
     refine .x .ln ?_
     refine .i ?_ (z := sub_in (by omega) (by omega))
     refine .i ?_ (z := gtr_f (by omega))
     refine .x .pk ?_
     refine .g ?_
     refine .done (.ff rfl (.sr ?_))
     refine .m ?_
     refine .i ?_ (z := gtr_f (by omega))
     refine .m ?_
     refine .sk ?_
     refine .sk ?_
     refine .sk ?_
     refine .sk ?_
     refine .sk ?_
     refine .sk ?_
     refine .sk ?_
     refine .x .pk ?_
     refine .g ?_
     refine .done (.ff rfl (.skip (.inBlock (.inBlock (.r ?_)))))
     refine .i ?_ (z := add_in (by omega) (by omega))
     refine .m ?_
     refine .done ?_
     exact Tc.db (ih ⟨1, by omega⟩ (by simp only; omega))
   · have f2 : ldL false 1 gs (ao + ((j : Int) - 1).toNat * 1) = some (.int .i64 (ch.at_ (j - 1) : Nat)) := by rw [show ((j : Int) - 1).toNat = j - 1 by omega]; exact hA4 (j - 1) (by omega)
     have hmo := hg.ok.mono' j (j - 1) (by omega) c2
     refine .sr ?_
     refine .i ?_ (z := lss_t (by omega))
     refine .done (.seq (.tt rfl (.skip (.seq (.block (.sr ?_))))))
     refine .m ?_
     refine .x .ia ?_
     refine .x .l0 ?_
     refine .g ?_
     refine .g ?_
     refine .done (.block (.sr ?_))
     refine .m ?_
     refine .i ?_ (z := lss_f (by omega))
     refine .m ?_
     refine .m ?_
     refine .x .fa ?_
     refine .x (.ld 1) ?_
     refine .x .ln ?_
     refine .i ?_ (z := sub_in (by omega) (by omega))
     refine .i ?_ (z := gtr_f (by omega))
     refine .x .pk ?_
     refine .g ?_
     refine .done (.ff rfl (.sr ?_))
     refine .m ?_
     refine .i ?_ (z := gtr_t (by omega))
     refine .m ?_
     refine .m ?_
     refine .m ?_
     refine .m ?_
     refine .i ?_ (z := sub_in (by omega) (by omega))
     refine .x .ia ?_
     refine .x .l0 ?_
     refine .i ?_ (z := leq_f (by omega))
     refine .x .pk ?_
     refine .g ?_
     refine .done (.ff rfl (.skip (.inBlock (.inBlock (.r ?_)))))
     refine .i ?_ (z := add_in (by omega) (by omega))
     refine .m ?_
     refine .done ?_
     exact Tc.db (ih ⟨j + 1, by omega⟩ (by simp only; omega))
end
end Go.Proofs.YtpdaenfglbgfkaaGreatDoor
end
section
namespace Go.Proofs.YtpdaenfglbgfkaaGreatDoor
open Go.RL Go.Conc Go.ConcN Go.RL.Au
open Go.ConcR (stA smA)
open Go.ConcM (muA msA)
set_option maxRecDepth 10000
set_option maxHeartbeats 1000000
section
variable {X : Fk} {κ : Nat} {D : Nat → Bool} {H : View} {cc : Frame} {cs : List Frame}
theorem shp_wg (X : Fk) : ∃ e c, X.shp X.Wg = some (e, c) ∧ 0 < c := by
 unfold Fk.shp
 by_cases h : X.Wg = X.Mu
 · exact ⟨X.tM, 2, by simp [h], by decide⟩
 · exact ⟨X.tW, 2, by simp [h], by decide⟩
theorem shp_wg1 (X : Fk) : ∃ e c, X.shp X.Wg = some (e, c) ∧ 0 + 1 < c := by
 unfold Fk.shp
 by_cases h : X.Wg = X.Mu
 · exact ⟨X.tM, 2, by simp [h], by decide⟩
 · exact ⟨X.tW, 2, by simp [h], by decide⟩
theorem kw {K : Value → Th → Prop} {k : Nat} : KC false (fun v J' => ∃ k' t', k' < k ∧ K v t' ∧ J' = Jw Tryz.prog X κ k' t' D H) := fun _ _ ⟨_, _, _, _, h⟩ => ⟨_, h ▸ Jw.cl0⟩
noncomputable def X160 : Code := cR (cR (cR (cR (bodyOf Tryz.f160))))
abbrev b160 : FB := ⟨160, .normal, none⟩
attribute [local irreducible] IntKind.wrap bitI Int.fdiv in
theorem dn_two {a b : Nat} (ha : a < 8) (hb : b < 2) (hq : ¬ (a = 0 ∧ b = 1)) (hK : Jq Tryz.prog 0 (G (cc.finish (.tuple #[])) cs)) {R : Rg}
   (hR : AllIn [(0, .pointer (some ⟨X.Wg, 0, none⟩)), (1, .int .i64 (-1)), (4, .bool false), (6, .int .u64 ((a * 4294967296 + b : Nat) : Int))] R) :
   Sc (Jq Tryz.prog 1) 117 b160 (cc :: cs) R [dcall 192 #[]] [.code X160] := by
 refine Sc.drop hR ?_
 have hsh := shp_wg X
 have f3 := w32_m1
 have g1 : intBin .and .u64 ((a * 4294967296 + b : Nat) : Int) 2147483648 = some (.int .u64 0) := by rw [← g64_hi a (by omega) b (by omega)]; rfl
 have g2 : intBin .and .u64 ((a * 4294967296 + b : Nat) : Int) 2147483647 = some (.int .u64 (b : Int)) := by rw [← g64_lo a (by omega) b (by omega)]; rfl
 have g3 : shiftV .shr .u64 ((a * 4294967296 + b : Nat) : Int) 32 = some (.int .u64 (a : Int)) := by rw [← g64_sh a (by omega) b (by omega)]; rfl
 have g4 := w32_s a (by omega)
 have g5 := wu32_s b (by omega)
 rcases Nat.eq_zero_or_pos a with hpos | hpos
 all_goals rcases Nat.eq_zero_or_pos b with hposb | hposb
 all_goals first
   | (exfalso; omega)
   | (
     refine .sq (.sq (.rg rfl rfl ?_))
     refine .m ?_
     refine .i ?_ (z := by assumption)
     refine .i ?_ (z := neq_f (by omega))
     refine .m ?_
     refine .sk ?_
     refine .sk ?_
     refine .x .pk ?_
     refine .dn (.ff rfl (.sp (.sq ?_)))
     refine Sc.drop (R' := [(0, .pointer (some ⟨X.Wg, 0, none⟩)), (1, .int .i64 (-1)), (4, .bool false), (6, .int .u64 ((a * 4294967296 + b : Nat) : Int))]) ⟨rfl, rfl, rfl, rfl, trivial⟩ ?_
     refine .rg rfl rfl ?_
     refine .m ?_
     refine .x (OpP.shift rfl rfl rfl (by omega) (by assumption)) ?_
     refine .x (OpP.conv rfl rfl un_207 un_21 (by assumption)) ?_
     refine .g ?_
     refine .dn (.sq ?_)
     refine Sc.drop (R' := [(0, .pointer (some ⟨X.Wg, 0, none⟩)), (1, .int .i64 (-1)), (6, .int .u64 ((a * 4294967296 + b : Nat) : Int)), (7, .int .i32 (a : Int))]) ⟨rfl, rfl, rfl, rfl, trivial⟩ ?_
     refine .rg rfl rfl ?_
     refine .m ?_
     refine .i ?_ (z := by assumption)
     refine .x (OpP.conv rfl rfl un_207 un_200 (by assumption)) ?_
     refine .g ?_
     refine .dn (.sq (.sq ?_))
     refine Sc.drop (R' := [(0, .pointer (some ⟨X.Wg, 0, none⟩)), (1, .int .i64 (-1)), (7, .int .i32 (a : Int)), (8, .int .u32 (b : Int))]) ⟨rfl, rfl, rfl, rfl, trivial⟩ ?_
     refine .rg rfl rfl ?_
     refine .m ?_
     refine .m ?_
     refine .i ?_ (z := gtr_f (by omega))
     refine .x .pk ?_
     refine .m ?_
     refine .sk ?_
     refine .sk ?_
     refine .sk ?_
     refine .sk ?_
     refine .x .pk ?_
     refine .dn (.ff rfl (.sp (.sq (.sq ?_))))
     refine Sc.drop (R' := [(0, .pointer (some ⟨X.Wg, 0, none⟩)), (1, .int .i64 (-1)), (7, .int .i32 (a : Int)), (8, .int .u32 (b : Int))]) ⟨rfl, rfl, rfl, rfl, trivial⟩ ?_
     refine .rg rfl rfl ?_
     refine .m ?_
     refine .i ?_ (z := lss_f (by omega))
     refine .dn (.ff rfl (.sp (.sq (.sq ?_))))
     refine Sc.drop (R' := [(0, .pointer (some ⟨X.Wg, 0, none⟩)), (1, .int .i64 (-1)), (7, .int .i32 (a : Int)), (8, .int .u32 (b : Int))]) ⟨rfl, rfl, rfl, rfl, trivial⟩ ?_
     refine .rg rfl rfl ?_
     refine .m ?_
     refine .i ?_ (z := by first | exact neq_t (by omega) | exact neq_f (by omega))
     refine .m ?_
     first | (refine .sk ?_) | (refine .m ?_)
     first | (refine .sk ?_) | (refine .x (.it (zz := gtr_f (by omega))) ?_)
     refine .x .pk ?_
     refine .m ?_
     refine .sk ?_
     refine .sk ?_
     refine .sk ?_
     refine .sk ?_
     refine .x .pk ?_
     refine .dn (.ff rfl (.sp (.sq (.sq ?_))))
     refine Sc.drop (R' := [(0, .pointer (some ⟨X.Wg, 0, none⟩)), (1, .int .i64 (-1)), (7, .int .i32 (a : Int)), (8, .int .u32 (b : Int))]) ⟨rfl, rfl, rfl, rfl, trivial⟩ ?_
     refine .rg rfl rfl ?_
     refine .m ?_
     refine .i ?_ (z := by first | exact gtr_t (by omega) | exact gtr_f (by omega))
     refine .m ?_
     first | (refine .sk ?_) | (refine .m ?_)
     first | (refine .sk ?_) | (refine .x (.it (zz := eql_t (by omega))) ?_)
     refine .x .pk ?_
     refine .dn (.tt rfl ?_)
     refine Sc.retCode Jq.cl rfl (Jq.en e192 rfl (Sb.leave Jq.cl Tryz.func160 rfl (.inl ⟨Tryz.results160, rfl⟩) hK)))
noncomputable def Y160 : Code := cR (cR (cR (cR (cR (cR (cR X160))))))
attribute [local irreducible] IntKind.wrap bitI Int.fdiv in
theorem dn_last {a b k : Nat} (ne : X.Mu ≠ X.Wg) (a0 : a = 0) (b1 : b = 1) (hK : Jq Tryz.prog 0 (G (cc.finish (.tuple #[])) cs)) {R : Rg}
   (hR : AllIn [(0, .pointer (some ⟨X.Wg, 0, none⟩)), (4, .bool false), (6, .int .u64 ((a * 4294967296 + b : Nat) : Int)), (8, .int .u32 (b : Int))] R) : Sc (Jw Tryz.prog X κ k .d2 D H) 117 b160 (cc :: cs) R [dcall 192 #[]] [.code Y160] := by
 refine Sc.drop hR ?_
 have hsh := shp_wg X
 have g6 : intBin .sub .u32 (b : Int) 1 = some (.int .u32 0) := by
   rw [b1]
   exact congrArg (fun x => some (Value.int .u32 x)) (show IntKind.u32.wrap (((1 : Nat) : Int) - 1) = 0 by decide +kernel)
 have g7 : intBin .neq .u64 1 ((a * 4294967296 + b : Nat) : Int) = some (.bool false) := neq_f (by omega)
 refine .sq (.sq (.rg rfl rfl ?_))
 refine .m ?_
 refine .x .nk ?_
 refine .x (.fa (zz := fo_211_1)) ?_
 refine So.callD rfl rfl rfl nofun rfl (.mk' rfl) rfl (load64 Jw.cl0 kw (Jw.d2 e218)) ?_
 rintro v J' ⟨k5, t, hk5, ⟨rfl, rfl⟩, rfl⟩
 refine .m ?_
 refine .i ?_ (z := by assumption)
 refine .dn (.ff rfl (.sp (.sq ?_)))
 refine Sc.drop (R' := [(0, .pointer (some ⟨X.Wg, 0, none⟩)), (4, .bool false), (6, .int .u64 ((a * 4294967296 + b : Nat) : Int)), (8, .int .u32 (b : Int))]) ⟨rfl, rfl, rfl, rfl, trivial⟩ ?_
 refine .rg rfl rfl ?_
 refine .m ?_
 refine .x .nk ?_
 refine .x (.fa (zz := fo_211_1)) ?_
 refine So.callD rfl rfl rfl nofun rfl (.mk' rfl) rfl (store64 Jw.cl0 kw (fun v J' ⟨_, _, _, h, _⟩ => h.1) (Jw.d3 ne e219)) ?_
 rintro v J' ⟨k6, t, hk6, ⟨rfl, rfl⟩, rfl⟩
 refine .dn (.sq (.sq ?_))
 refine Sc.drop (R' := [(0, .pointer (some ⟨X.Wg, 0, none⟩)), (4, .bool false), (6, .int .u64 ((a * 4294967296 + b : Nat) : Int)), (8, .int .u32 (b : Int))]) ⟨rfl, rfl, rfl, rfl, trivial⟩ ?_
 refine .rg rfl rfl ?_
 refine .m ?_
 refine .dn (.ff rfl (.sp (.bl ?_)))
 refine Sc.loop (by exact Jw.cl0) ?_
 refine .sq (.sq (.rg rfl rfl ?_))
 refine .m ?_
 refine .i ?_ (z := neq_t (by omega))
 refine .dn (.tt rfl (.sp (.sq (.bl ?_))))
 refine Sc.drop (R' := [(0, .pointer (some ⟨X.Wg, 0, none⟩)), (4, .bool false), (6, .int .u64 ((a * 4294967296 + b : Nat) : Int)), (8, .int .u32 (b : Int))]) ⟨rfl, rfl, rfl, rfl, trivial⟩ ?_
 refine .rg rfl rfl ?_
 refine .m ?_
 refine .x .nk ?_
 refine .x (.fa (zz := fo_211_2)) ?_
 refine So.callD rfl rfl rfl nofun rfl (.mk' rfl) rfl (Jw.d4 (vs := [.pointer (some ⟨X.Wg, 1, none⟩), .bool false, .int .i64 0]) ne e202 rfl) ?_
 rintro v J' ⟨k7, t, hk7, ⟨rfl, rfl⟩, rfl⟩
 refine So.mono ?_ (fun g => Jq.jw)
 refine .dn (.ib ?_)
 refine Sc.drop (R' := [(0, .pointer (some ⟨X.Wg, 0, none⟩)), (4, .bool false), (6, .int .u64 ((a * 4294967296 + b : Nat) : Int)), (8, .int .u32 (b : Int))]) ⟨rfl, rfl, rfl, rfl, trivial⟩ ?_
 refine .rg rfl rfl ?_
 refine .m ?_
 refine .i ?_ (z := by assumption)
 refine .g ?_
 refine .dn ?_
 refine Sc.inLoop (by exact Jq.cl) ?_
 refine Sc.drop (R' := [(8, .int .u32 0)]) ⟨rfl, trivial⟩ ?_
 refine .sq (.sq (.rg rfl rfl ?_))
 refine .m ?_
 refine .i ?_ (z := neq_f (by omega))
 refine .dn (.ff rfl (.xt rfl ?_))
 refine Sc.over Jq.cl rfl (Jq.en e192 rfl (Sb.leave Jq.cl Tryz.func160 rfl (.inl ⟨Tryz.results160, rfl⟩) hK))
attribute [local irreducible] IntKind.wrap bitI Int.fdiv in
theorem dn_one {a b k : Nat} (ne : X.Mu ≠ X.Wg) (a0 : a = 0) (b1 : b = 1) (hK : Jq Tryz.prog 0 (G (cc.finish (.tuple #[])) cs)) {R : Rg}
   (hR : AllIn [(0, .pointer (some ⟨X.Wg, 0, none⟩)), (1, .int .i64 (-1)), (4, .bool false), (6, .int .u64 ((a * 4294967296 + b : Nat) : Int))] R) : Sc (Jw Tryz.prog X κ k .d2 D H) 117 b160 (cc :: cs) R [dcall 192 #[]] [.code X160] := by
 refine Sc.drop hR ?_
 have hsh := shp_wg X
 have f3 := w32_m1
 have g1 : intBin .and .u64 ((a * 4294967296 + b : Nat) : Int) 2147483648 = some (.int .u64 0) := by rw [← g64_hi a (by omega) b (by omega)]; rfl
 have g2 : intBin .and .u64 ((a * 4294967296 + b : Nat) : Int) 2147483647 = some (.int .u64 (b : Int)) := by rw [← g64_lo a (by omega) b (by omega)]; rfl
 have g3 : shiftV .shr .u64 ((a * 4294967296 + b : Nat) : Int) 32 = some (.int .u64 (a : Int)) := by rw [← g64_sh a (by omega) b (by omega)]; rfl
 have g4 := w32_s a (by omega)
 have g5 := wu32_s b (by omega)
 refine .sq (.sq (.rg rfl rfl ?_))
 refine .m ?_
 refine .i ?_ (z := by assumption)
 refine .i ?_ (z := neq_f (by omega))
 refine .m ?_
 refine .sk ?_
 refine .sk ?_
 refine .x .pk ?_
 refine .dn (.ff rfl (.sp (.sq ?_)))
 refine Sc.drop (R' := [(0, .pointer (some ⟨X.Wg, 0, none⟩)), (1, .int .i64 (-1)), (4, .bool false), (6, .int .u64 ((a * 4294967296 + b : Nat) : Int))]) ⟨rfl, rfl, rfl, rfl, trivial⟩ ?_
 refine .rg rfl rfl ?_
 refine .m ?_
 refine .x (OpP.shift rfl rfl rfl (by omega) (by assumption)) ?_
 refine .x (OpP.conv rfl rfl un_207 un_21 (by assumption)) ?_
 refine .g ?_
 refine .dn (.sq ?_)
 refine Sc.drop (R' := [(0, .pointer (some ⟨X.Wg, 0, none⟩)), (1, .int .i64 (-1)), (4, .bool false), (6, .int .u64 ((a * 4294967296 + b : Nat) : Int)), (7, .int .i32 (a : Int))]) ⟨rfl, rfl, rfl, rfl, rfl, trivial⟩ ?_
 refine .rg rfl rfl ?_
 refine .m ?_
 refine .i ?_ (z := by assumption)
 refine .x (OpP.conv rfl rfl un_207 un_200 (by assumption)) ?_
 refine .g ?_
 refine .dn (.sq (.sq ?_))
 refine Sc.drop (R' := [(0, .pointer (some ⟨X.Wg, 0, none⟩)), (1, .int .i64 (-1)), (4, .bool false), (6, .int .u64 ((a * 4294967296 + b : Nat) : Int)), (7, .int .i32 (a : Int)), (8, .int .u32 (b : Int))]) ⟨rfl, rfl, rfl, rfl, rfl, rfl, trivial⟩ ?_
 refine .rg rfl rfl ?_
 refine .m ?_
 refine .m ?_
 refine .i ?_ (z := gtr_f (by omega))
 refine .x .pk ?_
 refine .m ?_
 refine .sk ?_
 refine .sk ?_
 refine .sk ?_
 refine .sk ?_
 refine .x .pk ?_
 refine .dn (.ff rfl (.sp (.sq (.sq ?_))))
 refine Sc.drop (R' := [(0, .pointer (some ⟨X.Wg, 0, none⟩)), (1, .int .i64 (-1)), (4, .bool false), (6, .int .u64 ((a * 4294967296 + b : Nat) : Int)), (7, .int .i32 (a : Int)), (8, .int .u32 (b : Int))]) ⟨rfl, rfl, rfl, rfl, rfl, rfl, trivial⟩ ?_
 refine .rg rfl rfl ?_
 refine .m ?_
 refine .i ?_ (z := lss_f (by omega))
 refine .dn (.ff rfl (.sp (.sq (.sq ?_))))
 refine Sc.drop (R' := [(0, .pointer (some ⟨X.Wg, 0, none⟩)), (1, .int .i64 (-1)), (4, .bool false), (6, .int .u64 ((a * 4294967296 + b : Nat) : Int)), (7, .int .i32 (a : Int)), (8, .int .u32 (b : Int))]) ⟨rfl, rfl, rfl, rfl, rfl, rfl, trivial⟩ ?_
 refine .rg rfl rfl ?_
 refine .m ?_
 refine .i ?_ (z := neq_t (by omega))
 refine .m ?_
 refine .m ?_
 refine .i ?_ (z := gtr_f (by omega))
 refine .x .pk ?_
 refine .m ?_
 refine .sk ?_
 refine .sk ?_
 refine .sk ?_
 refine .sk ?_
 refine .x .pk ?_
 refine .dn (.ff rfl (.sp (.sq (.sq ?_))))
 refine Sc.drop (R' := [(0, .pointer (some ⟨X.Wg, 0, none⟩)), (1, .int .i64 (-1)), (4, .bool false), (6, .int .u64 ((a * 4294967296 + b : Nat) : Int)), (7, .int .i32 (a : Int)), (8, .int .u32 (b : Int))]) ⟨rfl, rfl, rfl, rfl, rfl, rfl, trivial⟩ ?_
 refine .rg rfl rfl ?_
 refine .m ?_
 refine .i ?_ (z := gtr_f (by omega))
 refine .m ?_
 refine .m ?_
 refine .i ?_ (z := eql_f (by omega))
 refine .x .pk ?_
 refine .dn (.ff rfl (.sp ?_))
 exact dn_last ne a0 b1 hK ⟨rfl, rfl, rfl, rfl, trivial⟩
attribute [local irreducible] IntKind.wrap bitI Int.fdiv in
theorem donew_c {k : Nat} (ne : X.Mu ≠ X.Wg) : AtC (Jw Tryz.prog X κ k .wr D H) 160 [.pointer (some ⟨X.Wg, 0, none⟩), .int .i64 (-1)] fun v J' => v = .tuple #[] ∧ J' = Jq Tryz.prog 0 := by
 refine InC.at (by exact Jw.clX rfl) ca160 (InC.enter (vs := [.pointer (some ⟨X.Wg, 0, none⟩), .int .i64 (-1)]) Tryz.func160 rfl Tryz.ntmps160 (Nat.le_of_ble_eq_true rfl) fun c cs hK => ?_)
 have hsh := shp_wg X
 have f1 := w64_m1
 have f2 := sh64_m1
 have f3 := w32_m1
 refine .sq (.tt rfl (.sq (.sq (.rg rfl rfl ?_))))
 refine .m ?_
 refine .i ?_ (z := lss_t (by omega))
 refine .dn (.tt rfl (.rg rfl rfl ?_))
 refine .m ?_
 refine .x (OpP.raw rfl rfl un_234 un_236 sz_211 (by assumption)) ?_
 refine So.callD rfl rfl rfl nofun rfl (.mk' rfl) rfl (Jw.wr e190) ?_
 rintro v J' ⟨rfl, k1, hk1, rfl⟩
 refine .dn (.sq (.rg rfl rfl ?_))
 refine So.callD rfl rfl rfl nofun rfl (.mk' rfl) rfl (Jw.wk e191) ?_
 rintro v J' ⟨k2, t, hk2, ⟨rfl, rfl⟩, rfl⟩
 refine .dn (.rg rfl rfl ?_)
 refine So.defer Jw.cl0 (f := 192) (vs := []) rfl nofun rfl rfl ⟨_, rfl⟩ rfl ?_
 refine .dn (.sq ?_)
 refine Sc.drop (R' := [(0, .pointer (some ⟨X.Wg, 0, none⟩)), (1, .int .i64 (-1))]) ⟨rfl, rfl, trivial⟩ ?_
 refine .rg rfl rfl ?_
 refine .g ?_
 refine .dn (.sq (.sq (.rg rfl rfl ?_)))
 refine So.callD rfl rfl rfl nofun rfl (.mk' rfl) rfl (Jw.wi e193) ?_
 rintro v J' ⟨k3, t, hk3, ⟨rfl, rfl⟩, rfl⟩
 refine .dn (.ff rfl (.sp (.sq ?_)))
 refine Sc.drop (R' := [(0, .pointer (some ⟨X.Wg, 0, none⟩)), (1, .int .i64 (-1)), (4, .bool false)]) ⟨rfl, rfl, rfl, trivial⟩ ?_
 refine .rg rfl rfl ?_
 refine .m ?_
 refine .x .nk ?_
 refine .x (.fa (zz := fo_211_1)) ?_
 refine .m ?_
 refine .x (OpP.conv rfl rfl un_3 un_207 (by assumption)) ?_
 refine .x (OpP.shift rfl rfl rfl (by omega) (by assumption)) ?_
 refine So.callD rfl rfl rfl nofun rfl (.mk' rfl) rfl (add64 Jw.cl0 kw (Jw.d1 ne e217)) ?_
 rintro v J' ⟨k4, t, hk4, ⟨a, b, ha, hb, rfl, rfl⟩, rfl⟩
 by_cases hq : a = 0 ∧ b = 1
 · rw [if_pos hq]
   refine .g ?_
   refine .dn ?_
   exact dn_one ne hq.1 hq.2 (hK _ _ ⟨rfl, rfl⟩) ⟨rfl, rfl, rfl, rfl, trivial⟩
 · rw [if_neg hq]
   refine So.mono ?_ (fun g => Jq.jw)
   refine .g ?_
   refine .dn ?_
   exact dn_two (by omega) (by omega) hq (hK _ _ ⟨rfl, rfl⟩) ⟨rfl, rfl, rfl, rfl, trivial⟩
theorem done_d {k n : Nat} {b : FB} {R : Rg} {ds : List Deferred} (hb : b.rd = none) (ne : X.Mu ≠ X.Wg)
   (h : Sb (Jq Tryz.prog 0) n b cs R ds) : Sb (Jw Tryz.prog X κ k .wr D H) n b cs R (dcall 162 #[.pointer (some ⟨X.Wg, 0, none⟩)] :: ds) := by
 refine Sb.enterD (vs := [.pointer (some ⟨X.Wg, 0, none⟩)]) Jw.cl0 hb Tryz.func162 (by kernel_rfl) rfl Tryz.ntmps162 (Nat.le_of_ble_eq_true rfl) fun c hm hc => ?_
 refine .rg rfl rfl ?_
 refine .m ?_
 refine So.callD rfl rfl rfl nofun rfl (.mk' rfl) rfl (donew_c ne) ?_
 rintro v J' ⟨rfl, rfl⟩
 refine .dn ?_
 refine Sc.over Jq.cl rfl (Sb.leaveD Jq.cl Tryz.func162 rfl Tryz.results162 (.inl hm) (hc _ h))
end
end Go.Proofs.YtpdaenfglbgfkaaGreatDoor
end
section
namespace Go.Proofs.YtpdaenfglbgfkaaGreatDoor
open Go.RL Go.Conc Go.ConcN Go.RL.Au
open Go.ConcR (stA smA)
open Go.ConcM (muA msA)
set_option maxRecDepth 10000
set_option maxHeartbeats 1000000
section
variable {X : Fk} {H : View} {Fin : Goroutine → Prop} {j : Nat} {cc : Frame} {cs : List Frame}
theorem km {K : Value → Mn → Prop} {k : Nat} : KC true (fun v J' => ∃ k' m', k' < k ∧ K v m' ∧ J' = Jm Tryz.prog X Fin k' m' j H) := fun _ _ ⟨_, _, _, _, h⟩ => ⟨_, h ▸ Jm.cl⟩
theorem w32_1 : IntKind.i32.wrap 1 = 1 := by decide +kernel
attribute [local irreducible] IntKind.wrap bitI Int.fdiv in
theorem addone_c {k : Nat} (ne : X.Mu ≠ X.Wg) : AtC (Jm Tryz.prog X Fin k .kd j H) 160 [.pointer (some ⟨X.Wg, 0, none⟩), .int .i64 1] fun v J' => v = .tuple #[] ∧ ∃ k', J' = Jm Tryz.prog X Fin k' .go j H := by
 refine InC.at (by exact Jm.cl) ca160 (InC.enter (vs := [.pointer (some ⟨X.Wg, 0, none⟩), .int .i64 1]) Tryz.func160 rfl Tryz.ntmps160 (Nat.le_of_ble_eq_true rfl) fun c cs hK => ?_)
 have hsh := shp_wg1 X
 have f1 := w64_1
 have f2 := sh64_1
 have f3 := w32_1
 refine .sq (.tt rfl (.sq (.sq (.rg rfl rfl ?_))))
 refine .m ?_
 refine .i ?_ (z := lss_f (by omega))
 refine .dn (.ff rfl (.sp (.sq (.rg rfl rfl ?_))))
 refine So.callD rfl rfl rfl nofun rfl (.mk' rfl) rfl (Jm.kd e191) ?_
 rintro v J' ⟨k2, t, hk2, ⟨rfl, rfl⟩, rfl⟩
 refine .dn (.rg rfl rfl ?_)
 refine So.defer Jm.cl (f := 192) (vs := []) rfl nofun rfl rfl ⟨_, rfl⟩ rfl ?_
 refine .dn (.sq (.rg rfl rfl ?_))
 refine .g ?_
 refine .dn (.sq (.sq (.rg rfl rfl ?_)))
 refine So.callD rfl rfl rfl nofun rfl (.mk' rfl) rfl (Jm.ki e193) ?_
 rintro v J' ⟨k3, t, hk3, ⟨rfl, rfl⟩, rfl⟩
 refine .dn (.ff rfl (.sp (.sq (.rg rfl rfl ?_))))
 refine .m ?_
 refine .x .nk ?_
 refine .x (.fa (zz := fo_211_1)) ?_
 refine .m ?_
 refine .x (OpP.conv rfl rfl un_3 un_207 (by assumption)) ?_
 refine .x (OpP.shift rfl rfl rfl (by omega) (by assumption)) ?_
 refine So.callD rfl rfl rfl nofun rfl (.mk' rfl) rfl (add64 Jm.cl km (Jm.ka ne e217)) ?_
 rintro v J' ⟨k4, t, hk4, ⟨a, ha, rfl, rfl⟩, rfl⟩
 have e0 : (((a + 1) * 4294967296 : Nat) : Int) = (((a + 1) * 4294967296 + 0 : Nat) : Int) := (congrArg (fun x : Nat => (x : Int)) (Nat.add_zero _)).symm
 have g1 : intBin .and .u64 (((a + 1) * 4294967296 : Nat) : Int) 2147483648 = some (.int .u64 0) := by rw [e0, ← g64_hi (a + 1) (by omega) 0 (by omega)]; rfl
 have g2 : intBin .and .u64 (((a + 1) * 4294967296 : Nat) : Int) 2147483647 = some (.int .u64 0) := by
   have := g64_lo (a + 1) (by omega) 0 (by omega)
   rw [e0]
   exact congrArg (fun x => some (Value.int .u64 x)) this
 have g3 : shiftV .shr .u64 (((a + 1) * 4294967296 : Nat) : Int) 32 = some (.int .u64 ((a + 1 : Nat) : Int)) := by rw [e0, ← g64_sh (a + 1) (by omega) 0 (by omega)]; rfl
 have g4 := w32_s (a + 1) (by omega)
 have g5 : IntKind.u32.wrap 0 = 0 := wu32_s 0 (by omega)
 have gg : (0 : Int) < ((a + 1 : Nat) : Int) := by omega
 refine .g ?_
 refine .dn ?_
 refine Sc.drop (R' := [(0, .pointer (some ⟨X.Wg, 0, none⟩)), (1, .int .i64 1), (4, .bool false), (6, .int .u64 (((a + 1) * 4294967296 : Nat) : Int))]) ⟨rfl, rfl, rfl, rfl, trivial⟩ ?_
 refine .sq (.sq (.rg rfl rfl ?_))
 refine .m ?_
 refine .i ?_ (z := by assumption)
 refine .i ?_ (z := neq_f (by omega))
 refine .m ?_
 refine .sk ?_
 refine .sk ?_
 refine .x .pk ?_
 refine .dn (.ff rfl (.sp (.sq ?_)))
 refine Sc.drop (R' := [(0, .pointer (some ⟨X.Wg, 0, none⟩)), (1, .int .i64 1), (4, .bool false), (6, .int .u64 (((a + 1) * 4294967296 : Nat) : Int))]) ⟨rfl, rfl, rfl, rfl, trivial⟩ ?_
 refine .rg rfl rfl ?_
 refine .m ?_
 refine .x (OpP.shift rfl rfl rfl (by omega) (by assumption)) ?_
 refine .x (OpP.conv rfl rfl un_207 un_21 (by assumption)) ?_
 refine .g ?_
 refine .dn ?_
 refine Sc.drop (R' := [(0, .pointer (some ⟨X.Wg, 0, none⟩)), (1, .int .i64 1), (4, .bool false), (6, .int .u64 (((a + 1) * 4294967296 : Nat) : Int)), (7, .int .i32 ((a + 1 : Nat) : Int))]) ⟨rfl, rfl, rfl, rfl, rfl, trivial⟩ ?_
 refine .sq (.rg rfl rfl ?_)
 refine .m ?_
 refine .i ?_ (z := by assumption)
 refine .x (OpP.conv rfl rfl un_207 un_200 (by assumption)) ?_
 refine .g ?_
 refine .dn ?_
 refine Sc.drop (R' := [(0, .pointer (some ⟨X.Wg, 0, none⟩)), (1, .int .i64 1), (4, .bool false), (7, .int .i32 ((a + 1 : Nat) : Int)), (8, .int .u32 0)]) ⟨rfl, rfl, rfl, rfl, rfl, trivial⟩ ?_
 refine .sq (.sq ?_)
 by_cases hz : a = 0
 · rw [if_pos hz]
   have q1 : intBin .eql .i32 ((a + 1 : Nat) : Int) 1 = some (.bool true) := eql_t (by omega)
   refine .rg rfl rfl ?_
   refine .m ?_
   refine .m ?_
   refine .i ?_ (z := gtr_t (by omega))
   refine .x .pk ?_
   refine .m ?_
   refine .m ?_
   refine .m ?_
   refine .x (OpP.conv rfl rfl un_3 un_21 (by assumption)) ?_
   refine .i ?_ (z := by assumption)
   refine .x .pk ?_
   refine .dn (.tt rfl ?_)
   refine Sc.drop (R' := [(0, .pointer (some ⟨X.Wg, 0, none⟩)), (1, .int .i64 1), (4, .bool false), (7, .int .i32 ((a + 1 : Nat) : Int)), (8, .int .u32 0)]) ⟨rfl, rfl, rfl, rfl, rfl, trivial⟩ ?_
   refine .rg rfl rfl ?_
   refine .m ?_
   refine .x .nk ?_
   refine .x (.fa (zz := fo_211_2)) ?_
   refine .x (OpP.raw rfl rfl un_241 un_236 sz_200 (by assumption)) ?_
   refine So.callD rfl rfl rfl nofun rfl (.mk' rfl) rfl (Jm.kr e198) ?_
   rintro v J' ⟨rfl, k5, hk5, rfl⟩
   refine .dn ?_
   refine Sc.drop (R' := [(0, .pointer (some ⟨X.Wg, 0, none⟩)), (1, .int .i64 1), (4, .bool false), (7, .int .i32 ((a + 1 : Nat) : Int)), (8, .int .u32 0)]) ⟨rfl, rfl, rfl, rfl, rfl, trivial⟩ ?_
   refine .sq (.sq (.rg rfl rfl ?_))
   refine .m ?_
   refine .i ?_ (z := lss_f (by omega))
   refine .dn (.ff rfl (.sp (.sq (.sq (.rg rfl rfl ?_)))))
   refine .m ?_
   refine .i ?_ (z := neq_f (by omega))
   refine .m ?_
   refine .sk ?_
   refine .sk ?_
   refine .x .pk ?_
   refine .m ?_
   refine .sk ?_
   refine .sk ?_
   refine .sk ?_
   refine .sk ?_
   refine .x .pk ?_
   refine .dn (.ff rfl (.sp (.sq (.sq ?_))))
   refine Sc.drop (R' := [(0, .pointer (some ⟨X.Wg, 0, none⟩)), (1, .int .i64 1), (4, .bool false), (7, .int .i32 ((a + 1 : Nat) : Int)), (8, .int .u32 0)]) ⟨rfl, rfl, rfl, rfl, rfl, trivial⟩ ?_
   refine .rg rfl rfl ?_
   refine .m ?_
   refine .i ?_ (z := gtr_t (by omega))
   refine .m ?_
   refine .sk ?_
   refine .sk ?_
   refine .x .pk ?_
   refine .dn (.tt rfl ?_)
   refine Sc.retCode Jm.cl rfl (Jm.ke e192 rfl (fun k' _ => Sb.leave Jm.cl Tryz.func160 rfl (.inl ⟨Tryz.results160, rfl⟩) (hK _ _ ⟨rfl, k', rfl⟩)))
 · rw [if_neg hz]
   have q1 : intBin .eql .i32 ((a + 1 : Nat) : Int) 1 = some (.bool false) := eql_f (by omega)
   refine .rg rfl rfl ?_
   refine .m ?_
   refine .m ?_
   refine .i ?_ (z := gtr_t (by omega))
   refine .x .pk ?_
   refine .m ?_
   refine .m ?_
   refine .m ?_
   refine .x (OpP.conv rfl rfl un_3 un_21 (by assumption)) ?_
   refine .i ?_ (z := by assumption)
   refine .x .pk ?_
   refine .dn (.ff rfl (.sp (.sq (.sq ?_))))
   refine Sc.drop (R' := [(0, .pointer (some ⟨X.Wg, 0, none⟩)), (1, .int .i64 1), (4, .bool false), (7, .int .i32 ((a + 1 : Nat) : Int)), (8, .int .u32 0)]) ⟨rfl, rfl, rfl, rfl, rfl, trivial⟩ ?_
   refine .rg rfl rfl ?_
   refine .m ?_
   refine .i ?_ (z := lss_f (by omega))
   refine .dn (.ff rfl (.sp (.sq (.sq (.rg rfl rfl ?_)))))
   refine .m ?_
   refine .i ?_ (z := neq_f (by omega))
   refine .m ?_
   refine .sk ?_
   refine .sk ?_
   refine .x .pk ?_
   refine .m ?_
   refine .sk ?_
   refine .sk ?_
   refine .sk ?_
   refine .sk ?_
   refine .x .pk ?_
   refine .dn (.ff rfl (.sp (.sq (.sq ?_))))
   refine Sc.drop (R' := [(0, .pointer (some ⟨X.Wg, 0, none⟩)), (1, .int .i64 1), (4, .bool false), (7, .int .i32 ((a + 1 : Nat) : Int)), (8, .int .u32 0)]) ⟨rfl, rfl, rfl, rfl, rfl, trivial⟩ ?_
   refine .rg rfl rfl ?_
   refine .m ?_
   refine .i ?_ (z := gtr_t (by omega))
   refine .m ?_
   refine .sk ?_
   refine .sk ?_
   refine .x .pk ?_
   refine .dn (.tt rfl ?_)
   refine Sc.retCode Jm.cl rfl (Jm.ke e192 rfl (fun k' _ => Sb.leave Jm.cl Tryz.func160 rfl (.inl ⟨Tryz.results160, rfl⟩) (hK _ _ ⟨rfl, k', rfl⟩)))
end
end Go.Proofs.YtpdaenfglbgfkaaGreatDoor
end
section
namespace Go.Proofs.YtpdaenfglbgfkaaGreatDoor
open Go.RL Go.Conc Go.ConcN Go.RL.Au
open Go.ConcR (stA smA)
open Go.ConcM (muA msA)
set_option maxRecDepth 10000
set_option maxHeartbeats 1000000
section
variable {X : Fk} {H : View} {Fin : Goroutine → Prop} {j : Nat} {cc : Frame} {cs : List Frame}
noncomputable def B165 : Code := cB (cB (cR (bodyOf Tryz.f165)))
abbrev b165 : FB := ⟨165, .normal, none⟩
attribute [local irreducible] IntKind.wrap bitI Int.fdiv in
theorem wait_head (hc : Cl Tryz.prog true noSh Fin) (ne : X.Mu ≠ X.Wg) (hK : Fin (G (cc.finish (.tuple #[])) cs)) (k : Nat) : ∀ R : Rg, AllIn [(0, .pointer (some ⟨X.Wg, 0, none⟩))] R → Sc (Jm Tryz.prog X Fin k .w1 j H) 84 b165 (cc :: cs) R [] [.code B165, .inLoop B165, .inBlock 0] := by
 induction k using Nat.strongRecOn with
 | ind k IH =>
   intro R hR
   refine Sc.drop hR ?_
   have hsh := shp_wg X
   have hsh1 := shp_wg1 X
   refine Sc.block (by first | exact Jm.cl | exact hc) ?_; refine Sc.seq (by first | exact Jm.cl | exact hc) ?_
   refine .rg rfl rfl ?_
   refine .m ?_
   refine .x .nk ?_
   refine .x (.fa (zz := fo_211_1)) ?_
   refine So.callD rfl rfl rfl nofun rfl (.mk' rfl) rfl (load64 Jm.cl km (Jm.w1 e218)) ?_
   rintro v J' ⟨k1, t, hk1, ⟨a, ha, rfl, rfl⟩, rfl⟩
   have e0 : ((a * 4294967296 : Nat) : Int) = ((a * 4294967296 + 0 : Nat) : Int) := (congrArg (fun x : Nat => (x : Int)) (Nat.add_zero _)).symm
   have g1 : intBin .and .u64 ((a * 4294967296 : Nat) : Int) 2147483648 = some (.int .u64 0) := by rw [e0, ← g64_hi a (by omega) 0 (by omega)]; rfl
   have g2 : intBin .and .u64 ((a * 4294967296 : Nat) : Int) 2147483647 = some (.int .u64 0) := by
     have := g64_lo a (by omega) 0 (by omega)
     rw [e0]
     exact congrArg (fun x => some (Value.int .u64 x)) this
   have g3 : shiftV .shr .u64 ((a * 4294967296 : Nat) : Int) 32 = some (.int .u64 (a : Int)) := by rw [e0, ← g64_sh a (by omega) 0 (by omega)]; rfl
   have g4 := w32_s a (by omega)
   have g5 : IntKind.u32.wrap 0 = 0 := wu32_s 0 (by omega)
   have g6 : intBin .add .u64 ((a * 4294967296 : Nat) : Int) 1 = some (.int .u64 ((a * 4294967296 + 1 : Nat) : Int)) := by
     have h : ∀ a : Nat, a < 8 → IntKind.u64.wrap (((a * 4294967296 : Nat) : Int) + 1) = ((a * 4294967296 + 1 : Nat) : Int) := by decide +kernel
     exact congrArg (fun x => some (Value.int .u64 x)) (h a (by omega))
   refine .g ?_
   refine .dn ?_
   refine Sc.drop (R' := [(0, .pointer (some ⟨X.Wg, 0, none⟩)), (2, .int .u64 ((a * 4294967296 : Nat) : Int))]) ⟨rfl, rfl, trivial⟩ ?_
   refine Sc.seq (by first | exact Jm.cl | exact hc) ?_
   refine .rg rfl rfl ?_
   refine .m ?_
   refine .x (OpP.shift rfl rfl rfl (by omega) (by assumption)) ?_
   refine .x (OpP.conv rfl rfl un_207 un_21 (by assumption)) ?_
   refine .g ?_
   refine .dn ?_
   refine Sc.drop (R' := [(0, .pointer (some ⟨X.Wg, 0, none⟩)), (2, .int .u64 ((a * 4294967296 : Nat) : Int)), (3, .int .i32 (a : Int))]) ⟨rfl, rfl, rfl, trivial⟩ ?_
   refine Sc.seq (by first | exact Jm.cl | exact hc) ?_
   refine .rg rfl rfl ?_
   refine .m ?_
   refine .i ?_ (z := by assumption)
   refine .x (OpP.conv rfl rfl un_207 un_200 (by assumption)) ?_
   refine .g ?_
   refine .dn ?_
   refine Sc.drop (R' := [(0, .pointer (some ⟨X.Wg, 0, none⟩)), (2, .int .u64 ((a * 4294967296 : Nat) : Int)), (3, .int .i32 (a : Int)), (4, .int .u32 0)]) ⟨rfl, rfl, rfl, rfl, trivial⟩ ?_
   refine Sc.seq (by first | exact Jm.cl | exact hc) ?_; refine Sc.seq (by first | exact Jm.cl | exact hc) ?_
   by_cases hz : a = 0
   · rw [if_pos hz]
     have q1 : intBin .eql .i32 (a : Int) 0 = some (.bool true) := eql_t (by omega)
     refine .rg rfl rfl ?_
     refine .m ?_
     refine .i ?_ (z := by assumption)
     refine .dn ?_
     refine Sc.cond (by first | exact Jm.cl | exact hc) (t := true) rfl (fun _ => ?_) (fun h => nomatch h); refine Sc.seq (by first | exact Jm.cl | exact hc) ?_; refine Sc.cond (by first | exact Jm.cl | exact hc) (t := true) rfl (fun _ => ?_) (fun h => nomatch h); refine Sc.seq (by first | exact Jm.cl | exact hc) ?_
     refine .rg rfl rfl ?_
     refine So.callD rfl rfl rfl nofun rfl (.mk' rfl) rfl (Jm.we e192) ?_
     rintro v J' ⟨k2, t, hk2, ⟨rfl, rfl⟩, rfl⟩
     refine .dn (.rg rfl rfl ?_)
     refine .m ?_
     refine .x (OpP.raw rfl rfl un_234 un_236 sz_211 (by assumption)) ?_
     refine So.callD rfl rfl rfl nofun rfl (.mk' rfl) rfl (Jm.aq e205) ?_
     rintro v J' ⟨rfl, rfl⟩
     refine .dn (.sq (.sq (.rg rfl rfl ?_)))
     refine .m ?_
     refine .i ?_ (z := eql_t (by omega))
     refine .m ?_
     refine .m ?_
     refine .i ?_ (z := by assumption)
     refine .i ?_ (z := neq_f (by omega))
     refine .x .pk ?_
     refine .m ?_
     refine .sk ?_
     refine .sk ?_
     refine .x .pk ?_
     refine .dn (.ff rfl (.sp ?_))
     refine Sc.retCode (by exact hc) rfl (Sb.leave (by exact hc) Tryz.func165 rfl (by exact .inl ⟨Tryz.results165, rfl⟩) ?_)
     exact hK
   · rw [if_neg hz]
     have q1 : intBin .eql .i32 (a : Int) 0 = some (.bool false) := eql_f (by omega)
     refine .rg rfl rfl ?_
     refine .m ?_
     refine .i ?_ (z := by assumption)
     refine .dn ?_
     refine Sc.cond (by first | exact Jm.cl | exact hc) (t := false) rfl (fun h => nomatch h) (fun _ => ?_); refine Sc.skip (by first | exact Jm.cl | exact hc) ?_; refine Sc.seq (by first | exact Jm.cl | exact hc) ?_
     refine .rg rfl rfl ?_
     refine .m ?_
     refine .x .nk ?_
     refine .x (.fa (zz := fo_211_1)) ?_
     refine .m ?_
     refine .m ?_
     refine .i ?_ (z := by assumption)
     refine So.callD rfl rfl rfl nofun rfl (.mk' rfl) rfl (cas64 Jm.cl km (Jm.w2 ne e224)) ?_
     rintro v J' ⟨k2, t, hk2, ⟨rfl, rfl⟩ | ⟨rfl, rfl⟩, rfl⟩
     · refine .dn ?_
       refine Sc.cond (by first | exact Jm.cl | exact hc) (t := true) rfl (fun _ => ?_) (fun h => nomatch h); refine Sc.seq (by first | exact Jm.cl | exact hc) ?_; refine Sc.seq (by first | exact Jm.cl | exact hc) ?_
       refine Sc.drop (R' := [(0, .pointer (some ⟨X.Wg, 0, none⟩)), (2, .int .u64 ((a * 4294967296 : Nat) : Int)), (4, .int .u32 0)]) ⟨rfl, rfl, rfl, trivial⟩ ?_
       refine .rg rfl rfl ?_
       refine .m ?_
       refine .m ?_
       refine .i ?_ (z := eql_t (by omega))
       refine .x .pk ?_
       refine .dn ?_
       refine Sc.cond (by first | exact Jm.cl | exact hc) (t := true) rfl (fun _ => ?_) (fun h => nomatch h)
       refine .rg rfl rfl ?_
       refine .m ?_
       refine .x .nk ?_
       refine .x (.fa (zz := fo_211_2)) ?_
       refine .x (OpP.raw rfl rfl un_241 un_236 sz_200 (by assumption)) ?_
       refine So.callD rfl rfl rfl nofun rfl (.mk' rfl) rfl (Jm.wm e208) ?_
       rintro v J' ⟨rfl, k3, hk3, rfl⟩
       refine .dn ?_
       refine Sc.drop (R' := [(0, .pointer (some ⟨X.Wg, 0, none⟩)), (2, .int .u64 ((a * 4294967296 : Nat) : Int)), (4, .int .u32 0)]) ⟨rfl, rfl, rfl, trivial⟩ ?_
       refine Sc.seq (by first | exact Jm.cl | exact hc) ?_
       refine .rg rfl rfl ?_
       refine .g ?_
       refine .dn ?_
       refine Sc.seq (by first | exact Jm.cl | exact hc) ?_; refine Sc.seq (by first | exact Jm.cl | exact hc) ?_
       refine .rg rfl rfl ?_
       refine .m ?_
       refine .i ?_ (z := by assumption)
       refine .i ?_ (z := neq_f (by omega))
       refine .m ?_
       refine .sk ?_
       refine .x .pk ?_
       refine .dn ?_
       refine Sc.cond (by first | exact Jm.cl | exact hc) (t := false) rfl (fun h => nomatch h) (fun _ => ?_); refine Sc.skip (by first | exact Jm.cl | exact hc) ?_; refine Sc.seq (by first | exact Jm.cl | exact hc) ?_
       refine .rg rfl rfl ?_
       refine .m ?_
       refine .x .nk ?_
       refine .x (.fa (zz := fo_211_2)) ?_
       refine .m ?_
       refine So.callD rfl rfl rfl nofun rfl (.mk' rfl) rfl (Jm.ws (vs := [.pointer (some ⟨X.Wg, 1, none⟩), .bool false]) ne e209 rfl) ?_
       rintro v J' ⟨k4, t, hk4, ⟨rfl, rfl⟩, rfl⟩
       refine .dn ?_
       refine Sc.drop (R' := [(0, .pointer (some ⟨X.Wg, 0, none⟩))]) ⟨rfl, trivial⟩ ?_
       refine Sc.seq (by first | exact Jm.cl | exact hc) ?_
       refine .rg rfl rfl ?_
       refine .m ?_
       refine .x .nk ?_
       refine .x (.fa (zz := fo_211_1)) ?_
       refine So.callD rfl rfl rfl nofun rfl (.mk' rfl) rfl (load64 Jm.cl km (Jm.w4 e218)) ?_
       rintro v J' ⟨k5, t, hk5, ⟨rfl, rfl⟩, rfl⟩
       refine .i ?_ (z := neq_f (by omega))
       refine .g ?_
       refine .dn ?_
       refine Sc.seq (by first | exact Jm.cl | exact hc) ?_; refine Sc.cond (by first | exact Jm.cl | exact hc) (t := true) rfl (fun _ => ?_) (fun h => nomatch h); refine Sc.seq (by first | exact Jm.cl | exact hc) ?_
       refine .rg rfl rfl ?_
       refine So.callD rfl rfl rfl nofun rfl (.mk' rfl) rfl (Jm.we e192) ?_
       rintro v J' ⟨k6, t, hk6, ⟨rfl, rfl⟩, rfl⟩
       refine .dn (.rg rfl rfl ?_)
       refine .m ?_
       refine .x (OpP.raw rfl rfl un_234 un_236 sz_211 (by assumption)) ?_
       refine So.callD rfl rfl rfl nofun rfl (.mk' rfl) rfl (Jm.aq e205) ?_
       rintro v J' ⟨rfl, rfl⟩
       refine .dn (.sq (.sq (.rg rfl rfl ?_)))
       refine .m ?_
       refine .dn (.ff rfl (.sp ?_))
       refine Sc.retCode (by exact hc) rfl (Sb.leave (by exact hc) Tryz.func165 rfl (by exact .inl ⟨Tryz.results165, rfl⟩) ?_)
       exact hK
     · refine .dn ?_
       refine Sc.cond (by first | exact Jm.cl | exact hc) (t := false) rfl (fun h => nomatch h) (fun _ => ?_); refine Sc.skip (by first | exact Jm.cl | exact hc) ?_; refine Sc.inBlock (by first | exact Jm.cl | exact hc) ?_
       refine Sc.inLoop (by exact Jm.cl) ?_
       exact IH k2 (by omega) _ ⟨rfl, trivial⟩
theorem wait_c {k : Nat} (hc : Cl Tryz.prog true noSh Fin) (ne : X.Mu ≠ X.Wg) : AtC (Jm Tryz.prog X Fin k .wd j H) 165 [.pointer (some ⟨X.Wg, 0, none⟩)] fun v J' => v = .tuple #[] ∧ J' = Fin := by
 refine InC.at (by exact Jm.cl) ca165 (InC.enter (vs := [.pointer (some ⟨X.Wg, 0, none⟩)]) Tryz.func165 rfl Tryz.ntmps165 (Nat.le_of_ble_eq_true rfl) fun c cs hK => ?_)
 refine Sc.seq (by first | exact Jm.cl | exact hc) ?_; refine Sc.cond (by first | exact Jm.cl | exact hc) (t := true) rfl (fun _ => ?_) (fun h => nomatch h)
 refine .rg rfl rfl ?_
 refine So.callD rfl rfl rfl nofun rfl (.mk' rfl) rfl (Jm.wd e191) ?_
 rintro v J' ⟨k2, t, hk2, ⟨rfl, rfl⟩, rfl⟩
 refine .dn ?_
 refine Sc.block (by first | exact Jm.cl | exact hc) ?_
 refine Sc.loop (by exact Jm.cl) ?_
 exact wait_head hc ne (hK _ _ ⟨rfl, rfl⟩) k2 _ ⟨rfl, trivial⟩
end
end Go.Proofs.YtpdaenfglbgfkaaGreatDoor
end
section
namespace Go.Proofs.YtpdaenfglbgfkaaGreatDoor
open Go.RL Go.Conc Go.ConcN Go.RL.Au
open Go.ConcR (stA smA)
open Go.ConcM (muA msA)
set_option maxRecDepth 10000
set_option maxHeartbeats 4000000
theorem ro_some {H : View} {b : Nat} {f : Bool} {o : Obj} (h : H b = some (f, o)) : ro H b = some (false, o) := by simp [ro, h]
theorem ro_none {H : View} {b : Nat} (h : H b = none) : ro H b = none := by simp [ro, h]
theorem ChAt.of {H H' : View} {c : Ch} {lb lo lc : Nat} {A : Option Addr} (h : ChAt H c lb lo lc A) (k : ∀ b f o, H b = some (f, o) → ∃ f', H' b = some (f', o)) : ChAt H' c lb lo lc A := by
 obtain ⟨⟨f, gs, gt, gz, h1, h2⟩, h3, h4⟩ := h
 obtain ⟨f', h1'⟩ := k _ _ _ h1
 refine ⟨⟨f', gs, gt, gz, h1', h2⟩, h3, fun hm => ?_⟩
 obtain ⟨ab, ao, f, gs, gt, gz, h5, h6, h7⟩ := h4 hm
 obtain ⟨f', h6'⟩ := k _ _ _ h6
 exact ⟨ab, ao, f', gs, gt, gz, h5, h6', h7⟩
theorem Glob.of {H H' : View} (h : Glob H) (k : ∀ b f o, H b = some (f, o) → ∃ f', H' b = some (f', o)) : Glob H' := by
 obtain ⟨f, gt, gz, h⟩ := h
 obtain ⟨f', h'⟩ := k _ _ _ h
 exact ⟨f', gt, gz, h'⟩
structure StAt (X : Fk) (c : Ch) (H : View) (b1 b7 lb lo lc ac : Nat) (A : Option Addr) : Prop where
 ne : X.Mu ≠ X.Wg
 good : c.Good
 n : X.n = c.m + 1
 ch : ChAt H c lb lo lc A
 h1 : ∃ f, H b1 = some (f, .cells ⟨(c.val lb lo lc ac A).cells.toList⟩ 146 (0, 0))
 h7 : ∃ f, H b7 = some (f, .cells ⟨[.map (some X.C)]⟩ 212 (0, 0))
 glob : Glob H
 C0 : H X.C = none
 GI : X.GI = GIc c
theorem StAt.of {X : Fk} {c : Ch} {H H' : View} {b1 b7 lb lo lc ac : Nat} {A : Option Addr} (h : StAt X c H b1 b7 lb lo lc ac A) (k : ∀ b f o, H b = some (f, o) → ∃ f', H' b = some (f', o)) (h0 : H' X.C = none) : StAt X c H' b1 b7 lb lo lc ac A :=
 ⟨h.ne, h.good, h.n, h.ch.of k, let ⟨_, g⟩ := h.h1; k _ _ _ g, let ⟨_, g⟩ := h.h7; k _ _ _ g, h.glob.of k, h0, h.GI⟩
abbrev b120 : FB := ⟨120, .normal, none⟩
noncomputable def L120 : Code := cR (cL (cR (cR (cR (cR (bodyOf Tryz.f120))))))
noncomputable def B120 : Code := cB (cB L120)
noncomputable def T120 : Code := cR (cR (cR (cR (cR (bodyOf Tryz.f120)))))
section
variable {X : Fk} {c : Ch} {b1 b7 lb lo lc ac : Nat} {A : Option Addr} {Fin : Goroutine → Prop} {cs : List Frame}
def rgS (X : Fk) (c : Ch) (b1 b7 j : Nat) : Rg := [(1, .pointer (some ⟨b1, 0, none⟩)), (2, .int .i64 0), (3, .int .i64 0), (4, .bool false), (5, .pointer (some ⟨X.Mu, 0, none⟩)), (6, .pointer (some ⟨X.Wg, 0, none⟩)), (7, .pointer (some ⟨b7, 0, none⟩)), (13, .int .i64 ((c.m : Nat) + 1)), (14, .int .i64 (j : Nat))]
theorem start_loop (hfin : ∀ (R : Rg), AllIn (rgS X c b1 b7 (c.m + 1)) R → ∀ k (H : View), Sc (Jm Tryz.prog X Fin k .wd (c.m + 1) H) 35 b120 cs R [] [.code T120]) : ∀ (d j k : Nat) (H : View), j + d = c.m + 1 → StAt X c H b1 b7 lb lo lc ac A → ∀ (R : Rg), AllIn (rgS X c b1 b7 j) R →
   Sc (Jm Tryz.prog X Fin k (if j < X.n then .kd else .wd) j H) 35 b120 cs R [] [.code B120, .inLoop B120, .inBlock 0, .code T120]
 | 0, j, k, H, hj, hst, R, hR => by
   have e : j = c.m + 1 := by omega
   subst e
   rw [if_neg (by rw [hst.n]; omega)]
   refine Sc.drop hR ?_
   unfold rgS
   refine .sq (.rg rfl rfl ?_)
   refine .i ?_ (z := lss_f (by omega))
   refine .dn ?_
   refine Sc.seq Jm.cl (Sc.cond Jm.cl (t := false) rfl (fun h => nomatch h) (fun _ => ?_))
   refine .xt rfl ?_
   exact hfin _ ⟨rfl, rfl, rfl, rfl, rfl, rfl, rfl, rfl, rfl, trivial⟩ k H
 | d + 1, j, k, H, hj, hst, R, hR => by
   rw [if_pos (by rw [hst.n]; omega)]
   refine Sc.drop hR ?_
   unfold rgS
   have hmn := hst.good.ok.m_lt
   have hn4 := hst.good.ok.n4
   refine .sq (.rg rfl rfl ?_)
   refine .i ?_ (z := lss_t (by omega))
   refine .dn ?_
   refine Sc.seq Jm.cl (Sc.cond Jm.cl (t := true) rfl (fun _ => ?_) (fun h => nomatch h))
   refine .sp (.sq (.bl (.sq ?_)))
   refine Sc.none hst.C0 ?_
   refine Sc.ofTc (SymSt.nil H) ?_
   refine .r ?_
   refine .m ?_
   refine .e (.al (zz := fun b8 => ?_))
   refine .e (.st 0 (zz := ?_))
   refine .done ?_
   refine Tc.ofSc (fun H1 hs => Sc.stopNone (fun hC1 => ?_))
   have hst1 : StAt X c H1 b1 b7 lb lo lc ac A := hst.of (fun b f o h => ⟨f, hs.base _ _ h⟩) hC1
   have h8 := hs.get (i := 0) rfl
   show Sc (Jm Tryz.prog X Fin k .kd j H1) 35 b120 cs _ [] _
   refine .sq (.rg rfl rfl ?_)
   refine So.callD rfl rfl rfl nofun rfl (.mk' rfl) rfl (addone_c hst.ne) ?_
   rintro v J' ⟨rfl, k', rfl⟩
   refine .dn (.rg rfl rfl ?_)
   refine So.opD Jm.cl rfl rfl rfl rfl (OpP.makeFunc rfl rfl rfl) ?_
   have hst2 : StAt X c (ro H1) b1 b7 lb lo lc ac A := hst1.of (fun b f o h => ⟨false, ro_some h⟩) (ro_none hC1)
   refine Jm.go (f := 161) (fn := #[]) (caps := (wkVs X b1 b8 b7).toArray) rfl nofun rfl rfl rfl rfl rfl rfl rfl (fun k1 _ => ?_) (fun k1 _ => ?_)
   · refine .dn (.ib (.rg rfl rfl ?_))
     refine .i ?_ (z := add_in (by omega) (by omega))
     refine .m ?_
     refine .dn ?_
     refine Sc.inLoop (by exact Jm.cl) ?_
     exact start_loop hfin d (j + 1) k1 (ro H1) (by omega) hst2 _ ⟨rfl, rfl, rfl, rfl, rfl, rfl, rfl, rfl, rfl, trivial⟩
   · refine worker_c (A := A) (lb := lb) (lo := lo) (lc := lc) (ac := ac) ⟨hst.ne, hst.good.ok, hst2.ch, hst2.h1, ⟨false, ro_some h8⟩, hst2.h7, fun i hi hf => Lk.fine (hst.good.fine i hf), by omega, hst2.glob, hst2.C0, hst.GI⟩ (fun H' D k n b cs R ds hb h => done_d hb hst.ne h) k1
end
theorem Ph.of₁ {P : Program} {H : View} {g : Goroutine} {Po : View → Goroutine → Prop} (h : Ph₁ P H g Po) : Ph P H g Po :=
 ⟨H, fun _ => none, Po, fun _ _ h => (nomatch h), (by funext b; unfold View.plus; cases H b <;> rfl), h, fun H' g' _ hp => by
   have e : H'.plus (fun _ => none) = H' := by funext b; unfold View.plus; cases H' b <;> rfl
   rwa [e]⟩
def View.beside (X : Fk) (H : View) : View := ((H.without X.C).without X.Mu).without X.Wg
theorem beside_none {X : Fk} {H : View} : View.beside X H X.Mu = none ∧ View.beside X H X.Wg = none ∧ View.beside X H X.C = none := by
 refine ⟨?_, ?_, ?_⟩ <;> unfold View.beside View.without <;> simp
theorem beside_some {X : Fk} {H : View} {b : Nat} (h1 : b ≠ X.C) (h2 : b ≠ X.Mu) (h3 : b ≠ X.Wg) : View.beside X H b = H b := by
 unfold View.beside
 rw [without_other h3, without_other h2, without_other h1]
theorem Ph.begin {P : Program} {H : View} {g : Goroutine} {Po : View → Goroutine → Prop} (X : Fk) (Fin : Goroutine → Prop) (o : Obj) (hn : 0 < X.n ∧ X.n ≤ 6) (ne : X.Mu ≠ X.Wg ∧ X.Mu ≠ X.C ∧ X.Wg ≠ X.C)
   (hC : H X.C = some (true, o)) (hMu : H X.Mu = some (true, X.muO ⟨0, 0, 0, 0, 0⟩)) (hWg : H X.Wg = some (true, X.wgO ⟨0, 0, 0, 0, 0⟩)) (hGI : X.GI (fun _ => false) o)
   (hg : ∀ k, T (Mw P true X.ok) (MS P X Fin k .kd 0) (ro (View.beside X H)) g) (hPo : ∀ o' g', X.GI (fun i => decide (i < X.n)) o' → Fin g' → Po ((View.beside X H).put X.C (true, o')) g') : Ph P H g Po := by
 refine Ph.of₁ ⟨X, Fin, View.beside X H, o, hn.1, hn.2, ne, beside_none, ?_, hGI, hg, hPo⟩
 funext b
 by_cases e1 : b = X.Wg
 · subst e1; rw [View.put_same, hWg]
 · rw [View.put_other _ _ e1]
   by_cases e2 : b = X.Mu
   · subst e2; rw [View.put_same, hMu]
   · rw [View.put_other _ _ e2]
     by_cases e3 : b = X.C
     · subst e3; rw [View.put_same, hC]
     · rw [View.put_other _ _ e3, beside_some e3 e2 e1]
theorem So.all {J : Obj → Goroutine → Prop} {p : Obj → Prop} {n : Nat} {b : FB} {cs : List Frame} {dl : List (Option Tmp)} {R : Rg} {ds : List Deferred} {l : List Oper} {kk : List Item} (h : ∀ o, p o → So (J o) n b cs dl R ds l kk) : So (fun g => ∀ o, p o → J o g) n b cs dl R ds l kk :=
 fun arr ix ha hx tmps hr o ho => h o ho arr ix ha hx tmps hr
def Ch.isBad (c : Ch) (i : Nat) : Bool := (c.bad i).isSome
def Ch.first (c : Ch) : Option Nat := firstTo c.isBad (c.m + 1)
def Ch.sec (c : Ch) : Nat := c.first.getD 0
theorem Ch.sec_le (c : Ch) : c.sec ≤ c.m := by
 unfold Ch.sec Ch.first
 cases h : firstTo c.isBad (c.m + 1) with
 | none => simp
 | some x => have := firstTo_lt h; simp; omega
theorem wF_full {c : Ch} {es : Array MapEntry} {cl : Nat} {n : Nat} (hn : n = c.m + 1) (h : MapOk es cl (wF c fun i => decide (i < n))) {i : Nat} (hi : i ≤ c.m) {r : Option (Nat × Value)} (hr : FindOk es.toList (.int .i64 (i : Nat)) r) :
   (match c.bad i with | some z => ∃ j, r = some (j, .int .i64 z) | none => r = none) := by
 have hf := h.find hr
 cases hb : c.bad i with
 | none =>
   cases r with
   | none => rfl
   | some p =>
     obtain ⟨j, v⟩ := p
     obtain ⟨i', z, h1, h2, h3, h4, h5⟩ := hf
     simp only [Value.int.injEq, true_and, Int.natCast_inj] at h4
     subst h4
     rw [hb] at h3
     cases h3
 | some z =>
   cases r with
   | none => exact (hf (.int .i64 z) ⟨i, z, hi, by simp; omega, hb, rfl, rfl⟩).elim
   | some p =>
     obtain ⟨j, v⟩ := p
     obtain ⟨i', z', h1, h2, h3, h4, h5⟩ := hf
     simp only [Value.int.injEq, true_and, Int.natCast_inj] at h4
     subst h4
     rw [hb] at h3
     cases h3
     exact ⟨j, by rw [h5]⟩
section
theorem bad_asks (M : Md Tryz.prog) (H : View) (ch : Ch) (b7 bC : Nat) (es : Array MapEntry) (cl n : Nat) (f7 fC : Bool) (hn : n = ch.m + 1) (h7 : H b7 = some (f7, .cells ⟨[.map (some bC)]⟩ 212 (0, 0))) (hC : H bC = some (fC, .map es cl)) (hm : MapOk es cl (wF ch fun i => decide (i < n))) :
   Asks M H (.func (.func 166) #[] #[.pointer (some ⟨b7, 0, none⟩)]) (ch.m + 1) ch.isBad := fun i hi H' hle => by
 refine FnT.of (first := []) (captured := [_]) ca166 rfl ?_
 have h7' := hle _ _ h7
 have hC' := hle _ _ hC
 have hfull := fun r (hr : FindOk es.toList (.int .i64 (i : Nat)) r) => wF_full hn hm (by omega) hr
 refine CallT.enter (vs := [.int .i64 (i : Nat), .pointer (some ⟨b7, 0, none⟩)]) Tryz.func166 rfl Tryz.ntmps166 (Nat.le_of_ble_eq_true rfl) (SymSt.nil _) fun St c cs hK => ?_
 cases hb : ch.bad i with
 | none =>
   refine .sr ?_
   refine .g ?_
   refine .done (.sr ?_)
   refine .x .l0 ?_
   refine .m ?_
   refine .x (OpV.lookup (E := en) (v := .tuple #[.int .i64 0, .bool false]) 1 rfl rfl rfl (fun H hs => ⟨_, hs.base _ _ hC'⟩) rfl rfl rfl (by decide) (int_key _) (wF_keys hm) (fun r hr => by have := hfull r hr; rw [hb] at this; subst this; rfl)) ?_
   refine .m ?_
   refine .x .et ?_
   refine .x .et ?_
   refine .g ?_
   refine .g ?_
   refine .done (.sr ?_)
   refine .m ?_
   refine .g ?_
   refine .done ?_
   refine .rt hK Tryz.func166 Tryz.results166 [_] ?_
   exact fun H2 hs => ⟨hs.base, by unfold Ch.isBad; rw [hb]; rfl⟩
 | some z =>
   refine .sr ?_
   refine .g ?_
   refine .done (.sr ?_)
   refine .x .l0 ?_
   refine .m ?_
   refine .x (OpV.lookup (E := en) (v := .tuple #[.int .i64 z, .bool true]) 1 rfl rfl rfl (fun H hs => ⟨_, hs.base _ _ hC'⟩) rfl rfl rfl (by decide) (int_key _) (wF_keys hm) (fun r hr => by have := hfull r hr; rw [hb] at this; obtain ⟨j, rfl⟩ := this; rfl)) ?_
   refine .m ?_
   refine .x .et ?_
   refine .x .et ?_
   refine .g ?_
   refine .g ?_
   refine .done (.sr ?_)
   refine .m ?_
   refine .g ?_
   refine .done ?_
   refine .rt hK Tryz.func166 Tryz.results166 [_] ?_
   exact fun H2 hs => ⟨hs.base, by unfold Ch.isBad; rw [hb]; rfl⟩
theorem chainWeak_c (H : View) (ch : Ch) (lb lo lc ac : Nat) (A : Option Addr) (hA : ChAt H ch lb lo lc A) (hg : ch.Good) (hG : Glob H) :
   CallT (Mp Tryz.prog) 120 #[ch.val lb lo lc ac A] H (fun v H' => H.le H' ∧ v = .tuple ⟨[.int .i64 (ch.sec : Nat), .int .i64 ((ch.bad ch.sec).getD 0), .bool ch.first.isSome]⟩) := by
 refine CallT.enter (vs := [ch.val lb lo lc ac A]) Tryz.func120 rfl Tryz.ntmps120 (Nat.le_of_ble_eq_true rfl) (SymSt.nil _) fun St c cs hK => ?_
 have hmn := hg.ok.m_lt
 have hn4 := hg.ok.n4
 refine .sr ?_
 refine .e (.bx (zz := fun b1 => ?_))
 refine .g ?_
 refine .g ?_
 refine .g ?_
 refine .done (.sr ?_)
 refine .e (.al (zz := fun b5 => ?_))
 refine .done (.sr ?_)
 refine .e (.al (zz := fun b6 => ?_))
 refine .done (.sr ?_)
 refine .e (Or.makeMap rfl rfl (by decide) (fun bC => ?_))
 refine .e (.al (zz := fun b7 => ?_))
 refine .e (.st 0 (zz := ?_))
 refine .done (.seq (.sr ?_))
 refine .x .fa ?_
 refine .x (.ld 4) ?_
 refine .x .ln ?_
 refine .i ?_ (z := add_in (by omega) (by omega))
 refine .m ?_
 refine .done ?_
 refine Tc.ofSc (fun Hx hs tmps hr => ?_)
 obtain ⟨X, hX⟩ : ∃ X : Fk, X = ⟨ch.m + 1, b5, b6, bC, 204, 211, GIc ch⟩ := ⟨_, rfl⟩
 have x1 := hs.get (i := 0) rfl
 have x2 := hs.get (i := 1) rfl
 have x3 := hs.get (i := 2) rfl
 have x4 := hs.get (i := 3) rfl
 have x5 := hs.get (i := 4) rfl
 have hnd : [b7, bC, b6, b5, b1].Nodup := hs.nodup
 simp only [List.nodup_cons, List.mem_cons, List.not_mem_nil, or_false, not_or, not_false_eq_true, List.nodup_nil, and_true] at hnd
 obtain ⟨⟨n1, n2, n3, n4⟩, ⟨n5, n6, n7⟩, ⟨n8, n9⟩, n10⟩ := hnd
 have o1 := hs.out _ (List.mem_cons_self)
 have hout : ∀ y, y = bC ∨ y = b5 ∨ y = b6 → H y = none := by
   rintro y (rfl | rfl | rfl)
   · exact hs.out _ (List.mem_cons_of_mem _ List.mem_cons_self)
   · exact hs.out _ (List.mem_cons_of_mem _ (List.mem_cons_of_mem _ (List.mem_cons_of_mem _ List.mem_cons_self)))
   · exact hs.out _ (List.mem_cons_of_mem _ (List.mem_cons_of_mem _ List.mem_cons_self))
 have hle : H.le (View.beside X Hx) := fun b y hb => by
   have e : ∀ z, z = bC ∨ z = b5 ∨ z = b6 → b ≠ z := fun z hz e => by subst e; rw [hout b hz] at hb; cases hb
   rw [beside_some (by subst hX; exact e _ (.inl rfl)) (by subst hX; exact e _ (.inr (.inl rfl))) (by subst hX; exact e _ (.inr (.inr rfl)))]
   exact hs.base _ _ hb
 have y1 : View.beside X Hx b1 = some (true, .cells ⟨(ch.val lb lo lc ac A).cells.toList⟩ 146 (0, 0)) := by
   subst hX; rw [beside_some (by exact Ne.symm n7) (by exact Ne.symm n10) (by exact Ne.symm n9)]; exact x5
 have y7 : View.beside X Hx b7 = some (true, .cells ⟨[.map (some bC)]⟩ 212 (0, 0)) := by
   subst hX; rw [beside_some n1 n3 n2]; exact x1
 obtain ⟨Fin, hF⟩ : ∃ Fin : Goroutine → Prop, Fin = fun g => ∀ o', X.GI (fun i => decide (i < X.n)) o' → T (Mp Tryz.prog) St ((View.beside X Hx).put X.C (true, o')) g := ⟨_, rfl⟩
 have hcF : Cl Tryz.prog true noSh Fin := ⟨fun g g' hs h hf => by
   subst hF
   exact fun o' ho => .step ⟨hs, fun w hw hok => ⟨g', w, #[], _, h w (fun _ _ e => by cases e), .refl hw, hf o' ho⟩⟩⟩
 have hne : X.Mu ≠ X.Wg := by subst hX; exact Ne.symm n8
 refine T.phase (Po := fun H' g' => T (Mp Tryz.prog) St H' g') (Ph.begin X Fin (.map #[] 0) (by subst hX; exact ⟨by show 0 < ch.m + 1; omega, by show ch.m + 1 ≤ 6; omega⟩) ⟨hne, by subst hX; exact Ne.symm n6, by subst hX; exact Ne.symm n5⟩ (by subst hX; exact x2) (by subst hX; exact x4) (by subst hX; exact x3) (by subst hX; exact ⟨_, _, rfl, MapOk.nil.congr fun a b => by unfold wF; simp⟩) (fun k => ?_) (fun o' g' ho hf => by subst hF; exact hf o' ho)) (fun H' g' hp => hp)
 have hst : StAt X ch (ro (View.beside X Hx)) b1 b7 lb lo lc ac A :=
   ⟨hne, hg, by subst hX; rfl, hA.of (fun b f o h => ⟨false, ro_some (hle _ _ h)⟩), ⟨false, ro_some y1⟩, by subst hX; exact ⟨false, ro_some y7⟩, hG.of (fun b f o h => ⟨false, ro_some (hle _ _ h)⟩), ro_none beside_none.2.2, by subst hX; rfl⟩
 have hfin : ∀ (R : Rg), AllIn (rgS X ch b1 b7 (ch.m + 1)) R → ∀ k (H : View), Sc (Jm Tryz.prog X Fin k .wd (ch.m + 1) H) 35 b120 (c :: cs) R [] [.code T120] := by
   intro R hR k Hk
   refine Sc.drop hR ?_
   unfold rgS
   refine .sq (.rg rfl rfl ?_)
   refine So.callD rfl rfl rfl nofun rfl (.mk' rfl) rfl (wait_c hcF hne) ?_
   rintro v J' ⟨rfl, rfl⟩
   subst hF
   refine So.all (fun o' ho' => ?_)
   have hGI : X.GI = GIc ch := by subst hX; rfl
   rw [hGI] at ho'
   obtain ⟨es, cl, rfl, hm⟩ := ho'
   have hX2 : X.n = ch.m + 1 := by subst hX; rfl
   have z1 : (View.beside X Hx).put X.C (true, .map es cl) b1 = some (true, .cells ⟨(ch.val lb lo lc ac A).cells.toList⟩ 146 (0, 0)) := by
     rw [View.put_other _ _ (by subst hX; exact Ne.symm n7)]; exact y1
   have z7 : (View.beside X Hx).put X.C (true, .map es cl) b7 = some (true, .cells ⟨[.map (some X.C)]⟩ 212 (0, 0)) := by
     rw [View.put_other _ _ (by subst hX; exact n1)]; subst hX; exact y7
   have zC : (View.beside X Hx).put X.C (true, .map es cl) X.C = some (true, .map es cl) := View.put_same ..
   have zle : H.le ((View.beside X Hx).put X.C (true, .map es cl)) := fun b y hb => by
     rw [View.put_other _ _ (by rintro rfl; subst hX; rw [hout bC (.inl rfl)] at hb; cases hb)]
     exact hle _ _ hb
   generalize (View.beside X Hx).put X.C (true, .map es cl) = H2 at z1 z7 zC zle
   refine So.ofTo (SymSt.nil H2) ?_
   refine .done (.sr ?_)
   refine .x .fa ?_
   refine .x .l0 ?_
   refine .x .ln ?_
   refine .i ?_ (z := add_in (by omega) (by omega))
   refine .x .mf ?_
   refine .c rfl rfl rfl rfl (fun H hs => .f ca104 rfl (first_c _ H (ch.m + 1) _ ch.isBad (by omega) (bad_asks _ H ch b7 X.C es cl X.n true true hX2 (hs.base _ _ z7) (hs.base _ _ zC) hm))) ?_
   refine .m ?_
   refine .x .et ?_
   refine .x .et ?_
   refine .g ?_
   refine .g ?_
   refine .done (.seq ?_)
   have hsec := ch.sec_le
   have hfull := fun r (hr : FindOk es.toList (.int .i64 (ch.sec : Nat)) r) => wF_full hX2 hm hsec hr
   refine Tc.dr [] [] mixed rfl ?_
   refine .q 0 rfl .mv ?_
   refine .q 1 rfl .l0 ?_
   refine .q 2 rfl .mv ?_
   refine .q 3 rfl (OpV.lookup (E := en) (v := .int .i64 ((ch.bad ch.sec).getD 0)) 1 rfl rfl rfl (fun H hs => ⟨_, hs.base _ _ zC⟩) rfl rfl rfl (by decide) (int_key _) (wF_keys hm) (fun r hr => by have := hfull r hr; cases hb : ch.bad ch.sec with | none => rw [hb] at this; subst this; rfl | some z => rw [hb] at this; obtain ⟨j, rfl⟩ := this; rfl)) ?_
   refine .q 4 rfl .mv ?_
   refine .q 5 rfl .sg ?_
   refine .q 6 rfl .sg ?_
   refine .q 7 rfl .sg ?_
   refine Ta.done (by kernel_rfl) ?_
   refine .rt hK Tryz.func120 Tryz.results120 [_, _, _] ?_
   exact fun H' hs => ⟨View.le_trans zle hs.base, rfl⟩
 refine Sc.block Jm.cl (Sc.loop Jm.cl ?_) tmps hr
 have h0 : 0 < X.n := by subst hX; show 0 < ch.m + 1; omega
 have hgo := start_loop hfin (ch.m + 1) 0 k (ro (View.beside X Hx)) (by omega) hst
 simp only [if_pos h0] at hgo
 subst hX
 exact hgo _ (by unfold rgS; refine ⟨rfl, ?_⟩; refine ⟨rfl, ?_⟩; refine ⟨rfl, ?_⟩; refine ⟨rfl, ?_⟩; refine ⟨rfl, ?_⟩; refine ⟨rfl, ?_⟩; refine ⟨rfl, ?_⟩; refine ⟨rfl, ?_⟩; refine ⟨rfl, ?_⟩; exact trivial)
end
end Go.Proofs.YtpdaenfglbgfkaaGreatDoor
end
section
namespace Go.Proofs.YtpdaenfglbgfkaaGreatDoor
open Go.RL
set_option maxRecDepth 10000
set_option maxHeartbeats 4000000
def cmpI (a b : Int) : Int := if a < b then -1 else if b < a then 1 else 0
def cmpL : List Int → List Int → Int
 | [], [] => 0
 | [], _ :: _ => -1
 | _ :: _, [] => 1
 | a :: l, b :: m => if cmpI a b = 0 then cmpL l m else cmpI a b
theorem cmpL_step {l m : List Int} {j : Nat} (h1 : j < l.length) (h2 : j < m.length) : cmpL (l.drop j) (m.drop j) = if cmpI (l[j]?.getD 0) (m[j]?.getD 0) = 0 then cmpL (l.drop (j + 1)) (m.drop (j + 1)) else cmpI (l[j]?.getD 0) (m[j]?.getD 0) := by
 rw [List.drop_eq_getElem_cons h1, List.drop_eq_getElem_cons h2, List.getElem?_eq_getElem h1, List.getElem?_eq_getElem h2]
 rfl
section
variable (M : Md Tryz.prog) (H : View)
theorem isNaN_c (x : Int) : CallT M 189 #[.int .i64 x] H (fun v H' => H.le H' ∧ v = .bool false) := by
 refine CallT.enter (vs := [.int .i64 x]) Tryz.func189 rfl Tryz.ntmps189 (Nat.le_of_ble_eq_true rfl) (SymSt.nil _) fun St c cs hK => ?_
 refine .sr ?_
 refine .g ?_
 refine .done (.sr ?_)
 refine .m ?_
 refine .m ?_
 refine .i ?_ (z := neq_f (by omega))
 refine .g ?_
 refine .done ?_
 refine .rt hK Tryz.func189 Tryz.results189 [_] ?_
 exact fun H' hs => ⟨hs.base, rfl⟩
theorem cmp_c (a b : Int) : CallT M 159 #[.int .i64 a, .int .i64 b] H (fun v H' => H.le H' ∧ v = .int .i64 (cmpI a b)) := by
 refine CallT.enter (vs := [.int .i64 a, .int .i64 b]) Tryz.func159 rfl Tryz.ntmps159 (Nat.le_of_ble_eq_true rfl) (SymSt.nil _) fun St c cs hK => ?_
 refine .sr ?_
 refine .g ?_
 refine .done (.sr ?_)
 refine .m ?_
 refine .c rfl rfl rfl rfl (fun H hs => .f ca189 rfl (isNaN_c M H a)) ?_
 refine .g ?_
 refine .done (.sr ?_)
 refine .m ?_
 refine .c rfl rfl rfl rfl (fun H hs => .f ca189 rfl (isNaN_c M H b)) ?_
 refine .g ?_
 refine .done (.seq (.sr ?_))
 refine .m ?_
 refine .done (.ff rfl (.skip (.seq (.sr ?_))))
 refine .m ?_
 refine .done (.ff rfl (.skip (.seq (.seq ?_))))
 by_cases c1 : a < b
 · have e : cmpI a b = -1 := if_pos c1
   refine .r ?_
   refine .m ?_
   refine .m ?_
   refine .i ?_ (z := lss_t (by omega))
   refine .done (.tt rfl (.sr ?_))
   refine .g ?_
   refine .done ?_
   refine .rt hK Tryz.func159 Tryz.results159 [_] ?_
   exact fun H' hs => ⟨hs.base, by rw [e]; rfl⟩
 · by_cases c2 : b < a
   · have e : cmpI a b = 1 := by unfold cmpI; rw [if_neg c1, if_pos c2]
     refine .r ?_
     refine .m ?_
     refine .m ?_
     refine .i ?_ (z := lss_f (by omega))
     refine .done (.ff rfl (.skip (.seq (.sr ?_))))
     refine .m ?_
     refine .m ?_
     refine .i ?_ (z := gtr_t (by omega))
     refine .done (.tt rfl (.sr ?_))
     refine .g ?_
     refine .done ?_
     refine .rt hK Tryz.func159 Tryz.results159 [_] ?_
     exact fun H' hs => ⟨hs.base, by rw [e]; rfl⟩
   · have e : cmpI a b = 0 := by unfold cmpI; rw [if_neg c1, if_neg c2]
     refine .r ?_
     refine .m ?_
     refine .m ?_
     refine .i ?_ (z := lss_f (by omega))
     refine .done (.ff rfl (.skip (.seq (.sr ?_))))
     refine .m ?_
     refine .m ?_
     refine .i ?_ (z := gtr_f (by omega))
     refine .done (.ff rfl (.skip (.sr ?_)))
     refine .g ?_
     refine .done ?_
     refine .rt hK Tryz.func159 Tryz.results159 [_] ?_
     exact fun H' hs => ⟨hs.base, by rw [e]; rfl⟩
theorem Compare_c (A B : Option Addr) (l m : List Int) (n k ca cb : Nat) (hn : n = l.length) (hk : k = m.length) (h6 : n ≤ 1000) (hk6 : k ≤ 1000) (hA : Nums H A l) (hB : Nums H B m) : CallT M 119 #[.slice A n ca, .slice B k cb] H (fun v H' => H.le H' ∧ v = .int .i64 (cmpL l m)) := by
 refine CallT.enter (vs := [.slice A n ca, .slice B k cb]) Tryz.func119 rfl Tryz.ntmps119 (Nat.le_of_ble_eq_true rfl) (SymSt.nil _) fun St c cs hK => ?_
 refine .sr ?_
 refine .g ?_
 refine .done (.seq (.sr ?_))
 refine .m ?_
 refine .x .ln ?_
 refine .m ?_
 refine .done (.block ?_)
 refine Tc.db (Tc.loopInv (σ := { j : Nat // j ≤ n ∧ j ≤ k ∧ cmpL (l.drop j) (m.drop j) = cmpL l m }) (fun j => ([(0, .slice A n ca), (1, .slice B k cb), (4, .int .i64 0), (9, .slice A n ca), (10, .int .i64 (n : Nat)), (11, .int .i64 (j.1 : Nat))], [])) (fun j => n - j.1) ?_ ⟨0, by omega, by omega, rfl⟩)
 rintro ⟨j, hj, hjk, hcm⟩ ih
 show Tc M St _ _ _ _ [(0, .slice A n ca), (1, .slice B k cb), (4, .int .i64 0), (9, .slice A n ca), (10, .int .i64 (n : Nat)), (11, .int .i64 (j : Nat))] [] _ _
 by_cases c1 : j = n
 · subst c1
   rw [List.drop_eq_nil_of_le (by omega)] at hcm
   by_cases c2 : j < k
   · have e : cmpL l m = -1 := by
       rw [← hcm, List.drop_eq_getElem_cons (by omega)]
       rfl
     refine .sr ?_
     refine .i ?_ (z := lss_f (by omega))
     refine .done (.seq (.ff rfl (.exit rfl (.seq (.sr ?_)))))
     refine .m ?_
     refine .x .ln ?_
     refine .m ?_
     refine .x .ln ?_
     refine .i ?_ (z := lss_t (by omega))
     refine .done (.tt rfl (.sr ?_))
     refine .g ?_
     refine .done ?_
     refine .rt hK Tryz.func119 Tryz.results119 [_] ?_
     exact fun H' hs => ⟨hs.base, by rw [e]; rfl⟩
   · have e : cmpL l m = 0 := by
       rw [← hcm, List.drop_eq_nil_of_le (by omega)]
       rfl
     refine .sr ?_
     refine .i ?_ (z := lss_f (by omega))
     refine .done (.seq (.ff rfl (.exit rfl (.seq (.sr ?_)))))
     refine .m ?_
     refine .x .ln ?_
     refine .m ?_
     refine .x .ln ?_
     refine .i ?_ (z := lss_f (by omega))
     refine .done (.ff rfl (.skip (.sr ?_)))
     refine .g ?_
     refine .done ?_
     refine .rt hK Tryz.func119 Tryz.results119 [_] ?_
     exact fun H' hs => ⟨hs.base, by rw [e]; rfl⟩
 · have c2 : j < n := by omega
   rcases hA with hA | ⟨a1, a2, a3, a4, a5, a6, rfl, a7, a8⟩
   · rw [hA] at hn; simp at hn; omega
   have f1 := a8 j (by omega)
   by_cases c3 : j = k
   · have e : cmpL l m = 1 := by
       have em : m.drop j = [] := List.drop_eq_nil_of_le (by omega)
       rw [← hcm, em, List.drop_eq_getElem_cons (by omega)]
       rfl
     refine .sr ?_
     refine .i ?_ (z := lss_t (by omega))
     refine .done (.seq (.tt rfl (.skip (.seq (.block (.sr ?_))))))
     refine .m ?_
     refine .x .ia ?_
     refine .x .l0 ?_
     refine .g ?_
     refine .g ?_
     refine .done (.seq (.sr ?_))
     refine .m ?_
     refine .m ?_
     refine .x .ln ?_
     refine .i ?_ (z := geq_t (by omega))
     refine .done (.tt rfl (.sr ?_))
     refine .g ?_
     refine .done ?_
     refine .rt hK Tryz.func119 Tryz.results119 [_] ?_
     exact fun H' hs => ⟨hs.base, by rw [e]; rfl⟩
   · have c4 : j < k := by omega
     rcases hB with hB | ⟨b1, b2, b3, b4, b5, b6, rfl, b7, b8⟩
     · rw [hB] at hk; simp at hk; omega
     have f2 := b8 j (by omega)
     have hst := cmpL_step (l := l) (m := m) (j := j) (by omega) (by omega)
     rw [hcm] at hst
     by_cases c5 : cmpI (l[j]?.getD 0) (m[j]?.getD 0) = 0
     · rw [if_pos c5] at hst
       refine .sr ?_
       refine .i ?_ (z := lss_t (by omega))
       refine .done (.seq (.tt rfl (.skip (.seq (.block (.sr ?_))))))
       refine .m ?_
       refine .x .ia ?_
       refine .x .l0 ?_
       refine .g ?_
       refine .g ?_
       refine .done (.seq (.sr ?_))
       refine .m ?_
       refine .m ?_
       refine .x .ln ?_
       refine .i ?_ (z := geq_f (by omega))
       refine .done (.ff rfl (.skip (.sr ?_)))
       refine .m ?_
       refine .m ?_
       refine .x .ia ?_
       refine .x .l0 ?_
       refine .g ?_
       refine .done (.sr ?_)
       refine .m ?_
       refine .m ?_
       refine .c rfl rfl rfl rfl (fun H hs => .f ca159 rfl (CallT.is (.int .i64 0) (by rewrite [c5]; rfl) (cmp_c M H (l[j]?.getD 0) (m[j]?.getD 0)))) ?_
       refine .g ?_
       refine .done (.sr ?_)
       refine .m ?_
       refine .i ?_ (z := neq_f (by omega))
       refine .done (.ff rfl (.skip (.inBlock (.r ?_))))
       refine .i ?_ (z := add_in (by omega) (by omega))
       refine .m ?_
       refine .done ?_
       exact Tc.db (ih ⟨j + 1, by omega, by omega, hst.symm⟩ (by simp only; omega))
     · rw [if_neg c5] at hst
       refine .sr ?_
       refine .i ?_ (z := lss_t (by omega))
       refine .done (.seq (.tt rfl (.skip (.seq (.block (.sr ?_))))))
       refine .m ?_
       refine .x .ia ?_
       refine .x .l0 ?_
       refine .g ?_
       refine .g ?_
       refine .done (.seq (.sr ?_))
       refine .m ?_
       refine .m ?_
       refine .x .ln ?_
       refine .i ?_ (z := geq_f (by omega))
       refine .done (.ff rfl (.skip (.sr ?_)))
       refine .m ?_
       refine .m ?_
       refine .x .ia ?_
       refine .x .l0 ?_
       refine .g ?_
       refine .done (.sr ?_)
       refine .m ?_
       refine .m ?_
       refine .c rfl rfl rfl rfl (fun H hs => .f ca159 rfl (cmp_c M H (l[j]?.getD 0) (m[j]?.getD 0))) ?_
       refine .g ?_
       refine .done (.sr ?_)
       refine .m ?_
       refine .i ?_ (z := neq_t (by omega))
       refine .done (.tt rfl (.sr ?_))
       refine .m ?_
       refine .g ?_
       refine .done ?_
       refine .rt hK Tryz.func119 Tryz.results119 [_] ?_
       exact fun H' hs => ⟨hs.base, by rw [hst]; rfl⟩
end
theorem Weak_c (H : View) (ch : Ch) (lb lo lc ac : Nat) (A : Option Addr) (hA : ChAt H ch lb lo lc A) (hg : ch.Good) (hG : Glob H) :
   CallT (Mp Tryz.prog) 58 #[ch.val7 lb lo lc, .slice A ch.m ac] H (fun v H' => H.le H' ∧ v = .tuple ⟨[.int .i64 (ch.sec : Nat), .int .i64 ((ch.bad ch.sec).getD 0), .bool ch.first.isSome, .int .i64 0]⟩) := by
 refine CallT.enter (vs := [ch.val7 lb lo lc, .slice A ch.m ac]) Tryz.func58 rfl Tryz.ntmps58 (Nat.le_of_ble_eq_true rfl) (SymSt.nil _) fun St c cs hK => ?_
 refine .sr ?_
 refine .e (.bx (zz := fun b2 => ?_))
 refine .g ?_
 refine .g ?_
 refine .g ?_
 refine .g ?_
 refine .done (.sr ?_)
 refine .x (.ld 0) ?_
 refine .m ?_
 refine .c rfl rfl rfl rfl (fun H hs => .f ca121 rfl (openChain_good _ H ch lb lo lc ac A (hA.le hs.base) hg (glob_le hG hs.base))) ?_
 refine .m ?_
 refine .x .et ?_
 refine .x .et ?_
 refine .e (.al (zz := fun b8 => ?_))
 refine .e (.st 0 (zz := ?_))
 refine .g ?_
 refine .done (.seq (.sr ?_))
 refine .m ?_
 refine .i ?_ (z := neq_f (by omega))
 refine .done (.ff rfl (.skip (.sr ?_)))
 refine .x (.ld 0) ?_
 refine .c rfl rfl rfl rfl (fun H hs => .f ca120 rfl (chainWeak_c H ch lb lo lc ac A (hA.le hs.base) hg (glob_le hG hs.base))) ?_
 refine .m ?_
 refine .x .et ?_
 refine .x .et ?_
 refine .x .et ?_
 refine .g ?_
 refine .g ?_
 refine .g ?_
 refine .done (.sr ?_)
 refine .m ?_
 refine .m ?_
 refine .m ?_
 refine .g ?_
 refine .g ?_
 refine .g ?_
 refine .g ?_
 refine .done ?_
 refine .rt hK Tryz.func58 Tryz.results58 [_, _, _, _] ?_
 exact fun H' hs => ⟨hs.base, rfl⟩
end Go.Proofs.YtpdaenfglbgfkaaGreatDoor
end
section
namespace Go.Proofs.YtpdaenfglbgfkaaGreatDoor
open Go.RL
set_option maxRecDepth 10000
set_option maxHeartbeats 4000000
def bitM (mask i : Nat) : Bool := mask / 2 ^ i % 2 == 1
def bitsL (mask k : Nat) : List Nat := (List.range k).filter (bitM mask)
def Ch.on (c : Ch) (l : List Nat) : Ch := { c with m := l.length, at_ := fun i => l[i]?.getD 0 }
def numsL (l : List Nat) : List Int := l.map fun i : Nat => (i : Int)
def skips (l : List Nat) (best : Option (List Nat)) : Bool := match best with
 | none => false
 | some b => decide (b.length < l.length) || (decide (l.length = b.length) && decide (0 < cmpL (numsL l) (numsL b)))
def Ch.spotStep (c : Ch) (best : Option (List Nat)) (mask : Nat) : Option (List Nat) :=
 if skips (bitsL mask (c.n - 1)) best then best else if (c.on (bitsL mask (c.n - 1))).first.isSome then best else some (bitsL mask (c.n - 1))
def Ch.spotsTo (c : Ch) : Nat → Option (List Nat)
 | 0 => none
 | k + 1 => c.spotStep (c.spotsTo k) k
def Ch.spots (c : Ch) : Option (List Nat) := c.spotsTo (2 ^ (c.n - 1))
theorem bits_get {mask k i : Nat} (h : i < (bitsL mask k).length) : (bitsL mask k)[i]?.getD 0 < k := by
 rw [List.getElem?_eq_getElem h]
 have := List.getElem_mem h
 unfold bitsL at this
 exact List.mem_range.1 (List.mem_filter.1 this).1
theorem bits_mono {mask k i : Nat} (h : i + 1 < (bitsL mask k).length) : (bitsL mask k)[i]?.getD 0 < (bitsL mask k)[i + 1]?.getD 0 := by
 rw [List.getElem?_eq_getElem h, List.getElem?_eq_getElem (show i < (bitsL mask k).length by omega)]
 have hp : (bitsL mask k).Pairwise (· < ·) := List.Pairwise.filter _ List.pairwise_lt_range
 exact List.pairwise_iff_getElem.1 hp i (i + 1) (by omega) h (by omega)
theorem Ch.Good.on {c : Ch} (h : c.Good) (mask : Nat) : (c.on (bitsL mask (c.n - 1))).Good := by
 refine ⟨⟨h.ok.n0, h.ok.n4, h.ok.x, h.ok.y, h.ok.z, h.ok.u, fun i hi => ?_, fun i hi => bits_mono hi⟩, h.s, h.a, h.r, h.ln⟩
 have := bits_get (mask := mask) (k := c.n - 1) hi
 have h0 := h.ok.n0
 show (bitsL mask (c.n - 1))[i]?.getD 0 + 1 < c.n
 omega
theorem keep_bits (mask k : Nat) : keepTo (bitM mask) k = placesV (bitsL mask k) := rfl
theorem places_nums (l : List Nat) : placesV l = intsL (numsL l) := by
 unfold placesV intsL numsL
 rw [List.map_map]
 rfl
theorem mask_sh : ∀ mask : Nat, mask < 8 → ∀ i : Nat, i < 3 → ((mask : Int)).fdiv (2 ^ (min (i : Int).toNat IntKind.i64.bits)) = ((mask / 2 ^ i : Nat) : Int) ∧ bitI .and .i64 ((mask / 2 ^ i : Nat) : Int) 1 = ((mask / 2 ^ i % 2 : Nat) : Int) := by decide +kernel
def SpotsQ (o : Option (List Nat)) (H : View) (v : Value) (H' : View) : Prop := H.le H' ∧ ∃ g : Gl 3 1, v = .tuple ⟨[g.val, .bool o.isSome, .int .i64 0]⟩ ∧ g.l = placesV (o.getD []) ∧ ∀ y ∈ g.bl, H' y.1 = some y.2 ∧ H y.1 = none
theorem spots_asks (M : Md Tryz.prog) (H : View) (mask k b7 : Nat) (hm : mask < 8) (hk : k ≤ 3) (hb : H b7 = some (true, .cells ⟨[.int .i64 (mask : Nat)]⟩ 3 (0, 0))) : Asks M H (.func (.func 118) #[] #[.pointer (some ⟨b7, 0, none⟩)]) k (bitM mask) := fun i hi H' hle => by
 refine FnT.of (first := []) (captured := [_]) ca118 rfl ?_
 have h7 := hle _ _ hb
 obtain ⟨e1, e2⟩ := mask_sh mask hm i (by omega)
 have g1 : shiftV .shr .i64 (mask : Int) (i : Int) = some (.int .i64 ((mask / 2 ^ i : Nat) : Int)) := congrArg (fun x => some (Value.int .i64 x)) e1
 have g2 : intBin .and .i64 ((mask / 2 ^ i : Nat) : Int) 1 = some (.int .i64 ((mask / 2 ^ i % 2 : Nat) : Int)) := congrArg (fun x => some (Value.int .i64 x)) e2
 refine CallT.enter (vs := [.int .i64 (i : Nat), .pointer (some ⟨b7, 0, none⟩)]) Tryz.func118 rfl Tryz.ntmps118 (Nat.le_of_ble_eq_true rfl) (SymSt.nil _) fun St c cs hK => ?_
 refine .seq ?_
 by_cases h : mask / 2 ^ i % 2 = 1
 · have hb : bitM mask i = true := by unfold bitM; rw [h]; rfl
   refine .r ?_
   refine .g ?_
   refine .done (.sr ?_)
   refine .x .l0 ?_
   refine .m ?_
   refine .x .sf ?_
   refine .i ?_ (z := by assumption)
   refine .i ?_ (z := eql_t (by omega))
   refine .g ?_
   refine .done ?_
   refine .rt hK Tryz.func118 Tryz.results118 [_] ?_
   exact fun H2 hs => ⟨hs.base, by rw [hb]; rfl⟩
 · have hb : bitM mask i = false := by unfold bitM; exact beq_false_of_ne h
   refine .r ?_
   refine .g ?_
   refine .done (.sr ?_)
   refine .x .l0 ?_
   refine .m ?_
   refine .x .sf ?_
   refine .i ?_ (z := by assumption)
   refine .i ?_ (z := eql_f (by omega))
   refine .g ?_
   refine .done ?_
   refine .rt hK Tryz.func118 Tryz.results118 [_] ?_
   exact fun H2 hs => ⟨hs.base, by rw [hb]; rfl⟩
end Go.Proofs.YtpdaenfglbgfkaaGreatDoor
end
section
namespace Go.Proofs.YtpdaenfglbgfkaaGreatDoor
open Go.RL
set_option maxRecDepth 10000
def Lk.Sure (k : Lk) : Prop := ∀ c : Nat, c < 32 → ∀ s ∈ k.stgs c, s.wrong (rightN c) = none
theorem Lk.wrong_none {k : Lk} {c : Nat} : k.wrong c = none ↔ ∀ s ∈ k.stgs c, s.wrong (rightN c) = none := by
 unfold Lk.wrong
 rw [List.findSome?_eq_none_iff]
theorem firstTo_none {p : Nat → Bool} : ∀ k : Nat, firstTo p k = none ↔ ∀ i, i < k → p i = false
 | 0 => by simp [firstTo]
 | k + 1 => by
   unfold firstTo
   rw [Option.or_eq_none_iff, firstTo_none k]
   constructor
   · rintro ⟨h1, h2⟩ i hi
     rcases Nat.lt_succ_iff_lt_or_eq.1 hi with h | rfl
     · exact h1 i h
     · cases hp : p i with
       | false => rfl
       | true => rw [hp] at h2; cases h2
   · intro h
     refine ⟨fun i hi => h i (by omega), ?_⟩
     rw [h k (by omega)]
     rfl
theorem Lk.weak_none {k : Lk} : k.weak = none ↔ k.Sure := by
 unfold Lk.weak Lk.Sure
 rw [firstTo_none]
 refine forall_congr' fun c => forall_congr' fun hc => ?_
 rw [← Lk.wrong_none]
 unfold Lk.weakAt
 cases k.wrong c <;> simp
theorem Lk.sure_at {k : Lk} : k.Sure ↔ ∀ r, k.r0 ≤ r → r ≤ k.r1 → (k.at r).Sure := by
 constructor
 · intro h r h1 h2 c hc s hs
   obtain ⟨a, r', n, f, ha, hr, hn, hf, rfl⟩ := Lk.mem_stgs.1 hs
   have hr1 : r ≤ r' := hr.1
   have hr2 : r' ≤ r := hr.2
   exact h c hc _ (Lk.mem_stgs.2 ⟨a, r', n, f, ha, ⟨by omega, by omega⟩, hn, hf, rfl⟩)
 · intro h c hc s hs
   obtain ⟨a, r, n, f, ha, hr, hn, hf, rfl⟩ := Lk.mem_stgs.1 hs
   exact h r hr.1 hr.2 c hc _ (Lk.mem_stgs.2 ⟨a, r, n, f, ha, ⟨Int.le_refl r, Int.le_refl r⟩, hn, hf, rfl⟩)
theorem keepTo_all {p : Nat → Bool} (n : Nat) : (keepTo p n).length = n ↔ ∀ i, i < n → p i = true := by
 unfold keepTo
 rw [List.length_map]
 constructor
 · intro h i hi
   have h2 : ((List.range n).filter p).length = (List.range n).length := by rw [h, List.length_range]
   exact List.length_filter_eq_length_iff.1 h2 i (List.mem_range.2 hi)
 · intro h
   rw [List.filter_eq_self.2 fun i hi => h i (List.mem_range.1 hi), List.length_range]
theorem Lk.keep_sure {k : Lk} : (keepTo k.sureOf 32).length = 32 ↔ k.Sure := by
 rw [keepTo_all]
 unfold Lk.Sure Lk.sureOf
 refine forall_congr' fun c => forall_congr' fun _ => ?_
 rw [← Lk.wrong_none]
 cases k.wrong c <;> simp
end Go.Proofs.YtpdaenfglbgfkaaGreatDoor
end
section
namespace Go.Proofs.YtpdaenfglbgfkaaGreatDoor
open Go.RL
set_option maxRecDepth 10000
theorem missedGo_to (pace after : Int) : ∀ (f : Nat) (n j : Int), n ≤ j → j < missedGo pace after f n → (2 * j + 1) * pace < after
 | 0, n, j, h1, h2 => by simp [missedGo] at h2; omega
 | f + 1, n, j, h1, h2 => by
   unfold missedGo at h2
   split at h2
   · rename_i hlt
     by_cases e : j = n
     · subst e; exact hlt
     · exact missedGo_to pace after f (n + 1) j (by omega) h2
   · omega
theorem missedF_to {pace after j : Int} (h0 : 0 ≤ j) (h : j < missedF pace after) : (2 * j + 1) * pace < after := missedGo_to pace after 7 0 j h0 h
theorem missedF_iff {pace after : Int} (hp : 0 < pace) {m : Int} (h0 : 0 ≤ m) (h7 : m < 7) : m < missedF pace after ↔ (2 * m + 1) * pace < after := by
 constructor
 · exact missedF_to h0
 · intro h
   obtain ⟨h1, h2, h3⟩ := missedF_in pace after
   by_cases e : m < missedF pace after
   · exact e
   · have h4 := h3 (by omega)
     have h5 : (2 * missedF pace after + 1) * pace ≤ (2 * m + 1) * pace := Int.mul_le_mul_of_nonneg_right (by omega) (by omega)
     omega
theorem missedF_mono {pace a b : Int} (hp : 0 < pace) (h : a ≤ b) : missedF pace a ≤ missedF pace b := by
 obtain ⟨h1, h2, _⟩ := missedF_in pace a
 obtain ⟨g1, g2, _⟩ := missedF_in pace b
 by_cases e : missedF pace a ≤ missedF pace b
 · exact e
 · have h4 := missedF_to (pace := pace) (after := a) g1 (by omega)
   have := (missedF_iff (after := b) hp g1 (by omega)).2 (by omega)
   omega
theorem optGo_all {read mt after : Int} (hr : 0 < read) : ∀ (f : Nat) (n m : Int), n ≤ m → m ≤ mt → (mt + 1 - n).toNat ≤ f → ∃ o ∈ optGo read mt after f n, o.1 = missedF read (after + m) ∧ n ≤ o.2 ∧ o.2 ≤ m
 | 0, n, m, h1, h2, h3 => by omega
 | f + 1, n, m, h1, h2, h3 => by
   unfold optGo
   rw [if_pos (by omega)]
   by_cases e : missedF read (after + m) = missedF read (after + n)
   · exact ⟨_, List.mem_cons_self, e.symm, Int.le_refl _, h1⟩
   · have h4 := missedF_mono (pace := read) hr (show after + n ≤ after + m by omega)
     have h5 := missedF_in read (after + n)
     have h6 := missedF_in read (after + m)
     rw [if_neg (by omega)]
     have h7 := h5.2.2 (by omega)
     have h8 := missedF_to (pace := read) (after := after + m) h5.1 (by omega)
     obtain ⟨o, ho, h9, h10, h11⟩ := optGo_all (after := after) hr f ((2 * missedF read (after + n) + 1) * read + 1 - after) m (by omega) h2 (by omega)
     exact ⟨o, List.mem_cons_of_mem _ ho, h9, by omega, h11⟩
theorem optGo_is {read mt after : Int} : ∀ (f : Nat) (n : Int) (o : Int × Int), o ∈ optGo read mt after f n → n ≤ o.2 ∧ o.2 ≤ mt ∧ o.1 = missedF read (after + o.2)
 | 0, n, o, h => by cases h
 | f + 1, n, o, h => by
   unfold optGo at h
   split at h
   · rename_i hn
     rcases List.mem_cons.1 h with rfl | h
     · exact ⟨Int.le_refl _, hn, rfl⟩
     · split at h
       · cases h
       · rename_i h7
         have h5 := missedF_in read (after + n)
         obtain ⟨h1, h2, h3⟩ := optGo_is f _ o h
         have := h5.2.2 h7
         exact ⟨by omega, h2, h3⟩
   · cases h
def Stg.miss (s : Stg) (i : Nat) (m : Int) : Int := if i = 0 then 0 else missedF s.read (s.after (s.ps[i]?.getD 0) i + m)
def Stg.may (s : Stg) (i : Nat) (m : Int) : Prop := if i = 0 then m = s.first else s.mf ≤ m ∧ m ≤ s.mt
theorem Stg.opts_all {s : Stg} (hr : 0 < s.read) {i : Nat} {m : Int} (h : s.may i m) : ∃ o ∈ s.opts (s.ps[i]?.getD 0) i, o.1 = s.miss i m ∧ o.2 ≤ m := by
 unfold Stg.may at h
 unfold Stg.opts Stg.miss
 split at h
 · rename_i hi
   subst hi
   rw [if_pos rfl, if_pos rfl]
   exact ⟨_, List.mem_cons_self, rfl, by omega⟩
 · rename_i hi
   rw [if_neg hi, if_neg hi]
   obtain ⟨o, h1, h2, h3, h4⟩ := optGo_all (read := s.read) (mt := s.mt) (after := s.after (s.ps[i]?.getD 0) i) hr (s.mt + 1 - s.mf).toNat s.mf m h.1 h.2 (Nat.le_refl _)
   exact ⟨o, h1, h2, h4⟩
theorem Stg.opts_is {s : Stg} {i : Nat} {o : Int × Int} (h : o ∈ s.opts (s.ps[i]?.getD 0) i) : s.may i o.2 ∧ o.1 = s.miss i o.2 := by
 unfold Stg.opts at h
 unfold Stg.may Stg.miss
 split at h
 · rename_i hi
   simp only [List.mem_singleton] at h
   subst h
   subst hi
   exact ⟨by simp, by simp⟩
 · rename_i hi
   obtain ⟨h1, h2, h3⟩ := optGo_is _ _ _ h
   rw [if_neg hi, if_neg hi]
   exact ⟨⟨h1, h2⟩, h3⟩
def Stg.viewFrom (s : Stg) (i v : Nat) : List Int → Nat
 | [] => v
 | m :: l => s.viewFrom (i + 1) (turnedN v (s.miss i m).toNat) l
def Stg.mayAll (s : Stg) (i : Nat) : List Int → Prop
 | [] => True
 | m :: l => s.may i m ∧ s.mayAll (i + 1) l
def Stg.view (s : Stg) (mv : List Int) : Nat := s.viewFrom 0 127 mv
theorem Stg.leaves_all {s : Stg} (hr : 0 < s.read) : ∀ (l : List Int) (i v : Nat) (pre : List Int), s.mayAll i l → ∃ x ∈ s.leaves l.length i v pre, x.1 = s.viewFrom i v l
 | [], i, v, pre, _ => ⟨(v, pre), by simp [Stg.leaves], rfl⟩
 | m :: l, i, v, pre, h => by
   obtain ⟨o, h1, h2, _⟩ := Stg.opts_all hr h.1
   obtain ⟨x, h3, h4⟩ := Stg.leaves_all hr l (i + 1) (turnedN v o.1.toNat) (pre ++ [o.2]) h.2
   refine ⟨x, ?_, ?_⟩
   · simp only [List.length_cons, Stg.leaves]
     exact List.mem_flatMap.2 ⟨o, h1, h3⟩
   · rw [h4, h2]
     rfl
theorem Stg.leaves_is {s : Stg} : ∀ (d i v : Nat) (pre : List Int) (x : Nat × List Int), x ∈ s.leaves d i v pre → ∃ l : List Int, l.length = d ∧ x.2 = pre ++ l ∧ s.mayAll i l ∧ x.1 = s.viewFrom i v l
 | 0, i, v, pre, x, h => by
   simp only [Stg.leaves, List.mem_singleton] at h
   subst h
   exact ⟨[], rfl, by simp, trivial, rfl⟩
 | d + 1, i, v, pre, x, h => by
   unfold Stg.leaves at h
   obtain ⟨o, h1, h2⟩ := List.mem_flatMap.1 h
   obtain ⟨h3, h4⟩ := Stg.opts_is h1
   obtain ⟨l, h5, h6, h7, h8⟩ := Stg.leaves_is d (i + 1) _ _ x h2
   refine ⟨o.2 :: l, by simp [h5], by rw [h6]; simp, ⟨h3, h7⟩, ?_⟩
   rw [h8, h4]
   rfl
theorem Stg.all_mem {s : Stg} (hr : 0 < s.read) {v : Nat} : (∃ x ∈ s.all, x.1 = v) ↔ ∃ mv : List Int, mv.length = s.ps.length ∧ s.mayAll 0 mv ∧ s.view mv = v := by
 constructor
 · rintro ⟨x, hx, rfl⟩
   obtain ⟨l, h1, h2, h3, h4⟩ := Stg.leaves_is _ _ _ _ _ hx
   exact ⟨l, h1, h3, h4.symm⟩
 · rintro ⟨mv, h1, h2, rfl⟩
   obtain ⟨x, h3, h4⟩ := Stg.leaves_all hr mv 0 127 [] h2
   exact ⟨x, by unfold Stg.all; rw [← h1]; exact h3, h4⟩
theorem nxR_true {os : List (Int × Int)} {R : Nat → Bool} {w : Nat} : nxR os R 128 0 w = true ↔ ∃ u, u < 128 ∧ R u = true ∧ ∃ o ∈ os, toV u o = w := by
 unfold nxR
 simp only [List.take_zero, List.any_nil, Bool.false_and, Bool.or_false, List.any_eq_true, List.mem_range, Bool.and_eq_true, beq_iff_eq]
 constructor
 · rintro ⟨u, h1, ⟨o, h2, h3⟩, h4⟩
   exact ⟨u, h1, h4, o, h2, h3⟩
 · rintro ⟨u, h1, h4, o, h2, h3⟩
   exact ⟨u, h1, ⟨o, h2, h3⟩, h4⟩
theorem Stg.viewFrom_snoc (s : Stg) : ∀ (l : List Int) (i v : Nat) (m : Int), s.viewFrom i v (l ++ [m]) = turnedN (s.viewFrom i v l) (s.miss (i + l.length) m).toNat
 | [], i, v, m => rfl
 | a :: l, i, v, m => by
   show s.viewFrom (i + 1) _ (l ++ [m]) = _
   rw [Stg.viewFrom_snoc s l]
   simp only [List.length_cons]
   rw [show i + 1 + l.length = i + (l.length + 1) by omega]
   rfl
theorem Stg.mayAll_snoc (s : Stg) : ∀ (l : List Int) (i : Nat) (m : Int), s.mayAll i (l ++ [m]) ↔ s.mayAll i l ∧ s.may (i + l.length) m
 | [], i, m => by simp [Stg.mayAll]
 | a :: l, i, m => by
   simp only [List.cons_append, Stg.mayAll, List.length_cons]
   rw [Stg.mayAll_snoc s l, show i + 1 + l.length = i + (l.length + 1) by omega, and_assoc]
theorem Stg.miss_in {s : Stg} (i : Nat) (m : Int) : 0 ≤ s.miss i m ∧ s.miss i m ≤ 7 := by
 unfold Stg.miss
 split
 · omega
 · have := missedF_in s.read (s.after (s.ps[i]?.getD 0) i + m); omega
theorem Stg.viewFrom_lt (s : Stg) : ∀ (l : List Int) (i v : Nat), v < 128 → s.viewFrom i v l < 128
 | [], _, _, h => h
 | m :: l, i, v, h => by
   have := Stg.miss_in (s := s) i m
   exact Stg.viewFrom_lt s l (i + 1) _ (turned_lt v h _ (by omega))
theorem Stg.reachTo_iff {s : Stg} (hr : 0 < s.read) : ∀ (k : Nat) (w : Nat), s.reachTo k w = true ↔ ∃ mv : List Int, mv.length = k ∧ s.mayAll 0 mv ∧ s.view mv = w
 | 0, w => by
   constructor
   · intro h
     simp only [Stg.reachTo, beq_iff_eq] at h
     exact ⟨[], rfl, trivial, h.symm⟩
   · rintro ⟨mv, h1, _, h3⟩
     cases List.eq_nil_of_length_eq_zero h1
     simp only [Stg.reachTo, beq_iff_eq]
     exact h3.symm
 | k + 1, w => by
   unfold Stg.reachTo
   rw [nxR_true]
   constructor
   · rintro ⟨u, h1, h2, o, h3, h4⟩
     obtain ⟨mv, h5, h6, h7⟩ := (Stg.reachTo_iff hr k u).1 h2
     obtain ⟨h8, h9⟩ := Stg.opts_is h3
     refine ⟨mv ++ [o.2], by simp [h5], (Stg.mayAll_snoc s mv 0 o.2).2 ⟨h6, by rw [Nat.zero_add, h5]; exact h8⟩, ?_⟩
     unfold Stg.view at h7 ⊢
     rw [Stg.viewFrom_snoc, h7, Nat.zero_add, h5, ← h9]
     exact h4
   · rintro ⟨mv, h1, h2, h3⟩
     obtain ⟨mv', m, rfl⟩ : ∃ mv' m, mv = mv' ++ [m] := by
       refine ⟨mv.dropLast, mv.getLast (by intro e; rw [e] at h1; cases h1), ?_⟩
       exact (List.dropLast_concat_getLast _).symm
     simp only [List.length_append, List.length_cons, List.length_nil, Nat.zero_add, Nat.add_right_cancel_iff] at h1
     obtain ⟨h4, h5⟩ := (Stg.mayAll_snoc s mv' 0 m).1 h2
     rw [Nat.zero_add, h1] at h5
     obtain ⟨o, h6, h7, _⟩ := Stg.opts_all hr h5
     refine ⟨s.view mv', Stg.viewFrom_lt s mv' 0 127 (by decide), (Stg.reachTo_iff hr k _).2 ⟨mv', h1, h4, rfl⟩, o, h6, ?_⟩
     unfold Stg.view at h3
     rw [Stg.viewFrom_snoc, Nat.zero_add, h1, ← h7] at h3
     exact h3
theorem Stg.reach_iff {s : Stg} (hr : 0 < s.read) {w : Nat} : s.reach w = true ↔ ∃ mv : List Int, mv.length = s.ps.length ∧ s.mayAll 0 mv ∧ s.view mv = w := Stg.reachTo_iff hr _ _
theorem Stg.reach_all {s : Stg} (hr : 0 < s.read) {w : Nat} : s.reach w = true ↔ ∃ x ∈ s.all, x.1 = w := (Stg.reach_iff hr).trans (Stg.all_mem hr).symm
theorem Stg.wrong_none {s : Stg} (hr : 0 < s.read) {rt : Nat} : s.wrong rt = none ↔ ∀ w, s.reach w = true → w = rt := by
 unfold Stg.wrong
 rw [Option.map_eq_none_iff, List.find?_eq_none]
 constructor
 · intro h w hw
   obtain ⟨x, hx, rfl⟩ := (Stg.reach_all hr).1 hw
   have := h x hx
   simpa [notRt] using this
 · intro h x hx
   have := h x.1 ((Stg.reach_all hr).2 ⟨x, hx, rfl⟩)
   simp [notRt, this]
theorem Lk.wrong_sees {k : Lk} (hk : 1 ≤ k.r0) {c : Nat} : k.wrong c = none ↔ ∀ w, k.sees c w = true → w = rightN c := by
 rw [Lk.wrong_none]
 have hr : ∀ s ∈ k.stgs c, 0 < s.read := fun s hs => by
   obtain ⟨a, r, n, f, h1, h2, h3, h4, rfl⟩ := Lk.mem_stgs.1 hs
   show 0 < r
   omega
 unfold Lk.sees
 simp only [List.any_eq_true]
 constructor
 · rintro h w ⟨s, hs, hw⟩
   exact (Stg.wrong_none (hr s hs)).1 (h s hs) w hw
 · intro h s hs
   exact (Stg.wrong_none (hr s hs)).2 fun w hw => h w ⟨s, hs, hw⟩
end Go.Proofs.YtpdaenfglbgfkaaGreatDoor
end
section
namespace Go.Proofs.YtpdaenfglbgfkaaGreatDoor
open Go.RL
set_option maxRecDepth 100000
def exL : Lk := ⟨20, 20, 19, 21, 0, 0, -3, 3⟩
def exK : Lk := ⟨20, 20, 19, 21, 0, 1, -3, 3⟩
def exM : Lk := ⟨19, 21, 19, 21, 0, 0, -3, 3⟩
def exC : Ch := ⟨20, 20, 20, 20, 19, 21, 3, fun _ => 0, fun _ => 0, fun _ => -2, fun _ => 2, 0, fun _ => 0⟩
theorem exL_ok : exL.ok = true := by decide +kernel
theorem exK_ok : exK.ok = true := by decide +kernel
theorem exM_ok : exM.ok = true := by decide +kernel
theorem ex_edges : placesTo 16 7 = [0, 5] := by decide +kernel
theorem ex_edges0 : placesTo 0 7 = [0, 6] := by decide +kernel
def Lk.views (k : Lk) (c : Nat) : List Nat := ((k.stgs c).flatMap fun s => s.all).map fun x => x.1
theorem Lk.sees_views {k : Lk} (hk : 1 ≤ k.r0) {c v : Nat} : k.sees c v = true ↔ v ∈ k.views c := by
 have hr : ∀ s ∈ k.stgs c, 0 < s.read := fun s hs => by
   obtain ⟨a, r, n, f, h1, h2, h3, h4, rfl⟩ := Lk.mem_stgs.1 hs
   show 0 < r
   omega
 unfold Lk.sees Lk.views
 rw [List.any_eq_true, List.mem_map]
 constructor
 · rintro ⟨s, hs, hv⟩
   obtain ⟨x, hx, e⟩ := (Stg.reach_all (hr s hs)).1 hv
   exact ⟨x, List.mem_flatMap.2 ⟨s, hs, hx⟩, e⟩
 · rintro ⟨x, hx, e⟩
   obtain ⟨s, hs, hx⟩ := List.mem_flatMap.1 hx
   exact ⟨s, hs, (Stg.reach_all (hr s hs)).2 ⟨x, hx, e⟩⟩
theorem ex_views : ((exK.views 0).any (fun v => v == 64) && (exK.views 0).any (fun v => decide (v < 128) && (readN v).isNone) && (exK.views 0).all (fun v => v == 64 || (readN v).isNone)) = true := by decide +kernel
theorem ex_v1 : exK.sees 0 64 = true := by
 have h := ex_views
 simp only [Bool.and_eq_true, List.any_eq_true] at h
 obtain ⟨⟨⟨v, hv, e⟩, _⟩, _⟩ := h
 rw [beq_iff_eq] at e
 subst e
 exact (Lk.sees_views (by decide)).2 hv
theorem ex_v2 : ∃ v, v < 128 ∧ exK.sees 0 v = true ∧ (readN v).isNone = true := by
 have h := ex_views
 simp only [Bool.and_eq_true, List.any_eq_true, decide_eq_true_eq] at h
 obtain ⟨⟨_, v, hv, e1, e2⟩, _⟩ := h
 exact ⟨v, e1, (Lk.sees_views (by decide)).2 hv, e2⟩
theorem ex_v3 {v : Nat} (hv : exK.sees 0 v = true) : v = 64 ∨ (readN v).isNone = true := by
 have h := ex_views
 simp only [Bool.and_eq_true, List.all_eq_true, Bool.or_eq_true, beq_iff_eq] at h
 exact h.2 v ((Lk.sees_views (by decide)).1 hv)
theorem ex_right : exK.claim 0 = 0 := by
 have hr : rightN 0 = 64 := by decide +kernel
 obtain ⟨w, h1, h2, h3⟩ := ex_v2
 have hne : ¬ exK.seen 0 = 1 := by
   intro e
   unfold Lk.seen at e
   obtain ⟨a, ha⟩ := List.length_eq_one_iff.1 e
   have m1 : 64 ∈ (List.range 128).filter (exK.sees 0) := List.mem_filter.2 ⟨List.mem_range.2 (by decide), ex_v1⟩
   have m2 : w ∈ (List.range 128).filter (exK.sees 0) := List.mem_filter.2 ⟨List.mem_range.2 h1, h2⟩
   rw [ha, List.mem_singleton] at m1 m2
   rw [m2, ← m1] at h3
   exact absurd h3 (by decide)
 unfold Lk.claim
 rw [hr, ex_v1, if_pos rfl, if_neg hne]
theorem ex_reads : (List.range 32).filter (exK.canRead 0) = [0] := by
 have h : ∀ n, n < 32 → exK.canRead 0 n = decide (n = 0) := by
   intro n hn
   unfold Lk.canRead
   by_cases e : n = 0
   · subst e
     exact ex_v1
   · rw [decide_eq_false e]
     cases hs : exK.sees 0 (64 + 2 * n) with
     | false => rfl
     | true =>
       rcases ex_v3 hs with h1 | h1
       · omega
       · rw [(readN_iff (64 + 2 * n) (by omega) n hn).2 rfl] at h1
         cases h1
 rw [List.filter_congr fun n hn => h n (List.mem_range.1 hn)]
 decide
theorem ex_refused : exK.refused 0 = 0 := by
 obtain ⟨w, h1, h2, h3⟩ := ex_v2
 have hb : exK.bad 0 = true := by
   unfold Lk.bad
   rw [List.any_eq_true]
   exact ⟨w, List.mem_range.2 h1, by rw [h2, h3]; rfl⟩
 have hk : (keepTo (exK.canRead 0) 32).length = 1 := by
   unfold keepTo
   rw [ex_reads]
   rfl
 unfold Lk.refused
 rw [hb, hk]
 rfl
theorem ex_wrong : exK.wrong 0 = some (20, 19, 1, [-3, 3]) := by decide +kernel
theorem ex_sure : ((List.range 32).filter exK.sureOf).length = 16 ∧ ((List.range 32).filter exK.sureOf)[0]? = some 16 := by decide +kernel
theorem ex_tune : exM.tune (placesTo 0 7) (pad6 [0, 243]) = some (20, 20) := by decide +kernel
theorem ex_sent : (List.range 32).filter (exL.sentOf [0, 243]) = [0] := by decide +kernel
theorem ex_margin : exL.margin = 3 := by decide +kernel
theorem ex_paces : (List.range 41).filter exL.good = [19, 20, 21] := by decide +kernel
theorem ex_weak : exC.first = some 0 ∧ exC.bad 0 = some 0 := by decide +kernel
theorem ex_spots : exC.spots = some [1] := by decide +kernel
end Go.Proofs.YtpdaenfglbgfkaaGreatDoor
end
section
namespace Go.Proofs.YtpdaenfglbgfkaaGreatDoor
open Go.RL
set_option maxRecDepth 10000
set_option maxHeartbeats 4000000
section
variable (M : Md Tryz.prog) (H : View)
theorem Lesser_same (A B : Option Addr) (l : List Int) (n ca cb : Nat) (hn : n = l.length) (h6 : n ≤ 1000) (hA : Nums H A l) (hB : Nums H B l) : CallT M 57 #[.slice A n ca, .slice B n cb] H (fun v H' => H.le H' ∧ v = .bool false) := by
 refine CallT.enter (vs := [.slice A n ca, .slice B n cb]) Tryz.func57 rfl Tryz.ntmps57 (Nat.le_of_ble_eq_true rfl) (SymSt.nil _) fun St c cs hK => ?_
 refine .sr ?_
 refine .g ?_
 refine .done (.seq (.sr ?_))
 refine .g ?_
 refine .done (.block ?_)
 refine Tc.db (Tc.loopInv (σ := { j : Nat // j ≤ n }) (fun j => ([(0, .slice A n ca), (1, .slice B n cb), (4, .bool false), (5, .int .i64 (j.1 : Nat))], [])) (fun j => n - j.1) ?_ ⟨0, by omega⟩)
 rintro ⟨j, hj⟩ ih
 show Tc M St _ _ _ _ [(0, .slice A n ca), (1, .slice B n cb), (4, .bool false), (5, .int .i64 (j : Nat))] [] _ _
 by_cases c1 : j = n
 · subst c1
   refine .seq (.sr ?_)
   refine .m ?_
   refine .m ?_
   refine .x .ln ?_
   refine .i ?_ (z := lss_f (by omega))
   refine .m ?_
   refine .sk ?_
   refine .sk ?_
   refine .sk ?_
   refine .sk ?_
   refine .x .pk ?_
   refine .done (.ff rfl (.exit rfl (.sr ?_)))
   refine .m ?_
   refine .x .ln ?_
   refine .m ?_
   refine .x .ln ?_
   refine .i ?_ (z := lss_f (by omega))
   refine .g ?_
   refine .done ?_
   refine .rt hK Tryz.func57 Tryz.results57 [_] ?_
   exact fun H' hs => ⟨hs.base, rfl⟩
 · have c2 : j < n := by omega
   rcases hA with hA | ⟨a1, a2, a3, a4, a5, a6, rfl, a7, a8⟩
   · rw [hA] at hn; simp at hn; omega
   rcases hB with hB | ⟨b1, b2, b3, b4, b5, b6, rfl, b7, b8⟩
   · rw [hB] at hn; simp at hn; omega
   have f1 := a8 j (by omega)
   have f2 := b8 j (by omega)
   refine .seq (.sr ?_)
   refine .m ?_
   refine .m ?_
   refine .x .ln ?_
   refine .i ?_ (z := lss_t (by omega))
   refine .m ?_
   refine .m ?_
   refine .m ?_
   refine .x .ln ?_
   refine .i ?_ (z := lss_t (by omega))
   refine .x .pk ?_
   refine .done (.tt rfl (.skip (.seq (.block (.seq ?_)))))
   refine Tc.dr [] [] mixed rfl ?_
   refine .q 0 rfl .mv ?_
   refine .q 1 rfl .mv ?_
   refine .q 2 rfl .ia ?_
   refine .q 3 rfl .l0 ?_
   refine .q 4 rfl .mv ?_
   refine .q 5 rfl .mv ?_
   refine .q 6 rfl .ia ?_
   refine .q 7 rfl .l0 ?_
   refine .q 8 rfl (.it (zz := neq_f (by omega))) ?_
   refine Ta.done (by kernel_rfl) ?_
   refine .ff rfl (.skip (.inBlock (.r ?_)))
   refine .m ?_
   refine .i ?_ (z := add_in (by omega) (by omega))
   refine .g ?_
   refine .done ?_
   exact Tc.db (ih ⟨j + 1, by omega⟩ (by simp only; omega))
theorem SameNums_same (A B : Option Addr) (l : List Int) (n ca cb : Nat) (hn : n = l.length) (h6 : n ≤ 1000) (hA : Nums H A l) (hB : Nums H B l) : CallT M 23 #[.slice A n ca, .slice B n cb] H (fun v H' => H.le H' ∧ v = .bool true) := by
 refine CallT.enter (vs := [.slice A n ca, .slice B n cb]) Tryz.func23 rfl Tryz.ntmps23 (Nat.le_of_ble_eq_true rfl) (SymSt.nil _) fun St c cs hK => ?_
 refine .sr ?_
 refine .g ?_
 refine .done (.sr ?_)
 refine .m ?_
 refine .m ?_
 refine .c rfl rfl rfl rfl (fun H hs => .f ca57 rfl (Lesser_same M H A B l n ca cb hn h6 (hA.le hs.base) (hB.le hs.base))) ?_
 refine .x .nt ?_
 refine .m ?_
 refine .m ?_
 refine .m ?_
 refine .c rfl rfl rfl rfl (fun H hs => .f ca57 rfl (Lesser_same M H B A l n cb ca hn h6 (hB.le hs.base) (hA.le hs.base))) ?_
 refine .x .nt ?_
 refine .x .pk ?_
 refine .g ?_
 refine .done ?_
 refine .rt hK Tryz.func23 Tryz.results23 [_] ?_
 exact fun H' hs => ⟨hs.base, rfl⟩
theorem SamePasts_same (s r e : Int) (A B : Option Addr) (l : List Int) (n ca cb : Nat) (hn : n = l.length) (h6 : n ≤ 1000) (hA : Nums H A l) (hB : Nums H B l) :
   CallT M 30 #[.agg ⟨[.int .i64 s, .int .i64 r, .int .i64 e, .slice A n ca]⟩, .agg ⟨[.int .i64 s, .int .i64 r, .int .i64 e, .slice B n cb]⟩] H (fun v H' => H.le H' ∧ v = .bool true) := by
 refine CallT.enter (vs := [.agg ⟨[.int .i64 s, .int .i64 r, .int .i64 e, .slice A n ca]⟩, .agg ⟨[.int .i64 s, .int .i64 r, .int .i64 e, .slice B n cb]⟩]) Tryz.func30 rfl Tryz.ntmps30 (Nat.le_of_ble_eq_true rfl) (SymSt.nil _) fun St c cs hK => ?_
 refine .sr ?_
 refine .e (.bx (zz := fun b2 => ?_))
 refine .e (.bx (zz := fun b3 => ?_))
 refine .g ?_
 refine .done (.sr ?_)
 refine .x .fa ?_
 refine .x (.ld 1) ?_
 refine .x .fa ?_
 refine .x (.ld 0) ?_
 refine .i ?_ (z := eql_t (by omega))
 refine .m ?_
 refine .x .fa ?_
 refine .x (.ld 1) ?_
 refine .x .fa ?_
 refine .x (.ld 0) ?_
 refine .i ?_ (z := eql_t (by omega))
 refine .x .pk ?_
 refine .m ?_
 refine .x .fa ?_
 refine .x (.ld 1) ?_
 refine .x .fa ?_
 refine .x (.ld 0) ?_
 refine .i ?_ (z := eql_t (by omega))
 refine .x .pk ?_
 refine .m ?_
 refine .x .fa ?_
 refine .x (.ld 1) ?_
 refine .x .fa ?_
 refine .x (.ld 0) ?_
 refine .c rfl rfl rfl rfl (fun H hs => .f ca23 rfl (SameNums_same M H A B l n ca cb hn h6 (hA.le hs.base) (hB.le hs.base))) ?_
 refine .x .pk ?_
 refine .g ?_
 refine .done ?_
 refine .rt hK Tryz.func30 Tryz.results30 [_] ?_
 exact fun H' hs => ⟨hs.base, rfl⟩
theorem HasNum_c (A : Option Addr) (l : List Int) (n ca : Nat) (x : Int) (hn : n = l.length) (h6 : n ≤ 1000) (hA : Nums H A l) : CallT M 39 #[.slice A n ca, .int .i64 x] H (fun v H' => H.le H' ∧ v = .bool (decide (x ∈ l))) := by
 refine CallT.enter (vs := [.slice A n ca, .int .i64 x]) Tryz.func39 rfl Tryz.ntmps39 (Nat.le_of_ble_eq_true rfl) (SymSt.nil _) fun St c cs hK => ?_
 refine .sr ?_
 refine .g ?_
 refine .done (.seq (.sr ?_))
 refine .g ?_
 refine .done (.block ?_)
 refine Tc.db (Tc.loopInv (σ := { j : Nat // j ≤ n ∧ ∀ i, i < j → l[i]?.getD 0 ≠ x }) (fun j => ([(0, .slice A n ca), (1, .int .i64 x), (4, .bool false), (5, .int .i64 (j.1 : Nat))], [])) (fun j => n - j.1) ?_ ⟨0, by omega, by omega⟩)
 rintro ⟨j, hj, hno⟩ ih
 show Tc M St _ _ _ _ [(0, .slice A n ca), (1, .int .i64 x), (4, .bool false), (5, .int .i64 (j : Nat))] [] _ _
 by_cases c1 : j = n
 · have hx : ¬ x ∈ l := fun hm => by
     obtain ⟨i, hi, he⟩ := List.mem_iff_getElem.1 hm
     have := hno i (by omega)
     rw [List.getElem?_eq_getElem hi] at this
     exact this he
   subst c1
   refine .seq (.sr ?_)
   refine .m ?_
   refine .m ?_
   refine .x .ln ?_
   refine .i ?_ (z := lss_f (by omega))
   refine .done (.ff rfl (.exit rfl (.sr ?_)))
   refine .g ?_
   refine .done ?_
   refine .rt hK Tryz.func39 Tryz.results39 [_] ?_
   exact fun H' hs => ⟨hs.base, by rw [decide_eq_false hx]; rfl⟩
 · have c2 : j < n := by omega
   rcases hA with hA | ⟨a1, a2, a3, a4, a5, a6, rfl, a7, a8⟩
   · rw [hA] at hn; simp at hn; omega
   have f1 := a8 j (by omega)
   by_cases c3 : l[j]?.getD 0 = x
   · have hx : x ∈ l := by
       rw [List.getElem?_eq_getElem (show j < l.length by omega)] at c3
       rw [← c3]
       exact List.getElem_mem _
     refine .seq (.sr ?_)
     refine .m ?_
     refine .m ?_
     refine .x .ln ?_
     refine .i ?_ (z := lss_t (by omega))
     refine .done (.tt rfl (.skip (.seq (.block (.sr ?_)))))
     refine .m ?_
     refine .m ?_
     refine .x .ia ?_
     refine .x .l0 ?_
     refine .m ?_
     refine .i ?_ (z := eql_t (by omega))
     refine .done (.tt rfl (.sr ?_))
     refine .g ?_
     refine .done ?_
     refine .rt hK Tryz.func39 Tryz.results39 [_] ?_
     exact fun H' hs => ⟨hs.base, by rw [decide_eq_true hx]; rfl⟩
   · refine .seq (.sr ?_)
     refine .m ?_
     refine .m ?_
     refine .x .ln ?_
     refine .i ?_ (z := lss_t (by omega))
     refine .done (.tt rfl (.skip (.seq (.block (.sr ?_)))))
     refine .m ?_
     refine .m ?_
     refine .x .ia ?_
     refine .x .l0 ?_
     refine .m ?_
     refine .i ?_ (z := eql_f (by omega))
     refine .done (.ff rfl (.skip (.inBlock (.r ?_))))
     refine .m ?_
     refine .i ?_ (z := add_in (by omega) (by omega))
     refine .g ?_
     refine .done ?_
     exact Tc.db (ih ⟨j + 1, by omega, by intro i hi; rcases Nat.lt_succ_iff_lt_or_eq.1 hi with h | rfl; exact hno i h; exact c3⟩ (by simp only; omega))
theorem Ascending_good (A : Option Addr) (l : List Int) (n ca : Nat) (m : Int) (hn : n = l.length) (h6 : n ≤ 1000) (hm : 0 ≤ m ∧ m ≤ 100000) (hA : Nums H A l) (h1 : ∀ i, i < n → 0 ≤ l[i]?.getD 0 ∧ l[i]?.getD 0 ≤ m - 1) (h2 : ∀ i, 0 < i → i < n → l[i - 1]?.getD 0 < l[i]?.getD 0) :
   CallT M 38 #[.slice A n ca, .int .i64 m] H (fun v H' => H.le H' ∧ v = .int .i64 0) := by
 refine CallT.enter (vs := [.slice A n ca, .int .i64 m]) Tryz.func38 rfl Tryz.ntmps38 (Nat.le_of_ble_eq_true rfl) (SymSt.nil _) fun St c cs hK => ?_
 refine .sr ?_
 refine .g ?_
 refine .done (.seq (.sr ?_))
 refine .g ?_
 refine .done (.block ?_)
 refine Tc.db (Tc.loopInv (σ := { j : Nat // j ≤ n }) (fun j => ([(0, .slice A n ca), (1, .int .i64 m), (4, .int .i64 0), (5, .int .i64 (j.1 : Nat))], [])) (fun j => n - j.1) ?_ ⟨0, by omega⟩)
 rintro ⟨j, hj⟩ ih
 show Tc M St _ _ _ _ [(0, .slice A n ca), (1, .int .i64 m), (4, .int .i64 0), (5, .int .i64 (j : Nat))] [] _ _
 by_cases c1 : j = n
 · subst c1
   refine .seq (.sr ?_)
   refine .m ?_
   refine .m ?_
   refine .x .ln ?_
   refine .i ?_ (z := lss_f (by omega))
   refine .done (.ff rfl (.exit rfl (.sr ?_)))
   refine .g ?_
   refine .done ?_
   refine .rt hK Tryz.func38 Tryz.results38 [_] ?_
   exact fun H' hs => ⟨hs.base, rfl⟩
 · have c2 : j < n := by omega
   rcases hA with hA | ⟨a1, a2, a3, a4, a5, a6, rfl, a7, a8⟩
   · rw [hA] at hn; simp at hn; omega
   have f1 := a8 j (by omega)
   have g1 := h1 j c2
   have hin : ∀ H, CallT M 59 #[.int .i64 (l[j]?.getD 0), .int .i64 0, .int .i64 (m - 1)] H (fun v H' => H.le H' ∧ v = .bool true) := fun H =>
     CallT.mono (In_c M H _ 0 (m - 1)) (by rintro v H' ⟨h1, h2⟩; rw [decide_eq_true g1] at h2; exact ⟨h1, h2⟩)
   by_cases c0 : j = 0
   · subst c0
     refine .seq (.sr ?_)
     refine .m ?_
     refine .m ?_
     refine .x .ln ?_
     refine .i ?_ (z := lss_t (by omega))
     refine .done (.tt rfl (.skip (.seq (.block (.seq (.sr ?_))))))
     refine .m ?_
     refine .m ?_
     refine .x .ia ?_
     refine .x .l0 ?_
     refine .m ?_
     refine .i ?_ (z := sub_in (by omega) (by omega))
     refine .c rfl rfl rfl rfl (fun H hs => .f ca59 rfl (hin H)) ?_
     refine .x .nt ?_
     refine .done (.ff rfl (.skip (.seq ?_)))
     refine Tc.dr [] [] mixed rfl ?_
     refine .q 0 rfl .mv ?_
     refine .q 1 rfl (.it (zz := gtr_f (by omega))) ?_
     refine .q 2 rfl .mv ?_
     refine Ta.ps 3 (by kernel_rfl) rfl rfl rfl (by decide) rfl rfl ?_
     refine Ta.ps 4 (by kernel_rfl) rfl rfl rfl (by decide) rfl rfl ?_
     refine Ta.ps 5 (by kernel_rfl) rfl rfl rfl (by decide) rfl rfl ?_
     refine Ta.ps 6 (by kernel_rfl) rfl rfl rfl (by decide) rfl rfl ?_
     refine Ta.ps 7 (by kernel_rfl) rfl rfl rfl (by decide) rfl rfl ?_
     refine Ta.ps 8 (by kernel_rfl) rfl rfl rfl (by decide) rfl rfl ?_
     refine Ta.ps 9 (by kernel_rfl) rfl rfl rfl (by decide) rfl rfl ?_
     refine Ta.ps 10 (by kernel_rfl) rfl rfl rfl (by decide) rfl rfl ?_
     refine Ta.ps 11 (by kernel_rfl) rfl rfl rfl (by decide) rfl rfl ?_
     refine Ta.ps 12 (by kernel_rfl) rfl rfl rfl (by decide) rfl rfl ?_
     refine .q 13 rfl .pk ?_
     refine Ta.done (by kernel_rfl) ?_
     refine .ff rfl (.skip (.inBlock (.r ?_)))
     refine .m ?_
     refine .i ?_ (z := add_in (by omega) (by omega))
     refine .g ?_
     refine .done ?_
     exact Tc.db (ih ⟨1, by omega⟩ (by simp only; omega))
   · have f2 : ldL false 1 a4 (a2 + ((j : Int) - 1).toNat * 1) = some (.int .i64 (l[j - 1]?.getD 0)) := by
       have := a8 (j - 1) (by omega)
       rwa [show (((j - 1 : Nat) : Int)).toNat = ((j : Int) - 1).toNat by omega] at this
     have g2 := h2 j (by omega) c2
     refine .seq (.sr ?_)
     refine .m ?_
     refine .m ?_
     refine .x .ln ?_
     refine .i ?_ (z := lss_t (by omega))
     refine .done (.tt rfl (.skip (.seq (.block (.seq (.sr ?_))))))
     refine .m ?_
     refine .m ?_
     refine .x .ia ?_
     refine .x .l0 ?_
     refine .m ?_
     refine .i ?_ (z := sub_in (by omega) (by omega))
     refine .c rfl rfl rfl rfl (fun H hs => .f ca59 rfl (hin H)) ?_
     refine .x .nt ?_
     refine .done (.ff rfl (.skip (.seq ?_)))
     refine Tc.dr [] [] mixed rfl ?_
     refine .q 0 rfl .mv ?_
     refine .q 1 rfl (.it (zz := gtr_t (by omega))) ?_
     refine .q 2 rfl .mv ?_
     refine .q 3 rfl .mv ?_
     refine .q 4 rfl .mv ?_
     refine .q 5 rfl (.it (zz := sub_in (by omega) (by omega))) ?_
     refine .q 6 rfl .ia ?_
     refine .q 7 rfl .l0 ?_
     refine .q 8 rfl .mv ?_
     refine .q 9 rfl .mv ?_
     refine .q 10 rfl .ia ?_
     refine .q 11 rfl .l0 ?_
     refine .q 12 rfl (.it (zz := geq_f (by omega))) ?_
     refine .q 13 rfl .pk ?_
     refine Ta.done (by kernel_rfl) ?_
     refine .ff rfl (.skip (.inBlock (.r ?_)))
     refine .m ?_
     refine .i ?_ (z := add_in (by omega) (by omega))
     refine .g ?_
     refine .done ?_
     exact Tc.db (ih ⟨j + 1, by omega⟩ (by simp only; omega))
end
end Go.Proofs.YtpdaenfglbgfkaaGreatDoor
end
section
namespace Go.Proofs.YtpdaenfglbgfkaaGreatDoor
open Go.RL
set_option maxRecDepth 10000
set_option maxHeartbeats 4000000
theorem gl_len {g : Gl 3 1} {l : List Nat} (h : g.l = placesV l) : g.n = l.length := by
 have := g.hl
 rw [h] at this
 unfold placesV at this
 rw [List.length_map] at this
 omega
theorem ChAt.on {H : View} {ch : Ch} {lb lo lc : Nat} {A0 : Option Addr} (h : ChAt H ch lb lo lc A0) {g : Gl 3 1} {l : List Nat} (hg : g.l = placesV l) (hb : ∀ y ∈ g.bl, H y.1 = some y.2) : ChAt H (ch.on l) lb lo lc (g.blk.map fun b => ⟨b, 0, none⟩) := by
 refine ⟨h.ln, h.lc, fun hm => ?_⟩
 have hn := gl_len hg
 have hm' : 0 < l.length := hm
 obtain ⟨_ | b, n, cap, gl, gj, h1, h2, h3, h4⟩ := g
 · have := h4 rfl
   simp only at hn h2
   omega
 · refine ⟨b, 0, true, gl ++ gj, 3, (0, 0), rfl, hb (b, true, .cells ⟨gl ++ gj⟩ 3 (0, 0)) (by simp [Gl.bl]), fun j hj => ?_⟩
   simp only at hg
   subst hg
   have hj' : j < l.length := hj
   show (placesV l ++ gj)[0 + j * 1]? = _
   rw [Nat.zero_add, Nat.mul_one, List.getElem?_append_left (by unfold placesV; rw [List.length_map]; exact hj')]
   unfold placesV
   rw [List.getElem?_map, List.getElem?_eq_getElem hj']
   show _ = some (Value.int .i64 ((l[j]?.getD 0 : Nat) : Int))
   rw [List.getElem?_eq_getElem hj']
   rfl
theorem sub2 (a b : Nat × Bool × Obj) (x y : Bl) : ([b] ++ y).Sublist ([a, b] ++ x ++ y) := .cons _ (.cons_cons _ (List.sublist_append_right x y))
theorem pow_bound {n : Nat} (h0 : 0 < n) (h4 : n ≤ 4) : shiftV .shl .i64 1 ((n - 1 : Nat) : Int) = some (.int .i64 ((2 ^ (n - 1) : Nat) : Int)) ∧ 2 ^ (n - 1) ≤ 8 := by
 rcases (by omega : n = 1 ∨ n = 2 ∨ n = 3 ∨ n = 4) with rfl | rfl | rfl | rfl <;> exact ⟨rfl, by decide⟩
theorem bits_len (mask k : Nat) : (bitsL mask k).length ≤ k := by
 have := List.length_filter_le (bitM mask) (List.range k)
 rw [List.length_range] at this
 exact this
theorem spots_le (c : Ch) : ∀ (k : Nat) (b : List Nat), c.spotsTo k = some b → b.length ≤ c.n
 | 0, b, h => by cases h
 | k + 1, b, h => by
   unfold Ch.spotsTo Ch.spotStep at h
   split at h
   · exact spots_le c k b h
   · split at h
     · exact spots_le c k b h
     · cases h
       have := bits_len k (c.n - 1)
       omega
theorem Spots_c (H : View) (ch : Ch) (lb lo lc : Nat) (A0 : Option Addr) (hA : ChAt H ch lb lo lc A0) (hg : ch.Good) (hG : Glob H) :
   CallT (Mp Tryz.prog) 54 #[ch.val7 lb lo lc] H (SpotsQ ch.spots H) := by
 refine CallT.enter (vs := [ch.val7 lb lo lc]) Tryz.func54 rfl Tryz.ntmps54 (Nat.le_of_ble_eq_true rfl) (SymSt.nil _) fun St c cs hK => ?_
 have hn0 := hg.ok.n0
 have hn4 := hg.ok.n4
 obtain ⟨hsh, hp8⟩ := pow_bound hn0 hn4
 refine .sr ?_
 refine .e (.bx (zz := fun b1 => ?_))
 refine .g ?_
 refine .g ?_
 refine .g ?_
 refine .done ?_
 refine Tc.scope ?_
 refine .seq (.sr ?_)
 refine .x (.ld 0) ?_
 refine .c rfl rfl rfl rfl (fun H hs => .f ca66 rfl (CheckChain_good _ H ch lb lo lc A0 (hA.le hs.base) hg (glob_le hG hs.base))) ?_
 refine .g ?_
 refine .done (.sr ?_)
 refine .m ?_
 refine .i ?_ (z := neq_f (by omega))
 refine .done (.ff rfl (.skip (.sr ?_)))
 refine .x .fa ?_
 refine .x (.ld 0) ?_
 refine .x .ln ?_
 refine .i ?_ (z := sub_in (by omega) (by omega))
 refine .g ?_
 refine .done ?_
 rw [show (ch.n : Int) - 1 = ((ch.n - 1 : Nat) : Int) by omega]
 refine .seq ?_
 refine Tc.label ?_
 refine .seq (.sr ?_)
 refine .m ?_
 refine .x .sf ?_
 refine .m ?_
 refine .done (.block ?_)
 refine Tc.db (Tc.loopInv (σ := { s : Nat × Gl 3 1 // s.1 ≤ 2 ^ (ch.n - 1) ∧ s.2.l = placesV ((ch.spotsTo s.1).getD []) })
   (fun s => ([(1, .pointer (some ⟨b1, 0, none⟩)), (2, s.1.2.val), (3, .bool (ch.spotsTo s.1.1).isSome), (6, .int .i64 ((ch.n - 1 : Nat) : Int)), (22, .int .i64 ((2 ^ (ch.n - 1) : Nat) : Int)), (23, .int .i64 (s.1.1 : Nat))], [(b1, true, .cells ⟨(ch.val7 lb lo lc).cells.toList⟩ 73 (0, 0))] ++ s.1.2.bl)) (fun s => 2 ^ (ch.n - 1) - s.1.1) ?_ ⟨(0, Gl.nil 3 1), Nat.zero_le _, rfl⟩)
 rintro ⟨⟨mask, g⟩, g1, g2⟩ ih
 simp only at g1 g2
 show Tc (Mp Tryz.prog) St _ _ _ _ [(1, .pointer (some ⟨b1, 0, none⟩)), (2, g.val), (3, .bool (ch.spotsTo mask).isSome), (6, .int .i64 ((ch.n - 1 : Nat) : Int)), (22, .int .i64 ((2 ^ (ch.n - 1) : Nat) : Int)), (23, .int .i64 (mask : Nat))] ([(b1, true, .cells ⟨(ch.val7 lb lo lc).cells.toList⟩ 73 (0, 0))] ++ g.bl) _ _
 by_cases c1 : mask = 2 ^ (ch.n - 1)
 · subst c1
   refine .sr ?_
   refine .i ?_ (z := lss_f (by omega))
   refine .done (.seq (.ff rfl (.exit rfl (.sr ?_))))
   refine .m ?_
   refine .m ?_
   refine .g ?_
   refine .g ?_
   refine .g ?_
   refine .done ?_
   refine .rt hK Tryz.func54 Tryz.results54 [_, _, _] ?_
   exact fun H' hs => ⟨hs.base, g, rfl, g2, fun y hy => ⟨hs.at_ y (by simp [hy]), hs.out y (by simp [hy])⟩⟩
 · have c2 : mask < 2 ^ (ch.n - 1) := by omega
   have hgn := gl_len g2
   refine .sr ?_
   refine .i ?_ (z := lss_t (by omega))
   refine .done (.seq (.tt rfl (.skip (.seq (.block (.sr ?_))))))
   refine .m ?_
   refine .e (.al (zz := fun b7 => ?_))
   refine .e (.st 0 (zz := ?_))
   refine .done (.sr ?_)
   refine .m ?_
   refine .x .mf ?_
   refine .e (Or.callNew Gl.val Gl.bl (fun g' : Gl 3 1 => g'.l = keepTo (bitM mask) (ch.n - 1)) rfl rfl rfl rfl rfl (by decide) gl_nodup (fun H hs => .f ca97 rfl (keep_n _ H (ch.n - 1) _ (bitM mask) (by omega) (spots_asks _ H mask (ch.n - 1) b7 (by omega) (by omega) (hs.get (i := 0) rfl)))) (fun g' hg' => ?_))
   refine .g ?_
   refine .done ?_
   rw [keep_bits] at hg'
   have hgn' := gl_len hg'
   have hbl := bits_len mask (ch.n - 1)
   have hgood := hg.on mask
   refine .seq (.seq ?_)
   refine Tc.via2 (fun R' L' => skips (bitsL mask (ch.n - 1)) (ch.spotsTo mask) = false ∧ AllIn [(1, .pointer (some ⟨b1, 0, none⟩)), (2, g.val), (3, .bool (ch.spotsTo mask).isSome), (6, .int .i64 ((ch.n - 1 : Nat) : Int)), (8, g'.val), (22, .int .i64 ((2 ^ (ch.n - 1) : Nat) : Int)), (23, .int .i64 (mask : Nat))] R' ∧ L' = [(b7, true, .cells ⟨[.int .i64 (mask : Nat)]⟩ 3 (0, 0)), (b1, true, .cells ⟨(ch.val7 lb lo lc).cells.toList⟩ 73 (0, 0))] ++ g.bl ++ g'.bl) ?_ (fun fin => ?_)
   · rintro R' L' ⟨hsk, hR, rfl⟩
     refine Tc.dropB ?_ hR (List.Sublist.refl _)
     cases hw : (ch.on (bitsL mask (ch.n - 1))).first with
     | some s =>
       have hst : ch.spotsTo (mask + 1) = ch.spotsTo mask := by
         show ch.spotStep _ mask = _
         unfold Ch.spotStep
         rw [hsk, hw]
         rfl
       refine .sr ?_
       refine .x (.ld 1) ?_
       refine .m ?_
       refine .x .bu ?_
       refine .c rfl rfl rfl rfl (fun H hs => .f ca120 rfl (show CallT (Mp Tryz.prog) 120 #[.agg ⟨[.int .i64 ch.s0, .int .i64 ch.s1, .slice (some ⟨lb, lo, none⟩) ch.n lc, .int .i64 ch.a0, .int .i64 ch.a1, .int .i64 ch.r0, .int .i64 ch.r1, .slice (g'.blk.map fun b => ⟨b, 0, none⟩) g'.n g'.cap]⟩] H _ from by rw [hgn']; exact CallT.is (.tuple ⟨[.int .i64 ((ch.on (bitsL mask (ch.n - 1))).sec : Nat), .int .i64 (((ch.on (bitsL mask (ch.n - 1))).bad (ch.on (bitsL mask (ch.n - 1))).sec).getD 0), .bool true]⟩) (by rewrite [hw]; rfl) (chainWeak_c H (ch.on (bitsL mask (ch.n - 1))) lb lo lc g'.cap _ ((hA.le hs.base).on hg' (fun y hy => hs.at_ y (by simp [hy]))) hgood (glob_le hG hs.base)))) ?_
       refine .m ?_
       refine .x .et ?_
       refine .x .et ?_
       refine .x .et ?_
       refine .g ?_
       refine .g ?_
       refine .g ?_
       refine .done (.sr ?_)
       refine .m ?_
       refine .x .nt ?_
       refine .done (.ff rfl (.skip (.inBlock (.r ?_))))
       refine .i ?_ (z := add_in (by omega) (by omega))
       refine .m ?_
       refine .done ?_
       have hfin := ih ⟨(mask + 1, g), by simp only; omega, by simp only [hst]; exact g2⟩ (by simp only; omega)
       simp only [hst] at hfin
       exact Tc.db hfin
     | none =>
       have hst : ch.spotsTo (mask + 1) = some (bitsL mask (ch.n - 1)) := by
         show ch.spotStep _ mask = _
         unfold Ch.spotStep
         rw [hsk, hw]
         rfl
       refine .sr ?_
       refine .x (.ld 1) ?_
       refine .m ?_
       refine .x .bu ?_
       refine .c rfl rfl rfl rfl (fun H hs => .f ca120 rfl (show CallT (Mp Tryz.prog) 120 #[.agg ⟨[.int .i64 ch.s0, .int .i64 ch.s1, .slice (some ⟨lb, lo, none⟩) ch.n lc, .int .i64 ch.a0, .int .i64 ch.a1, .int .i64 ch.r0, .int .i64 ch.r1, .slice (g'.blk.map fun b => ⟨b, 0, none⟩) g'.n g'.cap]⟩] H _ from by rw [hgn']; exact CallT.is (.tuple ⟨[.int .i64 ((ch.on (bitsL mask (ch.n - 1))).sec : Nat), .int .i64 (((ch.on (bitsL mask (ch.n - 1))).bad (ch.on (bitsL mask (ch.n - 1))).sec).getD 0), .bool false]⟩) (by rewrite [hw]; rfl) (chainWeak_c H (ch.on (bitsL mask (ch.n - 1))) lb lo lc g'.cap _ ((hA.le hs.base).on hg' (fun y hy => hs.at_ y (by simp [hy]))) hgood (glob_le hG hs.base)))) ?_
       refine .m ?_
       refine .x .et ?_
       refine .x .et ?_
       refine .x .et ?_
       refine .g ?_
       refine .g ?_
       refine .g ?_
       refine .done (.sr ?_)
       refine .m ?_
       refine .x .nt ?_
       refine .done (.tt rfl (.r ?_))
       refine .m ?_
       refine .g ?_
       refine .g ?_
       refine .done (.inBlock (.r ?_))
       refine .i ?_ (z := add_in (by omega) (by omega))
       refine .m ?_
       refine .done ?_
       have hfin := ih ⟨(mask + 1, g'), by simp only; omega, by simp only [hst]; exact hg'⟩ (by simp only; omega)
       simp only [hst] at hfin
       exact Tc.dropB hfin ⟨rfl, rfl, rfl, rfl, rfl, rfl, trivial⟩ (sub2 _ _ _ _)
   · have hskip : skips (bitsL mask (ch.n - 1)) (ch.spotsTo mask) = true → ch.spotsTo (mask + 1) = ch.spotsTo mask := fun h => by
       show ch.spotStep _ mask = _
       unfold Ch.spotStep
       rw [h]
       rfl
     cases hb : ch.spotsTo mask with
     | none =>
       rw [hb] at fin
       refine .r ?_
       refine .m ?_
       refine .m ?_
       refine .sk ?_
       refine .sk ?_
       refine .sk ?_
       refine .sk ?_
       refine .sk ?_
       refine .sk ?_
       refine To.skippedU rfl (by decide) rfl ?_
       refine To.skippedU rfl (by decide) rfl ?_
       refine To.skippedU rfl (by decide) rfl ?_
       refine To.skippedU rfl (by decide) rfl ?_
       refine To.skippedU rfl (by decide) rfl ?_
       refine To.skippedU rfl (by decide) rfl ?_
       refine To.skippedU rfl (by decide) rfl ?_
       refine To.skippedU rfl (by decide) rfl ?_
       refine To.skippedU rfl (by decide) rfl ?_
       refine To.skippedU rfl (by decide) rfl ?_
       refine To.skippedU rfl (by decide) rfl ?_
       refine .sk ?_
       refine .x .pk ?_
       refine .done (.ff rfl (.skip ?_))
       exact fin _ _ ⟨rfl, ⟨rfl, rfl, rfl, rfl, rfl, rfl, rfl, trivial⟩, rfl⟩
     | some b =>
       rw [hb] at fin hskip g2 hgn
       have hbn := spots_le ch mask b hb
       simp only [Option.getD_some] at g2 hgn
       rw [places_nums] at g2
       rw [places_nums] at hg'
       have hcmp : ∀ H', SymSt H ([(b7, true, .cells ⟨[.int .i64 (mask : Nat)]⟩ 3 (0, 0)), (b1, true, .cells ⟨(ch.val7 lb lo lc).cells.toList⟩ 73 (0, 0))] ++ g.bl ++ g'.bl) H' → CallT (Mp Tryz.prog) 119 #[g'.val, g.val] H' (fun v H'' => H'.le H'' ∧ v = .int .i64 (cmpL (numsL (bitsL mask (ch.n - 1))) (numsL b))) := fun H' hs =>
         Compare_c _ H' _ _ _ _ g'.n g.n g'.cap g.cap (by rw [hgn']; simp [numsL]) (by rw [hgn]; simp [numsL]) (by omega) (by omega) (Nums.of hg' (fun y hy => hs.at_ y (by simp [hy]))).2 (Nums.of g2 (fun y hy => hs.at_ y (by simp [hy]))).2
       by_cases d1 : b.length < (bitsL mask (ch.n - 1)).length
       · have hst := hskip (by unfold skips; simp [d1])
         refine .r ?_
         refine .m ?_
         refine .m ?_
         refine .m ?_
         refine .x .ln ?_
         refine .m ?_
         refine .x .ln ?_
         refine .i ?_ (z := gtr_t (by omega))
         refine .m ?_
         refine .sk ?_
         refine .sk ?_
         refine .sk ?_
         refine .sk ?_
         refine .sk ?_
         refine .sk ?_
         refine To.skippedU rfl (by decide) rfl ?_
         refine To.skippedU rfl (by decide) rfl ?_
         refine To.skippedU rfl (by decide) rfl ?_
         refine To.skippedU rfl (by decide) rfl ?_
         refine .sk ?_
         refine .x .pk ?_
         refine .x .pk ?_
         refine .done (.tt rfl (.exit rfl (.r ?_)))
         refine .i ?_ (z := add_in (by omega) (by omega))
         refine .m ?_
         refine .done ?_
         have hfin := ih ⟨(mask + 1, g), by simp only; omega, by simp only [hst]; rw [places_nums]; exact g2⟩ (by simp only; omega)
         simp only [hst] at hfin
         exact Tc.db hfin
       · by_cases d2 : (bitsL mask (ch.n - 1)).length = b.length
         · by_cases d3 : 0 < cmpL (numsL (bitsL mask (ch.n - 1))) (numsL b)
           · have hst := hskip (by unfold skips; simp [d2, d3])
             refine .r ?_
             refine .m ?_
             refine .m ?_
             refine .m ?_
             refine .x .ln ?_
             refine .m ?_
             refine .x .ln ?_
             refine .i ?_ (z := gtr_f (by omega))
             refine .m ?_
             refine .m ?_
             refine .x .ln ?_
             refine .m ?_
             refine .x .ln ?_
             refine .i ?_ (z := eql_t (by omega))
             refine .m ?_
             refine .m ?_
             refine .m ?_
             refine .c rfl rfl rfl rfl (fun H hs => .f ca119 rfl (hcmp H hs)) ?_
             refine .i ?_ (z := gtr_t (by omega))
             refine .x .pk ?_
             refine .x .pk ?_
             refine .x .pk ?_
             refine .done (.tt rfl (.exit rfl (.r ?_)))
             refine .i ?_ (z := add_in (by omega) (by omega))
             refine .m ?_
             refine .done ?_
             have hfin := ih ⟨(mask + 1, g), by simp only; omega, by simp only [hst]; rw [places_nums]; exact g2⟩ (by simp only; omega)
             simp only [hst] at hfin
             exact Tc.db hfin
           · have hns : skips (bitsL mask (ch.n - 1)) (some b) = false := by unfold skips; simp [d2, d3]
             refine .r ?_
             refine .m ?_
             refine .m ?_
             refine .m ?_
             refine .x .ln ?_
             refine .m ?_
             refine .x .ln ?_
             refine .i ?_ (z := gtr_f (by omega))
             refine .m ?_
             refine .m ?_
             refine .x .ln ?_
             refine .m ?_
             refine .x .ln ?_
             refine .i ?_ (z := eql_t (by omega))
             refine .m ?_
             refine .m ?_
             refine .m ?_
             refine .c rfl rfl rfl rfl (fun H hs => .f ca119 rfl (hcmp H hs)) ?_
             refine .i ?_ (z := gtr_f (by omega))
             refine .x .pk ?_
             refine .x .pk ?_
             refine .x .pk ?_
             refine .done (.ff rfl (.skip ?_))
             exact fin _ _ ⟨hns, ⟨rfl, rfl, rfl, rfl, rfl, rfl, rfl, trivial⟩, rfl⟩
         · have hns : skips (bitsL mask (ch.n - 1)) (some b) = false := by unfold skips; simp [d1, d2]
           refine .r ?_
           refine .m ?_
           refine .m ?_
           refine .m ?_
           refine .x .ln ?_
           refine .m ?_
           refine .x .ln ?_
           refine .i ?_ (z := gtr_f (by omega))
           refine .m ?_
           refine .m ?_
           refine .x .ln ?_
           refine .m ?_
           refine .x .ln ?_
           refine .i ?_ (z := eql_f (by omega))
           refine .m ?_
           refine .sk ?_
           refine .sk ?_
           refine .sk ?_
           refine .sk ?_
           refine .x .pk ?_
           refine .x .pk ?_
           refine .x .pk ?_
           refine .done (.ff rfl (.skip ?_))
           exact fin _ _ ⟨hns, ⟨rfl, rfl, rfl, rfl, rfl, rfl, rfl, trivial⟩, rfl⟩
end Go.Proofs.YtpdaenfglbgfkaaGreatDoor
end
section
namespace Go.Proofs.YtpdaenfglbgfkaaGreatDoor
open Go.RL
set_option maxRecDepth 10000
set_option maxHeartbeats 4000000
def lineC : List Value := [.int .i64 0, .int .i64 0, .int .i64 (-2), .int .i64 2, .int .i64 0, .int .i64 0, .int .i64 (-2), .int .i64 2, .int .i64 0, .int .i64 0, .int .i64 (-2), .int .i64 2]
theorem exC_at {H : View} {b : Nat} (h : H b = some (true, .cells ⟨lineC⟩ 25 (0, 0))) : ChAt H exC b 0 3 none := by
 refine ⟨⟨true, lineC, 25, (0, 0), h, fun i hi => ?_⟩, Nat.le_refl _, fun hm => absurd hm (Nat.lt_irrefl 0)⟩
 have hi' : i < 3 := hi
 rcases (by omega : i = 0 ∨ i = 1 ∨ i = 2) with rfl | rfl | rfl <;> rfl
theorem exC_good : exC.Good := by
 have z : (-1000000 : Int) ≤ 0 ∧ (0 : Int) ≤ 1000000 := by decide
 have a : (-1000000 : Int) ≤ -2 ∧ (-2 : Int) ≤ 1000000 := by decide
 have b : (-1000000 : Int) ≤ 2 ∧ (2 : Int) ≤ 1000000 := by decide
 have l : (⟨0, 0, 0, 0, 0, 0, -2, 2⟩ : Lk).lineOk = true := by decide +kernel
 exact ⟨⟨by decide, by decide, fun _ _ => z, fun _ _ => z, fun _ _ => a, fun _ _ => b, fun i hi => absurd hi (Nat.not_lt_zero i), fun i hi => absurd hi (Nat.not_lt_zero _)⟩, by decide, by decide, by decide, fun _ _ => l⟩
section
variable (M : Md Tryz.prog) (H : View)
theorem Example_c : CallT M 101 #[] H (fun v H' => H.le H' ∧ v = exL.val) := by
 refine CallT.enter (vs := []) Tryz.func101 rfl Tryz.ntmps101 (Nat.le_of_ble_eq_true rfl) (SymSt.nil _) fun St c cs hK => ?_
 refine .sr ?_
 refine .e (.al (zz := fun b0 => ?_))
 refine .done (.sr ?_)
 refine .c rfl rfl rfl rfl (fun H hs => .f ca40 rfl (to_c M H 20 20)) ?_
 refine .c rfl rfl rfl rfl (fun H hs => .f ca40 rfl (to_c M H 19 21)) ?_
 refine .c rfl rfl rfl rfl (fun H hs => .f ca40 rfl (to_c M H (-3) 3)) ?_
 refine .x .bu ?_
 refine .x .bu ?_
 refine .e (.st 0 (zz := ?_))
 refine .done ?_
 refine Tc.retN (E := en) hK Tryz.func101 Tryz.results101 (vs := [_]) (by refine ⟨⟨0, _, _, _, _, _, _, _, rfl, rfl, rfl, rfl⟩, ?_⟩; exact trivial) ?_
 exact fun H' hs => ⟨hs.base, rfl⟩
theorem Leaning_c : CallT M 102 #[] H (fun v H' => H.le H' ∧ v = exK.val) := by
 refine CallT.enter (vs := []) Tryz.func102 rfl Tryz.ntmps102 (Nat.le_of_ble_eq_true rfl) (SymSt.nil _) fun St c cs hK => ?_
 refine .sr ?_
 refine .e (.al (zz := fun b0 => ?_))
 refine .done (.sr ?_)
 refine .c rfl rfl rfl rfl (fun H hs => .f ca101 rfl (Example_c M H)) ?_
 refine .e (.al (zz := fun b1 => ?_))
 refine .e (.st 0 (zz := ?_))
 refine .done (.sr ?_)
 refine .c rfl rfl rfl rfl (fun H hs => .f ca40 rfl (to_c M H 0 1)) ?_
 refine .x .fa ?_
 refine .x .fa ?_
 refine .e (.st 0 (zz := ?_))
 refine .done (.sr ?_)
 refine .x (.ld 0) ?_
 refine .e (.st 1 (zz := ?_))
 refine .done ?_
 refine Tc.retN (E := en) hK Tryz.func102 Tryz.results102 (vs := [_]) (by refine ⟨⟨1, _, _, _, _, _, _, _, rfl, rfl, rfl, rfl⟩, ?_⟩; exact trivial) ?_
 exact fun H' hs => ⟨hs.base, rfl⟩
theorem Chained_c : CallT M 103 #[] H (fun v H' => H.le H' ∧ ∃ b : Nat, v = exC.val7 b 0 3 ∧ True ∧ ∀ y ∈ [(b, true, Obj.cells ⟨lineC⟩ 25 (0, 0))], H' y.1 = some y.2 ∧ H y.1 = none) := by
 refine CallT.enter (vs := []) Tryz.func103 rfl Tryz.ntmps103 (Nat.le_of_ble_eq_true rfl) (SymSt.nil _) fun St c cs hK => ?_
 refine .sr ?_
 refine .e (.al (zz := fun b0 => ?_))
 refine .done (.sr ?_)
 refine .c rfl rfl rfl rfl (fun H hs => .f ca40 rfl (to_c M H (-2) 2)) ?_
 refine .x .bu ?_
 refine .e (.al (zz := fun b1 => ?_))
 refine .e (.st 0 (zz := ?_))
 refine .done (.seq ?_)
 refine Tc.dr [8] [1] mixed rfl ?_
 refine .z 0 rfl (OpV.takeCall rfl rfl rfl rfl (fun H hs => .f ca40 rfl (to_c M H 20 20))) ?_
 refine .z 1 rfl (OpV.takeCall rfl rfl rfl rfl (fun H hs => .f ca40 rfl (to_c M H 20 20))) ?_
 refine .z 2 rfl (OpV.takeCall rfl rfl rfl rfl (fun H hs => .f ca40 rfl (to_c M H 19 21))) ?_
 refine .q 3 rfl (.ld 0) ?_
 refine .q 4 rfl (.ld 0) ?_
 refine .q 5 rfl (.ld 0) ?_
 refine Ta.each [6] (by kernel_rfl) rfl ⟨TaOp.mk rfl rfl rfl (.bs (zz := fun bl => ⟨S2.mk (by apply List.Sublist.cons; exact List.sublist_append_left _ _) (.inr (by apply List.Sublist.cons; exact List.Sublist.refl _)), ?_⟩)), trivial⟩
 refine .q 7 rfl .bu ?_
 refine Ta.each [8] (by kernel_rfl) rfl ⟨TaOp.mk rfl rfl rfl (.st 2 (zz := ⟨S2.mk (by apply List.Sublist.cons; exact List.sublist_append_left _ _) (.inl (by kernel_rfl)), ?_⟩)), trivial⟩
 refine Ta.done (by kernel_rfl) ?_
 refine Tc.retN (E := en) hK Tryz.func103 Tryz.results103 (vs := [_]) (by refine ⟨⟨2, _, _, _, _, _, _, _, rfl, rfl, rfl, rfl⟩, ?_⟩; exact trivial) ?_
 exact fun H' hs => ⟨hs.base, bl, rfl, trivial, fun y hy => by
   simp only [List.mem_singleton] at hy
   subst hy
   exact ⟨hs.get (i := 0) rfl, hs.fresh (i := 0) (x := (true, .cells ⟨lineC⟩ 25 (0, 0))) rfl⟩⟩
end
theorem SameNums_two (M : Md Tryz.prog) (H : View) (A B : Option Addr) (l : List Int) (n m ca cb : Nat) (hn : n = l.length) (hm : m = l.length) (h6 : l.length ≤ 1000) (hA : Nums H A l) (hB : Nums H B l) : CallT M 23 #[.slice A n ca, .slice B m cb] H (fun v H' => H.le H' ∧ v = .bool true) := by
 subst hn
 subst hm
 exact SameNums_same M H A B l _ ca cb rfl h6 hA hB
theorem SamePasts_two (M : Md Tryz.prog) (H : View) (s r e : Int) (A B : Option Addr) (l : List Int) (n m ca cb : Nat) (hn : n = l.length) (hm : m = l.length) (h6 : l.length ≤ 1000) (hA : Nums H A l) (hB : Nums H B l) :
   CallT M 30 #[.agg ⟨[.int .i64 s, .int .i64 r, .int .i64 e, .slice A n ca]⟩, .agg ⟨[.int .i64 s, .int .i64 r, .int .i64 e, .slice B m cb]⟩] H (fun v H' => H.le H' ∧ v = .bool true) := by
 subst hn
 subst hm
 exact SamePasts_same M H s r e A B l _ ca cb rfl h6 hA hB
theorem Nums.lit {H : View} {b : Nat} {l : List Int} (h : H b = some (true, .cells ⟨intsL l⟩ 3 (0, 0))) : Nums H (some ⟨b, 0, none⟩) l :=
 .inr ⟨b, 0, true, intsL l, 3, (0, 0), rfl, h, fun j hj => by
   show (intsL l)[0 + (j : Int).toNat * 1]? = _
   rw [Nat.zero_add, Nat.mul_one, Int.toNat_natCast]
   unfold intsL
   rw [List.getElem?_map, List.getElem?_eq_getElem hj]
   rfl⟩
end Go.Proofs.YtpdaenfglbgfkaaGreatDoor
end
section
namespace Go.Proofs.YtpdaenfglbgfkaaGreatDoor
open Go.RL
set_option maxRecDepth 10000
set_option maxHeartbeats 4000000
theorem keepI_get {p : Nat → Bool} {k i : Nat} (h : i < (keepI p k).length) : 0 ≤ (keepI p k)[i]?.getD 0 ∧ (keepI p k)[i]?.getD 0 ≤ (k : Int) - 1 := by
 rw [List.getElem?_eq_getElem h]
 have hm := List.getElem_mem h
 simp only [Option.getD_some]
 generalize (keepI p k)[i] = z at hm
 unfold keepI at hm
 obtain ⟨n, hn, rfl⟩ := List.mem_map.1 hm
 have := List.mem_range.1 (List.mem_filter.1 hn).1
 omega
theorem keepI_mono {p : Nat → Bool} {k i : Nat} (h0 : 0 < i) (h : i < (keepI p k).length) : (keepI p k)[i - 1]?.getD 0 < (keepI p k)[i]?.getD 0 := by
 rw [List.getElem?_eq_getElem h, List.getElem?_eq_getElem (show i - 1 < (keepI p k).length by omega)]
 have hp : (keepI p k).Pairwise (· < ·) := by
   unfold keepI
   rw [List.pairwise_map]
   exact (List.Pairwise.filter p List.pairwise_lt_range).imp (fun h => by exact_mod_cast h)
 exact List.pairwise_iff_getElem.1 hp (i - 1) i (by omega) h (by omega)
theorem keepI_len (p : Nat → Bool) (k : Nat) : (keepI p k).length ≤ k := by
 unfold keepI
 rw [List.length_map]
 have := List.length_filter_le p (List.range k)
 rw [List.length_range] at this
 exact this
theorem keepI_mem {p : Nat → Bool} {k n : Nat} : (n : Int) ∈ keepI p k ↔ n < k ∧ p n = true := by
 unfold keepI
 rw [List.mem_map]
 constructor
 · rintro ⟨m, hm, e⟩
   have e' : m = n := by exact_mod_cast e
   subst e'
   obtain ⟨h1, h2⟩ := List.mem_filter.1 hm
   exact ⟨List.mem_range.1 h1, h2⟩
 · rintro ⟨h1, h2⟩
   exact ⟨n, List.mem_filter.2 ⟨List.mem_range.2 h1, h2⟩, rfl⟩
section
variable (M : Md Tryz.prog) (H : View)
theorem Ascending_keep (g : Gl 3 1) (p : Nat → Bool) (k : Nat) (hk : k ≤ 1000) (hg : g.l = keepTo p k) (hb : ∀ y ∈ g.bl, H y.1 = some y.2) : CallT M 38 #[g.val, .int .i64 (k : Nat)] H (fun v H' => H.le H' ∧ v = .int .i64 0) := by
 rw [keepI_eq] at hg
 obtain ⟨hn, hN⟩ := Nums.of hg hb
 have hl := keepI_len p k
 exact Ascending_good M H _ _ g.n g.cap k hn (by omega) (by omega) hN (fun i hi => keepI_get (by omega)) (fun i h0 hi => keepI_mono h0 (by omega))
theorem all_c' (k : Lk) (hG : Glob H) (hk : k.ok = true) : CallT M 41 #[k.val] H (fun v H' => H.le H' ∧ v = .tuple ⟨[.bool (decide ((keepTo k.sureOf 32).length = 32)), .bool true]⟩) := by
 refine CallT.enter (vs := [k.val]) Tryz.func41 rfl Tryz.ntmps41 (Nat.le_of_ble_eq_true rfl) (SymSt.nil _) fun St c cs hK => ?_
 refine .sr ?_
 refine .e (.bx (zz := fun b1 => ?_))
 refine .g ?_
 refine .g ?_
 refine .done (.sr ?_)
 refine .x (.ld 0) ?_
 refine .e (Or.callNew (fun g : Gl 3 1 => .tuple ⟨[g.val, .int .i64 0]⟩) Gl.bl (fun g : Gl 3 1 => g.l = keepTo k.sureOf 32) rfl rfl rfl rfl rfl (by decide) gl_nodup (fun H hs => .f ca26 rfl (Sure_c M H k (glob_le hG hs.base) hk)) (fun g hg => ?_))
 refine .m ?_
 refine .x .et ?_
 refine .x .et ?_
 refine .g ?_
 refine .g ?_
 refine .done ?_
 have hn : g.n = (keepTo k.sureOf 32).length := by
   have := g.hl
   rw [hg] at this
   omega
 refine .seq ?_
 by_cases h : (keepTo k.sureOf 32).length = 32
 · refine .r ?_
   refine .m ?_
   refine .x .ln ?_
   refine .i ?_ (z := eql_t (by omega))
   refine .m ?_
   refine .i ?_ (z := eql_t (by omega))
   refine .m ?_
   refine .m ?_
   refine .c rfl rfl rfl rfl (fun H hs => .f ca38 rfl (Ascending_keep M H g k.sureOf 32 (by decide) hg (fun y hy => hs.at_ y (by simp [hy])))) ?_
   refine .i ?_ (z := eql_t (by omega))
   refine .x .pk ?_
   refine .g ?_
   refine .g ?_
   refine .done ?_
   refine .rt hK Tryz.func41 Tryz.results41 [_, _] ?_
   exact fun H' hs => ⟨hs.base, by rw [decide_eq_true h]; rfl⟩
 · refine .r ?_
   refine .m ?_
   refine .x .ln ?_
   refine .i ?_ (z := eql_f (by omega))
   refine .m ?_
   refine .i ?_ (z := eql_t (by omega))
   refine .m ?_
   refine .m ?_
   refine .c rfl rfl rfl rfl (fun H hs => .f ca38 rfl (Ascending_keep M H g k.sureOf 32 (by decide) hg (fun y hy => hs.at_ y (by simp [hy])))) ?_
   refine .i ?_ (z := eql_t (by omega))
   refine .x .pk ?_
   refine .g ?_
   refine .g ?_
   refine .done ?_
   refine .rt hK Tryz.func41 Tryz.results41 [_, _] ?_
   exact fun H' hs => ⟨hs.base, by rw [decide_eq_false h]; rfl⟩
end
end Go.Proofs.YtpdaenfglbgfkaaGreatDoor
end
