/- Proved: for every list of numbers the law PlaysChecked answers true and leaves its argument as it was (the tied card); no condition beyond the row's own. Text 13 of 14. -/
import Derived.Test.YteoboibjepokoaaGreatDoorW12
set_option linter.unusedVariables false
set_option linter.unusedSimpArgs false
set_option linter.unusedSectionVars false
set_option linter.all false
namespace Go.Proofs.YteoboibjepokoaaGreatDoor.Av
open Go.RowKit
set_option maxRecDepth 20000 in
set_option maxHeartbeats 8000000 in
theorem t17ut111 (L : List Int) (a : Nat) (ha : a ≤ 800000) (nm r0 r1 : ByteArray)
    (h3 : decide (nxF L (a + 3) 3 = 0) = true) (h4 : decide (nxF L (a + 4) 4 = 0) = true) (h2 : decide (nxF L (a + 7) 2 = 0) = true) :
    ∃ x a', a ≤ a' ∧ a' ≤ a + 10 ∧ wS x ≤ 30 ∧ MC 17 L a [encH (nm, [r0, r1])] (.fs [encS x]) a' := by
  obtain ⟨⟨k1, n1, s1, l1⟩, hw1, h45⟩ := t45 L (a + 1) (by omega)
  have h41 := (t41 L a [⟨#[120]⟩, ⟨#[121]⟩] (by omega) (by decide) (by decide))
  simp only [List.map_cons, List.map_nil] at h41
  generalize ([⟨#[120]⟩, ⟨#[121]⟩] : List ByteArray).getD _ _ = s41 at h41
  have f3 := t14 L (a + 3) 3 (by omega)
  have f4 := t14 L (a + 4) 4 (by omega)
  have f2 := t14 L (a + 7) 2 (by omega)
  rw [h3] at f3
  rw [h4] at f4
  rw [h2] at f2
  obtain ⟨⟨k2, n2, s2, l2⟩, hw2, h45b⟩ := t45 L (a + 5) (by omega)
  simp only [encE_mk] at h45b
  simp only [encE_mk] at h45
  have h46 := t46m [r0, r1] (by simp) (by simp)
  simp only [List.map_cons, List.map_nil, List.length_cons, List.length_nil, Nat.reduceAdd, Nat.zero_add] at h46
  obtain ⟨xs, hxs⟩ : ∃ xs : List St, xs = [.mk 3 r0 em ⟨#[120]⟩ em (.mk 4 0 em [.mk 2 0 ⟨#[120]⟩ [], .mk 1 1 em []]) [] [] em [],
      .mk 1 r0 r1 s41 em (.mk k1 n1 s1 l1) [] [] em [],
      .mk 5 em em em em ex0 [] [] nm [r1, r0],
      .mk 3 r0 em ⟨#[122]⟩ em (.mk k2 n2 s2 l2) [] [] em []] := ⟨_, rfl⟩
  refine ⟨.mk 4 r0 em em em (.mk 2 0 ⟨#[120]⟩ []) xs [] em [], a + 8, by omega, by omega, ?_, fun sid N T hT => hT.trimO (by simp only [noref, norefL, Bool.and_true]; exact noref_encS _) ?_⟩
  · rw [hxs]; simp [wS, wSs, wE, wEs, ex0] at hw1 hw2 ⊢; omega
  have g1 : ((1 : Int) < ((2 : Nat) : Int)) = True := by simp
  have g2 : (((2 : Nat) : Int) = 2) = True := by simp
  refine ACall.intro cm17 600 (by simp) ?_
  simp only [encH, List.map_cons, List.map_nil]
  simp (maxSteps := 1000000) -implicitDefEqProofs only [sm17, hT.tok.len, hT.tok.at0, hT.tok.atS, hT.tok.set0, hT.tok.setS, hT.tok.get, Int.reduceEq, g1, g2, go_sem, ↓reduceIte, Nat.reduceEqDiff, Nat.reduceBEq, Int.reduceToNat, Nat.reduceAdd, Nat.reduceLT, Nat.reduceLeDiff, reduceCtorEq, Nat.reduceSub]
  repeat' (first | ((with_reducible first | refine cgA ((h41.at hT _)) ?_ | refine cgA ((h45.at hT _)) ?_ | refine cgA ((f3.at hT _)) ?_ | refine cgA ((f4.at hT _)) ?_ | refine cgA ((f2.at hT _)) ?_ | refine cgA ((h45b.at hT _)) ?_ | refine cgA ((h46 _)) ?_ | refine cgA ((t47 r0 r1 _ (N + 5) (by simp only [hT.tok.len, hT.tok.at0, hT.tok.atS, hT.tok.set0, hT.tok.setS, hT.tok.get, List.getElem?_cons_succ, List.getElem?_cons_zero]))) ?_); simp (maxSteps := 1000000) -implicitDefEqProofs only [hT.tok.len, hT.tok.at0, hT.tok.atS, hT.tok.set0, hT.tok.setS, hT.tok.get, Int.reduceEq, g1, g2, go_sem, ↓reduceIte, Nat.reduceEqDiff, Nat.reduceBEq, Int.reduceToNat, Nat.reduceAdd, Nat.reduceLT, Nat.reduceLeDiff, reduceCtorEq, Nat.reduceSub]) | ((with_reducible show F _ _ (Cfg.code (SCode.qregion _) _ _ _)); refine F_q2 ?_; simp (maxSteps := 1000000) -implicitDefEqProofs only [hT.tok.len, hT.tok.at0, hT.tok.atS, hT.tok.set0, hT.tok.setS, hT.tok.get, Int.reduceEq, g1, g2, go_sem, ↓reduceIte, Nat.reduceEqDiff, Nat.reduceBEq, Int.reduceToNat, Nat.reduceAdd, Nat.reduceLT, Nat.reduceLeDiff, reduceCtorEq, Nat.reduceSub]) | ((with_reducible show F _ _ (Cfg.code (SCode.pregion _ _ _ _ _) _ _ _)); refine F_p2 ?_; simp (maxSteps := 1000000) -implicitDefEqProofs only [hT.tok.len, hT.tok.at0, hT.tok.atS, hT.tok.set0, hT.tok.setS, hT.tok.get, Int.reduceEq, g1, g2, go_sem, ↓reduceIte, Nat.reduceEqDiff, Nat.reduceBEq, Int.reduceToNat, Nat.reduceAdd, Nat.reduceLT, Nat.reduceLeDiff, reduceCtorEq, Nat.reduceSub]) | with_reducible refine Fork.mk (fun _ => ?_) (fun _ => ?_) | with_reducible refine And.intro ?_ ?_ | ((with_reducible show resP _ _ _ _ _); simp (maxSteps := 1000000) -implicitDefEqProofs only [rm17, hT.tok.len, hT.tok.at0, hT.tok.atS, hT.tok.set0, hT.tok.setS, hT.tok.get, push_cast, ↓reduceIte, Nat.reduceEqDiff, reduceCtorEq, Nat.reduceAdd, Nat.reduceLT, Nat.reduceLeDiff]) | (intro _))
  all_goals first
    | (exfalso; assumption)
    | (exact ⟨by decide, by decide⟩)
    | (simp [ixP]; done)
    | (simp [ixP]; omega)
    | (rename_i hx; simp at hx; done)
    | (rename_i hx; simp at hx; subst hx; simp [cellsV]; done)
    | omega
    | skip
  refine ⟨List.range' N 10, encS (.mk 4 r0 em em em (.mk 2 0 ⟨#[120]⟩ []) xs [] em []), ?_, ?_⟩
  · rw [keepL_tail' (hm := ?_) (hA := ?_)]
    · rw [hxs]
      simp (maxSteps := 1000000) -implicitDefEqProofs only [dead_at, dead_at0, encS_mk, encE_mk, em, ex0, List.map_cons, List.map_nil, push_cast, ↓reduceIte, Nat.reduceEqDiff, reduceCtorEq, Nat.reduceAdd, Nat.reduceLT, Nat.reduceLeDiff]
    · exact hT.tok.len _
    · rfl
  · rw [killL_tail2 (hA := ?_) (hm := ?_)]
    · simp only [encS_mk]
      simp (maxSteps := 1000000) -implicitDefEqProofs only [rm17, push_cast, ↓reduceIte, Nat.reduceEqDiff, reduceCtorEq, Nat.reduceAdd, Nat.reduceLT, Nat.reduceLeDiff]
      refine ⟨by decide, ?_⟩
      exact ⟨_, rfl⟩
    · exact hT.tok.len _
    · rfl
set_option maxRecDepth 20000 in
set_option maxHeartbeats 8000000 in
theorem t17um000 (L : List Int) (a : Nat) (ha : a ≤ 800000) (nm r0 r1 : ByteArray) (r2 : ByteArray) (rest : List ByteArray) (hrest : rest.length ≤ 10)
    (h3 : decide (nxF L (a + 3) 3 = 0) = false) (h4 : decide (nxF L (a + 4) 4 = 0) = false) (h2 : decide (nxF L (a + 5) 2 = 0) = false) :
    ∃ x a', a ≤ a' ∧ a' ≤ a + 10 ∧ wS x ≤ 30 ∧ MC 17 L a [encH (nm, (r0 :: r1 :: r2 :: rest))] (.fs [encS x]) a' := by
  obtain ⟨⟨k1, n1, s1, l1⟩, hw1, h45⟩ := t45 L (a + 1) (by omega)
  have h41 := (t41 L a [⟨#[120]⟩, ⟨#[121]⟩] (by omega) (by decide) (by decide))
  simp only [List.map_cons, List.map_nil] at h41
  generalize ([⟨#[120]⟩, ⟨#[121]⟩] : List ByteArray).getD _ _ = s41 at h41
  have f3 := t14 L (a + 3) 3 (by omega)
  have f4 := t14 L (a + 4) 4 (by omega)
  have f2 := t14 L (a + 5) 2 (by omega)
  rw [h3] at f3
  rw [h4] at f4
  rw [h2] at f2
  simp only [encE_mk] at h45
  have h46 := t46m (r0 :: r1 :: r2 :: rest) (by simp) (by simp; omega)
  simp only [List.map_cons, List.map_nil, List.length_cons, List.length_nil, Nat.reduceAdd, Nat.zero_add] at h46
  obtain ⟨xs, hxs⟩ : ∃ xs : List St, xs = [.mk 3 r0 em ⟨#[120]⟩ em (.mk 4 0 em [.mk 2 0 ⟨#[120]⟩ [], .mk 1 1 em []]) [] [] em [],
      .mk 1 r0 r1 s41 em (.mk k1 n1 s1 l1) [] [] em [],
      .mk 5 em em em em ex0 [] [] nm (r0 :: r1 :: r2 :: rest)] := ⟨_, rfl⟩
  refine ⟨.mk 4 r0 em em em (.mk 6 0 em [.mk 1 0 em [], .mk 2 0 ⟨#[120]⟩ []]) xs [] em [], a + 6, by omega, by omega, ?_, fun sid N T hT => hT.trimO (by simp only [noref, norefL, Bool.and_true]; exact noref_encS _) ?_⟩
  · rw [hxs]; simp [wS, wSs, wE, wEs, ex0] at hw1 ⊢; omega
  have g1 : ((1 : Int) < ((rest.length + 3 : Nat) : Int)) = True := by simp; omega
  have g2 : (((rest.length + 3 : Nat) : Int) = 2) = False := by simp; omega
  have htk : List.take rest.length (rest.map V.str) = rest.map V.str := List.take_of_length_le (by simp)
  have hfl : ∀ (H : List Blk) (n : Nat), fzL (fz H (n + 1)) (rest.map V.str) = some (rest.map V.str) := fun H n => fzL_map _ _ (fun x => fz_str _ _ x) rest
  refine ACall.intro cm17 600 (by simp) ?_
  simp only [encH, List.map_cons, List.map_nil]
  simp (maxSteps := 1000000) -implicitDefEqProofs only [sm17, hT.tok.len, hT.tok.at0, hT.tok.atS, hT.tok.set0, hT.tok.setS, hT.tok.get, Int.reduceEq, g1, g2, go_sem, ↓reduceIte, Nat.reduceEqDiff, Nat.reduceBEq, Int.reduceToNat, Nat.reduceAdd, Nat.reduceLT, Nat.reduceLeDiff, reduceCtorEq, Nat.reduceSub]
  repeat' (first | ((with_reducible first | refine cgA ((h41.at hT _)) ?_ | refine cgA ((h45.at hT _)) ?_ | refine cgA ((f3.at hT _)) ?_ | refine cgA ((f4.at hT _)) ?_ | refine cgA ((f2.at hT _)) ?_ | refine cgA ((h46 _)) ?_); simp (maxSteps := 1000000) -implicitDefEqProofs only [hT.tok.len, hT.tok.at0, hT.tok.atS, hT.tok.set0, hT.tok.setS, hT.tok.get, Int.reduceEq, g1, g2, go_sem, ↓reduceIte, Nat.reduceEqDiff, Nat.reduceBEq, Int.reduceToNat, Nat.reduceAdd, Nat.reduceLT, Nat.reduceLeDiff, reduceCtorEq, Nat.reduceSub]) | ((with_reducible show F _ _ (Cfg.code (SCode.qregion _) _ _ _)); refine F_q2 ?_; simp (maxSteps := 1000000) -implicitDefEqProofs only [hT.tok.len, hT.tok.at0, hT.tok.atS, hT.tok.set0, hT.tok.setS, hT.tok.get, Int.reduceEq, g1, g2, go_sem, ↓reduceIte, Nat.reduceEqDiff, Nat.reduceBEq, Int.reduceToNat, Nat.reduceAdd, Nat.reduceLT, Nat.reduceLeDiff, reduceCtorEq, Nat.reduceSub]) | ((with_reducible show F _ _ (Cfg.code (SCode.pregion _ _ _ _ _) _ _ _)); refine F_p2 ?_; simp (maxSteps := 1000000) -implicitDefEqProofs only [hT.tok.len, hT.tok.at0, hT.tok.atS, hT.tok.set0, hT.tok.setS, hT.tok.get, Int.reduceEq, g1, g2, go_sem, ↓reduceIte, Nat.reduceEqDiff, Nat.reduceBEq, Int.reduceToNat, Nat.reduceAdd, Nat.reduceLT, Nat.reduceLeDiff, reduceCtorEq, Nat.reduceSub]) | with_reducible refine Fork.mk (fun _ => ?_) (fun _ => ?_) | with_reducible refine And.intro ?_ ?_ | ((with_reducible show resP _ _ _ _ _); simp (maxSteps := 1000000) -implicitDefEqProofs only [rm17, hT.tok.len, hT.tok.at0, hT.tok.atS, hT.tok.set0, hT.tok.setS, hT.tok.get, push_cast, ↓reduceIte, Nat.reduceEqDiff, reduceCtorEq, Nat.reduceAdd, Nat.reduceLT, Nat.reduceLeDiff]) | (intro _))
  all_goals first
    | (exfalso; assumption)
    | (exact ⟨by decide, by decide⟩)
    | (simp [ixP]; done)
    | (simp [ixP]; omega)
    | (rename_i hx; simp at hx; done)
    | (rename_i hx; simp at hx; subst hx; simp [cellsV]; done)
    | omega
    | skip
  refine ⟨List.range' N 9, encS (.mk 4 r0 em em em (.mk 6 0 em [.mk 1 0 em [], .mk 2 0 ⟨#[120]⟩ []]) xs [] em []), ?_, ?_⟩
  · rw [keepL_tail' (hm := ?_) (hA := ?_)]
    · rw [hxs]
      simp (maxSteps := 1000000) -implicitDefEqProofs only [dead_at, dead_at0, encS_mk, encE_mk, em, ex0, List.map_cons, List.map_nil, htk, hfl, push_cast, ↓reduceIte, Nat.reduceEqDiff, reduceCtorEq, Nat.reduceAdd, Nat.reduceLT, Nat.reduceLeDiff]
    · exact hT.tok.len _
    · rfl
  · rw [killL_tail2 (hA := ?_) (hm := ?_)]
    · simp only [encS_mk]
      simp (maxSteps := 1000000) -implicitDefEqProofs only [rm17, push_cast, ↓reduceIte, Nat.reduceEqDiff, reduceCtorEq, Nat.reduceAdd, Nat.reduceLT, Nat.reduceLeDiff]
      refine ⟨by decide, ?_⟩
      exact ⟨_, rfl⟩
    · exact hT.tok.len _
    · rfl
set_option maxRecDepth 20000 in
set_option maxHeartbeats 8000000 in
theorem t17um001 (L : List Int) (a : Nat) (ha : a ≤ 800000) (nm r0 r1 : ByteArray) (r2 : ByteArray) (rest : List ByteArray) (hrest : rest.length ≤ 10)
    (h3 : decide (nxF L (a + 3) 3 = 0) = false) (h4 : decide (nxF L (a + 4) 4 = 0) = false) (h2 : decide (nxF L (a + 5) 2 = 0) = true) :
    ∃ x a', a ≤ a' ∧ a' ≤ a + 10 ∧ wS x ≤ 30 ∧ MC 17 L a [encH (nm, (r0 :: r1 :: r2 :: rest))] (.fs [encS x]) a' := by
  obtain ⟨⟨k1, n1, s1, l1⟩, hw1, h45⟩ := t45 L (a + 1) (by omega)
  have h41 := (t41 L a [⟨#[120]⟩, ⟨#[121]⟩] (by omega) (by decide) (by decide))
  simp only [List.map_cons, List.map_nil] at h41
  generalize ([⟨#[120]⟩, ⟨#[121]⟩] : List ByteArray).getD _ _ = s41 at h41
  have f3 := t14 L (a + 3) 3 (by omega)
  have f4 := t14 L (a + 4) 4 (by omega)
  have f2 := t14 L (a + 5) 2 (by omega)
  rw [h3] at f3
  rw [h4] at f4
  rw [h2] at f2
  simp only [encE_mk] at h45
  have h46 := t46m (r0 :: r1 :: r2 :: rest) (by simp) (by simp; omega)
  simp only [List.map_cons, List.map_nil, List.length_cons, List.length_nil, Nat.reduceAdd, Nat.zero_add] at h46
  obtain ⟨xs, hxs⟩ : ∃ xs : List St, xs = [.mk 3 r0 em ⟨#[120]⟩ em (.mk 4 0 em [.mk 2 0 ⟨#[120]⟩ [], .mk 1 1 em []]) [] [] em [],
      .mk 1 r0 r1 s41 em (.mk k1 n1 s1 l1) [] [] em [],
      .mk 5 em em em em ex0 [] [] nm (r0 :: r1 :: r2 :: rest)] := ⟨_, rfl⟩
  refine ⟨.mk 4 r0 em em em (.mk 2 0 ⟨#[120]⟩ []) xs [] em [], a + 6, by omega, by omega, ?_, fun sid N T hT => hT.trimO (by simp only [noref, norefL, Bool.and_true]; exact noref_encS _) ?_⟩
  · rw [hxs]; simp [wS, wSs, wE, wEs, ex0] at hw1 ⊢; omega
  have g1 : ((1 : Int) < ((rest.length + 3 : Nat) : Int)) = True := by simp; omega
  have g2 : (((rest.length + 3 : Nat) : Int) = 2) = False := by simp; omega
  have htk : List.take rest.length (rest.map V.str) = rest.map V.str := List.take_of_length_le (by simp)
  have hfl : ∀ (H : List Blk) (n : Nat), fzL (fz H (n + 1)) (rest.map V.str) = some (rest.map V.str) := fun H n => fzL_map _ _ (fun x => fz_str _ _ x) rest
  refine ACall.intro cm17 600 (by simp) ?_
  simp only [encH, List.map_cons, List.map_nil]
  simp (maxSteps := 1000000) -implicitDefEqProofs only [sm17, hT.tok.len, hT.tok.at0, hT.tok.atS, hT.tok.set0, hT.tok.setS, hT.tok.get, Int.reduceEq, g1, g2, go_sem, ↓reduceIte, Nat.reduceEqDiff, Nat.reduceBEq, Int.reduceToNat, Nat.reduceAdd, Nat.reduceLT, Nat.reduceLeDiff, reduceCtorEq, Nat.reduceSub]
  repeat' (first | ((with_reducible first | refine cgA ((h41.at hT _)) ?_ | refine cgA ((h45.at hT _)) ?_ | refine cgA ((f3.at hT _)) ?_ | refine cgA ((f4.at hT _)) ?_ | refine cgA ((f2.at hT _)) ?_ | refine cgA ((h46 _)) ?_); simp (maxSteps := 1000000) -implicitDefEqProofs only [hT.tok.len, hT.tok.at0, hT.tok.atS, hT.tok.set0, hT.tok.setS, hT.tok.get, Int.reduceEq, g1, g2, go_sem, ↓reduceIte, Nat.reduceEqDiff, Nat.reduceBEq, Int.reduceToNat, Nat.reduceAdd, Nat.reduceLT, Nat.reduceLeDiff, reduceCtorEq, Nat.reduceSub]) | ((with_reducible show F _ _ (Cfg.code (SCode.qregion _) _ _ _)); refine F_q2 ?_; simp (maxSteps := 1000000) -implicitDefEqProofs only [hT.tok.len, hT.tok.at0, hT.tok.atS, hT.tok.set0, hT.tok.setS, hT.tok.get, Int.reduceEq, g1, g2, go_sem, ↓reduceIte, Nat.reduceEqDiff, Nat.reduceBEq, Int.reduceToNat, Nat.reduceAdd, Nat.reduceLT, Nat.reduceLeDiff, reduceCtorEq, Nat.reduceSub]) | ((with_reducible show F _ _ (Cfg.code (SCode.pregion _ _ _ _ _) _ _ _)); refine F_p2 ?_; simp (maxSteps := 1000000) -implicitDefEqProofs only [hT.tok.len, hT.tok.at0, hT.tok.atS, hT.tok.set0, hT.tok.setS, hT.tok.get, Int.reduceEq, g1, g2, go_sem, ↓reduceIte, Nat.reduceEqDiff, Nat.reduceBEq, Int.reduceToNat, Nat.reduceAdd, Nat.reduceLT, Nat.reduceLeDiff, reduceCtorEq, Nat.reduceSub]) | with_reducible refine Fork.mk (fun _ => ?_) (fun _ => ?_) | with_reducible refine And.intro ?_ ?_ | ((with_reducible show resP _ _ _ _ _); simp (maxSteps := 1000000) -implicitDefEqProofs only [rm17, hT.tok.len, hT.tok.at0, hT.tok.atS, hT.tok.set0, hT.tok.setS, hT.tok.get, push_cast, ↓reduceIte, Nat.reduceEqDiff, reduceCtorEq, Nat.reduceAdd, Nat.reduceLT, Nat.reduceLeDiff]) | (intro _))
  all_goals first
    | (exfalso; assumption)
    | (exact ⟨by decide, by decide⟩)
    | (simp [ixP]; done)
    | (simp [ixP]; omega)
    | (rename_i hx; simp at hx; done)
    | (rename_i hx; simp at hx; subst hx; simp [cellsV]; done)
    | omega
    | skip
  refine ⟨List.range' N 9, encS (.mk 4 r0 em em em (.mk 2 0 ⟨#[120]⟩ []) xs [] em []), ?_, ?_⟩
  · rw [keepL_tail' (hm := ?_) (hA := ?_)]
    · rw [hxs]
      simp (maxSteps := 1000000) -implicitDefEqProofs only [dead_at, dead_at0, encS_mk, encE_mk, em, ex0, List.map_cons, List.map_nil, htk, hfl, push_cast, ↓reduceIte, Nat.reduceEqDiff, reduceCtorEq, Nat.reduceAdd, Nat.reduceLT, Nat.reduceLeDiff]
    · exact hT.tok.len _
    · rfl
  · rw [killL_tail2 (hA := ?_) (hm := ?_)]
    · simp only [encS_mk]
      simp (maxSteps := 1000000) -implicitDefEqProofs only [rm17, push_cast, ↓reduceIte, Nat.reduceEqDiff, reduceCtorEq, Nat.reduceAdd, Nat.reduceLT, Nat.reduceLeDiff]
      refine ⟨by decide, ?_⟩
      exact ⟨_, rfl⟩
    · exact hT.tok.len _
    · rfl
set_option maxRecDepth 20000 in
set_option maxHeartbeats 8000000 in
theorem t17um010 (L : List Int) (a : Nat) (ha : a ≤ 800000) (nm r0 r1 : ByteArray) (r2 : ByteArray) (rest : List ByteArray) (hrest : rest.length ≤ 10)
    (h3 : decide (nxF L (a + 3) 3 = 0) = false) (h4 : decide (nxF L (a + 4) 4 = 0) = true) (h2 : decide (nxF L (a + 7) 2 = 0) = false) :
    ∃ x a', a ≤ a' ∧ a' ≤ a + 10 ∧ wS x ≤ 30 ∧ MC 17 L a [encH (nm, (r0 :: r1 :: r2 :: rest))] (.fs [encS x]) a' := by
  obtain ⟨⟨k1, n1, s1, l1⟩, hw1, h45⟩ := t45 L (a + 1) (by omega)
  have h41 := (t41 L a [⟨#[120]⟩, ⟨#[121]⟩] (by omega) (by decide) (by decide))
  simp only [List.map_cons, List.map_nil] at h41
  generalize ([⟨#[120]⟩, ⟨#[121]⟩] : List ByteArray).getD _ _ = s41 at h41
  have f3 := t14 L (a + 3) 3 (by omega)
  have f4 := t14 L (a + 4) 4 (by omega)
  have f2 := t14 L (a + 7) 2 (by omega)
  rw [h3] at f3
  rw [h4] at f4
  rw [h2] at f2
  obtain ⟨⟨k2, n2, s2, l2⟩, hw2, h45b⟩ := t45 L (a + 5) (by omega)
  simp only [encE_mk] at h45b
  simp only [encE_mk] at h45
  have h46 := t46m (r0 :: r1 :: r2 :: rest) (by simp) (by simp; omega)
  simp only [List.map_cons, List.map_nil, List.length_cons, List.length_nil, Nat.reduceAdd, Nat.zero_add] at h46
  obtain ⟨xs, hxs⟩ : ∃ xs : List St, xs = [.mk 3 r0 em ⟨#[120]⟩ em (.mk 4 0 em [.mk 2 0 ⟨#[120]⟩ [], .mk 1 1 em []]) [] [] em [],
      .mk 1 r0 r1 s41 em (.mk k1 n1 s1 l1) [] [] em [],
      .mk 5 em em em em ex0 [] [] nm (r0 :: r1 :: r2 :: rest),
      .mk 3 r0 em ⟨#[122]⟩ em (.mk k2 n2 s2 l2) [] [] em []] := ⟨_, rfl⟩
  refine ⟨.mk 4 r0 em em em (.mk 6 0 em [.mk 1 0 em [], .mk 2 0 ⟨#[120]⟩ []]) xs [] em [], a + 8, by omega, by omega, ?_, fun sid N T hT => hT.trimO (by simp only [noref, norefL, Bool.and_true]; exact noref_encS _) ?_⟩
  · rw [hxs]; simp [wS, wSs, wE, wEs, ex0] at hw1 hw2 ⊢; omega
  have g1 : ((1 : Int) < ((rest.length + 3 : Nat) : Int)) = True := by simp; omega
  have g2 : (((rest.length + 3 : Nat) : Int) = 2) = False := by simp; omega
  have htk : List.take rest.length (rest.map V.str) = rest.map V.str := List.take_of_length_le (by simp)
  have hfl : ∀ (H : List Blk) (n : Nat), fzL (fz H (n + 1)) (rest.map V.str) = some (rest.map V.str) := fun H n => fzL_map _ _ (fun x => fz_str _ _ x) rest
  refine ACall.intro cm17 600 (by simp) ?_
  simp only [encH, List.map_cons, List.map_nil]
  simp (maxSteps := 1000000) -implicitDefEqProofs only [sm17, hT.tok.len, hT.tok.at0, hT.tok.atS, hT.tok.set0, hT.tok.setS, hT.tok.get, Int.reduceEq, g1, g2, go_sem, ↓reduceIte, Nat.reduceEqDiff, Nat.reduceBEq, Int.reduceToNat, Nat.reduceAdd, Nat.reduceLT, Nat.reduceLeDiff, reduceCtorEq, Nat.reduceSub]
  repeat' (first | ((with_reducible first | refine cgA ((h41.at hT _)) ?_ | refine cgA ((h45.at hT _)) ?_ | refine cgA ((f3.at hT _)) ?_ | refine cgA ((f4.at hT _)) ?_ | refine cgA ((f2.at hT _)) ?_ | refine cgA ((h45b.at hT _)) ?_ | refine cgA ((h46 _)) ?_); simp (maxSteps := 1000000) -implicitDefEqProofs only [hT.tok.len, hT.tok.at0, hT.tok.atS, hT.tok.set0, hT.tok.setS, hT.tok.get, Int.reduceEq, g1, g2, go_sem, ↓reduceIte, Nat.reduceEqDiff, Nat.reduceBEq, Int.reduceToNat, Nat.reduceAdd, Nat.reduceLT, Nat.reduceLeDiff, reduceCtorEq, Nat.reduceSub]) | ((with_reducible show F _ _ (Cfg.code (SCode.qregion _) _ _ _)); refine F_q2 ?_; simp (maxSteps := 1000000) -implicitDefEqProofs only [hT.tok.len, hT.tok.at0, hT.tok.atS, hT.tok.set0, hT.tok.setS, hT.tok.get, Int.reduceEq, g1, g2, go_sem, ↓reduceIte, Nat.reduceEqDiff, Nat.reduceBEq, Int.reduceToNat, Nat.reduceAdd, Nat.reduceLT, Nat.reduceLeDiff, reduceCtorEq, Nat.reduceSub]) | ((with_reducible show F _ _ (Cfg.code (SCode.pregion _ _ _ _ _) _ _ _)); refine F_p2 ?_; simp (maxSteps := 1000000) -implicitDefEqProofs only [hT.tok.len, hT.tok.at0, hT.tok.atS, hT.tok.set0, hT.tok.setS, hT.tok.get, Int.reduceEq, g1, g2, go_sem, ↓reduceIte, Nat.reduceEqDiff, Nat.reduceBEq, Int.reduceToNat, Nat.reduceAdd, Nat.reduceLT, Nat.reduceLeDiff, reduceCtorEq, Nat.reduceSub]) | with_reducible refine Fork.mk (fun _ => ?_) (fun _ => ?_) | with_reducible refine And.intro ?_ ?_ | ((with_reducible show resP _ _ _ _ _); simp (maxSteps := 1000000) -implicitDefEqProofs only [rm17, hT.tok.len, hT.tok.at0, hT.tok.atS, hT.tok.set0, hT.tok.setS, hT.tok.get, push_cast, ↓reduceIte, Nat.reduceEqDiff, reduceCtorEq, Nat.reduceAdd, Nat.reduceLT, Nat.reduceLeDiff]) | (intro _))
  all_goals first
    | (exfalso; assumption)
    | (exact ⟨by decide, by decide⟩)
    | (simp [ixP]; done)
    | (simp [ixP]; omega)
    | (rename_i hx; simp at hx; done)
    | (rename_i hx; simp at hx; subst hx; simp [cellsV]; done)
    | omega
    | skip
  refine ⟨List.range' N 10, encS (.mk 4 r0 em em em (.mk 6 0 em [.mk 1 0 em [], .mk 2 0 ⟨#[120]⟩ []]) xs [] em []), ?_, ?_⟩
  · rw [keepL_tail' (hm := ?_) (hA := ?_)]
    · rw [hxs]
      simp (maxSteps := 1000000) -implicitDefEqProofs only [dead_at, dead_at0, encS_mk, encE_mk, em, ex0, List.map_cons, List.map_nil, htk, hfl, push_cast, ↓reduceIte, Nat.reduceEqDiff, reduceCtorEq, Nat.reduceAdd, Nat.reduceLT, Nat.reduceLeDiff]
    · exact hT.tok.len _
    · rfl
  · rw [killL_tail2 (hA := ?_) (hm := ?_)]
    · simp only [encS_mk]
      simp (maxSteps := 1000000) -implicitDefEqProofs only [rm17, push_cast, ↓reduceIte, Nat.reduceEqDiff, reduceCtorEq, Nat.reduceAdd, Nat.reduceLT, Nat.reduceLeDiff]
      refine ⟨by decide, ?_⟩
      exact ⟨_, rfl⟩
    · exact hT.tok.len _
    · rfl
set_option maxRecDepth 20000 in
set_option maxHeartbeats 8000000 in
theorem t17um011 (L : List Int) (a : Nat) (ha : a ≤ 800000) (nm r0 r1 : ByteArray) (r2 : ByteArray) (rest : List ByteArray) (hrest : rest.length ≤ 10)
    (h3 : decide (nxF L (a + 3) 3 = 0) = false) (h4 : decide (nxF L (a + 4) 4 = 0) = true) (h2 : decide (nxF L (a + 7) 2 = 0) = true) :
    ∃ x a', a ≤ a' ∧ a' ≤ a + 10 ∧ wS x ≤ 30 ∧ MC 17 L a [encH (nm, (r0 :: r1 :: r2 :: rest))] (.fs [encS x]) a' := by
  obtain ⟨⟨k1, n1, s1, l1⟩, hw1, h45⟩ := t45 L (a + 1) (by omega)
  have h41 := (t41 L a [⟨#[120]⟩, ⟨#[121]⟩] (by omega) (by decide) (by decide))
  simp only [List.map_cons, List.map_nil] at h41
  generalize ([⟨#[120]⟩, ⟨#[121]⟩] : List ByteArray).getD _ _ = s41 at h41
  have f3 := t14 L (a + 3) 3 (by omega)
  have f4 := t14 L (a + 4) 4 (by omega)
  have f2 := t14 L (a + 7) 2 (by omega)
  rw [h3] at f3
  rw [h4] at f4
  rw [h2] at f2
  obtain ⟨⟨k2, n2, s2, l2⟩, hw2, h45b⟩ := t45 L (a + 5) (by omega)
  simp only [encE_mk] at h45b
  simp only [encE_mk] at h45
  have h46 := t46m (r0 :: r1 :: r2 :: rest) (by simp) (by simp; omega)
  simp only [List.map_cons, List.map_nil, List.length_cons, List.length_nil, Nat.reduceAdd, Nat.zero_add] at h46
  obtain ⟨xs, hxs⟩ : ∃ xs : List St, xs = [.mk 3 r0 em ⟨#[120]⟩ em (.mk 4 0 em [.mk 2 0 ⟨#[120]⟩ [], .mk 1 1 em []]) [] [] em [],
      .mk 1 r0 r1 s41 em (.mk k1 n1 s1 l1) [] [] em [],
      .mk 5 em em em em ex0 [] [] nm (r0 :: r1 :: r2 :: rest),
      .mk 3 r0 em ⟨#[122]⟩ em (.mk k2 n2 s2 l2) [] [] em []] := ⟨_, rfl⟩
  refine ⟨.mk 4 r0 em em em (.mk 2 0 ⟨#[120]⟩ []) xs [] em [], a + 8, by omega, by omega, ?_, fun sid N T hT => hT.trimO (by simp only [noref, norefL, Bool.and_true]; exact noref_encS _) ?_⟩
  · rw [hxs]; simp [wS, wSs, wE, wEs, ex0] at hw1 hw2 ⊢; omega
  have g1 : ((1 : Int) < ((rest.length + 3 : Nat) : Int)) = True := by simp; omega
  have g2 : (((rest.length + 3 : Nat) : Int) = 2) = False := by simp; omega
  have htk : List.take rest.length (rest.map V.str) = rest.map V.str := List.take_of_length_le (by simp)
  have hfl : ∀ (H : List Blk) (n : Nat), fzL (fz H (n + 1)) (rest.map V.str) = some (rest.map V.str) := fun H n => fzL_map _ _ (fun x => fz_str _ _ x) rest
  refine ACall.intro cm17 600 (by simp) ?_
  simp only [encH, List.map_cons, List.map_nil]
  simp (maxSteps := 1000000) -implicitDefEqProofs only [sm17, hT.tok.len, hT.tok.at0, hT.tok.atS, hT.tok.set0, hT.tok.setS, hT.tok.get, Int.reduceEq, g1, g2, go_sem, ↓reduceIte, Nat.reduceEqDiff, Nat.reduceBEq, Int.reduceToNat, Nat.reduceAdd, Nat.reduceLT, Nat.reduceLeDiff, reduceCtorEq, Nat.reduceSub]
  repeat' (first | ((with_reducible first | refine cgA ((h41.at hT _)) ?_ | refine cgA ((h45.at hT _)) ?_ | refine cgA ((f3.at hT _)) ?_ | refine cgA ((f4.at hT _)) ?_ | refine cgA ((f2.at hT _)) ?_ | refine cgA ((h45b.at hT _)) ?_ | refine cgA ((h46 _)) ?_); simp (maxSteps := 1000000) -implicitDefEqProofs only [hT.tok.len, hT.tok.at0, hT.tok.atS, hT.tok.set0, hT.tok.setS, hT.tok.get, Int.reduceEq, g1, g2, go_sem, ↓reduceIte, Nat.reduceEqDiff, Nat.reduceBEq, Int.reduceToNat, Nat.reduceAdd, Nat.reduceLT, Nat.reduceLeDiff, reduceCtorEq, Nat.reduceSub]) | ((with_reducible show F _ _ (Cfg.code (SCode.qregion _) _ _ _)); refine F_q2 ?_; simp (maxSteps := 1000000) -implicitDefEqProofs only [hT.tok.len, hT.tok.at0, hT.tok.atS, hT.tok.set0, hT.tok.setS, hT.tok.get, Int.reduceEq, g1, g2, go_sem, ↓reduceIte, Nat.reduceEqDiff, Nat.reduceBEq, Int.reduceToNat, Nat.reduceAdd, Nat.reduceLT, Nat.reduceLeDiff, reduceCtorEq, Nat.reduceSub]) | ((with_reducible show F _ _ (Cfg.code (SCode.pregion _ _ _ _ _) _ _ _)); refine F_p2 ?_; simp (maxSteps := 1000000) -implicitDefEqProofs only [hT.tok.len, hT.tok.at0, hT.tok.atS, hT.tok.set0, hT.tok.setS, hT.tok.get, Int.reduceEq, g1, g2, go_sem, ↓reduceIte, Nat.reduceEqDiff, Nat.reduceBEq, Int.reduceToNat, Nat.reduceAdd, Nat.reduceLT, Nat.reduceLeDiff, reduceCtorEq, Nat.reduceSub]) | with_reducible refine Fork.mk (fun _ => ?_) (fun _ => ?_) | with_reducible refine And.intro ?_ ?_ | ((with_reducible show resP _ _ _ _ _); simp (maxSteps := 1000000) -implicitDefEqProofs only [rm17, hT.tok.len, hT.tok.at0, hT.tok.atS, hT.tok.set0, hT.tok.setS, hT.tok.get, push_cast, ↓reduceIte, Nat.reduceEqDiff, reduceCtorEq, Nat.reduceAdd, Nat.reduceLT, Nat.reduceLeDiff]) | (intro _))
  all_goals first
    | (exfalso; assumption)
    | (exact ⟨by decide, by decide⟩)
    | (simp [ixP]; done)
    | (simp [ixP]; omega)
    | (rename_i hx; simp at hx; done)
    | (rename_i hx; simp at hx; subst hx; simp [cellsV]; done)
    | omega
    | skip
  refine ⟨List.range' N 10, encS (.mk 4 r0 em em em (.mk 2 0 ⟨#[120]⟩ []) xs [] em []), ?_, ?_⟩
  · rw [keepL_tail' (hm := ?_) (hA := ?_)]
    · rw [hxs]
      simp (maxSteps := 1000000) -implicitDefEqProofs only [dead_at, dead_at0, encS_mk, encE_mk, em, ex0, List.map_cons, List.map_nil, htk, hfl, push_cast, ↓reduceIte, Nat.reduceEqDiff, reduceCtorEq, Nat.reduceAdd, Nat.reduceLT, Nat.reduceLeDiff]
    · exact hT.tok.len _
    · rfl
  · rw [killL_tail2 (hA := ?_) (hm := ?_)]
    · simp only [encS_mk]
      simp (maxSteps := 1000000) -implicitDefEqProofs only [rm17, push_cast, ↓reduceIte, Nat.reduceEqDiff, reduceCtorEq, Nat.reduceAdd, Nat.reduceLT, Nat.reduceLeDiff]
      refine ⟨by decide, ?_⟩
      exact ⟨_, rfl⟩
    · exact hT.tok.len _
    · rfl
set_option maxRecDepth 20000 in
set_option maxHeartbeats 8000000 in
theorem t17um100 (L : List Int) (a : Nat) (ha : a ≤ 800000) (nm r0 r1 : ByteArray) (r2 : ByteArray) (rest : List ByteArray) (hrest : rest.length ≤ 10)
    (h3 : decide (nxF L (a + 3) 3 = 0) = true) (h4 : decide (nxF L (a + 4) 4 = 0) = false) (h2 : decide (nxF L (a + 5) 2 = 0) = false) :
    ∃ x a', a ≤ a' ∧ a' ≤ a + 10 ∧ wS x ≤ 30 ∧ MC 17 L a [encH (nm, (r0 :: r1 :: r2 :: rest))] (.fs [encS x]) a' := by
  obtain ⟨⟨k1, n1, s1, l1⟩, hw1, h45⟩ := t45 L (a + 1) (by omega)
  have h41 := (t41 L a [⟨#[120]⟩, ⟨#[121]⟩] (by omega) (by decide) (by decide))
  simp only [List.map_cons, List.map_nil] at h41
  generalize ([⟨#[120]⟩, ⟨#[121]⟩] : List ByteArray).getD _ _ = s41 at h41
  have f3 := t14 L (a + 3) 3 (by omega)
  have f4 := t14 L (a + 4) 4 (by omega)
  have f2 := t14 L (a + 5) 2 (by omega)
  rw [h3] at f3
  rw [h4] at f4
  rw [h2] at f2
  simp only [encE_mk] at h45
  have h46 := t46m (r0 :: r1 :: r2 :: rest) (by simp) (by simp; omega)
  simp only [List.map_cons, List.map_nil, List.length_cons, List.length_nil, Nat.reduceAdd, Nat.zero_add] at h46
  obtain ⟨xs, hxs⟩ : ∃ xs : List St, xs = [.mk 3 r0 em ⟨#[120]⟩ em (.mk 4 0 em [.mk 2 0 ⟨#[120]⟩ [], .mk 1 1 em []]) [] [] em [],
      .mk 1 r0 r1 s41 em (.mk k1 n1 s1 l1) [] [] em [],
      .mk 5 em em em em ex0 [] [] nm (r0 :: r1 :: r2 :: rest)] := ⟨_, rfl⟩
  refine ⟨.mk 4 r0 em em em (.mk 6 0 em [.mk 1 0 em [], .mk 2 0 ⟨#[120]⟩ []]) xs [] em [], a + 6, by omega, by omega, ?_, fun sid N T hT => hT.trimO (by simp only [noref, norefL, Bool.and_true]; exact noref_encS _) ?_⟩
  · rw [hxs]; simp [wS, wSs, wE, wEs, ex0] at hw1 ⊢; omega
  have g1 : ((1 : Int) < ((rest.length + 3 : Nat) : Int)) = True := by simp; omega
  have g2 : (((rest.length + 3 : Nat) : Int) = 2) = False := by simp; omega
  have htk : List.take rest.length (rest.map V.str) = rest.map V.str := List.take_of_length_le (by simp)
  have hfl : ∀ (H : List Blk) (n : Nat), fzL (fz H (n + 1)) (rest.map V.str) = some (rest.map V.str) := fun H n => fzL_map _ _ (fun x => fz_str _ _ x) rest
  refine ACall.intro cm17 600 (by simp) ?_
  simp only [encH, List.map_cons, List.map_nil]
  simp (maxSteps := 1000000) -implicitDefEqProofs only [sm17, hT.tok.len, hT.tok.at0, hT.tok.atS, hT.tok.set0, hT.tok.setS, hT.tok.get, Int.reduceEq, g1, g2, go_sem, ↓reduceIte, Nat.reduceEqDiff, Nat.reduceBEq, Int.reduceToNat, Nat.reduceAdd, Nat.reduceLT, Nat.reduceLeDiff, reduceCtorEq, Nat.reduceSub]
  repeat' (first | ((with_reducible first | refine cgA ((h41.at hT _)) ?_ | refine cgA ((h45.at hT _)) ?_ | refine cgA ((f3.at hT _)) ?_ | refine cgA ((f4.at hT _)) ?_ | refine cgA ((f2.at hT _)) ?_ | refine cgA ((h46 _)) ?_); simp (maxSteps := 1000000) -implicitDefEqProofs only [hT.tok.len, hT.tok.at0, hT.tok.atS, hT.tok.set0, hT.tok.setS, hT.tok.get, Int.reduceEq, g1, g2, go_sem, ↓reduceIte, Nat.reduceEqDiff, Nat.reduceBEq, Int.reduceToNat, Nat.reduceAdd, Nat.reduceLT, Nat.reduceLeDiff, reduceCtorEq, Nat.reduceSub]) | ((with_reducible show F _ _ (Cfg.code (SCode.qregion _) _ _ _)); refine F_q2 ?_; simp (maxSteps := 1000000) -implicitDefEqProofs only [hT.tok.len, hT.tok.at0, hT.tok.atS, hT.tok.set0, hT.tok.setS, hT.tok.get, Int.reduceEq, g1, g2, go_sem, ↓reduceIte, Nat.reduceEqDiff, Nat.reduceBEq, Int.reduceToNat, Nat.reduceAdd, Nat.reduceLT, Nat.reduceLeDiff, reduceCtorEq, Nat.reduceSub]) | ((with_reducible show F _ _ (Cfg.code (SCode.pregion _ _ _ _ _) _ _ _)); refine F_p2 ?_; simp (maxSteps := 1000000) -implicitDefEqProofs only [hT.tok.len, hT.tok.at0, hT.tok.atS, hT.tok.set0, hT.tok.setS, hT.tok.get, Int.reduceEq, g1, g2, go_sem, ↓reduceIte, Nat.reduceEqDiff, Nat.reduceBEq, Int.reduceToNat, Nat.reduceAdd, Nat.reduceLT, Nat.reduceLeDiff, reduceCtorEq, Nat.reduceSub]) | with_reducible refine Fork.mk (fun _ => ?_) (fun _ => ?_) | with_reducible refine And.intro ?_ ?_ | ((with_reducible show resP _ _ _ _ _); simp (maxSteps := 1000000) -implicitDefEqProofs only [rm17, hT.tok.len, hT.tok.at0, hT.tok.atS, hT.tok.set0, hT.tok.setS, hT.tok.get, push_cast, ↓reduceIte, Nat.reduceEqDiff, reduceCtorEq, Nat.reduceAdd, Nat.reduceLT, Nat.reduceLeDiff]) | (intro _))
  all_goals first
    | (exfalso; assumption)
    | (exact ⟨by decide, by decide⟩)
    | (simp [ixP]; done)
    | (simp [ixP]; omega)
    | (rename_i hx; simp at hx; done)
    | (rename_i hx; simp at hx; subst hx; simp [cellsV]; done)
    | omega
    | skip
  refine ⟨List.range' N 9, encS (.mk 4 r0 em em em (.mk 6 0 em [.mk 1 0 em [], .mk 2 0 ⟨#[120]⟩ []]) xs [] em []), ?_, ?_⟩
  · rw [keepL_tail' (hm := ?_) (hA := ?_)]
    · rw [hxs]
      simp (maxSteps := 1000000) -implicitDefEqProofs only [dead_at, dead_at0, encS_mk, encE_mk, em, ex0, List.map_cons, List.map_nil, htk, hfl, push_cast, ↓reduceIte, Nat.reduceEqDiff, reduceCtorEq, Nat.reduceAdd, Nat.reduceLT, Nat.reduceLeDiff]
    · exact hT.tok.len _
    · rfl
  · rw [killL_tail2 (hA := ?_) (hm := ?_)]
    · simp only [encS_mk]
      simp (maxSteps := 1000000) -implicitDefEqProofs only [rm17, push_cast, ↓reduceIte, Nat.reduceEqDiff, reduceCtorEq, Nat.reduceAdd, Nat.reduceLT, Nat.reduceLeDiff]
      refine ⟨by decide, ?_⟩
      exact ⟨_, rfl⟩
    · exact hT.tok.len _
    · rfl
set_option maxRecDepth 20000 in
set_option maxHeartbeats 8000000 in
theorem t17um101 (L : List Int) (a : Nat) (ha : a ≤ 800000) (nm r0 r1 : ByteArray) (r2 : ByteArray) (rest : List ByteArray) (hrest : rest.length ≤ 10)
    (h3 : decide (nxF L (a + 3) 3 = 0) = true) (h4 : decide (nxF L (a + 4) 4 = 0) = false) (h2 : decide (nxF L (a + 5) 2 = 0) = true) :
    ∃ x a', a ≤ a' ∧ a' ≤ a + 10 ∧ wS x ≤ 30 ∧ MC 17 L a [encH (nm, (r0 :: r1 :: r2 :: rest))] (.fs [encS x]) a' := by
  obtain ⟨⟨k1, n1, s1, l1⟩, hw1, h45⟩ := t45 L (a + 1) (by omega)
  have h41 := (t41 L a [⟨#[120]⟩, ⟨#[121]⟩] (by omega) (by decide) (by decide))
  simp only [List.map_cons, List.map_nil] at h41
  generalize ([⟨#[120]⟩, ⟨#[121]⟩] : List ByteArray).getD _ _ = s41 at h41
  have f3 := t14 L (a + 3) 3 (by omega)
  have f4 := t14 L (a + 4) 4 (by omega)
  have f2 := t14 L (a + 5) 2 (by omega)
  rw [h3] at f3
  rw [h4] at f4
  rw [h2] at f2
  simp only [encE_mk] at h45
  have h46 := t46m (r0 :: r1 :: r2 :: rest) (by simp) (by simp; omega)
  simp only [List.map_cons, List.map_nil, List.length_cons, List.length_nil, Nat.reduceAdd, Nat.zero_add] at h46
  obtain ⟨xs, hxs⟩ : ∃ xs : List St, xs = [.mk 3 r0 em ⟨#[120]⟩ em (.mk 4 0 em [.mk 2 0 ⟨#[120]⟩ [], .mk 1 1 em []]) [] [] em [],
      .mk 1 r0 r1 s41 em (.mk k1 n1 s1 l1) [] [] em [],
      .mk 5 em em em em ex0 [] [] nm (r0 :: r1 :: r2 :: rest)] := ⟨_, rfl⟩
  refine ⟨.mk 4 r0 em em em (.mk 2 0 ⟨#[120]⟩ []) xs [] em [], a + 6, by omega, by omega, ?_, fun sid N T hT => hT.trimO (by simp only [noref, norefL, Bool.and_true]; exact noref_encS _) ?_⟩
  · rw [hxs]; simp [wS, wSs, wE, wEs, ex0] at hw1 ⊢; omega
  have g1 : ((1 : Int) < ((rest.length + 3 : Nat) : Int)) = True := by simp; omega
  have g2 : (((rest.length + 3 : Nat) : Int) = 2) = False := by simp; omega
  have htk : List.take rest.length (rest.map V.str) = rest.map V.str := List.take_of_length_le (by simp)
  have hfl : ∀ (H : List Blk) (n : Nat), fzL (fz H (n + 1)) (rest.map V.str) = some (rest.map V.str) := fun H n => fzL_map _ _ (fun x => fz_str _ _ x) rest
  refine ACall.intro cm17 600 (by simp) ?_
  simp only [encH, List.map_cons, List.map_nil]
  simp (maxSteps := 1000000) -implicitDefEqProofs only [sm17, hT.tok.len, hT.tok.at0, hT.tok.atS, hT.tok.set0, hT.tok.setS, hT.tok.get, Int.reduceEq, g1, g2, go_sem, ↓reduceIte, Nat.reduceEqDiff, Nat.reduceBEq, Int.reduceToNat, Nat.reduceAdd, Nat.reduceLT, Nat.reduceLeDiff, reduceCtorEq, Nat.reduceSub]
  repeat' (first | ((with_reducible first | refine cgA ((h41.at hT _)) ?_ | refine cgA ((h45.at hT _)) ?_ | refine cgA ((f3.at hT _)) ?_ | refine cgA ((f4.at hT _)) ?_ | refine cgA ((f2.at hT _)) ?_ | refine cgA ((h46 _)) ?_); simp (maxSteps := 1000000) -implicitDefEqProofs only [hT.tok.len, hT.tok.at0, hT.tok.atS, hT.tok.set0, hT.tok.setS, hT.tok.get, Int.reduceEq, g1, g2, go_sem, ↓reduceIte, Nat.reduceEqDiff, Nat.reduceBEq, Int.reduceToNat, Nat.reduceAdd, Nat.reduceLT, Nat.reduceLeDiff, reduceCtorEq, Nat.reduceSub]) | ((with_reducible show F _ _ (Cfg.code (SCode.qregion _) _ _ _)); refine F_q2 ?_; simp (maxSteps := 1000000) -implicitDefEqProofs only [hT.tok.len, hT.tok.at0, hT.tok.atS, hT.tok.set0, hT.tok.setS, hT.tok.get, Int.reduceEq, g1, g2, go_sem, ↓reduceIte, Nat.reduceEqDiff, Nat.reduceBEq, Int.reduceToNat, Nat.reduceAdd, Nat.reduceLT, Nat.reduceLeDiff, reduceCtorEq, Nat.reduceSub]) | ((with_reducible show F _ _ (Cfg.code (SCode.pregion _ _ _ _ _) _ _ _)); refine F_p2 ?_; simp (maxSteps := 1000000) -implicitDefEqProofs only [hT.tok.len, hT.tok.at0, hT.tok.atS, hT.tok.set0, hT.tok.setS, hT.tok.get, Int.reduceEq, g1, g2, go_sem, ↓reduceIte, Nat.reduceEqDiff, Nat.reduceBEq, Int.reduceToNat, Nat.reduceAdd, Nat.reduceLT, Nat.reduceLeDiff, reduceCtorEq, Nat.reduceSub]) | with_reducible refine Fork.mk (fun _ => ?_) (fun _ => ?_) | with_reducible refine And.intro ?_ ?_ | ((with_reducible show resP _ _ _ _ _); simp (maxSteps := 1000000) -implicitDefEqProofs only [rm17, hT.tok.len, hT.tok.at0, hT.tok.atS, hT.tok.set0, hT.tok.setS, hT.tok.get, push_cast, ↓reduceIte, Nat.reduceEqDiff, reduceCtorEq, Nat.reduceAdd, Nat.reduceLT, Nat.reduceLeDiff]) | (intro _))
  all_goals first
    | (exfalso; assumption)
    | (exact ⟨by decide, by decide⟩)
    | (simp [ixP]; done)
    | (simp [ixP]; omega)
    | (rename_i hx; simp at hx; done)
    | (rename_i hx; simp at hx; subst hx; simp [cellsV]; done)
    | omega
    | skip
  refine ⟨List.range' N 9, encS (.mk 4 r0 em em em (.mk 2 0 ⟨#[120]⟩ []) xs [] em []), ?_, ?_⟩
  · rw [keepL_tail' (hm := ?_) (hA := ?_)]
    · rw [hxs]
      simp (maxSteps := 1000000) -implicitDefEqProofs only [dead_at, dead_at0, encS_mk, encE_mk, em, ex0, List.map_cons, List.map_nil, htk, hfl, push_cast, ↓reduceIte, Nat.reduceEqDiff, reduceCtorEq, Nat.reduceAdd, Nat.reduceLT, Nat.reduceLeDiff]
    · exact hT.tok.len _
    · rfl
  · rw [killL_tail2 (hA := ?_) (hm := ?_)]
    · simp only [encS_mk]
      simp (maxSteps := 1000000) -implicitDefEqProofs only [rm17, push_cast, ↓reduceIte, Nat.reduceEqDiff, reduceCtorEq, Nat.reduceAdd, Nat.reduceLT, Nat.reduceLeDiff]
      refine ⟨by decide, ?_⟩
      exact ⟨_, rfl⟩
    · exact hT.tok.len _
    · rfl
set_option maxRecDepth 20000 in
set_option maxHeartbeats 8000000 in
theorem t17um110 (L : List Int) (a : Nat) (ha : a ≤ 800000) (nm r0 r1 : ByteArray) (r2 : ByteArray) (rest : List ByteArray) (hrest : rest.length ≤ 10)
    (h3 : decide (nxF L (a + 3) 3 = 0) = true) (h4 : decide (nxF L (a + 4) 4 = 0) = true) (h2 : decide (nxF L (a + 7) 2 = 0) = false) :
    ∃ x a', a ≤ a' ∧ a' ≤ a + 10 ∧ wS x ≤ 30 ∧ MC 17 L a [encH (nm, (r0 :: r1 :: r2 :: rest))] (.fs [encS x]) a' := by
  obtain ⟨⟨k1, n1, s1, l1⟩, hw1, h45⟩ := t45 L (a + 1) (by omega)
  have h41 := (t41 L a [⟨#[120]⟩, ⟨#[121]⟩] (by omega) (by decide) (by decide))
  simp only [List.map_cons, List.map_nil] at h41
  generalize ([⟨#[120]⟩, ⟨#[121]⟩] : List ByteArray).getD _ _ = s41 at h41
  have f3 := t14 L (a + 3) 3 (by omega)
  have f4 := t14 L (a + 4) 4 (by omega)
  have f2 := t14 L (a + 7) 2 (by omega)
  rw [h3] at f3
  rw [h4] at f4
  rw [h2] at f2
  obtain ⟨⟨k2, n2, s2, l2⟩, hw2, h45b⟩ := t45 L (a + 5) (by omega)
  simp only [encE_mk] at h45b
  simp only [encE_mk] at h45
  have h46 := t46m (r0 :: r1 :: r2 :: rest) (by simp) (by simp; omega)
  simp only [List.map_cons, List.map_nil, List.length_cons, List.length_nil, Nat.reduceAdd, Nat.zero_add] at h46
  obtain ⟨xs, hxs⟩ : ∃ xs : List St, xs = [.mk 3 r0 em ⟨#[120]⟩ em (.mk 4 0 em [.mk 2 0 ⟨#[120]⟩ [], .mk 1 1 em []]) [] [] em [],
      .mk 1 r0 r1 s41 em (.mk k1 n1 s1 l1) [] [] em [],
      .mk 5 em em em em ex0 [] [] nm (r0 :: r1 :: r2 :: rest),
      .mk 3 r0 em ⟨#[122]⟩ em (.mk k2 n2 s2 l2) [] [] em []] := ⟨_, rfl⟩
  refine ⟨.mk 4 r0 em em em (.mk 6 0 em [.mk 1 0 em [], .mk 2 0 ⟨#[120]⟩ []]) xs [] em [], a + 8, by omega, by omega, ?_, fun sid N T hT => hT.trimO (by simp only [noref, norefL, Bool.and_true]; exact noref_encS _) ?_⟩
  · rw [hxs]; simp [wS, wSs, wE, wEs, ex0] at hw1 hw2 ⊢; omega
  have g1 : ((1 : Int) < ((rest.length + 3 : Nat) : Int)) = True := by simp; omega
  have g2 : (((rest.length + 3 : Nat) : Int) = 2) = False := by simp; omega
  have htk : List.take rest.length (rest.map V.str) = rest.map V.str := List.take_of_length_le (by simp)
  have hfl : ∀ (H : List Blk) (n : Nat), fzL (fz H (n + 1)) (rest.map V.str) = some (rest.map V.str) := fun H n => fzL_map _ _ (fun x => fz_str _ _ x) rest
  refine ACall.intro cm17 600 (by simp) ?_
  simp only [encH, List.map_cons, List.map_nil]
  simp (maxSteps := 1000000) -implicitDefEqProofs only [sm17, hT.tok.len, hT.tok.at0, hT.tok.atS, hT.tok.set0, hT.tok.setS, hT.tok.get, Int.reduceEq, g1, g2, go_sem, ↓reduceIte, Nat.reduceEqDiff, Nat.reduceBEq, Int.reduceToNat, Nat.reduceAdd, Nat.reduceLT, Nat.reduceLeDiff, reduceCtorEq, Nat.reduceSub]
  repeat' (first | ((with_reducible first | refine cgA ((h41.at hT _)) ?_ | refine cgA ((h45.at hT _)) ?_ | refine cgA ((f3.at hT _)) ?_ | refine cgA ((f4.at hT _)) ?_ | refine cgA ((f2.at hT _)) ?_ | refine cgA ((h45b.at hT _)) ?_ | refine cgA ((h46 _)) ?_); simp (maxSteps := 1000000) -implicitDefEqProofs only [hT.tok.len, hT.tok.at0, hT.tok.atS, hT.tok.set0, hT.tok.setS, hT.tok.get, Int.reduceEq, g1, g2, go_sem, ↓reduceIte, Nat.reduceEqDiff, Nat.reduceBEq, Int.reduceToNat, Nat.reduceAdd, Nat.reduceLT, Nat.reduceLeDiff, reduceCtorEq, Nat.reduceSub]) | ((with_reducible show F _ _ (Cfg.code (SCode.qregion _) _ _ _)); refine F_q2 ?_; simp (maxSteps := 1000000) -implicitDefEqProofs only [hT.tok.len, hT.tok.at0, hT.tok.atS, hT.tok.set0, hT.tok.setS, hT.tok.get, Int.reduceEq, g1, g2, go_sem, ↓reduceIte, Nat.reduceEqDiff, Nat.reduceBEq, Int.reduceToNat, Nat.reduceAdd, Nat.reduceLT, Nat.reduceLeDiff, reduceCtorEq, Nat.reduceSub]) | ((with_reducible show F _ _ (Cfg.code (SCode.pregion _ _ _ _ _) _ _ _)); refine F_p2 ?_; simp (maxSteps := 1000000) -implicitDefEqProofs only [hT.tok.len, hT.tok.at0, hT.tok.atS, hT.tok.set0, hT.tok.setS, hT.tok.get, Int.reduceEq, g1, g2, go_sem, ↓reduceIte, Nat.reduceEqDiff, Nat.reduceBEq, Int.reduceToNat, Nat.reduceAdd, Nat.reduceLT, Nat.reduceLeDiff, reduceCtorEq, Nat.reduceSub]) | with_reducible refine Fork.mk (fun _ => ?_) (fun _ => ?_) | with_reducible refine And.intro ?_ ?_ | ((with_reducible show resP _ _ _ _ _); simp (maxSteps := 1000000) -implicitDefEqProofs only [rm17, hT.tok.len, hT.tok.at0, hT.tok.atS, hT.tok.set0, hT.tok.setS, hT.tok.get, push_cast, ↓reduceIte, Nat.reduceEqDiff, reduceCtorEq, Nat.reduceAdd, Nat.reduceLT, Nat.reduceLeDiff]) | (intro _))
  all_goals first
    | (exfalso; assumption)
    | (exact ⟨by decide, by decide⟩)
    | (simp [ixP]; done)
    | (simp [ixP]; omega)
    | (rename_i hx; simp at hx; done)
    | (rename_i hx; simp at hx; subst hx; simp [cellsV]; done)
    | omega
    | skip
  refine ⟨List.range' N 10, encS (.mk 4 r0 em em em (.mk 6 0 em [.mk 1 0 em [], .mk 2 0 ⟨#[120]⟩ []]) xs [] em []), ?_, ?_⟩
  · rw [keepL_tail' (hm := ?_) (hA := ?_)]
    · rw [hxs]
      simp (maxSteps := 1000000) -implicitDefEqProofs only [dead_at, dead_at0, encS_mk, encE_mk, em, ex0, List.map_cons, List.map_nil, htk, hfl, push_cast, ↓reduceIte, Nat.reduceEqDiff, reduceCtorEq, Nat.reduceAdd, Nat.reduceLT, Nat.reduceLeDiff]
    · exact hT.tok.len _
    · rfl
  · rw [killL_tail2 (hA := ?_) (hm := ?_)]
    · simp only [encS_mk]
      simp (maxSteps := 1000000) -implicitDefEqProofs only [rm17, push_cast, ↓reduceIte, Nat.reduceEqDiff, reduceCtorEq, Nat.reduceAdd, Nat.reduceLT, Nat.reduceLeDiff]
      refine ⟨by decide, ?_⟩
      exact ⟨_, rfl⟩
    · exact hT.tok.len _
    · rfl
set_option maxRecDepth 20000 in
set_option maxHeartbeats 8000000 in
theorem t17um111 (L : List Int) (a : Nat) (ha : a ≤ 800000) (nm r0 r1 : ByteArray) (r2 : ByteArray) (rest : List ByteArray) (hrest : rest.length ≤ 10)
    (h3 : decide (nxF L (a + 3) 3 = 0) = true) (h4 : decide (nxF L (a + 4) 4 = 0) = true) (h2 : decide (nxF L (a + 7) 2 = 0) = true) :
    ∃ x a', a ≤ a' ∧ a' ≤ a + 10 ∧ wS x ≤ 30 ∧ MC 17 L a [encH (nm, (r0 :: r1 :: r2 :: rest))] (.fs [encS x]) a' := by
  obtain ⟨⟨k1, n1, s1, l1⟩, hw1, h45⟩ := t45 L (a + 1) (by omega)
  have h41 := (t41 L a [⟨#[120]⟩, ⟨#[121]⟩] (by omega) (by decide) (by decide))
  simp only [List.map_cons, List.map_nil] at h41
  generalize ([⟨#[120]⟩, ⟨#[121]⟩] : List ByteArray).getD _ _ = s41 at h41
  have f3 := t14 L (a + 3) 3 (by omega)
  have f4 := t14 L (a + 4) 4 (by omega)
  have f2 := t14 L (a + 7) 2 (by omega)
  rw [h3] at f3
  rw [h4] at f4
  rw [h2] at f2
  obtain ⟨⟨k2, n2, s2, l2⟩, hw2, h45b⟩ := t45 L (a + 5) (by omega)
  simp only [encE_mk] at h45b
  simp only [encE_mk] at h45
  have h46 := t46m (r0 :: r1 :: r2 :: rest) (by simp) (by simp; omega)
  simp only [List.map_cons, List.map_nil, List.length_cons, List.length_nil, Nat.reduceAdd, Nat.zero_add] at h46
  obtain ⟨xs, hxs⟩ : ∃ xs : List St, xs = [.mk 3 r0 em ⟨#[120]⟩ em (.mk 4 0 em [.mk 2 0 ⟨#[120]⟩ [], .mk 1 1 em []]) [] [] em [],
      .mk 1 r0 r1 s41 em (.mk k1 n1 s1 l1) [] [] em [],
      .mk 5 em em em em ex0 [] [] nm (r0 :: r1 :: r2 :: rest),
      .mk 3 r0 em ⟨#[122]⟩ em (.mk k2 n2 s2 l2) [] [] em []] := ⟨_, rfl⟩
  refine ⟨.mk 4 r0 em em em (.mk 2 0 ⟨#[120]⟩ []) xs [] em [], a + 8, by omega, by omega, ?_, fun sid N T hT => hT.trimO (by simp only [noref, norefL, Bool.and_true]; exact noref_encS _) ?_⟩
  · rw [hxs]; simp [wS, wSs, wE, wEs, ex0] at hw1 hw2 ⊢; omega
  have g1 : ((1 : Int) < ((rest.length + 3 : Nat) : Int)) = True := by simp; omega
  have g2 : (((rest.length + 3 : Nat) : Int) = 2) = False := by simp; omega
  have htk : List.take rest.length (rest.map V.str) = rest.map V.str := List.take_of_length_le (by simp)
  have hfl : ∀ (H : List Blk) (n : Nat), fzL (fz H (n + 1)) (rest.map V.str) = some (rest.map V.str) := fun H n => fzL_map _ _ (fun x => fz_str _ _ x) rest
  refine ACall.intro cm17 600 (by simp) ?_
  simp only [encH, List.map_cons, List.map_nil]
  simp (maxSteps := 1000000) -implicitDefEqProofs only [sm17, hT.tok.len, hT.tok.at0, hT.tok.atS, hT.tok.set0, hT.tok.setS, hT.tok.get, Int.reduceEq, g1, g2, go_sem, ↓reduceIte, Nat.reduceEqDiff, Nat.reduceBEq, Int.reduceToNat, Nat.reduceAdd, Nat.reduceLT, Nat.reduceLeDiff, reduceCtorEq, Nat.reduceSub]
  repeat' (first | ((with_reducible first | refine cgA ((h41.at hT _)) ?_ | refine cgA ((h45.at hT _)) ?_ | refine cgA ((f3.at hT _)) ?_ | refine cgA ((f4.at hT _)) ?_ | refine cgA ((f2.at hT _)) ?_ | refine cgA ((h45b.at hT _)) ?_ | refine cgA ((h46 _)) ?_); simp (maxSteps := 1000000) -implicitDefEqProofs only [hT.tok.len, hT.tok.at0, hT.tok.atS, hT.tok.set0, hT.tok.setS, hT.tok.get, Int.reduceEq, g1, g2, go_sem, ↓reduceIte, Nat.reduceEqDiff, Nat.reduceBEq, Int.reduceToNat, Nat.reduceAdd, Nat.reduceLT, Nat.reduceLeDiff, reduceCtorEq, Nat.reduceSub]) | ((with_reducible show F _ _ (Cfg.code (SCode.qregion _) _ _ _)); refine F_q2 ?_; simp (maxSteps := 1000000) -implicitDefEqProofs only [hT.tok.len, hT.tok.at0, hT.tok.atS, hT.tok.set0, hT.tok.setS, hT.tok.get, Int.reduceEq, g1, g2, go_sem, ↓reduceIte, Nat.reduceEqDiff, Nat.reduceBEq, Int.reduceToNat, Nat.reduceAdd, Nat.reduceLT, Nat.reduceLeDiff, reduceCtorEq, Nat.reduceSub]) | ((with_reducible show F _ _ (Cfg.code (SCode.pregion _ _ _ _ _) _ _ _)); refine F_p2 ?_; simp (maxSteps := 1000000) -implicitDefEqProofs only [hT.tok.len, hT.tok.at0, hT.tok.atS, hT.tok.set0, hT.tok.setS, hT.tok.get, Int.reduceEq, g1, g2, go_sem, ↓reduceIte, Nat.reduceEqDiff, Nat.reduceBEq, Int.reduceToNat, Nat.reduceAdd, Nat.reduceLT, Nat.reduceLeDiff, reduceCtorEq, Nat.reduceSub]) | with_reducible refine Fork.mk (fun _ => ?_) (fun _ => ?_) | with_reducible refine And.intro ?_ ?_ | ((with_reducible show resP _ _ _ _ _); simp (maxSteps := 1000000) -implicitDefEqProofs only [rm17, hT.tok.len, hT.tok.at0, hT.tok.atS, hT.tok.set0, hT.tok.setS, hT.tok.get, push_cast, ↓reduceIte, Nat.reduceEqDiff, reduceCtorEq, Nat.reduceAdd, Nat.reduceLT, Nat.reduceLeDiff]) | (intro _))
  all_goals first
    | (exfalso; assumption)
    | (exact ⟨by decide, by decide⟩)
    | (simp [ixP]; done)
    | (simp [ixP]; omega)
    | (rename_i hx; simp at hx; done)
    | (rename_i hx; simp at hx; subst hx; simp [cellsV]; done)
    | omega
    | skip
  refine ⟨List.range' N 10, encS (.mk 4 r0 em em em (.mk 2 0 ⟨#[120]⟩ []) xs [] em []), ?_, ?_⟩
  · rw [keepL_tail' (hm := ?_) (hA := ?_)]
    · rw [hxs]
      simp (maxSteps := 1000000) -implicitDefEqProofs only [dead_at, dead_at0, encS_mk, encE_mk, em, ex0, List.map_cons, List.map_nil, htk, hfl, push_cast, ↓reduceIte, Nat.reduceEqDiff, reduceCtorEq, Nat.reduceAdd, Nat.reduceLT, Nat.reduceLeDiff]
    · exact hT.tok.len _
    · rfl
  · rw [killL_tail2 (hA := ?_) (hm := ?_)]
    · simp only [encS_mk]
      simp (maxSteps := 1000000) -implicitDefEqProofs only [rm17, push_cast, ↓reduceIte, Nat.reduceEqDiff, reduceCtorEq, Nat.reduceAdd, Nat.reduceLT, Nat.reduceLeDiff]
      refine ⟨by decide, ?_⟩
      exact ⟨_, rfl⟩
    · exact hT.tok.len _
    · rfl
theorem t17 (L : List Int) (a : Nat) (ha : a ≤ 800000) (h : Hd) (hl : 2 ≤ h.2.length) (hl2 : h.2.length ≤ 12) : ∃ x a', a ≤ a' ∧ a' ≤ a + 10 ∧ wS x ≤ 50 ∧ MC 17 L a [encH h] (.fs [encS x]) a' := by
  obtain ⟨nm, rs⟩ := h
  have fin : ∀ {P : St → Nat → Prop}, (∃ x a', a ≤ a' ∧ a' ≤ a + 10 ∧ wS x ≤ 30 ∧ P x a') → ∃ x a', a ≤ a' ∧ a' ≤ a + 10 ∧ wS x ≤ 50 ∧ P x a' := fun ⟨x, a', h1, h2, h3, h4⟩ => ⟨x, a', h1, h2, by omega, h4⟩
  match rs, hl, hl2 with
  | [r0, r1], _, _ =>
    cases h3 : decide (nxF L (a + 3) 3 = 0) <;> cases h4 : decide (nxF L (a + 4) 4 = 0)
    · cases h2 : decide (nxF L (a + 5) 2 = 0)
      · exact fin (t17ut000 L a ha nm r0 r1 h3 h4 h2)
      · exact fin (t17ut001 L a ha nm r0 r1 h3 h4 h2)
    · cases h2 : decide (nxF L (a + 7) 2 = 0)
      · exact fin (t17ut010 L a ha nm r0 r1 h3 h4 h2)
      · exact fin (t17ut011 L a ha nm r0 r1 h3 h4 h2)
    · cases h2 : decide (nxF L (a + 5) 2 = 0)
      · exact fin (t17ut100 L a ha nm r0 r1 h3 h4 h2)
      · exact fin (t17ut101 L a ha nm r0 r1 h3 h4 h2)
    · cases h2 : decide (nxF L (a + 7) 2 = 0)
      · exact fin (t17ut110 L a ha nm r0 r1 h3 h4 h2)
      · exact fin (t17ut111 L a ha nm r0 r1 h3 h4 h2)
  | r0 :: r1 :: r2 :: rest, _, hl2 =>
    have hr : rest.length ≤ 10 := by simp at hl2; omega
    cases h3 : decide (nxF L (a + 3) 3 = 0) <;> cases h4 : decide (nxF L (a + 4) 4 = 0)
    · cases h2 : decide (nxF L (a + 5) 2 = 0)
      · exact fin (t17um000 L a ha nm r0 r1 r2 rest hr h3 h4 h2)
      · exact fin (t17um001 L a ha nm r0 r1 r2 rest hr h3 h4 h2)
    · cases h2 : decide (nxF L (a + 7) 2 = 0)
      · exact fin (t17um010 L a ha nm r0 r1 r2 rest hr h3 h4 h2)
      · exact fin (t17um011 L a ha nm r0 r1 r2 rest hr h3 h4 h2)
    · cases h2 : decide (nxF L (a + 5) 2 = 0)
      · exact fin (t17um100 L a ha nm r0 r1 r2 rest hr h3 h4 h2)
      · exact fin (t17um101 L a ha nm r0 r1 r2 rest hr h3 h4 h2)
    · cases h2 : decide (nxF L (a + 7) 2 = 0)
      · exact fin (t17um110 L a ha nm r0 r1 r2 rest hr h3 h4 h2)
      · exact fin (t17um111 L a ha nm r0 r1 r2 rest hr h3 h4 h2)
def st0 : St := .mk 0 em em em em ex0 [] [] em []
def T18 (L : List Int) (xs : List St) (a i : Nat) (x' : St) (a' : Nat) : Prop :=
  ∀ (sid N : Nat) (T : Nat → List Blk) (J : List Blk) (j : Nat) (e : Env) (m : Nat) (k : Kont), MS L sid N T → e 0 = .ptr sid 0 0 → e 4 = .ms (N + j) 0 xs.length → J[j]? = some (.row (xs.map encS)) →
    (∀ p e', F Tryz.prog (p + 1) (.app k .normal e' (T a' ++ J.set j (.row ((xs.set i x').map encS))))) → F Tryz.prog (m + 300) (.code bm18u964 e (T a ++ J) k)
def S18 (L : List Int) (xs : List St) (a : Nat) : Prop := ∃ i x' a', i < xs.length ∧ a ≤ a' ∧ a' ≤ a + 60 ∧ wS x' ≤ wS (xs.getD i st0) + 100 ∧ T18 L xs a i x' a'
def opts : List (List ByteArray) := [[], [⟨#[97]⟩], [⟨#[97]⟩, ⟨#[97]⟩], [⟨#[113]⟩, ⟨#[114]⟩], [⟨#[97]⟩, ⟨#[98]⟩]]
theorem opts_at (v : Nat) (h : v < 5) : ([.fs [], .fs [.str ⟨#[97]⟩], .fs [.str ⟨#[97]⟩, .str ⟨#[97]⟩], .fs [.str ⟨#[113]⟩, .str ⟨#[114]⟩], .fs [.str ⟨#[97]⟩, .str ⟨#[98]⟩]] : List V).getD v .any = .fs ((opts.getD v []).map .str) := by
  have : v = 0 ∨ v = 1 ∨ v = 2 ∨ v = 3 ∨ v = 4 := by omega
  rcases this with rfl | rfl | rfl | rfl | rfl <;> rfl
def nst (f : Nat → ByteArray) (x : St) : Nat → St
  | 0 => x
  | k + 1 => .mk 4 (f k) em em em (.mk 1 0 em []) [nst f x k] [] em []
theorem nst_w (f : Nat → ByteArray) (x : St) : ∀ k, wS (nst f x k) = wS x + 2 * k
  | 0 => rfl
  | k + 1 => by simp only [nst, wS, wSs, wE, wEs, nst_w f x k, List.length_nil]; omega
set_option maxRecDepth 20000 in
set_option maxHeartbeats 8000000 in
theorem T18u0 (L : List Int) (xs : List St) (a : Nat) (hx : xs ≠ []) (hl : xs.length ≤ 1000000) (ha : a ≤ 600000) (h2 : nxF L (a + 1) 6 = 0) : S18 L xs a := by
  have hl0 : 0 < xs.length := List.length_pos_iff.2 hx
  have hb := nxF_bound (L := L) (a := a) (n := xs.length) (by omega) (by omega)
  have f1 := t16 L a xs.length (by omega)
  have f2 := t16 L (a + 1) 6 (by omega)
  rw [h2] at f2
  generalize nxF L a xs.length = v0 at *
  obtain ⟨i, rfl⟩ : ∃ i : Nat, v0 = i := ⟨v0.toNat, by omega⟩
  have hi : i < xs.length := by omega
  have hel : (xs.map encS).getD i .any = encS (xs.getD i st0) := by simp [List.getD, hi]
  generalize hxi : xs.getD i st0 = x at *
  obtain ⟨k, r, t, vv, l, ⟨ek, en, es, eas⟩, sa, sb, p, ps⟩ := x
  rw [encS_mk] at hel
  have hix : ixP (i : Int) xs.length = True := by simp [ixP]; omega
  have hgs : ∀ y, ((xs.map encS).set i y).getD i .any = y := fun y => by simp [List.getD, hi]
  have hss : ∀ y z, ((xs.map encS).set i y).set i z = (xs.map encS).set i z := fun y z => by simp
  have hne : ¬ ((xs.length : Int) = 0) := by omega
  obtain ⟨v1, f3⟩ := t48 L (a + 2) 1 5 (by omega) (by omega) (by omega) (by omega)
  have hfin : (xs.set i (.mk v1 r t vv l (.mk ek en es eas) sa sb p ps)).map encS = (xs.map encS).set i (encS (.mk v1 r t vv l (.mk ek en es eas) sa sb p ps)) := by rw [List.map_set]
  rw [encS_mk] at hfin
  refine ⟨i, (.mk v1 r t vv l (.mk ek en es eas) sa sb p ps), a + 4, hi, by omega, by omega, ?_, ?_⟩
  · rw [hxi]; simp [wS, wSs, wE, wEs] <;> omega
  rw [T18]
  rw [hfin]
  intro sid N T J j e m kk hT e0 e4 hJ hk
  have hJs : ∀ b, (J.set j b)[j]? = some b := fun b => by simp [(List.getElem?_eq_some_iff.1 hJ).1]
  have hJss : ∀ b c, (J.set j b).set j c = J.set j c := fun b c => by simp
  simp (maxSteps := 1000000) -implicitDefEqProofs only [bm18u964, e0, e4, hJ, hJs, hJss, hel, hgs, hss, hix, hne, hT.tok.len, hT.tok.at0, hT.tok.atS, hT.tok.set0, hT.tok.setS, hT.tok.get, List.length_set, Int.reduceEq, go_sem, ↓reduceIte, Nat.reduceEqDiff, Nat.reduceBEq, Int.reduceToNat, Nat.reduceAdd, Nat.reduceLT, Nat.reduceLeDiff, reduceCtorEq, Nat.reduceSub]
  repeat' (first | ((with_reducible first | refine cgA ((f1.at hT _)) ?_ | refine cgA ((f2.at hT _)) ?_ | refine cgA ((f3.at hT _)) ?_); simp (maxSteps := 1000000) -implicitDefEqProofs only [e0, e4, hJ, hJs, hJss, hel, hgs, hss, hix, hne, hT.tok.len, hT.tok.at0, hT.tok.atS, hT.tok.set0, hT.tok.setS, hT.tok.get, List.length_set, Int.reduceEq, go_sem, ↓reduceIte, Nat.reduceEqDiff, Nat.reduceBEq, Int.reduceToNat, Nat.reduceAdd, Nat.reduceLT, Nat.reduceLeDiff, reduceCtorEq, Nat.reduceSub]) | ((with_reducible show F _ _ (Cfg.code (SCode.qregion _) _ _ _)); refine F_q2 ?_; simp (maxSteps := 1000000) -implicitDefEqProofs only [e0, e4, hJ, hJs, hJss, hel, hgs, hss, hix, hne, hT.tok.len, hT.tok.at0, hT.tok.atS, hT.tok.set0, hT.tok.setS, hT.tok.get, List.length_set, Int.reduceEq, go_sem, ↓reduceIte, Nat.reduceEqDiff, Nat.reduceBEq, Int.reduceToNat, Nat.reduceAdd, Nat.reduceLT, Nat.reduceLeDiff, reduceCtorEq, Nat.reduceSub]) | ((with_reducible show F _ _ (Cfg.code (SCode.pregion _ _ _ _ _) _ _ _)); refine F_p2 ?_; simp (maxSteps := 1000000) -implicitDefEqProofs only [e0, e4, hJ, hJs, hJss, hel, hgs, hss, hix, hne, hT.tok.len, hT.tok.at0, hT.tok.atS, hT.tok.set0, hT.tok.setS, hT.tok.get, List.length_set, Int.reduceEq, go_sem, ↓reduceIte, Nat.reduceEqDiff, Nat.reduceBEq, Int.reduceToNat, Nat.reduceAdd, Nat.reduceLT, Nat.reduceLeDiff, reduceCtorEq, Nat.reduceSub]) | with_reducible refine Fork.mk (fun _ => ?_) (fun _ => ?_) | with_reducible refine And.intro ?_ ?_ | ((with_reducible show resP _ _ _ _ _); simp (maxSteps := 1000000) -implicitDefEqProofs only [rm18, hT.tok.len, hT.tok.at0, hT.tok.atS, hT.tok.set0, hT.tok.setS, hT.tok.get, push_cast, ↓reduceIte, Nat.reduceEqDiff, reduceCtorEq, Nat.reduceAdd, Nat.reduceLT, Nat.reduceLeDiff]) | (intro _))
  all_goals first
    | (rw [hfin] at hk; exact hk _ _)
    | exact hk _ _
    | omega
set_option maxRecDepth 20000 in
set_option maxHeartbeats 8000000 in
theorem T18u1 (L : List Int) (xs : List St) (a : Nat) (hx : xs ≠ []) (hl : xs.length ≤ 1000000) (ha : a ≤ 600000) (h2 : nxF L (a + 1) 6 = 1) : S18 L xs a := by
  have hl0 : 0 < xs.length := List.length_pos_iff.2 hx
  have hb := nxF_bound (L := L) (a := a) (n := xs.length) (by omega) (by omega)
  have f1 := t16 L a xs.length (by omega)
  have f2 := t16 L (a + 1) 6 (by omega)
  rw [h2] at f2
  generalize nxF L a xs.length = v0 at *
  obtain ⟨i, rfl⟩ : ∃ i : Nat, v0 = i := ⟨v0.toNat, by omega⟩
  have hi : i < xs.length := by omega
  have hel : (xs.map encS).getD i .any = encS (xs.getD i st0) := by simp [List.getD, hi]
  generalize hxi : xs.getD i st0 = x at *
  obtain ⟨k, r, t, vv, l, ⟨ek, en, es, eas⟩, sa, sb, p, ps⟩ := x
  rw [encS_mk] at hel
  have hix : ixP (i : Int) xs.length = True := by simp [ixP]; omega
  have hgs : ∀ y, ((xs.map encS).set i y).getD i .any = y := fun y => by simp [List.getD, hi]
  have hss : ∀ y z, ((xs.map encS).set i y).set i z = (xs.map encS).set i z := fun y z => by simp
  have hne : ¬ ((xs.length : Int) = 0) := by omega
  have f3 := t41 L (a + 2) [r, ⟨#[]⟩, ⟨#[97]⟩, ⟨#[113]⟩, ⟨#[65]⟩] (by omega) (by simp) (by simp)
  simp only [List.map_cons, List.map_nil] at f3
  generalize ([r, ⟨#[]⟩, ⟨#[97]⟩, ⟨#[113]⟩, ⟨#[65]⟩] : List ByteArray).getD _ _ = sf3 at f3
  have f4 := t41 L (a + 3) [t, ⟨#[97]⟩, ⟨#[113]⟩, ⟨#[]⟩] (by omega) (by simp) (by simp)
  simp only [List.map_cons, List.map_nil] at f4
  generalize ([t, ⟨#[97]⟩, ⟨#[113]⟩, ⟨#[]⟩] : List ByteArray).getD _ _ = sf4 at f4
  have hfin : (xs.set i (.mk k sf3 sf4 vv l (.mk ek en es eas) sa sb p ps)).map encS = (xs.map encS).set i (encS (.mk k sf3 sf4 vv l (.mk ek en es eas) sa sb p ps)) := by rw [List.map_set]
  rw [encS_mk] at hfin
  refine ⟨i, (.mk k sf3 sf4 vv l (.mk ek en es eas) sa sb p ps), a + 4, hi, by omega, by omega, ?_, ?_⟩
  · rw [hxi]; simp [wS, wSs, wE, wEs] <;> omega
  rw [T18]
  rw [hfin]
  intro sid N T J j e m kk hT e0 e4 hJ hk
  have hJs : ∀ b, (J.set j b)[j]? = some b := fun b => by simp [(List.getElem?_eq_some_iff.1 hJ).1]
  have hJss : ∀ b c, (J.set j b).set j c = J.set j c := fun b c => by simp
  simp (maxSteps := 1000000) -implicitDefEqProofs only [bm18u964, e0, e4, hJ, hJs, hJss, hel, hgs, hss, hix, hne, hT.tok.len, hT.tok.at0, hT.tok.atS, hT.tok.set0, hT.tok.setS, hT.tok.get, List.length_set, Int.reduceEq, go_sem, ↓reduceIte, Nat.reduceEqDiff, Nat.reduceBEq, Int.reduceToNat, Nat.reduceAdd, Nat.reduceLT, Nat.reduceLeDiff, reduceCtorEq, Nat.reduceSub]
  repeat' (first | ((with_reducible first | refine cgA ((f1.at hT _)) ?_ | refine cgA ((f2.at hT _)) ?_ | refine cgA ((f3.at hT _)) ?_ | refine cgA ((f4.at hT _)) ?_); simp (maxSteps := 1000000) -implicitDefEqProofs only [e0, e4, hJ, hJs, hJss, hel, hgs, hss, hix, hne, hT.tok.len, hT.tok.at0, hT.tok.atS, hT.tok.set0, hT.tok.setS, hT.tok.get, List.length_set, Int.reduceEq, go_sem, ↓reduceIte, Nat.reduceEqDiff, Nat.reduceBEq, Int.reduceToNat, Nat.reduceAdd, Nat.reduceLT, Nat.reduceLeDiff, reduceCtorEq, Nat.reduceSub]) | ((with_reducible show F _ _ (Cfg.code (SCode.qregion _) _ _ _)); refine F_q2 ?_; simp (maxSteps := 1000000) -implicitDefEqProofs only [e0, e4, hJ, hJs, hJss, hel, hgs, hss, hix, hne, hT.tok.len, hT.tok.at0, hT.tok.atS, hT.tok.set0, hT.tok.setS, hT.tok.get, List.length_set, Int.reduceEq, go_sem, ↓reduceIte, Nat.reduceEqDiff, Nat.reduceBEq, Int.reduceToNat, Nat.reduceAdd, Nat.reduceLT, Nat.reduceLeDiff, reduceCtorEq, Nat.reduceSub]) | ((with_reducible show F _ _ (Cfg.code (SCode.pregion _ _ _ _ _) _ _ _)); refine F_p2 ?_; simp (maxSteps := 1000000) -implicitDefEqProofs only [e0, e4, hJ, hJs, hJss, hel, hgs, hss, hix, hne, hT.tok.len, hT.tok.at0, hT.tok.atS, hT.tok.set0, hT.tok.setS, hT.tok.get, List.length_set, Int.reduceEq, go_sem, ↓reduceIte, Nat.reduceEqDiff, Nat.reduceBEq, Int.reduceToNat, Nat.reduceAdd, Nat.reduceLT, Nat.reduceLeDiff, reduceCtorEq, Nat.reduceSub]) | with_reducible refine Fork.mk (fun _ => ?_) (fun _ => ?_) | with_reducible refine And.intro ?_ ?_ | ((with_reducible show resP _ _ _ _ _); simp (maxSteps := 1000000) -implicitDefEqProofs only [rm18, hT.tok.len, hT.tok.at0, hT.tok.atS, hT.tok.set0, hT.tok.setS, hT.tok.get, push_cast, ↓reduceIte, Nat.reduceEqDiff, reduceCtorEq, Nat.reduceAdd, Nat.reduceLT, Nat.reduceLeDiff]) | (intro _))
  all_goals first
    | (rw [hfin] at hk; exact hk _ _)
    | exact hk _ _
    | omega
set_option maxRecDepth 20000 in
set_option maxHeartbeats 8000000 in
theorem T18u2 (L : List Int) (xs : List St) (a : Nat) (hx : xs ≠ []) (hl : xs.length ≤ 1000000) (ha : a ≤ 600000) (h2 : nxF L (a + 1) 6 = 2) : S18 L xs a := by
  have hl0 : 0 < xs.length := List.length_pos_iff.2 hx
  have hb := nxF_bound (L := L) (a := a) (n := xs.length) (by omega) (by omega)
  have f1 := t16 L a xs.length (by omega)
  have f2 := t16 L (a + 1) 6 (by omega)
  rw [h2] at f2
  generalize nxF L a xs.length = v0 at *
  obtain ⟨i, rfl⟩ : ∃ i : Nat, v0 = i := ⟨v0.toNat, by omega⟩
  have hi : i < xs.length := by omega
  have hel : (xs.map encS).getD i .any = encS (xs.getD i st0) := by simp [List.getD, hi]
  generalize hxi : xs.getD i st0 = x at *
  obtain ⟨k, r, t, vv, l, ⟨ek, en, es, eas⟩, sa, sb, p, ps⟩ := x
  rw [encS_mk] at hel
  have hix : ixP (i : Int) xs.length = True := by simp [ixP]; omega
  have hgs : ∀ y, ((xs.map encS).set i y).getD i .any = y := fun y => by simp [List.getD, hi]
  have hss : ∀ y z, ((xs.map encS).set i y).set i z = (xs.map encS).set i z := fun y z => by simp
  have hne : ¬ ((xs.length : Int) = 0) := by omega
  have f3 := t41 L (a + 2) [vv, ⟨#[]⟩, ⟨#[101, 108, 115, 101]⟩] (by omega) (by simp) (by simp)
  simp only [List.map_cons, List.map_nil] at f3
  generalize ([vv, ⟨#[]⟩, ⟨#[101, 108, 115, 101]⟩] : List ByteArray).getD _ _ = sf3 at f3
  have f4 := t41 L (a + 3) [l, ⟨#[121, 101, 115]⟩, ⟨#[]⟩] (by omega) (by simp) (by simp)
  simp only [List.map_cons, List.map_nil] at f4
  generalize ([l, ⟨#[121, 101, 115]⟩, ⟨#[]⟩] : List ByteArray).getD _ _ = sf4 at f4
  have hfin : (xs.set i (.mk k r t sf3 sf4 (.mk ek en es eas) sa sb p ps)).map encS = (xs.map encS).set i (encS (.mk k r t sf3 sf4 (.mk ek en es eas) sa sb p ps)) := by rw [List.map_set]
  rw [encS_mk] at hfin
  refine ⟨i, (.mk k r t sf3 sf4 (.mk ek en es eas) sa sb p ps), a + 4, hi, by omega, by omega, ?_, ?_⟩
  · rw [hxi]; simp [wS, wSs, wE, wEs] <;> omega
  rw [T18]
  rw [hfin]
  intro sid N T J j e m kk hT e0 e4 hJ hk
  have hJs : ∀ b, (J.set j b)[j]? = some b := fun b => by simp [(List.getElem?_eq_some_iff.1 hJ).1]
  have hJss : ∀ b c, (J.set j b).set j c = J.set j c := fun b c => by simp
  simp (maxSteps := 1000000) -implicitDefEqProofs only [bm18u964, e0, e4, hJ, hJs, hJss, hel, hgs, hss, hix, hne, hT.tok.len, hT.tok.at0, hT.tok.atS, hT.tok.set0, hT.tok.setS, hT.tok.get, List.length_set, Int.reduceEq, go_sem, ↓reduceIte, Nat.reduceEqDiff, Nat.reduceBEq, Int.reduceToNat, Nat.reduceAdd, Nat.reduceLT, Nat.reduceLeDiff, reduceCtorEq, Nat.reduceSub]
  repeat' (first | ((with_reducible first | refine cgA ((f1.at hT _)) ?_ | refine cgA ((f2.at hT _)) ?_ | refine cgA ((f3.at hT _)) ?_ | refine cgA ((f4.at hT _)) ?_); simp (maxSteps := 1000000) -implicitDefEqProofs only [e0, e4, hJ, hJs, hJss, hel, hgs, hss, hix, hne, hT.tok.len, hT.tok.at0, hT.tok.atS, hT.tok.set0, hT.tok.setS, hT.tok.get, List.length_set, Int.reduceEq, go_sem, ↓reduceIte, Nat.reduceEqDiff, Nat.reduceBEq, Int.reduceToNat, Nat.reduceAdd, Nat.reduceLT, Nat.reduceLeDiff, reduceCtorEq, Nat.reduceSub]) | ((with_reducible show F _ _ (Cfg.code (SCode.qregion _) _ _ _)); refine F_q2 ?_; simp (maxSteps := 1000000) -implicitDefEqProofs only [e0, e4, hJ, hJs, hJss, hel, hgs, hss, hix, hne, hT.tok.len, hT.tok.at0, hT.tok.atS, hT.tok.set0, hT.tok.setS, hT.tok.get, List.length_set, Int.reduceEq, go_sem, ↓reduceIte, Nat.reduceEqDiff, Nat.reduceBEq, Int.reduceToNat, Nat.reduceAdd, Nat.reduceLT, Nat.reduceLeDiff, reduceCtorEq, Nat.reduceSub]) | ((with_reducible show F _ _ (Cfg.code (SCode.pregion _ _ _ _ _) _ _ _)); refine F_p2 ?_; simp (maxSteps := 1000000) -implicitDefEqProofs only [e0, e4, hJ, hJs, hJss, hel, hgs, hss, hix, hne, hT.tok.len, hT.tok.at0, hT.tok.atS, hT.tok.set0, hT.tok.setS, hT.tok.get, List.length_set, Int.reduceEq, go_sem, ↓reduceIte, Nat.reduceEqDiff, Nat.reduceBEq, Int.reduceToNat, Nat.reduceAdd, Nat.reduceLT, Nat.reduceLeDiff, reduceCtorEq, Nat.reduceSub]) | with_reducible refine Fork.mk (fun _ => ?_) (fun _ => ?_) | with_reducible refine And.intro ?_ ?_ | ((with_reducible show resP _ _ _ _ _); simp (maxSteps := 1000000) -implicitDefEqProofs only [rm18, hT.tok.len, hT.tok.at0, hT.tok.atS, hT.tok.set0, hT.tok.setS, hT.tok.get, push_cast, ↓reduceIte, Nat.reduceEqDiff, reduceCtorEq, Nat.reduceAdd, Nat.reduceLT, Nat.reduceLeDiff]) | (intro _))
  all_goals first
    | (rw [hfin] at hk; exact hk _ _)
    | exact hk _ _
    | omega
set_option maxRecDepth 20000 in
set_option maxHeartbeats 8000000 in
theorem T18u3 (L : List Int) (xs : List St) (a : Nat) (hx : xs ≠ []) (hl : xs.length ≤ 1000000) (ha : a ≤ 600000) (h2 : nxF L (a + 1) 6 = 3) : S18 L xs a := by
  have hl0 : 0 < xs.length := List.length_pos_iff.2 hx
  have hb := nxF_bound (L := L) (a := a) (n := xs.length) (by omega) (by omega)
  have f1 := t16 L a xs.length (by omega)
  have f2 := t16 L (a + 1) 6 (by omega)
  rw [h2] at f2
  generalize nxF L a xs.length = v0 at *
  obtain ⟨i, rfl⟩ : ∃ i : Nat, v0 = i := ⟨v0.toNat, by omega⟩
  have hi : i < xs.length := by omega
  have hel : (xs.map encS).getD i .any = encS (xs.getD i st0) := by simp [List.getD, hi]
  generalize hxi : xs.getD i st0 = x at *
  obtain ⟨k, r, t, vv, l, ⟨ek, en, es, eas⟩, sa, sb, p, ps⟩ := x
  rw [encS_mk] at hel
  have hix : ixP (i : Int) xs.length = True := by simp [ixP]; omega
  have hgs : ∀ y, ((xs.map encS).set i y).getD i .any = y := fun y => by simp [List.getD, hi]
  have hss : ∀ y z, ((xs.map encS).set i y).set i z = (xs.map encS).set i z := fun y z => by simp
  have hne : ¬ ((xs.length : Int) = 0) := by omega
  obtain ⟨v1, f3⟩ := t48 L (a + 2) 1 9 (by omega) (by omega) (by omega) (by omega)
  obtain ⟨v2, f4⟩ := t48 L (a + 4) 0 999 (by omega) (by omega) (by omega) (by omega)
  have f5 := t41 L (a + 6) [⟨#[]⟩, ⟨#[120]⟩] (by omega) (by simp) (by simp)
  simp only [List.map_cons, List.map_nil] at f5
  generalize ([⟨#[]⟩, ⟨#[120]⟩] : List ByteArray).getD _ _ = sf5 at f5
  have hfin : (xs.set i (.mk k r t vv l (.mk v1 v2 sf5 []) sa sb p ps)).map encS = (xs.map encS).set i (encS (.mk k r t vv l (.mk v1 v2 sf5 []) sa sb p ps)) := by rw [List.map_set]
  rw [encS_mk] at hfin
  refine ⟨i, (.mk k r t vv l (.mk v1 v2 sf5 []) sa sb p ps), a + 7, hi, by omega, by omega, ?_, ?_⟩
  · rw [hxi]; simp [wS, wSs, wE, wEs] <;> omega
  rw [T18]
  rw [hfin]
  intro sid N T J j e m kk hT e0 e4 hJ hk
  have hJs : ∀ b, (J.set j b)[j]? = some b := fun b => by simp [(List.getElem?_eq_some_iff.1 hJ).1]
  have hJss : ∀ b c, (J.set j b).set j c = J.set j c := fun b c => by simp
  simp (maxSteps := 1000000) -implicitDefEqProofs only [bm18u964, e0, e4, hJ, hJs, hJss, hel, hgs, hss, hix, hne, hT.tok.len, hT.tok.at0, hT.tok.atS, hT.tok.set0, hT.tok.setS, hT.tok.get, List.length_set, Int.reduceEq, go_sem, ↓reduceIte, Nat.reduceEqDiff, Nat.reduceBEq, Int.reduceToNat, Nat.reduceAdd, Nat.reduceLT, Nat.reduceLeDiff, reduceCtorEq, Nat.reduceSub]
  repeat' (first | ((with_reducible first | refine cgA ((f1.at hT _)) ?_ | refine cgA ((f2.at hT _)) ?_ | refine cgA ((f3.at hT _)) ?_ | refine cgA ((f4.at hT _)) ?_ | refine cgA ((f5.at hT _)) ?_); simp (maxSteps := 1000000) -implicitDefEqProofs only [e0, e4, hJ, hJs, hJss, hel, hgs, hss, hix, hne, hT.tok.len, hT.tok.at0, hT.tok.atS, hT.tok.set0, hT.tok.setS, hT.tok.get, List.length_set, Int.reduceEq, go_sem, ↓reduceIte, Nat.reduceEqDiff, Nat.reduceBEq, Int.reduceToNat, Nat.reduceAdd, Nat.reduceLT, Nat.reduceLeDiff, reduceCtorEq, Nat.reduceSub]) | ((with_reducible show F _ _ (Cfg.code (SCode.qregion _) _ _ _)); refine F_q2 ?_; simp (maxSteps := 1000000) -implicitDefEqProofs only [e0, e4, hJ, hJs, hJss, hel, hgs, hss, hix, hne, hT.tok.len, hT.tok.at0, hT.tok.atS, hT.tok.set0, hT.tok.setS, hT.tok.get, List.length_set, Int.reduceEq, go_sem, ↓reduceIte, Nat.reduceEqDiff, Nat.reduceBEq, Int.reduceToNat, Nat.reduceAdd, Nat.reduceLT, Nat.reduceLeDiff, reduceCtorEq, Nat.reduceSub]) | ((with_reducible show F _ _ (Cfg.code (SCode.pregion _ _ _ _ _) _ _ _)); refine F_p2 ?_; simp (maxSteps := 1000000) -implicitDefEqProofs only [e0, e4, hJ, hJs, hJss, hel, hgs, hss, hix, hne, hT.tok.len, hT.tok.at0, hT.tok.atS, hT.tok.set0, hT.tok.setS, hT.tok.get, List.length_set, Int.reduceEq, go_sem, ↓reduceIte, Nat.reduceEqDiff, Nat.reduceBEq, Int.reduceToNat, Nat.reduceAdd, Nat.reduceLT, Nat.reduceLeDiff, reduceCtorEq, Nat.reduceSub]) | with_reducible refine Fork.mk (fun _ => ?_) (fun _ => ?_) | with_reducible refine And.intro ?_ ?_ | ((with_reducible show resP _ _ _ _ _); simp (maxSteps := 1000000) -implicitDefEqProofs only [rm18, hT.tok.len, hT.tok.at0, hT.tok.atS, hT.tok.set0, hT.tok.setS, hT.tok.get, push_cast, ↓reduceIte, Nat.reduceEqDiff, reduceCtorEq, Nat.reduceAdd, Nat.reduceLT, Nat.reduceLeDiff]) | (intro _))
  all_goals first
    | (rw [hfin] at hk; exact hk _ _)
    | exact hk _ _
    | omega
set_option maxRecDepth 20000 in
set_option maxHeartbeats 8000000 in
theorem T18u4 (L : List Int) (xs : List St) (a : Nat) (hx : xs ≠ []) (hl : xs.length ≤ 1000000) (ha : a ≤ 600000) (h2 : nxF L (a + 1) 6 = 4) : S18 L xs a := by
  have hl0 : 0 < xs.length := List.length_pos_iff.2 hx
  have hb := nxF_bound (L := L) (a := a) (n := xs.length) (by omega) (by omega)
  have f1 := t16 L a xs.length (by omega)
  have f2 := t16 L (a + 1) 6 (by omega)
  rw [h2] at f2
  generalize nxF L a xs.length = v0 at *
  obtain ⟨i, rfl⟩ : ∃ i : Nat, v0 = i := ⟨v0.toNat, by omega⟩
  have hi : i < xs.length := by omega
  have hel : (xs.map encS).getD i .any = encS (xs.getD i st0) := by simp [List.getD, hi]
  generalize hxi : xs.getD i st0 = x at *
  obtain ⟨k, r, t, vv, l, ⟨ek, en, es, eas⟩, sa, sb, p, ps⟩ := x
  rw [encS_mk] at hel
  have hix : ixP (i : Int) xs.length = True := by simp [ixP]; omega
  have hgs : ∀ y, ((xs.map encS).set i y).getD i .any = y := fun y => by simp [List.getD, hi]
  have hss : ∀ y z, ((xs.map encS).set i y).set i z = (xs.map encS).set i z := fun y z => by simp
  have hne : ¬ ((xs.length : Int) = 0) := by omega
  have f3 := t41 L (a + 2) [p, ⟨#[122, 122]⟩, ⟨#[102]⟩, ⟨#[]⟩] (by omega) (by simp) (by simp)
  simp only [List.map_cons, List.map_nil] at f3
  generalize ([p, ⟨#[122, 122]⟩, ⟨#[102]⟩, ⟨#[]⟩] : List ByteArray).getD _ _ = sf3 at f3
  have hb4 := nxF_bound (L := L) (a := a + 3) (n := 5) (by omega) (by omega)
  have f4 := t16 L (a + 3) 5 (by omega)
  generalize nxF L (a + 3) 5 = w0 at *
  obtain ⟨w, rfl⟩ : ∃ w : Nat, w0 = w := ⟨w0.toNat, by omega⟩
  have hw : ixP (w : Int) 5 = True := by simp [ixP]; omega
  have hop := opts_at w (by omega)
  have hol : (opts[w]?.getD []).length ≤ 2 := by
    have : w = 0 ∨ w = 1 ∨ w = 2 ∨ w = 3 ∨ w = 4 := by omega
    rcases this with rfl | rfl | rfl | rfl | rfl <;> decide
  have hfin : (xs.set i (.mk k r t vv l (.mk ek en es eas) sa sb sf3 (opts.getD w []))).map encS = (xs.map encS).set i (encS (.mk k r t vv l (.mk ek en es eas) sa sb sf3 (opts.getD w []))) := by rw [List.map_set]
  rw [encS_mk] at hfin
  refine ⟨i, (.mk k r t vv l (.mk ek en es eas) sa sb sf3 (opts.getD w [])), a + 4, hi, by omega, by omega, ?_, ?_⟩
  · rw [hxi]; simp [wS, wSs, wE, wEs] <;> omega
  rw [T18]
  rw [hfin]
  intro sid N T J j e m kk hT e0 e4 hJ hk
  have hJs : ∀ b, (J.set j b)[j]? = some b := fun b => by simp [(List.getElem?_eq_some_iff.1 hJ).1]
  have hJss : ∀ b c, (J.set j b).set j c = J.set j c := fun b c => by simp
  simp (maxSteps := 1000000) -implicitDefEqProofs only [bm18u964, e0, e4, hJ, hJs, hJss, hel, hgs, hss, hix, hne, hT.tok.len, hT.tok.at0, hT.tok.atS, hT.tok.set0, hT.tok.setS, hT.tok.get, List.length_set, Int.reduceEq, go_sem, ↓reduceIte, Nat.reduceEqDiff, Nat.reduceBEq, Int.reduceToNat, Nat.reduceAdd, Nat.reduceLT, Nat.reduceLeDiff, reduceCtorEq, Nat.reduceSub]
  repeat' (first | ((with_reducible first | refine cgA ((f1.at hT _)) ?_ | refine cgA ((f2.at hT _)) ?_ | refine cgA ((f3.at hT _)) ?_ | refine cgA ((f4.at hT _)) ?_); simp (maxSteps := 1000000) -implicitDefEqProofs only [e0, e4, hJ, hJs, hJss, hel, hgs, hss, hix, hne, hT.tok.len, hT.tok.at0, hT.tok.atS, hT.tok.set0, hT.tok.setS, hT.tok.get, List.length_set, Int.reduceEq, hw, hop, go_sem, ↓reduceIte, Nat.reduceEqDiff, Nat.reduceBEq, Int.reduceToNat, Nat.reduceAdd, Nat.reduceLT, Nat.reduceLeDiff, reduceCtorEq, Nat.reduceSub]) | ((with_reducible show F _ _ (Cfg.code (SCode.qregion _) _ _ _)); refine F_q2 ?_; simp (maxSteps := 1000000) -implicitDefEqProofs only [e0, e4, hJ, hJs, hJss, hel, hgs, hss, hix, hne, hT.tok.len, hT.tok.at0, hT.tok.atS, hT.tok.set0, hT.tok.setS, hT.tok.get, List.length_set, Int.reduceEq, hw, hop, go_sem, ↓reduceIte, Nat.reduceEqDiff, Nat.reduceBEq, Int.reduceToNat, Nat.reduceAdd, Nat.reduceLT, Nat.reduceLeDiff, reduceCtorEq, Nat.reduceSub]) | ((with_reducible show F _ _ (Cfg.code (SCode.pregion _ _ _ _ _) _ _ _)); refine F_p2 ?_; simp (maxSteps := 1000000) -implicitDefEqProofs only [e0, e4, hJ, hJs, hJss, hel, hgs, hss, hix, hne, hT.tok.len, hT.tok.at0, hT.tok.atS, hT.tok.set0, hT.tok.setS, hT.tok.get, List.length_set, Int.reduceEq, hw, hop, go_sem, ↓reduceIte, Nat.reduceEqDiff, Nat.reduceBEq, Int.reduceToNat, Nat.reduceAdd, Nat.reduceLT, Nat.reduceLeDiff, reduceCtorEq, Nat.reduceSub]) | with_reducible refine Fork.mk (fun _ => ?_) (fun _ => ?_) | with_reducible refine And.intro ?_ ?_ | ((with_reducible show resP _ _ _ _ _); simp (maxSteps := 1000000) -implicitDefEqProofs only [rm18, hT.tok.len, hT.tok.at0, hT.tok.atS, hT.tok.set0, hT.tok.setS, hT.tok.get, push_cast, ↓reduceIte, Nat.reduceEqDiff, reduceCtorEq, Nat.reduceAdd, Nat.reduceLT, Nat.reduceLeDiff]) | (intro _))
  all_goals first
    | (rw [hfin] at hk; exact hk _ _)
    | exact hk _ _
    | omega
set_option maxRecDepth 20000 in
set_option maxHeartbeats 8000000 in
theorem T18u5 (L : List Int) (xs : List St) (a : Nat) (hx : xs ≠ []) (hl : xs.length ≤ 1000000) (ha : a ≤ 600000) (h2 : nxF L (a + 1) 6 = 5) : S18 L xs a := by
  have hl0 : 0 < xs.length := List.length_pos_iff.2 hx
  have hb := nxF_bound (L := L) (a := a) (n := xs.length) (by omega) (by omega)
  have f1 := t16 L a xs.length (by omega)
  have f2 := t16 L (a + 1) 6 (by omega)
  rw [h2] at f2
  generalize nxF L a xs.length = v0 at *
  obtain ⟨i, rfl⟩ : ∃ i : Nat, v0 = i := ⟨v0.toNat, by omega⟩
  have hi : i < xs.length := by omega
  have hel : (xs.map encS).getD i .any = encS (xs.getD i st0) := by simp [List.getD, hi]
  have hel2 : (xs.map encS)[i]? = some (encS (xs.getD i st0)) := by simp [List.getD, hi]
  generalize hxi : xs.getD i st0 = x at *
  have hix : ixP (i : Int) xs.length = True := by simp [ixP]; omega
  have hgs : ∀ y, ((xs.map encS).set i y).getD i .any = y := fun y => by simp [List.getD, hi]
  have hss : ∀ y z, ((xs.map encS).set i y).set i z = (xs.map encS).set i z := fun y z => by simp
  have hne : ¬ ((xs.length : Int) = 0) := by omega
  have hb3 := nxF_bound (L := L) (a := a + 2) (n := 3) (by omega) (by omega)
  have f3 := t39 L (a + 2) (-1) 1 (by omega) (by omega) (by omega) (by omega)
  rw [show (1 : Int) - -1 + 1 = 3 by omega] at f3
  generalize nxF L (a + 2) 3 = w0 at *
  obtain ⟨M, hM⟩ : ∃ M : Nat, (20 : Int) + (-1 + w0) = M := ⟨(19 + w0).toNat, by omega⟩
  have hM2 : M ≤ 21 := by omega
  have hw : IntKind.i64.wrap (20 + (-1 + w0)) = (M : Int) := by rw [hM]; exact wrap_int (by omega) (by omega)
  obtain ⟨f, hf⟩ : ∃ f : Nat → ByteArray, ∀ kk, f kk = ([⟨#[97]⟩, ⟨#[113]⟩] : List ByteArray).getD (nxF L (a + (3 + kk)) 2).toNat ⟨#[]⟩ := ⟨fun kk => _, fun kk => rfl⟩
  refine ⟨i, nst f x M, a + (3 + M), hi, by omega, by omega, ?_, ?_⟩
  · rw [hxi, nst_w]; omega
  rw [T18]
  intro sid N T J j e m kk hT e0 e4 hJ hk
  have hJl := (List.getElem?_eq_some_iff.1 hJ).1
  have hJs : ∀ b, (J.set j b)[j]? = some b := fun b => by simp [hJl]
  have hJss : ∀ b c, (J.set j b).set j c = J.set j c := fun b c => by simp
  have hsame : J.set j (.row ((xs.map encS).set i (encS x))) = J := by
    rw [show (xs.map encS).set i (encS x) = xs.map encS from ?_]
    · apply List.ext_getElem?
      intro q
      rw [List.getElem?_set]
      split
      · rename_i h; subst h; exact hJ.symm
      · rfl
    · apply List.ext_getElem?
      intro q
      rw [List.getElem?_set]
      split
      · rename_i h; subst h; rw [hel2]; simp [hi]
      · rfl
  have hloop : ∀ (e : Env) (m : Nat) (k : Kont), e 0 = .ptr sid 0 0 → e 6 = .ptr (N + j) i 0 → e 77 = .int .i64 M → e 78 = .int .i64 0 →
      (∀ p e', F Tryz.prog (p + 3) (.app k (.exit 1) e' (T (a + (3 + M)) ++ J.set j (.row ((xs.map encS).set i (encS (nst f x M))))))) → F Tryz.prog (m + 100) (.code (.loop bm18u0) e (T (a + 3) ++ J) k) := by
    intro e m k e0 e6 e77 e78 hk
    refine F_loop (fun q e H => ∃ q', q = M - q' ∧ q' ≤ M ∧ e 0 = .ptr sid 0 0 ∧ e 6 = .ptr (N + j) i 0 ∧ e 77 = .int .i64 M ∧ e 78 = .int .i64 q' ∧ H = T (a + (3 + q')) ++ J.set j (.row ((xs.map encS).set i (encS (nst f x q'))))) M ?_ ?_
    · exact ⟨0, rfl, Nat.zero_le _, e0, e6, e77, e78, by rw [nst, hsame]⟩
    · rintro q e H ⟨q', rfl, hq, e0, e6, e77, e78, rfl⟩
      by_cases hqM : q' = M
      · subst hqM
        have hlt : ¬ ((q' : Int) < q') := by omega
        simp (maxSteps := 1000000) -implicitDefEqProofs only [bm18u0, e0, e6, e77, e78, hlt, go_sem, ↓reduceIte, Nat.reduceEqDiff, Nat.reduceBEq, Int.reduceToNat, Nat.reduceAdd, Nat.reduceLT, Nat.reduceLeDiff, reduceCtorEq, Nat.reduceSub]
        exact hk _ _
      · have hlt : ((q' : Int) < M) := by omega
        have hw2 : IntKind.i64.wrap ((q' : Int) + 1) = ((q' + 1 : Nat) : Int) := wrap_succ (by omega)
        have h41 := t41 L (a + (3 + q')) [⟨#[97]⟩, ⟨#[113]⟩] (by omega) (by decide) (by decide)
        simp only [List.map_cons, List.map_nil, List.length_cons, List.length_nil, Nat.zero_add, Nat.reduceAdd] at h41
        have hf' := hf q'
        change _ = List.getD _ _ _ at hf'
        rw [show (((2 : Nat) : Int)) = 2 from rfl, ← hf'] at h41
        have hn : encS (nst f x (q' + 1)) = .agg [.int .i64 4, .str (f q'), .str ⟨#[]⟩, .str ⟨#[]⟩, .str ⟨#[]⟩, .int .i64 1, .int .i64 0, .str ⟨#[]⟩, .fs [], .fs [encS (nst f x q')], .fs [], .str ⟨#[]⟩, .fs []] := by
          simp only [nst, encS_mk, em, List.map_cons, List.map_nil]
        generalize hy : nst f x q' = y at *
        obtain ⟨yk, yr, yt, yv, yl, ⟨ek, en, es, eas⟩, sa, sb, p, ps⟩ := y
        rw [encS_mk] at hn ⊢
        simp (maxSteps := 1000000) -implicitDefEqProofs only [bm18u0, e0, e6, e77, e78, hlt, hT.tok.len, hT.tok.at0, hT.tok.atS, hT.tok.set0, hT.tok.setS, hT.tok.get, hJs, hJss, hgs, hss, hix, hi, List.length_set, go_sem, ↓reduceIte, Nat.reduceEqDiff, Nat.reduceBEq, Int.reduceToNat, Nat.reduceAdd, Nat.reduceLT, Nat.reduceLeDiff, reduceCtorEq, Nat.reduceSub]
        repeat' (first | ((with_reducible first | refine cgA ((h41.at hT _)) ?_); simp (maxSteps := 1000000) -implicitDefEqProofs only [e0, e6, e77, e78, hlt, hT.tok.len, hT.tok.at0, hT.tok.atS, hT.tok.set0, hT.tok.setS, hT.tok.get, hJs, hJss, hgs, hss, hix, hi, List.length_set, hw2, go_sem, ↓reduceIte, Nat.reduceEqDiff, Nat.reduceBEq, Int.reduceToNat, Nat.reduceAdd, Nat.reduceLT, Nat.reduceLeDiff, reduceCtorEq, Nat.reduceSub]) | ((with_reducible show F _ _ (Cfg.code (SCode.qregion _) _ _ _)); refine F_q2 ?_; simp (maxSteps := 1000000) -implicitDefEqProofs only [e0, e6, e77, e78, hlt, hT.tok.len, hT.tok.at0, hT.tok.atS, hT.tok.set0, hT.tok.setS, hT.tok.get, hJs, hJss, hgs, hss, hix, hi, List.length_set, hw2, go_sem, ↓reduceIte, Nat.reduceEqDiff, Nat.reduceBEq, Int.reduceToNat, Nat.reduceAdd, Nat.reduceLT, Nat.reduceLeDiff, reduceCtorEq, Nat.reduceSub]) | ((with_reducible show F _ _ (Cfg.code (SCode.pregion _ _ _ _ _) _ _ _)); refine F_p2 ?_; simp (maxSteps := 1000000) -implicitDefEqProofs only [e0, e6, e77, e78, hlt, hT.tok.len, hT.tok.at0, hT.tok.atS, hT.tok.set0, hT.tok.setS, hT.tok.get, hJs, hJss, hgs, hss, hix, hi, List.length_set, hw2, go_sem, ↓reduceIte, Nat.reduceEqDiff, Nat.reduceBEq, Int.reduceToNat, Nat.reduceAdd, Nat.reduceLT, Nat.reduceLeDiff, reduceCtorEq, Nat.reduceSub]) | with_reducible refine Fork.mk (fun _ => ?_) (fun _ => ?_) | with_reducible refine And.intro ?_ ?_ | ((with_reducible show resP _ _ _ _ _); simp (maxSteps := 1000000) -implicitDefEqProofs only [rm18, hT.tok.len, hT.tok.at0, hT.tok.atS, hT.tok.set0, hT.tok.setS, hT.tok.get, push_cast, ↓reduceIte, Nat.reduceEqDiff, reduceCtorEq, Nat.reduceAdd, Nat.reduceLT, Nat.reduceLeDiff]) | (intro _))
        all_goals first
          | omega
          | exact ⟨M - (q' + 1), by omega, q' + 1, rfl, by omega, rfl, by rw [hn]⟩
  simp (maxSteps := 1000000) -implicitDefEqProofs only [bm18u964, e0, e4, hJ, hJs, hJss, hel, hgs, hss, hix, hne, hT.tok.len, hT.tok.at0, hT.tok.atS, hT.tok.set0, hT.tok.setS, hT.tok.get, List.length_set, Int.reduceEq, Nat.le_refl, go_sem, ↓reduceIte, Nat.reduceEqDiff, Nat.reduceBEq, Int.reduceToNat, Nat.reduceAdd, Nat.reduceLT, Nat.reduceLeDiff, reduceCtorEq, Nat.reduceSub]
  repeat' (first | ((with_reducible first | refine cgA ((f1.at hT _)) ?_ | refine cgA ((f2.at hT _)) ?_ | refine cgA ((f3.at hT _)) ?_); simp (maxSteps := 1000000) -implicitDefEqProofs only [e0, e4, hJ, hJs, hJss, hel, hgs, hss, hix, hne, hT.tok.len, hT.tok.at0, hT.tok.atS, hT.tok.set0, hT.tok.setS, hT.tok.get, List.length_set, Int.reduceEq, hw, Nat.le_refl, go_sem, ↓reduceIte, Nat.reduceEqDiff, Nat.reduceBEq, Int.reduceToNat, Nat.reduceAdd, Nat.reduceLT, Nat.reduceLeDiff, reduceCtorEq, Nat.reduceSub]) | ((with_reducible show F _ _ (Cfg.code (SCode.qregion _) _ _ _)); refine F_q2 ?_; simp (maxSteps := 1000000) -implicitDefEqProofs only [e0, e4, hJ, hJs, hJss, hel, hgs, hss, hix, hne, hT.tok.len, hT.tok.at0, hT.tok.atS, hT.tok.set0, hT.tok.setS, hT.tok.get, List.length_set, Int.reduceEq, hw, Nat.le_refl, go_sem, ↓reduceIte, Nat.reduceEqDiff, Nat.reduceBEq, Int.reduceToNat, Nat.reduceAdd, Nat.reduceLT, Nat.reduceLeDiff, reduceCtorEq, Nat.reduceSub]) | ((with_reducible show F _ _ (Cfg.code (SCode.pregion _ _ _ _ _) _ _ _)); refine F_p2 ?_; simp (maxSteps := 1000000) -implicitDefEqProofs only [e0, e4, hJ, hJs, hJss, hel, hgs, hss, hix, hne, hT.tok.len, hT.tok.at0, hT.tok.atS, hT.tok.set0, hT.tok.setS, hT.tok.get, List.length_set, Int.reduceEq, hw, Nat.le_refl, go_sem, ↓reduceIte, Nat.reduceEqDiff, Nat.reduceBEq, Int.reduceToNat, Nat.reduceAdd, Nat.reduceLT, Nat.reduceLeDiff, reduceCtorEq, Nat.reduceSub]) | with_reducible refine Fork.mk (fun _ => ?_) (fun _ => ?_) | with_reducible refine And.intro ?_ ?_ | ((with_reducible show resP _ _ _ _ _); simp (maxSteps := 1000000) -implicitDefEqProofs only [rm18, hT.tok.len, hT.tok.at0, hT.tok.atS, hT.tok.set0, hT.tok.setS, hT.tok.get, push_cast, ↓reduceIte, Nat.reduceEqDiff, reduceCtorEq, Nat.reduceAdd, Nat.reduceLT, Nat.reduceLeDiff]) | (intro _))
  all_goals first
    | omega
    | (obtain ⟨k, r, t, vv, l, ⟨ek, en, es, eas⟩, sa, sb, p, ps⟩ := x; rw [encS_mk]; rfl)
    | (refine hloop _ _ _ (by simp [upd, e0]) (by simp [upd]) (by simp [upd]) (by simp [upd]) (fun p e' => ?_)
       simp (maxSteps := 1000000) -implicitDefEqProofs only [go_sem, ↓reduceIte, Nat.reduceEqDiff, Nat.reduceBEq, Int.reduceToNat, Nat.reduceAdd, Nat.reduceLT, Nat.reduceLeDiff, reduceCtorEq, Nat.reduceSub]
       rw [List.map_set] at hk
       exact hk _ _)
    | skip
  all_goals refine hloop _ _ _ (by simp [upd, e0]) (by simp [upd]) (by simp [upd]) (by simp [upd]) (fun p e' => ?_)
  all_goals simp (maxSteps := 1000000) -implicitDefEqProofs only [go_sem, ↓reduceIte, Nat.reduceEqDiff, Nat.reduceBEq, Int.reduceToNat, Nat.reduceAdd, Nat.reduceLT, Nat.reduceLeDiff, reduceCtorEq, Nat.reduceSub]
  all_goals (rw [List.map_set] at hk; exact hk _ _)
def zw1 (q : Pr) (kv : V) : V := .agg [.str q.name, .fs (q.roles.map .str), kv]
def zw (ps : List Pr) (kvs : List V) : List V := List.zipWith zw1 ps kvs
structure PSt (H : List Blk) (idp : Nat) (P : Pla) (kvP kvS : V) (kvs : List V) : Prop where
  cell : H[idp]? = some (.row [.agg [kvP, kvS]])
  ovP : OV H kvP (zw P.procs kvs)
  ovS : OV H kvS (P.main.map encS)
  len : kvs.length = P.procs.length
  ovs : ∀ (i : Nat) q kv, P.procs[i]? = some q → kvs[i]? = some kv → OV H kv (q.steps.map encS)
def dj (kv kv' : V) : Prop := ∀ id, kvne kv id ∨ kvne kv' id
theorem dj.ne {kv kv' : V} {id o n : Nat} (h : dj kv kv') (hk : kv = .ms id o n) : kvne kv' id := by
  rcases h id with h1 | h1
  · exact absurd hk (h1 _ _)
  · exact h1
theorem dj.ne' {kv kv' : V} {id o n : Nat} (h : dj kv' kv) (hk : kv = .ms id o n) : kvne kv' id := by
  rcases h id with h1 | h1
  · exact h1
  · exact absurd hk (h1 _ _)
structure Sep (idp N : Nat) (kvP kvS : V) (kvs : List V) : Prop where
  pw : List.Pairwise dj (kvP :: kvS :: kvs)
  ge : ∀ kv ∈ kvP :: kvS :: kvs, ∀ i, i < N → kvne kv i
  ne : ∀ kv ∈ kvP :: kvS :: kvs, kvne kv idp
theorem OV.setne {H : List Blk} {kv : V} {acc : List V} (h : OV H kv acc) {id : Nat} {b : Blk} (hk : kvne kv id) : OV (H.set id b) kv acc := by
  rcases h with h | ⟨h1, id', h2, h3⟩
  · exact .inl h
  · refine .inr ⟨h1, id', h2, ?_⟩
    rw [List.getElem?_set]
    split
    · rename_i e; subst e; exact absurd h2 (hk _ _)
    · exact h3
theorem OV.seteq {H : List Blk} {kv : V} {acc acc' : List V} (h : OV H kv acc) {id o n : Nat} (hk : kv = .ms id o n) (hl : acc'.length = acc.length) : OV (H.set id (.row acc')) kv acc' := by
  rcases h with ⟨_, h⟩ | ⟨h1, id', h2, h3⟩
  · rw [h] at hk; cases hk
  · have e := h2.symm.trans hk
    injection e with e1 e2 e3
    subst e1
    refine .inr ⟨fun hh => h1 ?_, id', by rw [h2, hl], ?_⟩
    · rw [hh] at hl; exact List.length_eq_zero_iff.1 hl.symm
    · rw [List.getElem?_set, if_pos rfl, if_pos (List.getElem?_eq_some_iff.1 h3).1]
theorem mem_of {i : Nat} {kv kvP kvS : V} {kvs : List V} (h : kvs[i]? = some kv) : kv ∈ kvP :: kvS :: kvs := by
  simp [List.mem_of_getElem? h]
theorem Sep.pS {idp N : Nat} {kvP kvS : V} {kvs : List V} (h : Sep idp N kvP kvS kvs) : dj kvP kvS := (List.pairwise_cons.1 h.pw).1 _ (by simp)
theorem Sep.pk {idp N : Nat} {kvP kvS : V} {kvs : List V} (h : Sep idp N kvP kvS kvs) {i : Nat} {kv : V} (hi : kvs[i]? = some kv) : dj kvP kv := (List.pairwise_cons.1 h.pw).1 _ (by simp [List.mem_of_getElem? hi])
theorem Sep.sk {idp N : Nat} {kvP kvS : V} {kvs : List V} (h : Sep idp N kvP kvS kvs) {i : Nat} {kv : V} (hi : kvs[i]? = some kv) : dj kvS kv := (List.pairwise_cons.1 (List.pairwise_cons.1 h.pw).2).1 _ (List.mem_of_getElem? hi)
theorem Sep.kk {idp N : Nat} {kvP kvS : V} {kvs : List V} (h : Sep idp N kvP kvS kvs) {i j : Nat} {kv kv' : V} (hi : kvs[i]? = some kv) (hj : kvs[j]? = some kv') (hne : i ≠ j) : ∀ id, kvne kv id ∨ kvne kv' id := by
  have hp := List.pairwise_iff_getElem.1 (List.pairwise_cons.1 (List.pairwise_cons.1 h.pw).2).2
  obtain ⟨h1, rfl⟩ := List.getElem?_eq_some_iff.1 hi
  obtain ⟨h2, rfl⟩ := List.getElem?_eq_some_iff.1 hj
  intro id
  rcases Nat.lt_or_gt_of_ne hne with hl | hl
  · exact hp i j h1 h2 hl id
  · exact (hp j i h2 h1 hl id).symm
theorem PSt.setS {H : List Blk} {idp N : Nat} {P : Pla} {kvP kvS : V} {kvs : List V} (h : PSt H idp P kvP kvS kvs) (hs : Sep idp N kvP kvS kvs) {id o n : Nat} (hk : kvS = .ms id o n) (ys : List St) (hl : ys.length = P.main.length) :
    PSt (H.set id (.row (ys.map encS))) idp ⟨P.procs, ys⟩ kvP kvS kvs where
  cell := by
    rw [List.getElem?_set, if_neg]
    · exact h.cell
    · rintro rfl; exact hs.ne kvS (by simp) _ _ hk
  ovP := h.ovP.setne (hs.pS.ne' hk)
  ovS := h.ovS.seteq hk (by simp [hl])
  len := h.len
  ovs i q kv h1 h2 := (h.ovs i q kv h1 h2).setne ((hs.sk h2).ne hk)
theorem zw_set {ps : List Pr} {kvs : List V} {i : Nat} {q : Pr} {kv : V} (hk : kvs[i]? = some kv) : zw (ps.set i q) kvs = (zw ps kvs).set i (zw1 q kv) := by
  apply List.ext_getElem?
  intro j
  simp only [zw, List.getElem?_zipWith, List.getElem?_set, List.length_zipWith]
  by_cases hij : i = j
  · subst hij
    have hkl := (List.getElem?_eq_some_iff.1 hk).1
    by_cases hl : i < ps.length
    · simp [hk, hl, hkl]
      exact ⟨by omega, by rw [(List.getElem?_eq_some_iff.1 hk).2]⟩
    · simp [hl]
      omega
  · simp [hij]
theorem zw_same {ps : List Pr} {kvs : List V} {i : Nat} {q q' : Pr} (hq : ps[i]? = some q) (h1 : q'.name = q.name) (h2 : q'.roles = q.roles) : zw (ps.set i q') kvs = zw ps kvs := by
  apply List.ext_getElem?
  intro j
  simp only [zw, List.getElem?_zipWith, List.getElem?_set]
  by_cases hij : i = j
  · subst hij
    have hl := (List.getElem?_eq_some_iff.1 hq).1
    simp only [if_true, hl, hq]
    cases kvs[i]? <;> simp [zw1, h1, h2]
  · simp [hij]
theorem PSt.setQ {H : List Blk} {idp N : Nat} {P : Pla} {kvP kvS : V} {kvs : List V} (h : PSt H idp P kvP kvS kvs) (hs : Sep idp N kvP kvS kvs) {at_ : Nat} {q : Pr} (hq : P.procs[at_]? = some q) {kv : V} (hkv : kvs[at_]? = some kv)
    {id o n : Nat} (hk : kv = .ms id o n) (ys : List St) (hl : ys.length = q.steps.length) :
    PSt (H.set id (.row (ys.map encS))) idp ⟨P.procs.set at_ ⟨q.name, q.roles, ys⟩, P.main⟩ kvP kvS kvs where
  cell := by
    rw [List.getElem?_set, if_neg]
    · exact h.cell
    · rintro rfl; exact hs.ne kv (mem_of hkv) _ _ hk
  ovP := by
    show OV _ _ (zw (P.procs.set at_ ⟨q.name, q.roles, ys⟩) kvs)
    rw [zw_same (q' := ⟨q.name, q.roles, ys⟩) hq rfl rfl]
    exact h.ovP.setne ((hs.pk hkv).ne' hk)
  ovS := h.ovS.setne ((hs.sk hkv).ne' hk)
  len := by simp [h.len]
  ovs i q2 kv2 h1 h2 := by
    simp only [List.getElem?_set] at h1
    by_cases hi : at_ = i
    · subst hi
      rw [if_pos rfl, if_pos (List.getElem?_eq_some_iff.1 hq).1] at h1
      cases h1
      rw [hkv] at h2; cases h2
      exact (h.ovs _ _ _ hq hkv).seteq hk (by simp [hl])
    · rw [if_neg hi] at h1
      refine (h.ovs i q2 kv2 h1 h2).setne ?_
      rcases hs.kk hkv h2 hi id with h3 | h3
      · exact absurd hk (h3 _ _)
      · exact h3
theorem PSt.setN {H : List Blk} {idp N : Nat} {P : Pla} {kvP kvS : V} {kvs : List V} (h : PSt H idp P kvP kvS kvs) (hs : Sep idp N kvP kvS kvs) {at_ : Nat} {q : Pr} (hq : P.procs[at_]? = some q) {kv : V} (hkv : kvs[at_]? = some kv)
    {id o n : Nat} (hk : kvP = .ms id o n) (nm : ByteArray) (rs : List ByteArray) :
    PSt (H.set id (.row ((zw P.procs kvs).set at_ (zw1 ⟨nm, rs, q.steps⟩ kv)))) idp ⟨P.procs.set at_ ⟨nm, rs, q.steps⟩, P.main⟩ kvP kvS kvs where
  cell := by
    rw [List.getElem?_set, if_neg]
    · exact h.cell
    · rintro rfl; exact hs.ne kvP (by simp) _ _ hk
  ovP := by
    show OV _ _ (zw (P.procs.set at_ ⟨nm, rs, q.steps⟩) kvs)
    rw [zw_set hkv]
    exact h.ovP.seteq hk (by simp)
  ovS := h.ovS.setne (hs.pS.ne hk)
  len := by simp [h.len]
  ovs i q2 kv2 h1 h2 := by
    refine OV.setne ?_ ((hs.pk h2).ne hk)
    simp only [List.getElem?_set] at h1
    by_cases hi : at_ = i
    · subst hi
      rw [if_pos rfl, if_pos (List.getElem?_eq_some_iff.1 hq).1] at h1
      cases h1
      exact h.ovs at_ q kv2 hq h2
    · rw [if_neg hi] at h1
      exact h.ovs i q2 kv2 h1 h2
theorem PSt.tail {A B X : List Blk} {N j : Nat} {P : Pla} {kvP kvS : V} {kvs : List V} (h : PSt (A ++ X) (N + j) P kvP kvS kvs) (hs : Sep (N + j) N kvP kvS kvs) (hA : A.length = N) (hB : B.length = N) : PSt (B ++ X) (N + j) P kvP kvS kvs where
  cell := by
    have := h.cell
    rw [List.getElem?_append_right (by omega), hA] at this
    rw [List.getElem?_append_right (by omega), hB]; exact this
  ovP := h.ovP.tail hA (hs.ge kvP (by simp)) hB
  ovS := h.ovS.tail hA (hs.ge kvS (by simp)) hB
  len := h.len
  ovs i q kv h1 h2 := (h.ovs i q kv h1 h2).tail hA (hs.ge kv (mem_of h2)) hB
theorem PSt.fzP {H : List Blk} {idp : Nat} {P : Pla} {kvP kvS : V} {kvs : List V} (h : PSt H idp P kvP kvS kvs) : fz H 20 (.agg [kvP, kvS]) = some (encPl P) := by
  have h1 : fz H 19 kvS = some (.fs (P.main.map encS)) := fz_OV (f := encS) (n := 17) (fun H x => fz_encS H 16 x) h.ovS
  have h2 : fz H 19 kvP = some (.fs (P.procs.map encP)) := by
    have key : fzL (fz H 18) (zw P.procs kvs) = some (P.procs.map encP) := by
      have : ∀ (ps : List Pr) (ks : List V), ks.length = ps.length → (∀ (i : Nat) q kv, ps[i]? = some q → ks[i]? = some kv → OV H kv (q.steps.map encS)) → fzL (fz H 18) (zw ps ks) = some (ps.map encP) := by
        intro ps
        induction ps with
        | nil => intro ks _ _; simp [zw, fzL_nil]
        | cons q ps ih =>
          intro ks hl ho
          cases ks with
          | nil => simp at hl
          | cons kv ks =>
            have h3 := ho 0 q kv rfl rfl
            have h4 : fz H 17 kv = some (.fs (q.steps.map encS)) := fz_OV (f := encS) (n := 15) (fun H x => fz_encS H 14 x) h3
            have h5 := ih ks (by simpa using hl) (fun i q kv h1 h2 => ho (i + 1) q kv h1 h2)
            show fzL (fz H 18) (zw1 q kv :: zw ps ks) = _
            have h6 : fz H 18 (zw1 q kv) = some (encP q) := by
              unfold zw1 encP
              simp (maxSteps := 1000000) -implicitDefEqProofs only [h4, push_cast, ↓reduceIte, Nat.reduceEqDiff, reduceCtorEq, Nat.reduceAdd, Nat.reduceLT, Nat.reduceLeDiff]
            rw [fzL_cons, h6, h5]
            rfl
      exact this _ _ h.len h.ovs
    rcases h.ovP with ⟨h3, rfl⟩ | ⟨_, id, rfl, hid⟩
    · rw [fz_nils]
      rw [h3, fzL_nil] at key
      have : P.procs.map encP = [] := by simpa using key.symm
      rw [this]
    · rw [fz_ms, hid, fzM_row, if_pos (by simp), List.drop_zero, List.take_of_length_le (by simp), key]
      rfl
  show fz H (19 + 1) _ = _
  rw [fz_agg, fzL_cons, fzL_cons, fzL_nil, h2, h1]
  rfl
theorem t18any (L : List Int) (xs : List St) (a : Nat) (hx : xs ≠ []) (hl : xs.length ≤ 1000000) (ha : a ≤ 600000) : S18 L xs a := by
  have hb := nxF_bound (L := L) (a := a + 1) (n := 6) (by omega) (by omega)
  have : nxF L (a + 1) 6 = 0 ∨ nxF L (a + 1) 6 = 1 ∨ nxF L (a + 1) 6 = 2 ∨ nxF L (a + 1) 6 = 3 ∨ nxF L (a + 1) 6 = 4 ∨ nxF L (a + 1) 6 = 5 := by omega
  rcases this with h | h | h | h | h | h
  · exact T18u0 L xs a hx hl ha h
  · exact T18u1 L xs a hx hl ha h
  · exact T18u2 L xs a hx hl ha h
  · exact T18u3 L xs a hx hl ha h
  · exact T18u4 L xs a hx hl ha h
  · exact T18u5 L xs a hx hl ha h
theorem t18nil {e : Env} {H : List Blk} {k : Kont} {m : Nat} (e4 : e 4 = .nils) (hk : ∀ p e', F Tryz.prog (p + 1) (.app k .ret e' H)) : F Tryz.prog (m + 300) (.code bm18u964 e H k) := by
  simp (maxSteps := 1000000) -implicitDefEqProofs only [bm18u964, e4, Int.reduceEq, go_sem, ↓reduceIte, Nat.reduceEqDiff, Nat.reduceBEq, Int.reduceToNat, Nat.reduceAdd, Nat.reduceLT, Nat.reduceLeDiff, reduceCtorEq, Nat.reduceSub]
  all_goals exact hk _ _
theorem len_wSs : ∀ l : List St, l.length ≤ wSs l
  | [] => Nat.zero_le _
  | .mk _ _ _ _ _ e a b _ ps :: l => by have := len_wSs l; simp only [wSs, wS, List.length_cons]; omega
theorem wSs_set : ∀ (xs : List St) (i : Nat) (x' : St) (c : Nat), i < xs.length → wS x' ≤ wS (xs.getD i st0) + c → wSs (xs.set i x') ≤ wSs xs + c
  | [], i, _, _, h, _ => by simp at h
  | x :: xs, 0, x', c, _, h => by simp [wSs] at h ⊢; omega
  | x :: xs, i + 1, x', c, hl, h => by
    have := wSs_set xs i x' c (by simpa using hl) (by simpa using h)
    simp [wSs]; omega
theorem wPs_set : ∀ (xs : List Pr) (i : Nat) (q q' : Pr) (c : Nat), xs[i]? = some q → q'.roles.length + wSs q'.steps ≤ q.roles.length + wSs q.steps + c → wPs (xs.set i q') ≤ wPs xs + c
  | [], i, _, _, _, h, _ => by simp at h
  | x :: xs, 0, q, q', c, h0, h => by simp at h0; subst h0; simp [wPs]; omega
  | x :: xs, i + 1, q, q', c, hl, h => by
    have := wPs_set xs i q q' c (by simpa using hl) h
    simp [wPs]; omega
def R18 (L : List Int) (P : Pla) (a : Nat) (P' : Pla) (a' : Nat) : Prop :=
  ∀ sid N T, MS L sid N T → ∀ J jp kvP kvS kvs, PSt (T a ++ J) (N + jp) P kvP kvS kvs → Sep (N + jp) N kvP kvS kvs →
    ACall Tryz.prog 18 [.ptr sid 0 0, .ptr (N + jp) 0 0] (T a ++ J) (fun r H' => r = .tup [] ∧ ∃ J', H' = T a' ++ J' ∧ PSt (T a' ++ J') (N + jp) P' kvP kvS kvs ∧ ∀ i, (∀ kv ∈ kvP :: kvS :: kvs, kvne kv (N + i)) → J'[i]? = J[i]?)
theorem ms_of {A J : List Blk} {N : Nat} {kv : V} {acc : List V} (h : OV (A ++ J) kv acc) (hA : A.length = N) (hk : ∀ i, i < N → kvne kv i) : (acc = [] ∧ kv = .nils) ∨ (acc ≠ [] ∧ ∃ j, kv = .ms (N + j) 0 acc.length ∧ J[j]? = some (.row acc)) := by
  rcases h with h | ⟨h1, id, h2, h3⟩
  · exact .inl h
  · have hid : ¬ id < N := fun hl => hk id hl 0 _ h2
    refine .inr ⟨h1, id - N, by rw [h2]; congr 1; omega, ?_⟩
    rw [List.getElem?_append_right (by omega), hA] at h3; exact h3
theorem zw_len {ps : List Pr} {kvs : List V} (h : kvs.length = ps.length) : (zw ps kvs).length = ps.length := by simp [zw, h]
set_option maxRecDepth 20000 in
set_option maxHeartbeats 8000000 in
theorem t18main (L : List Int) (P : Pla) (a aT : Nat) (ha : aT ≤ 600000) (hw : wPl P ≤ 900000)
    (hc : (P.procs = [] ∧ aT = a) ∨ (P.procs ≠ [] ∧ decide (nxF L a 2 = 0) = false ∧ aT = a + 1)) : ∃ P' a', a ≤ a' ∧ a' ≤ a + 100 ∧ wPl P' ≤ wPl P + 200 ∧ P'.procs.length = P.procs.length ∧ R18 L P a P' a' := by
  have hf14 := t14 L a 2 (by omega)
  have hml : P.main.length ≤ 900000 := by have := len_wSs P.main; simp only [wPl] at hw; omega
  have walk : ∀ (sid N : Nat) (T : Nat → List Blk), MS L sid N T → ∀ (J : List Blk) (jp : Nat) (kvP kvS : V) (kvs : List V), PSt (T a ++ J) (N + jp) P kvP kvS kvs → Sep (N + jp) N kvP kvS kvs → ∀ (K : V → List Blk → Prop),
      (∀ (e : Env) (m : Nat), e 0 = .ptr sid 0 0 → e 4 = kvS → F Tryz.prog (m + 500) (.code bm18u964 e (T aT ++ J) (.post fun x e H => (x = .normal ∨ x = .ret) ∧ resP Tryz.prog rm18 e H fun v => K v H))) → ACall Tryz.prog 18 [.ptr sid 0 0, .ptr (N + jp) 0 0] (T a ++ J) K := by
    intro sid N T hT J jp kvP kvS kvs hP hS K hK
    have hcell := hP.cell
    rw [hT.tok.atS] at hcell
    have hone := hP.ovS.vone
    simp only [V.one] at hone
    have hc1 := hP.ovS.one
    refine ACall.intro cm18 600 (by simp) ?_
    rcases hc with ⟨hp, rfl⟩ | ⟨hp, h2, rfl⟩
    · have hkP : kvP = .nils := by
        rcases hP.ovP with ⟨_, h⟩ | ⟨h, _⟩
        · exact h
        · exact absurd (by simp [zw, hp]) h
      subst hkP
      simp (maxSteps := 1000000) -implicitDefEqProofs only [sm18, hcell, hT.tok.len, hT.tok.at0, hT.tok.atS, hT.tok.set0, hT.tok.setS, hT.tok.get, Int.reduceLT, hone, hc1, go_sem, ↓reduceIte, Nat.reduceEqDiff, Nat.reduceBEq, Int.reduceToNat, Nat.reduceAdd, Nat.reduceLT, Nat.reduceLeDiff, reduceCtorEq, Nat.reduceSub]
      exact hK _ _ (by simp [upd, env0]) (by simp [upd])
    · rw [h2] at hf14
      have hzl := zw_len hP.len
      rcases hP.ovP with ⟨h, _⟩ | ⟨_, id, rfl, hid⟩
      · exact absurd (List.length_eq_zero_iff.1 (by rw [← hzl, h]; rfl)) hp
      · have hpos : (0 : Int) < P.procs.length := by have := List.length_pos_iff.2 hp; omega
        simp (maxSteps := 1000000) -implicitDefEqProofs only [sm18, hcell, hT.tok.len, hT.tok.at0, hT.tok.atS, hT.tok.set0, hT.tok.setS, hT.tok.get, hpos, hone, hc1, hzl, go_sem, ↓reduceIte, Nat.reduceEqDiff, Nat.reduceBEq, Int.reduceToNat, Nat.reduceAdd, Nat.reduceLT, Nat.reduceLeDiff, reduceCtorEq, Nat.reduceSub]
        repeat' (first | ((with_reducible first | refine cgA ((hf14.at hT _)) ?_); simp (maxSteps := 1000000) -implicitDefEqProofs only [hcell, hT.tok.len, hT.tok.at0, hT.tok.atS, hT.tok.set0, hT.tok.setS, hT.tok.get, hpos, hone, hc1, hzl, go_sem, ↓reduceIte, Nat.reduceEqDiff, Nat.reduceBEq, Int.reduceToNat, Nat.reduceAdd, Nat.reduceLT, Nat.reduceLeDiff, reduceCtorEq, Nat.reduceSub]) | ((with_reducible show F _ _ (Cfg.code (SCode.qregion _) _ _ _)); refine F_q2 ?_; simp (maxSteps := 1000000) -implicitDefEqProofs only [hcell, hT.tok.len, hT.tok.at0, hT.tok.atS, hT.tok.set0, hT.tok.setS, hT.tok.get, hpos, hone, hc1, hzl, go_sem, ↓reduceIte, Nat.reduceEqDiff, Nat.reduceBEq, Int.reduceToNat, Nat.reduceAdd, Nat.reduceLT, Nat.reduceLeDiff, reduceCtorEq, Nat.reduceSub]) | ((with_reducible show F _ _ (Cfg.code (SCode.pregion _ _ _ _ _) _ _ _)); refine F_p2 ?_; simp (maxSteps := 1000000) -implicitDefEqProofs only [hcell, hT.tok.len, hT.tok.at0, hT.tok.atS, hT.tok.set0, hT.tok.setS, hT.tok.get, hpos, hone, hc1, hzl, go_sem, ↓reduceIte, Nat.reduceEqDiff, Nat.reduceBEq, Int.reduceToNat, Nat.reduceAdd, Nat.reduceLT, Nat.reduceLeDiff, reduceCtorEq, Nat.reduceSub]) | with_reducible refine Fork.mk (fun _ => ?_) (fun _ => ?_) | with_reducible refine And.intro ?_ ?_ | ((with_reducible show resP _ _ _ _ _); simp (maxSteps := 1000000) -implicitDefEqProofs only [rm18, hT.tok.len, hT.tok.at0, hT.tok.atS, hT.tok.set0, hT.tok.setS, hT.tok.get, push_cast, ↓reduceIte, Nat.reduceEqDiff, reduceCtorEq, Nat.reduceAdd, Nat.reduceLT, Nat.reduceLeDiff]) | (intro _))
        all_goals exact hK _ _ (by simp [upd, env0]) (by simp [upd])
  by_cases hm : P.main = []
  · refine ⟨P, aT, by omega, by omega, by omega, rfl, ?_⟩
    intro sid N T hT J jp kvP kvS kvs hP hS
    refine walk sid N T hT J jp kvP kvS kvs hP hS _ (fun e m e0 e4 => ?_)
    have hkS : kvS = .nils := by
      rcases hP.ovS with ⟨_, h⟩ | ⟨h, _⟩
      · exact h
      · exact absurd (by simp [hm]) h
    subst hkS
    refine t18nil e4 (fun p e' => ?_)
    simp (maxSteps := 1000000) -implicitDefEqProofs only [go_sem, ↓reduceIte, Nat.reduceEqDiff, Nat.reduceBEq, Int.reduceToNat, Nat.reduceAdd, Nat.reduceLT, Nat.reduceLeDiff, reduceCtorEq, Nat.reduceSub]
    simp (maxSteps := 1000000) -implicitDefEqProofs only [rm18, push_cast, ↓reduceIte, Nat.reduceEqDiff, reduceCtorEq, Nat.reduceAdd, Nat.reduceLT, Nat.reduceLeDiff]
    exact ⟨J, rfl, hP.tail hS (hT.tok.len _) (hT.tok.len _), fun _ _ => rfl⟩
  · obtain ⟨i, x', a', hi, h1, h2, h3, h4⟩ := t18any L P.main aT hm (by omega) ha
    refine ⟨⟨P.procs, P.main.set i x'⟩, a', by omega, by omega, ?_, rfl, ?_⟩
    · have := wSs_set P.main i x' 100 hi h3
      simp only [wPl] at hw ⊢; omega
    intro sid N T hT J jp kvP kvS kvs hP hS
    refine walk sid N T hT J jp kvP kvS kvs hP hS _ (fun e m e0 e4 => ?_)
    rcases ms_of hP.ovS (hT.tok.len _) (hS.ge kvS (by simp)) with ⟨h, _⟩ | ⟨_, j, hk, hJ⟩
    · exact absurd (by simpa using h) hm
    · rw [hk, List.length_map] at e4
      refine h4 sid N T J j e (m + 200) _ hT e0 e4 hJ (fun p e' => ?_)
      simp (maxSteps := 1000000) -implicitDefEqProofs only [go_sem, ↓reduceIte, Nat.reduceEqDiff, Nat.reduceBEq, Int.reduceToNat, Nat.reduceAdd, Nat.reduceLT, Nat.reduceLeDiff, reduceCtorEq, Nat.reduceSub]
      simp (maxSteps := 1000000) -implicitDefEqProofs only [rm18, push_cast, ↓reduceIte, Nat.reduceEqDiff, reduceCtorEq, Nat.reduceAdd, Nat.reduceLT, Nat.reduceLeDiff]
      refine ⟨_, rfl, ?_⟩
      have hq := hP.setS hS hk (P.main.set i x') (by simp)
      rw [hT.tok.setS] at hq
      exact ⟨hq.tail hS (hT.tok.len _) (hT.tok.len _), fun i hi => List.getElem?_set_ne (fun h => by subst h; exact hi kvS (by simp) _ _ hk)⟩
end Go.Proofs.YteoboibjepokoaaGreatDoor.Av
