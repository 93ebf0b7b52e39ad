/- Proved: for every list of numbers the law PlaysChecked answers true and leaves its argument as it was (the tied card); no condition beyond the row's own. Text 7 of 14. -/
import Derived.Test.YteoboibjepokoaaGreatDoorW6
set_option linter.unusedVariables false
set_option linter.unusedSimpArgs false
set_option linter.unusedSectionVars false
set_option linter.all false
namespace Go.Proofs.YteoboibjepokoaaGreatDoor.Av
open Go.RowKit
def us (a b c d e f g : Bool) : V := .agg [.bool a, .bool b, .bool c, .bool d, .bool e, .bool f, .bool g]
def uz (k : Int) : V := if k = 1 then us true true true false true false false else if k = 2 then us true true false true false false false
  else if k = 3 then us true false true false true false false else if k = 4 then us true false false false true true false else us false false false false false false true
theorem t89 (k : Int) : PCall Tryz.prog 89 [.int .i64 k] (· = uz k) := by
  refine PCall.intro c89 200 (by simp) 20 ?_
  simp (maxSteps := 1000000) -implicitDefEqProofs only [s89, go_sem, ↓reduceIte, Nat.reduceEqDiff, Nat.reduceBEq, Int.reduceToNat, Nat.reduceAdd, Nat.reduceLT, Nat.reduceLeDiff, reduceCtorEq, Nat.reduceSub]
  repeat' (first | ((with_reducible show F _ _ (Cfg.code (SCode.qregion _) _ _ _)); refine F_q2 ?_; simp (maxSteps := 1000000) -implicitDefEqProofs only [go_sem, ↓reduceIte, Nat.reduceEqDiff, Nat.reduceBEq, Int.reduceToNat, Nat.reduceAdd, Nat.reduceLT, Nat.reduceLeDiff, reduceCtorEq, Nat.reduceSub]) | ((with_reducible show F _ _ (Cfg.code (SCode.pregion _ _ _ _ _) _ _ _)); refine F_p2 ?_; simp (maxSteps := 1000000) -implicitDefEqProofs only [go_sem, ↓reduceIte, Nat.reduceEqDiff, Nat.reduceBEq, Int.reduceToNat, Nat.reduceAdd, Nat.reduceLT, Nat.reduceLeDiff, reduceCtorEq, Nat.reduceSub]) | with_reducible refine Fork.mk (fun _ => ?_) (fun _ => ?_) | with_reducible refine And.intro ?_ ?_ | ((with_reducible show resP _ _ _ _ _); simp (maxSteps := 1000000) -implicitDefEqProofs only [r89, push_cast, ↓reduceIte, Nat.reduceEqDiff, reduceCtorEq, Nat.reduceAdd, Nat.reduceLT, Nat.reduceLeDiff]) | (intro _))
  all_goals (simp_all [uz, us])
def isNone (k n : Int) (s : ByteArray) (xs : List Ex) : Bool := decide (k = 0) && decide (n = 0) && decide (s = ⟨#[]⟩) && decide (xs.length = 0)
theorem t103z (k n : Int) (s : ByteArray) (xs : List Ex) : PCall Tryz.prog 103 [encE (.mk k n s xs), .agg [.int .i64 0, .int .i64 0, .str ⟨#[]⟩, .fs []]] (· = .bool (isNone k n s xs)) := by
  refine PCall.intro c103 200 (by simp) 20 ?_
  simp (maxSteps := 1000000) -implicitDefEqProofs only [s103, encE_mk, go_sem, ↓reduceIte, Nat.reduceEqDiff, Nat.reduceBEq, Int.reduceToNat, Nat.reduceAdd, Nat.reduceLT, Nat.reduceLeDiff, reduceCtorEq, Nat.reduceSub]
  repeat' (first | ((with_reducible show F _ _ (Cfg.code (SCode.qregion _) _ _ _)); refine F_q2 ?_; simp (maxSteps := 1000000) -implicitDefEqProofs only [go_sem, ↓reduceIte, Nat.reduceEqDiff, Nat.reduceBEq, Int.reduceToNat, Nat.reduceAdd, Nat.reduceLT, Nat.reduceLeDiff, reduceCtorEq, Nat.reduceSub]) | ((with_reducible show F _ _ (Cfg.code (SCode.pregion _ _ _ _ _) _ _ _)); refine F_p2 ?_; simp (maxSteps := 1000000) -implicitDefEqProofs only [go_sem, ↓reduceIte, Nat.reduceEqDiff, Nat.reduceBEq, Int.reduceToNat, Nat.reduceAdd, Nat.reduceLT, Nat.reduceLeDiff, reduceCtorEq, Nat.reduceSub]) | with_reducible refine Fork.mk (fun _ => ?_) (fun _ => ?_) | with_reducible refine And.intro ?_ ?_ | ((with_reducible show resP _ _ _ _ _); simp (maxSteps := 1000000) -implicitDefEqProofs only [r103, push_cast, ↓reduceIte, Nat.reduceEqDiff, reduceCtorEq, Nat.reduceAdd, Nat.reduceLT, Nat.reduceLeDiff]) | (intro _))
  all_goals first
    | ((with_reducible show F _ _ _)
       have hx : xs = [] := by
         rename_i hx _
         cases xs with
         | nil => rfl
         | cons a l => simp at hx; omega
       have hR : isNone k n s xs = true := by simp_all [isNone]
       refine F_loop (fun m e H => e 37 = .int .i64 0 ∧ e 38 = .int .i64 0) 0 (by simp [upd, env0, hx]) ?_
       rintro m e H ⟨h1, h2⟩
       simp (maxSteps := 1000000) -implicitDefEqProofs only [h1, h2, Int.lt_irrefl, go_sem, ↓reduceIte, Nat.reduceEqDiff, Nat.reduceBEq, Int.reduceToNat, Nat.reduceAdd, Nat.reduceLT, Nat.reduceLeDiff, reduceCtorEq, Nat.reduceSub]
       simp (maxSteps := 1000000) -implicitDefEqProofs only [r103, push_cast, ↓reduceIte, Nat.reduceEqDiff, reduceCtorEq, Nat.reduceAdd, Nat.reduceLT, Nat.reduceLeDiff]
       exact hR.symm)
    | (simp_all [isNone]; done)
    | (simp_all [isNone]; omega)
theorem t91 (k : Int) (r t v l : ByteArray) (e : Ex) (a b : List St) (p : ByteArray) (ps : List ByteArray) :
    PCall Tryz.prog 91 [encS (.mk k r t v l e a b p ps)] (· = .int .i64 (if k ≠ 5 then 0 else if ps.length = 0 then 8 else if ps.length > 12 then 2 else if ps.any (fun s => !isNm s) then 5 else 0)) := by
  rcases e with ⟨ek, en, es, eas⟩
  refine PCall.intro c91 200 (by simp) 20 ?_
  simp (maxSteps := 1000000) -implicitDefEqProofs only [s91, encS_mk, go_sem, ↓reduceIte, Nat.reduceEqDiff, Nat.reduceBEq, Int.reduceToNat, Nat.reduceAdd, Nat.reduceLT, Nat.reduceLeDiff, reduceCtorEq, Nat.reduceSub]
  have h26 := t26 ps 106 [] [] (fun s => !isNm s) rfl rfl (fun x _ => t106 x)
  repeat' (first | ((with_reducible first | refine cgR h26 ?_ ?_); (focus (simp [norefL, noref, norefL_app, norefL_str, norefL_int, norefL_encE, norefL_encS, norefL_encP, noref_encE, noref_encS, noref_encP, noref_encPl]; done)); simp (maxSteps := 1000000) -implicitDefEqProofs only [go_sem, ↓reduceIte, Nat.reduceEqDiff, Nat.reduceBEq, Int.reduceToNat, Nat.reduceAdd, Nat.reduceLT, Nat.reduceLeDiff, reduceCtorEq, Nat.reduceSub]) | ((with_reducible apply cgF); (focus ((simp (maxSteps := 1000000) -implicitDefEqProofs only [List.map_cons, List.map_nil, push_cast, ↓reduceIte, Nat.reduceEqDiff, reduceCtorEq, Nat.reduceAdd, Nat.reduceLT, Nat.reduceLeDiff] <;> rfl); done)); (with_reducible first | exact h26); (focus (rfl; done)); simp (maxSteps := 1000000) -implicitDefEqProofs only [go_sem, ↓reduceIte, Nat.reduceEqDiff, Nat.reduceBEq, Int.reduceToNat, Nat.reduceAdd, Nat.reduceLT, Nat.reduceLeDiff, reduceCtorEq, Nat.reduceSub]) | ((with_reducible show F _ _ (Cfg.code (SCode.qregion _) _ _ _)); refine F_q2 ?_; simp (maxSteps := 1000000) -implicitDefEqProofs only [go_sem, ↓reduceIte, Nat.reduceEqDiff, Nat.reduceBEq, Int.reduceToNat, Nat.reduceAdd, Nat.reduceLT, Nat.reduceLeDiff, reduceCtorEq, Nat.reduceSub]) | ((with_reducible show F _ _ (Cfg.code (SCode.pregion _ _ _ _ _) _ _ _)); refine F_p2 ?_; simp (maxSteps := 1000000) -implicitDefEqProofs only [go_sem, ↓reduceIte, Nat.reduceEqDiff, Nat.reduceBEq, Int.reduceToNat, Nat.reduceAdd, Nat.reduceLT, Nat.reduceLeDiff, reduceCtorEq, Nat.reduceSub]) | with_reducible refine Fork.mk (fun _ => ?_) (fun _ => ?_) | with_reducible refine And.intro ?_ ?_ | ((with_reducible show resP _ _ _ _ _); simp (maxSteps := 1000000) -implicitDefEqProofs only [r91, push_cast, ↓reduceIte, Nat.reduceEqDiff, reduceCtorEq, Nat.reduceAdd, Nat.reduceLT, Nat.reduceLeDiff]) | (intro _))
  all_goals clear h26
  all_goals (generalize (ps.any fun s => !isNm s) = B at *; generalize ps.length = n at *)
  all_goals (try simp_all)
  all_goals (try omega)
def nE (s : ByteArray) : Bool := !decide (s = ⟨#[]⟩)
def foF (k : Int) (r t v l : ByteArray) (none : Bool) (a b : Nat) (p : ByteArray) (ps : Nat) : Int :=
  if ((k < 1 ∨ 4 < k) ∧ nE r = true) ∨ ((k < 1 ∨ 2 < k) ∧ nE t = true) ∨ ((k ≠ 1 ∧ k ≠ 3) ∧ nE v = true) ∨ (k ≠ 2 ∧ nE l = true) ∨ ((k ≠ 1 ∧ k ≠ 3 ∧ k ≠ 4) ∧ none = false) ∨ (k ≠ 4 ∧ a + b > 0) ∨ ((1 ≤ k ∧ k ≤ 4) ∧ (nE p = true ∨ ps > 0)) then 3 else 0
theorem wrap_add {m n : Nat} (h : m + n ≤ 1000000) : IntKind.i64.wrap ((m : Int) + (n : Int)) = ((m + n : Nat) : Int) := by
  simp [IntKind.wrap, IntKind.signed, IntKind.bits]; omega
set_option maxRecDepth 20000 in
theorem t87 (k : Int) (hk : 1 ≤ k ∧ k ≤ 5) (r t v l : ByteArray) (ek en : Int) (es : ByteArray) (eas : List Ex) (a b : List St) (p : ByteArray) (ps : List ByteArray) (hab : a.length + b.length ≤ 1000000) :
    PCall Tryz.prog 87 [encS (.mk k r t v l (.mk ek en es eas) a b p ps)] (· = .int .i64 (foF k r t v l (isNone ek en es eas) a.length b.length p ps.length)) := by
  have h103 := t103z ek en es eas
  rw [encE_mk] at h103
  have h89 := t89 k
  have hk : k = 1 ∨ k = 2 ∨ k = 3 ∨ k = 4 ∨ k = 5 := by omega
  refine PCall.intro c87 400 (by simp) 20 ?_
  rcases hk with rfl | rfl | rfl | rfl | rfl
  all_goals
    simp (config := { decide := true }) only [uz, us, if_true, if_false, ↓reduceIte] at h89
    simp (maxSteps := 1000000) -implicitDefEqProofs only [s87, encS_mk, wrap_add hab, go_sem, ↓reduceIte, Nat.reduceEqDiff, Nat.reduceBEq, Int.reduceToNat, Nat.reduceAdd, Nat.reduceLT, Nat.reduceLeDiff, reduceCtorEq, Nat.reduceSub]
    repeat' (first | ((with_reducible first | refine cgR h89 ?_ ?_ | refine cgR h103 ?_ ?_); (focus (simp [norefL, noref, norefL_app, norefL_str, norefL_int, norefL_encE, norefL_encS, norefL_encP, noref_encE, noref_encS, noref_encP, noref_encPl]; done)); simp (maxSteps := 1000000) -implicitDefEqProofs only [wrap_add hab, go_sem, ↓reduceIte, Nat.reduceEqDiff, Nat.reduceBEq, Int.reduceToNat, Nat.reduceAdd, Nat.reduceLT, Nat.reduceLeDiff, reduceCtorEq, Nat.reduceSub]) | ((with_reducible apply cgF); (focus ((simp (maxSteps := 1000000) -implicitDefEqProofs only [List.map_cons, List.map_nil, push_cast, ↓reduceIte, Nat.reduceEqDiff, reduceCtorEq, Nat.reduceAdd, Nat.reduceLT, Nat.reduceLeDiff] <;> rfl); done)); (with_reducible first | exact h89 | exact h103); (focus (rfl; done)); simp (maxSteps := 1000000) -implicitDefEqProofs only [wrap_add hab, go_sem, ↓reduceIte, Nat.reduceEqDiff, Nat.reduceBEq, Int.reduceToNat, Nat.reduceAdd, Nat.reduceLT, Nat.reduceLeDiff, reduceCtorEq, Nat.reduceSub]) | ((with_reducible show F _ _ (Cfg.code (SCode.qregion _) _ _ _)); refine F_q2 ?_; simp (maxSteps := 1000000) -implicitDefEqProofs only [wrap_add hab, go_sem, ↓reduceIte, Nat.reduceEqDiff, Nat.reduceBEq, Int.reduceToNat, Nat.reduceAdd, Nat.reduceLT, Nat.reduceLeDiff, reduceCtorEq, Nat.reduceSub]) | ((with_reducible show F _ _ (Cfg.code (SCode.pregion _ _ _ _ _) _ _ _)); refine F_p2 ?_; simp (maxSteps := 1000000) -implicitDefEqProofs only [wrap_add hab, go_sem, ↓reduceIte, Nat.reduceEqDiff, Nat.reduceBEq, Int.reduceToNat, Nat.reduceAdd, Nat.reduceLT, Nat.reduceLeDiff, reduceCtorEq, Nat.reduceSub]) | with_reducible refine Fork.mk (fun _ => ?_) (fun _ => ?_) | with_reducible refine And.intro ?_ ?_ | ((with_reducible show resP _ _ _ _ _); simp (maxSteps := 1000000) -implicitDefEqProofs only [r87, push_cast, ↓reduceIte, Nat.reduceEqDiff, reduceCtorEq, Nat.reduceAdd, Nat.reduceLT, Nat.reduceLeDiff]) | (intro _))
  all_goals clear h103 h89
  all_goals (generalize isNone ek en es eas = Z at *; generalize a.length = m at *; generalize b.length = n at *; generalize ps.length = q at *)
  all_goals (first | (simp_all [foF, nE]; done) | (simp_all [foF, nE]; omega))
def naF (k : Int) (r t v l p : ByteArray) : Int :=
  if ((1 ≤ k ∧ k ≤ 4) ∧ isNm r = false) ∨ ((k = 1 ∨ k = 2) ∧ isNm t = false) ∨ ((k = 1 ∨ k = 3) ∧ isNm v = false) ∨ (k = 2 ∧ isNm l = false) ∨ ((k < 1 ∨ 4 < k) ∧ isNm p = false) then 5 else 0
set_option maxRecDepth 20000 in
theorem t88 (k : Int) (hk : 1 ≤ k ∧ k ≤ 5) (r t v l : ByteArray) (ek en : Int) (es : ByteArray) (eas : List Ex) (a b : List St) (p : ByteArray) (ps : List ByteArray) :
    PCall Tryz.prog 88 [encS (.mk k r t v l (.mk ek en es eas) a b p ps)] (· = .int .i64 (naF k r t v l p)) := by
  have h89 := t89 k
  have hk : k = 1 ∨ k = 2 ∨ k = 3 ∨ k = 4 ∨ k = 5 := by omega
  refine PCall.intro c88 400 (by simp) 20 ?_
  rcases hk with rfl | rfl | rfl | rfl | rfl
  all_goals
    simp (config := { decide := true }) only [uz, us, if_true, if_false, ↓reduceIte] at h89
    simp (maxSteps := 1000000) -implicitDefEqProofs only [s88, encS_mk, go_sem, ↓reduceIte, Nat.reduceEqDiff, Nat.reduceBEq, Int.reduceToNat, Nat.reduceAdd, Nat.reduceLT, Nat.reduceLeDiff, reduceCtorEq, Nat.reduceSub]
    repeat' (first | ((with_reducible first | refine cgR h89 ?_ ?_ | refine cgR (t104 _ _) ?_ ?_); (focus (simp [norefL, noref, norefL_app, norefL_str, norefL_int, norefL_encE, norefL_encS, norefL_encP, noref_encE, noref_encS, noref_encP, noref_encPl]; done)); simp (maxSteps := 1000000) -implicitDefEqProofs only [go_sem, ↓reduceIte, Nat.reduceEqDiff, Nat.reduceBEq, Int.reduceToNat, Nat.reduceAdd, Nat.reduceLT, Nat.reduceLeDiff, reduceCtorEq, Nat.reduceSub]) | ((with_reducible apply cgF); (focus ((simp (maxSteps := 1000000) -implicitDefEqProofs only [List.map_cons, List.map_nil, push_cast, ↓reduceIte, Nat.reduceEqDiff, reduceCtorEq, Nat.reduceAdd, Nat.reduceLT, Nat.reduceLeDiff] <;> rfl); done)); (with_reducible first | exact h89 | exact (t104 _ _)); (focus (rfl; done)); simp (maxSteps := 1000000) -implicitDefEqProofs only [go_sem, ↓reduceIte, Nat.reduceEqDiff, Nat.reduceBEq, Int.reduceToNat, Nat.reduceAdd, Nat.reduceLT, Nat.reduceLeDiff, reduceCtorEq, Nat.reduceSub]) | ((with_reducible show F _ _ (Cfg.code (SCode.qregion _) _ _ _)); refine F_q2 ?_; simp (maxSteps := 1000000) -implicitDefEqProofs only [go_sem, ↓reduceIte, Nat.reduceEqDiff, Nat.reduceBEq, Int.reduceToNat, Nat.reduceAdd, Nat.reduceLT, Nat.reduceLeDiff, reduceCtorEq, Nat.reduceSub]) | ((with_reducible show F _ _ (Cfg.code (SCode.pregion _ _ _ _ _) _ _ _)); refine F_p2 ?_; simp (maxSteps := 1000000) -implicitDefEqProofs only [go_sem, ↓reduceIte, Nat.reduceEqDiff, Nat.reduceBEq, Int.reduceToNat, Nat.reduceAdd, Nat.reduceLT, Nat.reduceLeDiff, reduceCtorEq, Nat.reduceSub]) | with_reducible refine Fork.mk (fun _ => ?_) (fun _ => ?_) | with_reducible refine And.intro ?_ ?_ | ((with_reducible show resP _ _ _ _ _); simp (maxSteps := 1000000) -implicitDefEqProofs only [r88, push_cast, ↓reduceIte, Nat.reduceEqDiff, reduceCtorEq, Nat.reduceAdd, Nat.reduceLT, Nat.reduceLeDiff]) | (intro _))
  all_goals clear h89
  all_goals (first | (simp_all [naF]; done) | (simp_all [naF]; omega))
def stF (k : Int) (r t v l : ByteArray) (e : Ex) (none : Bool) (na nb : Nat) (p : ByteArray) (ps : List ByteArray) (d : Int) : Int :=
  if d > 20 then 2 else if k < 1 ∨ 5 < k then 4 else if foF k r t v l none na nb p ps.length ≠ 0 then 3 else if naF k r t v l p ≠ 0 then 5
  else if (k = 1 ∨ k = 3 ∨ k = 4) ∧ exF e 1 ≠ 0 then exF e 1
  else if k ≠ 5 then 0 else if ps.length = 0 then 8 else if ps.length > 12 then 2 else if ps.any (fun s => !isNm s) then 5 else 0
theorem foF_vals (k : Int) (r t v l : ByteArray) (none : Bool) (a b : Nat) (p : ByteArray) (ps : Nat) : foF k r t v l none a b p ps = 0 ∨ foF k r t v l none a b p ps = 3 := by
  unfold foF; split <;> simp
theorem naF_vals (k : Int) (r t v l p : ByteArray) : naF k r t v l p = 0 ∨ naF k r t v l p = 5 := by
  unfold naF; split <;> simp
set_option maxRecDepth 20000 in
theorem t75 (k : Int) (r t v l : ByteArray) (ek en : Int) (es : ByteArray) (eas : List Ex) (a b : List St) (p : ByteArray) (ps : List ByteArray) (hab : a.length + b.length ≤ 1000000) (d : Int) :
    PCall Tryz.prog 75 [encS (.mk k r t v l (.mk ek en es eas) a b p ps), .int .i64 d] (· = .int .i64 (stF k r t v l (.mk ek en es eas) (isNone ek en es eas) a.length b.length p ps d)) := by
  have h90 := t90 (.mk ek en es eas)
  have h91 := t91 k r t v l (.mk ek en es eas) a b p ps
  rw [encS_mk] at h91
  rw [encE_mk] at h90
  have hf := foF_vals k r t v l (isNone ek en es eas) a.length b.length p ps.length
  have hn := naF_vals k r t v l p
  by_cases hk : 1 ≤ k ∧ k ≤ 5
  · have h87 := t87 k hk r t v l ek en es eas a b p ps hab
    have h88 := t88 k hk r t v l ek en es eas a b p ps
    have h89 := t89 k
    rw [encS_mk] at h87 h88
    refine PCall.intro c75 400 (by simp) 20 ?_
    have hk' : k = 1 ∨ k = 2 ∨ k = 3 ∨ k = 4 ∨ k = 5 := by omega
    rcases hk' with rfl | rfl | rfl | rfl | rfl
    all_goals
      simp (config := { decide := true }) only [uz, us, if_true, if_false, ↓reduceIte] at h89
      simp (maxSteps := 1000000) -implicitDefEqProofs only [s75, encS_mk, go_sem, ↓reduceIte, Nat.reduceEqDiff, Nat.reduceBEq, Int.reduceToNat, Nat.reduceAdd, Nat.reduceLT, Nat.reduceLeDiff, reduceCtorEq, Nat.reduceSub]
      repeat' (first | ((with_reducible first | refine cgR (t86 _ _ _) ?_ ?_ | refine cgR h87 ?_ ?_ | refine cgR h88 ?_ ?_ | refine cgR h89 ?_ ?_ | refine cgR h90 ?_ ?_ | refine cgR h91 ?_ ?_); (focus (simp [norefL, noref, norefL_app, norefL_str, norefL_int, norefL_encE, norefL_encS, norefL_encP, noref_encE, noref_encS, noref_encP, noref_encPl]; done)); simp (maxSteps := 1000000) -implicitDefEqProofs only [go_sem, ↓reduceIte, Nat.reduceEqDiff, Nat.reduceBEq, Int.reduceToNat, Nat.reduceAdd, Nat.reduceLT, Nat.reduceLeDiff, reduceCtorEq, Nat.reduceSub]) | ((with_reducible apply cgF); (focus ((simp (maxSteps := 1000000) -implicitDefEqProofs only [List.map_cons, List.map_nil, push_cast, ↓reduceIte, Nat.reduceEqDiff, reduceCtorEq, Nat.reduceAdd, Nat.reduceLT, Nat.reduceLeDiff] <;> rfl); done)); (with_reducible first | exact (t86 _ _ _) | exact h87 | exact h88 | exact h89 | exact h90 | exact h91); (focus (rfl; done)); simp (maxSteps := 1000000) -implicitDefEqProofs only [go_sem, ↓reduceIte, Nat.reduceEqDiff, Nat.reduceBEq, Int.reduceToNat, Nat.reduceAdd, Nat.reduceLT, Nat.reduceLeDiff, reduceCtorEq, Nat.reduceSub]) | ((with_reducible show F _ _ (Cfg.code (SCode.qregion _) _ _ _)); refine F_q2 ?_; simp (maxSteps := 1000000) -implicitDefEqProofs only [go_sem, ↓reduceIte, Nat.reduceEqDiff, Nat.reduceBEq, Int.reduceToNat, Nat.reduceAdd, Nat.reduceLT, Nat.reduceLeDiff, reduceCtorEq, Nat.reduceSub]) | ((with_reducible show F _ _ (Cfg.code (SCode.pregion _ _ _ _ _) _ _ _)); refine F_p2 ?_; simp (maxSteps := 1000000) -implicitDefEqProofs only [go_sem, ↓reduceIte, Nat.reduceEqDiff, Nat.reduceBEq, Int.reduceToNat, Nat.reduceAdd, Nat.reduceLT, Nat.reduceLeDiff, reduceCtorEq, Nat.reduceSub]) | with_reducible refine Fork.mk (fun _ => ?_) (fun _ => ?_) | with_reducible refine And.intro ?_ ?_ | ((with_reducible show resP _ _ _ _ _); simp (maxSteps := 1000000) -implicitDefEqProofs only [r75, push_cast, ↓reduceIte, Nat.reduceEqDiff, reduceCtorEq, Nat.reduceAdd, Nat.reduceLT, Nat.reduceLeDiff]) | (intro _))
    all_goals clear h87 h88 h89 h90 h91
    all_goals simp only [stF]
    all_goals (generalize isNone ek en es eas = Z at *; generalize exF _ _ = X at *; generalize (ps.any fun s => !isNm s) = B at *; generalize ps.length = q at *; generalize a.length = m at *; generalize b.length = n at *; generalize foF _ r t v l Z m n p q = f at *; generalize naF _ r t v l p = g at *)
    all_goals (first | (simp_all; done) | (simp_all; omega))
  · have hk2 : k < 1 ∨ 5 < k := by omega
    clear hk h90 h91 hf hn
    refine PCall.intro c75 400 (by simp) 20 ?_
    simp (maxSteps := 1000000) -implicitDefEqProofs only [s75, encS_mk, go_sem, ↓reduceIte, Nat.reduceEqDiff, Nat.reduceBEq, Int.reduceToNat, Nat.reduceAdd, Nat.reduceLT, Nat.reduceLeDiff, reduceCtorEq, Nat.reduceSub]
    repeat' (first | ((with_reducible first | refine cgR (t86 _ _ _) ?_ ?_); (focus (simp [norefL, noref, norefL_app, norefL_str, norefL_int, norefL_encE, norefL_encS, norefL_encP, noref_encE, noref_encS, noref_encP, noref_encPl]; done)); simp (maxSteps := 1000000) -implicitDefEqProofs only [go_sem, ↓reduceIte, Nat.reduceEqDiff, Nat.reduceBEq, Int.reduceToNat, Nat.reduceAdd, Nat.reduceLT, Nat.reduceLeDiff, reduceCtorEq, Nat.reduceSub]) | ((with_reducible apply cgF); (focus ((simp (maxSteps := 1000000) -implicitDefEqProofs only [List.map_cons, List.map_nil, push_cast, ↓reduceIte, Nat.reduceEqDiff, reduceCtorEq, Nat.reduceAdd, Nat.reduceLT, Nat.reduceLeDiff] <;> rfl); done)); (with_reducible first | exact (t86 _ _ _)); (focus (rfl; done)); simp (maxSteps := 1000000) -implicitDefEqProofs only [go_sem, ↓reduceIte, Nat.reduceEqDiff, Nat.reduceBEq, Int.reduceToNat, Nat.reduceAdd, Nat.reduceLT, Nat.reduceLeDiff, reduceCtorEq, Nat.reduceSub]) | ((with_reducible show F _ _ (Cfg.code (SCode.qregion _) _ _ _)); refine F_q2 ?_; simp (maxSteps := 1000000) -implicitDefEqProofs only [go_sem, ↓reduceIte, Nat.reduceEqDiff, Nat.reduceBEq, Int.reduceToNat, Nat.reduceAdd, Nat.reduceLT, Nat.reduceLeDiff, reduceCtorEq, Nat.reduceSub]) | ((with_reducible show F _ _ (Cfg.code (SCode.pregion _ _ _ _ _) _ _ _)); refine F_p2 ?_; simp (maxSteps := 1000000) -implicitDefEqProofs only [go_sem, ↓reduceIte, Nat.reduceEqDiff, Nat.reduceBEq, Int.reduceToNat, Nat.reduceAdd, Nat.reduceLT, Nat.reduceLeDiff, reduceCtorEq, Nat.reduceSub]) | with_reducible refine Fork.mk (fun _ => ?_) (fun _ => ?_) | with_reducible refine And.intro ?_ ?_ | ((with_reducible show resP _ _ _ _ _); simp (maxSteps := 1000000) -implicitDefEqProofs only [r75, push_cast, ↓reduceIte, Nat.reduceEqDiff, reduceCtorEq, Nat.reduceAdd, Nat.reduceLT, Nat.reduceLeDiff]) | (intro _))
    all_goals first
      | (exfalso; rename_i hx; simp at hx; omega)
      | (simp only [stF]; simp_all; done)
      | (simp only [stF]; simp_all; omega)
mutual
def cnt : St → Nat
  | .mk _ _ _ _ _ _ a b _ _ => 1 + cnts a + cnts b
def cnts : List St → Nat
  | [] => 0
  | x :: l => cnt x + cnts l
end
theorem cnt_pos (x : St) : 1 ≤ cnt x := by rcases x with ⟨⟩; simp [cnt]; omega
theorem len_cnts : ∀ l : List St, l.length ≤ cnts l
  | [] => Nat.zero_le _
  | x :: l => by have := len_cnts l; have := cnt_pos x; simp [cnts]; omega
theorem cnts_append : ∀ a b : List St, cnts (a ++ b) = cnts a + cnts b
  | [], b => by simp [cnts]
  | x :: a, b => by simp [cnts, cnts_append a b]; omega
def stF' : St → Int → Int
  | .mk k r t v l (.mk ek en es eas) a b p ps, d => stF k r t v l (.mk ek en es eas) (isNone ek en es eas) a.length b.length p ps d
mutual
def sF : St → Int → Int
  | .mk k r t v l e a b p ps, d =>
    if stF' (.mk k r t v l e a b p ps) d ≠ 0 then stF' (.mk k r t v l e a b p ps) d else if sFs a (d + 1) ≠ 0 then sFs a (d + 1) else sFs b (d + 1)
def sFs : List St → Int → Int
  | [], _ => 0
  | x :: l, d => if sF x d ≠ 0 then sF x d else sFs l d
end
theorem sFs_append : ∀ (pre post : List St) (d : Int), (∀ y ∈ pre, sF y d = 0) → sFs (pre ++ post) d = sFs post d
  | [], post, d, _ => rfl
  | x :: pre, post, d, h => by
    rw [List.cons_append, sFs, h x (by simp)]
    simp only [ne_eq, not_true_eq_false, if_false]
    exact sFs_append pre post d (fun y hy => h y (by simp [hy]))
theorem stF_big {x : St} {d : Int} (h : 20 < d) : stF' x d = 2 := by
  rcases x with ⟨k, r, t, v, l, ⟨ek, en, es, eas⟩, a, b, p, ps⟩
  simp [stF', stF, h]
theorem t62s (xs : List St) (d : Int) (hd0 : 0 ≤ d) (hd : d ≤ 21) (hc : cnts xs ≤ 1000000)
    (h : ∀ k r t v l e a b p ps, St.mk k r t v l e a b p ps ∈ xs → ∀ d', 0 ≤ d' → d' ≤ 21 → PCall Tryz.prog 62 [.fs (a.map encS), .int .i64 d'] (· = .int .i64 (sFs a d')) ∧ PCall Tryz.prog 62 [.fs (b.map encS), .int .i64 d'] (· = .int .i64 (sFs b d'))) :
    PCall Tryz.prog 62 [.fs (xs.map encS), .int .i64 d] (· = .int .i64 (sFs xs d)) := by
  refine PCall.intro c62 300 (by simp) 20 ?_
  simp (maxSteps := 1000000) -implicitDefEqProofs only [s62, go_sem, ↓reduceIte, Nat.reduceEqDiff, Nat.reduceBEq, Int.reduceToNat, Nat.reduceAdd, Nat.reduceLT, Nat.reduceLeDiff, reduceCtorEq, Nat.reduceSub]
  intro hlen
  refine F_loop (fun m e H => ∃ pre post, xs = pre ++ post ∧ m = post.length ∧ (∀ y ∈ pre, sF y d = 0) ∧ e 1 = .int .i64 d ∧ e 10 = .fs (xs.map encS) ∧ e 11 = .int .i64 xs.length ∧ e 12 = .int .i64 pre.length) xs.length ⟨[], xs, by simp [upd, env0]⟩ ?_
  rintro m e H ⟨pre, post, hxs, rfl, hp, h1, h10, h11, h12⟩
  cases post with
  | nil =>
    simp (maxSteps := 1000000) -implicitDefEqProofs only [h1, h10, h11, h12, mid_not hxs, go_sem, ↓reduceIte, Nat.reduceEqDiff, Nat.reduceBEq, Int.reduceToNat, Nat.reduceAdd, Nat.reduceLT, Nat.reduceLeDiff, reduceCtorEq, Nat.reduceSub]
    simp (maxSteps := 1000000) -implicitDefEqProofs only [r62, push_cast, ↓reduceIte, Nat.reduceEqDiff, reduceCtorEq, Nat.reduceAdd, Nat.reduceLT, Nat.reduceLeDiff]
    rw [hxs, sFs_append pre [] _ hp]; rfl
  | cons y post =>
    have hg := mid_get encS hxs
    have hE : sFs (pre ++ y :: post) d = if sF y d ≠ 0 then sF y d else sFs post d := by rw [sFs_append pre _ _ hp, sFs]
    have hcy : cnt y ≤ 1000000 := by rw [hxs, cnts_append] at hc; simp only [cnts] at hc; omega
    generalize hyR : sF y d = yr at *
    generalize hyS : stF' y d = ys
    have hbig : 20 < d → ys = 2 := fun hh => by rw [← hyS]; exact stF_big hh
    rcases y with ⟨k, r, t, v, l, ⟨ek, en, es, eas⟩, a, b, p, ps⟩
    have hab : a.length + b.length ≤ 1000000 := by
      have := len_cnts a; have := len_cnts b; simp only [cnt] at hcy; omega
    have h75 := t75 k r t v l ek en es eas a b p ps hab d
    rw [show stF k r t v l (.mk ek en es eas) (isNone ek en es eas) a.length b.length p ps d = ys from hyS] at h75
    rw [encS_mk] at hg h75
    have hsF : yr = if ys ≠ 0 then ys else if sFs a (d + 1) ≠ 0 then sFs a (d + 1) else sFs b (d + 1) := by rw [← hyR, sF, hyS]
    simp (maxSteps := 1000000) -implicitDefEqProofs only [h1, h10, h11, h12, hg, mid_lt hxs, mid_wrap hxs hlen, go_sem, ↓reduceIte, Nat.reduceEqDiff, Nat.reduceBEq, Int.reduceToNat, Nat.reduceAdd, Nat.reduceLT, Nat.reduceLeDiff, reduceCtorEq, Nat.reduceSub]
    repeat' (first | ((with_reducible first | refine cgR h75 ?_ ?_); (focus (simp [norefL, noref, norefL_app, norefL_str, norefL_int, norefL_encE, norefL_encS, norefL_encP, noref_encE, noref_encS, noref_encP, noref_encPl]; done)); simp (maxSteps := 1000000) -implicitDefEqProofs only [h1, h10, h11, h12, hg, mid_lt hxs, mid_wrap hxs hlen, go_sem, ↓reduceIte, Nat.reduceEqDiff, Nat.reduceBEq, Int.reduceToNat, Nat.reduceAdd, Nat.reduceLT, Nat.reduceLeDiff, reduceCtorEq, Nat.reduceSub]) | ((with_reducible apply cgF); (focus ((simp (maxSteps := 1000000) -implicitDefEqProofs only [List.map_cons, List.map_nil, push_cast, ↓reduceIte, Nat.reduceEqDiff, reduceCtorEq, Nat.reduceAdd, Nat.reduceLT, Nat.reduceLeDiff] <;> rfl); done)); (with_reducible first | exact h75); (focus (rfl; done)); simp (maxSteps := 1000000) -implicitDefEqProofs only [h1, h10, h11, h12, hg, mid_lt hxs, mid_wrap hxs hlen, go_sem, ↓reduceIte, Nat.reduceEqDiff, Nat.reduceBEq, Int.reduceToNat, Nat.reduceAdd, Nat.reduceLT, Nat.reduceLeDiff, reduceCtorEq, Nat.reduceSub]) | ((with_reducible show F _ _ (Cfg.code (SCode.qregion _) _ _ _)); refine F_q2 ?_; simp (maxSteps := 1000000) -implicitDefEqProofs only [h1, h10, h11, h12, hg, mid_lt hxs, mid_wrap hxs hlen, go_sem, ↓reduceIte, Nat.reduceEqDiff, Nat.reduceBEq, Int.reduceToNat, Nat.reduceAdd, Nat.reduceLT, Nat.reduceLeDiff, reduceCtorEq, Nat.reduceSub]) | ((with_reducible show F _ _ (Cfg.code (SCode.pregion _ _ _ _ _) _ _ _)); refine F_p2 ?_; simp (maxSteps := 1000000) -implicitDefEqProofs only [h1, h10, h11, h12, hg, mid_lt hxs, mid_wrap hxs hlen, go_sem, ↓reduceIte, Nat.reduceEqDiff, Nat.reduceBEq, Int.reduceToNat, Nat.reduceAdd, Nat.reduceLT, Nat.reduceLeDiff, reduceCtorEq, Nat.reduceSub]) | with_reducible refine Fork.mk (fun _ => ?_) (fun _ => ?_) | with_reducible refine And.intro ?_ ?_ | ((with_reducible show resP _ _ _ _ _); simp (maxSteps := 1000000) -implicitDefEqProofs only [r62, push_cast, ↓reduceIte, Nat.reduceEqDiff, reduceCtorEq, Nat.reduceAdd, Nat.reduceLT, Nat.reduceLeDiff]) | (intro _))
    · rename_i hy0
      have hy0 : ys ≠ 0 := by simpa using hy0
      rw [hxs, hE, hsF, if_pos hy0, if_pos hy0]
    · rename_i hy0
      have hy0 : ys = 0 := by simpa using hy0
      have hd20 : d ≤ 20 := by
        refine Classical.byContradiction fun hh => ?_
        have := hbig (by omega)
        omega
      have hw := wrap_small (d := d) (by omega) (by omega)
      obtain ⟨ha, hb⟩ := h k r t v l (.mk ek en es eas) a b p ps (by rw [hxs]; simp) (d + 1) (by omega) (by omega)
      generalize sFs a (d + 1) = fa at *
      generalize sFs b (d + 1) = fb at *
      rw [hw]
      repeat' (first | ((with_reducible first | refine cgR ha ?_ ?_ | refine cgR hb ?_ ?_); (focus (simp [norefL, noref, norefL_app, norefL_str, norefL_int, norefL_encE, norefL_encS, norefL_encP, noref_encE, noref_encS, noref_encP, noref_encPl]; done)); simp (maxSteps := 1000000) -implicitDefEqProofs only [h1, h10, h11, h12, hg, mid_lt hxs, mid_wrap hxs hlen, hw, go_sem, ↓reduceIte, Nat.reduceEqDiff, Nat.reduceBEq, Int.reduceToNat, Nat.reduceAdd, Nat.reduceLT, Nat.reduceLeDiff, reduceCtorEq, Nat.reduceSub]) | ((with_reducible apply cgF); (focus ((simp (maxSteps := 1000000) -implicitDefEqProofs only [List.map_cons, List.map_nil, push_cast, ↓reduceIte, Nat.reduceEqDiff, reduceCtorEq, Nat.reduceAdd, Nat.reduceLT, Nat.reduceLeDiff] <;> rfl); done)); (with_reducible first | exact ha | exact hb); (focus (rfl; done)); simp (maxSteps := 1000000) -implicitDefEqProofs only [h1, h10, h11, h12, hg, mid_lt hxs, mid_wrap hxs hlen, hw, go_sem, ↓reduceIte, Nat.reduceEqDiff, Nat.reduceBEq, Int.reduceToNat, Nat.reduceAdd, Nat.reduceLT, Nat.reduceLeDiff, reduceCtorEq, Nat.reduceSub]) | ((with_reducible show F _ _ (Cfg.code (SCode.qregion _) _ _ _)); refine F_q2 ?_; simp (maxSteps := 1000000) -implicitDefEqProofs only [h1, h10, h11, h12, hg, mid_lt hxs, mid_wrap hxs hlen, hw, go_sem, ↓reduceIte, Nat.reduceEqDiff, Nat.reduceBEq, Int.reduceToNat, Nat.reduceAdd, Nat.reduceLT, Nat.reduceLeDiff, reduceCtorEq, Nat.reduceSub]) | ((with_reducible show F _ _ (Cfg.code (SCode.pregion _ _ _ _ _) _ _ _)); refine F_p2 ?_; simp (maxSteps := 1000000) -implicitDefEqProofs only [h1, h10, h11, h12, hg, mid_lt hxs, mid_wrap hxs hlen, hw, go_sem, ↓reduceIte, Nat.reduceEqDiff, Nat.reduceBEq, Int.reduceToNat, Nat.reduceAdd, Nat.reduceLT, Nat.reduceLeDiff, reduceCtorEq, Nat.reduceSub]) | with_reducible refine Fork.mk (fun _ => ?_) (fun _ => ?_) | with_reducible refine And.intro ?_ ?_ | ((with_reducible show resP _ _ _ _ _); simp (maxSteps := 1000000) -implicitDefEqProofs only [r62, push_cast, ↓reduceIte, Nat.reduceEqDiff, reduceCtorEq, Nat.reduceAdd, Nat.reduceLT, Nat.reduceLeDiff]) | (intro _))
      · rename_i hf
        have hf : fa ≠ 0 := by simpa using hf
        rw [hxs, hE, hsF, hy0]; simp [hf]
      · rename_i hf hg'
        have hf : fa = 0 := by simpa using hf
        have hg' : fb ≠ 0 := by simpa using hg'
        rw [hxs, hE, hsF, hy0, hf]; simp [hg']
      · rename_i hf hg'
        have hf : fa = 0 := by simpa using hf
        have hg' : fb = 0 := by simpa using hg'
        exact ⟨_, Nat.lt_succ_self _, pre ++ [_], post, by simp [hxs]; rfl, rfl, fun z hz => by
          rcases List.mem_append.1 hz with hz | hz
          · exact hp z hz
          · simp at hz; subst hz; rw [hyR, hsF, hy0, hf, hg']; simp, by simp⟩
theorem t62 : ∀ (n : Nat) (xs : List St), SizeOf.sizeOf xs < n → cnts xs ≤ 1000000 → ∀ d : Int, 0 ≤ d → d ≤ 21 → PCall Tryz.prog 62 [.fs (xs.map encS), .int .i64 d] (· = .int .i64 (sFs xs d))
  | 0, xs, h, _, _, _, _ => absurd h (Nat.not_lt_zero _)
  | n + 1, xs, hn, hc, d, h1, h2 => t62s xs d h1 h2 hc (fun k r t v l e a b p ps hm d' h3 h4 => by
    have hs := List.sizeOf_lt_of_mem hm
    have hcm : cnt (.mk k r t v l e a b p ps) ≤ cnts xs := by
      obtain ⟨p1, p2, rfl⟩ := List.append_of_mem hm
      rw [cnts_append, cnts]; omega
    simp only [cnt] at hcm
    simp only [St.mk.sizeOf_spec] at hs
    exact ⟨t62 n a (by omega) (by omega) d' h3 h4, t62 n b (by omega) (by omega) d' h3 h4⟩)
theorem wrap_int {x : Int} (h1 : -1000000000 ≤ x) (h2 : x ≤ 1000000000) : IntKind.i64.wrap x = x := by
  simp [IntKind.wrap, IntKind.signed, IntKind.bits]; omega
theorem t49s (xs : List St) (hc : cnts xs ≤ 1000000)
    (h : ∀ k r t v l e a b p ps, St.mk k r t v l e a b p ps ∈ xs → PCall Tryz.prog 49 [.fs (a.map encS)] (· = .int .i64 (cnts a)) ∧ PCall Tryz.prog 49 [.fs (b.map encS)] (· = .int .i64 (cnts b))) :
    PCall Tryz.prog 49 [.fs (xs.map encS)] (· = .int .i64 (cnts xs)) := by
  refine PCall.intro c49 300 (by simp) 20 ?_
  simp (maxSteps := 1000000) -implicitDefEqProofs only [s49, go_sem, ↓reduceIte, Nat.reduceEqDiff, Nat.reduceBEq, Int.reduceToNat, Nat.reduceAdd, Nat.reduceLT, Nat.reduceLeDiff, reduceCtorEq, Nat.reduceSub]
  intro hlen _
  refine F_loop (fun m e H => ∃ pre post, xs = pre ++ post ∧ m = post.length ∧ e 3 = .int .i64 ((xs.length : Int) + cnts pre - pre.length) ∧ e 8 = .fs (xs.map encS) ∧ e 9 = .int .i64 xs.length ∧ e 10 = .int .i64 pre.length) xs.length ⟨[], xs, by simp [upd, env0, cnts]⟩ ?_
  rintro m e H ⟨pre, post, hxs, rfl, h3, h8, h9, h10⟩
  cases post with
  | nil =>
    simp (maxSteps := 1000000) -implicitDefEqProofs only [h3, h8, h9, h10, mid_not hxs, go_sem, ↓reduceIte, Nat.reduceEqDiff, Nat.reduceBEq, Int.reduceToNat, Nat.reduceAdd, Nat.reduceLT, Nat.reduceLeDiff, reduceCtorEq, Nat.reduceSub]
    simp (maxSteps := 1000000) -implicitDefEqProofs only [r49, push_cast, ↓reduceIte, Nat.reduceEqDiff, reduceCtorEq, Nat.reduceAdd, Nat.reduceLT, Nat.reduceLeDiff]
    rw [hxs, cnts_append]; simp [cnts]; omega
  | cons y post =>
    have hg := mid_get encS hxs
    have hL := len_cnts xs
    have hsum : cnts xs = cnts pre + (cnt y + cnts post) := by rw [hxs, cnts_append, cnts]
    have hlp := len_cnts pre
    have hll : xs.length = pre.length + (post.length + 1) := by rw [hxs]; simp
    rcases y with ⟨k, r, t, v, l, ⟨ek, en, es, eas⟩, a, b, p, ps⟩
    simp only [cnt] at hsum
    obtain ⟨ha, hb⟩ := h k r t v l (.mk ek en es eas) a b p ps (by rw [hxs]; simp)
    rw [encS_mk] at hg
    have w1 := wrap_int (x := (cnts a : Int) + cnts b) (by omega) (by omega)
    have w2 := wrap_int (x := (xs.length : Int) + cnts pre - pre.length + ((cnts a : Int) + cnts b)) (by omega) (by omega)
    simp (maxSteps := 1000000) -implicitDefEqProofs only [h3, h8, h9, h10, hg, mid_lt hxs, mid_wrap hxs hlen, go_sem, ↓reduceIte, Nat.reduceEqDiff, Nat.reduceBEq, Int.reduceToNat, Nat.reduceAdd, Nat.reduceLT, Nat.reduceLeDiff, reduceCtorEq, Nat.reduceSub]
    repeat' (first | ((with_reducible first | refine cgR ha ?_ ?_ | refine cgR hb ?_ ?_); (focus (simp [norefL, noref, norefL_app, norefL_str, norefL_int, norefL_encE, norefL_encS, norefL_encP, noref_encE, noref_encS, noref_encP, noref_encPl]; done)); simp (maxSteps := 1000000) -implicitDefEqProofs only [h3, h8, h9, h10, hg, mid_lt hxs, mid_wrap hxs hlen, w1, w2, go_sem, ↓reduceIte, Nat.reduceEqDiff, Nat.reduceBEq, Int.reduceToNat, Nat.reduceAdd, Nat.reduceLT, Nat.reduceLeDiff, reduceCtorEq, Nat.reduceSub]) | ((with_reducible apply cgF); (focus ((simp (maxSteps := 1000000) -implicitDefEqProofs only [List.map_cons, List.map_nil, push_cast, ↓reduceIte, Nat.reduceEqDiff, reduceCtorEq, Nat.reduceAdd, Nat.reduceLT, Nat.reduceLeDiff] <;> rfl); done)); (with_reducible first | exact ha | exact hb); (focus (rfl; done)); simp (maxSteps := 1000000) -implicitDefEqProofs only [h3, h8, h9, h10, hg, mid_lt hxs, mid_wrap hxs hlen, w1, w2, go_sem, ↓reduceIte, Nat.reduceEqDiff, Nat.reduceBEq, Int.reduceToNat, Nat.reduceAdd, Nat.reduceLT, Nat.reduceLeDiff, reduceCtorEq, Nat.reduceSub]) | ((with_reducible show F _ _ (Cfg.code (SCode.qregion _) _ _ _)); refine F_q2 ?_; simp (maxSteps := 1000000) -implicitDefEqProofs only [h3, h8, h9, h10, hg, mid_lt hxs, mid_wrap hxs hlen, w1, w2, go_sem, ↓reduceIte, Nat.reduceEqDiff, Nat.reduceBEq, Int.reduceToNat, Nat.reduceAdd, Nat.reduceLT, Nat.reduceLeDiff, reduceCtorEq, Nat.reduceSub]) | ((with_reducible show F _ _ (Cfg.code (SCode.pregion _ _ _ _ _) _ _ _)); refine F_p2 ?_; simp (maxSteps := 1000000) -implicitDefEqProofs only [h3, h8, h9, h10, hg, mid_lt hxs, mid_wrap hxs hlen, w1, w2, go_sem, ↓reduceIte, Nat.reduceEqDiff, Nat.reduceBEq, Int.reduceToNat, Nat.reduceAdd, Nat.reduceLT, Nat.reduceLeDiff, reduceCtorEq, Nat.reduceSub]) | with_reducible refine Fork.mk (fun _ => ?_) (fun _ => ?_) | with_reducible refine And.intro ?_ ?_ | ((with_reducible show resP _ _ _ _ _); simp (maxSteps := 1000000) -implicitDefEqProofs only [r49, push_cast, ↓reduceIte, Nat.reduceEqDiff, reduceCtorEq, Nat.reduceAdd, Nat.reduceLT, Nat.reduceLeDiff]) | (intro _))
    refine ⟨_, Nat.lt_succ_self _, pre ++ [_], post, by simp [hxs]; rfl, rfl, ?_, by simp⟩
    rw [cnts_append]; simp only [cnts, cnt, List.length_append, List.length_cons, List.length_nil]
    congr 1; omega
theorem t49 : ∀ (n : Nat) (xs : List St), SizeOf.sizeOf xs < n → cnts xs ≤ 1000000 → PCall Tryz.prog 49 [.fs (xs.map encS)] (· = .int .i64 (cnts xs))
  | 0, xs, h, _ => absurd h (Nat.not_lt_zero _)
  | n + 1, xs, hn, hc => t49s xs hc (fun k r t v l e a b p ps hm => by
    have hs := List.sizeOf_lt_of_mem hm
    have hcm : cnt (.mk k r t v l e a b p ps) ≤ cnts xs := by
      obtain ⟨p1, p2, rfl⟩ := List.append_of_mem hm
      rw [cnts_append, cnts]; omega
    simp only [cnt] at hcm
    simp only [St.mk.sizeOf_spec] at hs
    exact ⟨t49 n a (by omega) (by omega), t49 n b (by omega) (by omega)⟩)
def cntP : List Pr → Nat
  | [] => 0
  | x :: l => cnts x.steps + cntP l
theorem cntP_append : ∀ a b : List Pr, cntP (a ++ b) = cntP a + cntP b
  | [], b => by simp [cntP]
  | x :: a, b => by simp [cntP, cntP_append a b]; omega
def total (p : Pla) : Nat := cnts p.main + cntP p.procs
theorem t19 (P : Pla) (hc : total P ≤ 1000000) : PCall Tryz.prog 19 [encPl P] (· = .int .i64 (total P)) := by
  rcases P with ⟨xs, main⟩
  simp only [total] at hc
  have hm := t49 _ main (Nat.lt_succ_self _) (by omega)
  refine PCall.intro c19 300 (by simp) 20 ?_
  simp (maxSteps := 1000000) -implicitDefEqProofs only [s19, encPl, go_sem, ↓reduceIte, Nat.reduceEqDiff, Nat.reduceBEq, Int.reduceToNat, Nat.reduceAdd, Nat.reduceLT, Nat.reduceLeDiff, reduceCtorEq, Nat.reduceSub]
  repeat' (first | ((with_reducible first | refine cgR hm ?_ ?_); (focus (simp [norefL, noref, norefL_app, norefL_str, norefL_int, norefL_encE, norefL_encS, norefL_encP, noref_encE, noref_encS, noref_encP, noref_encPl]; done)); simp (maxSteps := 1000000) -implicitDefEqProofs only [go_sem, ↓reduceIte, Nat.reduceEqDiff, Nat.reduceBEq, Int.reduceToNat, Nat.reduceAdd, Nat.reduceLT, Nat.reduceLeDiff, reduceCtorEq, Nat.reduceSub]) | ((with_reducible apply cgF); (focus ((simp (maxSteps := 1000000) -implicitDefEqProofs only [List.map_cons, List.map_nil, push_cast, ↓reduceIte, Nat.reduceEqDiff, reduceCtorEq, Nat.reduceAdd, Nat.reduceLT, Nat.reduceLeDiff] <;> rfl); done)); (with_reducible first | exact hm); (focus (rfl; done)); simp (maxSteps := 1000000) -implicitDefEqProofs only [go_sem, ↓reduceIte, Nat.reduceEqDiff, Nat.reduceBEq, Int.reduceToNat, Nat.reduceAdd, Nat.reduceLT, Nat.reduceLeDiff, reduceCtorEq, Nat.reduceSub]) | ((with_reducible show F _ _ (Cfg.code (SCode.qregion _) _ _ _)); refine F_q2 ?_; simp (maxSteps := 1000000) -implicitDefEqProofs only [go_sem, ↓reduceIte, Nat.reduceEqDiff, Nat.reduceBEq, Int.reduceToNat, Nat.reduceAdd, Nat.reduceLT, Nat.reduceLeDiff, reduceCtorEq, Nat.reduceSub]) | ((with_reducible show F _ _ (Cfg.code (SCode.pregion _ _ _ _ _) _ _ _)); refine F_p2 ?_; simp (maxSteps := 1000000) -implicitDefEqProofs only [go_sem, ↓reduceIte, Nat.reduceEqDiff, Nat.reduceBEq, Int.reduceToNat, Nat.reduceAdd, Nat.reduceLT, Nat.reduceLeDiff, reduceCtorEq, Nat.reduceSub]) | with_reducible refine Fork.mk (fun _ => ?_) (fun _ => ?_) | with_reducible refine And.intro ?_ ?_ | ((with_reducible show resP _ _ _ _ _); simp (maxSteps := 1000000) -implicitDefEqProofs only [r19, push_cast, ↓reduceIte, Nat.reduceEqDiff, reduceCtorEq, Nat.reduceAdd, Nat.reduceLT, Nat.reduceLeDiff]) | (intro _))
  rename_i hlen
  refine F_loop (fun m e H => ∃ pre post, xs = pre ++ post ∧ m = post.length ∧ e 3 = .int .i64 ((cnts main : Int) + cntP pre) ∧ e 10 = .fs (xs.map encP) ∧ e 11 = .int .i64 xs.length ∧ e 12 = .int .i64 pre.length) xs.length ⟨[], xs, by simp [upd, env0, cntP]⟩ ?_
  rintro m e H ⟨pre, post, hxs, rfl, h3, h8, h9, h10⟩
  cases post with
  | nil =>
    simp (maxSteps := 1000000) -implicitDefEqProofs only [h3, h8, h9, h10, mid_not hxs, go_sem, ↓reduceIte, Nat.reduceEqDiff, Nat.reduceBEq, Int.reduceToNat, Nat.reduceAdd, Nat.reduceLT, Nat.reduceLeDiff, reduceCtorEq, Nat.reduceSub]
    simp (maxSteps := 1000000) -implicitDefEqProofs only [r19, push_cast, ↓reduceIte, Nat.reduceEqDiff, reduceCtorEq, Nat.reduceAdd, Nat.reduceLT, Nat.reduceLeDiff]
    simp only [total]
    rw [hxs, cntP_append]; simp [cntP]
  | cons y post =>
    have hg := mid_get encP hxs
    have hsum : cntP xs = cntP pre + (cnts y.steps + cntP post) := by rw [hxs, cntP_append, cntP]
    rcases y with ⟨nm, rs, st⟩
    simp only [encP] at hg hsum
    have ha := t49 _ st (Nat.lt_succ_self _) (by omega)
    have w2 := wrap_int (x := (cnts main : Int) + cntP pre + (cnts st : Int)) (by omega) (by omega)
    simp (maxSteps := 1000000) -implicitDefEqProofs only [h3, h8, h9, h10, hg, mid_lt hxs, mid_wrap hxs hlen, go_sem, ↓reduceIte, Nat.reduceEqDiff, Nat.reduceBEq, Int.reduceToNat, Nat.reduceAdd, Nat.reduceLT, Nat.reduceLeDiff, reduceCtorEq, Nat.reduceSub]
    repeat' (first | ((with_reducible first | refine cgR ha ?_ ?_); (focus (simp [norefL, noref, norefL_app, norefL_str, norefL_int, norefL_encE, norefL_encS, norefL_encP, noref_encE, noref_encS, noref_encP, noref_encPl]; done)); simp (maxSteps := 1000000) -implicitDefEqProofs only [h3, h8, h9, h10, hg, mid_lt hxs, mid_wrap hxs hlen, w2, go_sem, ↓reduceIte, Nat.reduceEqDiff, Nat.reduceBEq, Int.reduceToNat, Nat.reduceAdd, Nat.reduceLT, Nat.reduceLeDiff, reduceCtorEq, Nat.reduceSub]) | ((with_reducible apply cgF); (focus ((simp (maxSteps := 1000000) -implicitDefEqProofs only [List.map_cons, List.map_nil, push_cast, ↓reduceIte, Nat.reduceEqDiff, reduceCtorEq, Nat.reduceAdd, Nat.reduceLT, Nat.reduceLeDiff] <;> rfl); done)); (with_reducible first | exact ha); (focus (rfl; done)); simp (maxSteps := 1000000) -implicitDefEqProofs only [h3, h8, h9, h10, hg, mid_lt hxs, mid_wrap hxs hlen, w2, go_sem, ↓reduceIte, Nat.reduceEqDiff, Nat.reduceBEq, Int.reduceToNat, Nat.reduceAdd, Nat.reduceLT, Nat.reduceLeDiff, reduceCtorEq, Nat.reduceSub]) | ((with_reducible show F _ _ (Cfg.code (SCode.qregion _) _ _ _)); refine F_q2 ?_; simp (maxSteps := 1000000) -implicitDefEqProofs only [h3, h8, h9, h10, hg, mid_lt hxs, mid_wrap hxs hlen, w2, go_sem, ↓reduceIte, Nat.reduceEqDiff, Nat.reduceBEq, Int.reduceToNat, Nat.reduceAdd, Nat.reduceLT, Nat.reduceLeDiff, reduceCtorEq, Nat.reduceSub]) | ((with_reducible show F _ _ (Cfg.code (SCode.pregion _ _ _ _ _) _ _ _)); refine F_p2 ?_; simp (maxSteps := 1000000) -implicitDefEqProofs only [h3, h8, h9, h10, hg, mid_lt hxs, mid_wrap hxs hlen, w2, go_sem, ↓reduceIte, Nat.reduceEqDiff, Nat.reduceBEq, Int.reduceToNat, Nat.reduceAdd, Nat.reduceLT, Nat.reduceLeDiff, reduceCtorEq, Nat.reduceSub]) | with_reducible refine Fork.mk (fun _ => ?_) (fun _ => ?_) | with_reducible refine And.intro ?_ ?_ | ((with_reducible show resP _ _ _ _ _); simp (maxSteps := 1000000) -implicitDefEqProofs only [r19, push_cast, ↓reduceIte, Nat.reduceEqDiff, reduceCtorEq, Nat.reduceAdd, Nat.reduceLT, Nat.reduceLeDiff]) | (intro _))
    refine ⟨_, Nat.lt_succ_self _, pre ++ [_], post, by simp [hxs]; rfl, rfl, ?_, by simp⟩
    rw [cntP_append]; simp only [cntP]
    congr 1; omega
def roF : List ByteArray → List ByteArray → Int
  | _, [] => 0
  | seen, x :: l => if isNm x = false then 5 else if (seen.any fun y => decide (x = y)) then 6 else roF (seen ++ [x]) l
def pF (pre : List Pr) (q : Pr) : Int :=
  if isNm q.name = false then 5 else if (pre.any fun z => decide (z.name = q.name)) then 6 else if q.roles.length = 0 then 8 else if q.roles.length > 12 then 2
  else if roF [] q.roles ≠ 0 then roF [] q.roles else sFs q.steps 1
theorem mid_take {α : Type} {xs pre post : List α} {y : α} (f : α → V) (h : xs = pre ++ y :: post) : (xs.map f).take pre.length = pre.map f := by
  subst h; rw [← List.map_take]; simp
theorem headOk_map {α : Type} (f : α → V) (n : Nat) (h : ∀ x, (cellsV (f x)).length = n) (l : List α) : headOk n (l.map f) := by
  intro e he
  cases l with
  | nil => simp at he
  | cons x l => simp at he; subst he; exact h x
theorem headOk_P (l : List Pr) : headOk 3 (l.map encP) := headOk_map _ _ (fun x => by simp [encP, cellsV]) l
theorem headOk_str (l : List ByteArray) : headOk 1 (l.map V.str) := headOk_map _ _ (fun x => by simp [cellsV]) l
set_option maxRecDepth 20000 in
theorem t61 (xs pre post : List Pr) (q : Pr) (hxs : xs = pre ++ q :: post) (hc : cnts q.steps ≤ 1000000) : PCall Tryz.prog 61 [.fs (xs.map encP), .int .i64 pre.length] (· = .int .i64 (pF pre q)) := by
  have hg := mid_get encP hxs
  have ht := mid_take encP hxs
  have h73 := t73 pre 74 [] [.rptr [.str q.name, .fs (q.roles.map .str), .fs (q.steps.map encS)]] (fun z => decide (z.name = q.name)) rfl (by simp [norefL, noref, norefL_str, norefL_encS]) (fun z _ => t74 z q)
  have h62 := t62 _ q.steps (Nat.lt_succ_self _) hc 1 (by omega) (by omega)
  have hl : (pre.length : Int) ≤ xs.length := by rw [hxs]; simp; omega
  have hlt := mid_lt hxs
  refine PCall.intro c61 300 (by simp) 20 ?_
  simp only [encP] at hg
  simp (maxSteps := 1000000) -implicitDefEqProofs only [s61, hg, hlt, ht, headOk_P, hl, Int.le_refl, Int.natCast_nonneg, go_sem, ↓reduceIte, Nat.reduceEqDiff, Nat.reduceBEq, Int.reduceToNat, Nat.reduceAdd, Nat.reduceLT, Nat.reduceLeDiff, reduceCtorEq, Nat.reduceSub]
  repeat' (first | ((with_reducible first | refine cgR (t72 _) ?_ ?_ | refine cgR h73 ?_ ?_); (focus (simp [norefL, noref, norefL_app, norefL_str, norefL_int, norefL_encE, norefL_encS, norefL_encP, noref_encE, noref_encS, noref_encP, noref_encPl]; done)); simp (maxSteps := 1000000) -implicitDefEqProofs only [hg, hlt, ht, headOk_P, hl, Int.le_refl, Int.natCast_nonneg, go_sem, ↓reduceIte, Nat.reduceEqDiff, Nat.reduceBEq, Int.reduceToNat, Nat.reduceAdd, Nat.reduceLT, Nat.reduceLeDiff, reduceCtorEq, Nat.reduceSub]) | ((with_reducible apply cgF); (focus ((simp (maxSteps := 1000000) -implicitDefEqProofs only [List.map_cons, List.map_nil, push_cast, ↓reduceIte, Nat.reduceEqDiff, reduceCtorEq, Nat.reduceAdd, Nat.reduceLT, Nat.reduceLeDiff] <;> rfl); done)); (with_reducible first | exact (t72 _) | exact h73); (focus (rfl; done)); simp (maxSteps := 1000000) -implicitDefEqProofs only [hg, hlt, ht, headOk_P, hl, Int.le_refl, Int.natCast_nonneg, go_sem, ↓reduceIte, Nat.reduceEqDiff, Nat.reduceBEq, Int.reduceToNat, Nat.reduceAdd, Nat.reduceLT, Nat.reduceLeDiff, reduceCtorEq, Nat.reduceSub]) | ((with_reducible show F _ _ (Cfg.code (SCode.qregion _) _ _ _)); refine F_q2 ?_; simp (maxSteps := 1000000) -implicitDefEqProofs only [hg, hlt, ht, headOk_P, hl, Int.le_refl, Int.natCast_nonneg, go_sem, ↓reduceIte, Nat.reduceEqDiff, Nat.reduceBEq, Int.reduceToNat, Nat.reduceAdd, Nat.reduceLT, Nat.reduceLeDiff, reduceCtorEq, Nat.reduceSub]) | ((with_reducible show F _ _ (Cfg.code (SCode.pregion _ _ _ _ _) _ _ _)); refine F_p2 ?_; simp (maxSteps := 1000000) -implicitDefEqProofs only [hg, hlt, ht, headOk_P, hl, Int.le_refl, Int.natCast_nonneg, go_sem, ↓reduceIte, Nat.reduceEqDiff, Nat.reduceBEq, Int.reduceToNat, Nat.reduceAdd, Nat.reduceLT, Nat.reduceLeDiff, reduceCtorEq, Nat.reduceSub]) | with_reducible refine Fork.mk (fun _ => ?_) (fun _ => ?_) | with_reducible refine And.intro ?_ ?_ | ((with_reducible show resP _ _ _ _ _); simp (maxSteps := 1000000) -implicitDefEqProofs only [r61, push_cast, ↓reduceIte, Nat.reduceEqDiff, reduceCtorEq, Nat.reduceAdd, Nat.reduceLT, Nat.reduceLeDiff]) | (intro _))
  case refine_2.refine_2.hk.refine_2.refine_2.refine_2 =>
    have hR : pF pre q = if roF [] q.roles ≠ 0 then roF [] q.roles else sFs q.steps 1 := by
      clear h73 h62 hg ht hlt
      simp only [pF]
      generalize q.roles.length = n at *
      generalize roF [] q.roles = R
      generalize (pre.any fun z => decide (z.name = q.name)) = B at *
      generalize isNm q.name = N at *
      simp_all
      intro h
      exfalso; omega
    have hlen : q.roles.length ≤ 9223372036854775807 := by assumption
    refine F_loop (fun m e H => ∃ p2 q2, q.roles = p2 ++ q2 ∧ m = q2.length ∧ roF [] q.roles = roF p2 q2 ∧ H = [Blk.row [.agg [.str q.name, .fs (q.roles.map .str), .fs (q.steps.map encS)]]] ∧ e 5 = .ptr 0 0 0 ∧ e 34 = .fs (q.roles.map .str) ∧ e 35 = .int .i64 q.roles.length ∧ e 36 = .int .i64 p2.length) q.roles.length ⟨[], q.roles, by simp [upd, env0]⟩ ?_
    rintro m e H ⟨p2, q2, hq, rfl, hro, rfl, h5, h34, h35, h36⟩
    cases q2 with
    | nil =>
      simp (maxSteps := 1000000) -implicitDefEqProofs only [h5, h34, h35, h36, mid_not hq, go_sem, ↓reduceIte, Nat.reduceEqDiff, Nat.reduceBEq, Int.reduceToNat, Nat.reduceAdd, Nat.reduceLT, Nat.reduceLeDiff, reduceCtorEq, Nat.reduceSub]
      repeat' (first | ((with_reducible first | refine cgR h62 ?_ ?_); (focus (simp [norefL, noref, norefL_app, norefL_str, norefL_int, norefL_encE, norefL_encS, norefL_encP, noref_encE, noref_encS, noref_encP, noref_encPl]; done)); simp (maxSteps := 1000000) -implicitDefEqProofs only [h5, h34, h35, h36, mid_not hq, go_sem, ↓reduceIte, Nat.reduceEqDiff, Nat.reduceBEq, Int.reduceToNat, Nat.reduceAdd, Nat.reduceLT, Nat.reduceLeDiff, reduceCtorEq, Nat.reduceSub]) | ((with_reducible apply cgF); (focus ((simp (maxSteps := 1000000) -implicitDefEqProofs only [List.map_cons, List.map_nil, push_cast, ↓reduceIte, Nat.reduceEqDiff, reduceCtorEq, Nat.reduceAdd, Nat.reduceLT, Nat.reduceLeDiff] <;> rfl); done)); (with_reducible first | exact h62); (focus (rfl; done)); simp (maxSteps := 1000000) -implicitDefEqProofs only [h5, h34, h35, h36, mid_not hq, go_sem, ↓reduceIte, Nat.reduceEqDiff, Nat.reduceBEq, Int.reduceToNat, Nat.reduceAdd, Nat.reduceLT, Nat.reduceLeDiff, reduceCtorEq, Nat.reduceSub]) | ((with_reducible show F _ _ (Cfg.code (SCode.qregion _) _ _ _)); refine F_q2 ?_; simp (maxSteps := 1000000) -implicitDefEqProofs only [h5, h34, h35, h36, mid_not hq, go_sem, ↓reduceIte, Nat.reduceEqDiff, Nat.reduceBEq, Int.reduceToNat, Nat.reduceAdd, Nat.reduceLT, Nat.reduceLeDiff, reduceCtorEq, Nat.reduceSub]) | ((with_reducible show F _ _ (Cfg.code (SCode.pregion _ _ _ _ _) _ _ _)); refine F_p2 ?_; simp (maxSteps := 1000000) -implicitDefEqProofs only [h5, h34, h35, h36, mid_not hq, go_sem, ↓reduceIte, Nat.reduceEqDiff, Nat.reduceBEq, Int.reduceToNat, Nat.reduceAdd, Nat.reduceLT, Nat.reduceLeDiff, reduceCtorEq, Nat.reduceSub]) | with_reducible refine Fork.mk (fun _ => ?_) (fun _ => ?_) | with_reducible refine And.intro ?_ ?_ | ((with_reducible show resP _ _ _ _ _); simp (maxSteps := 1000000) -implicitDefEqProofs only [r61, push_cast, ↓reduceIte, Nat.reduceEqDiff, reduceCtorEq, Nat.reduceAdd, Nat.reduceLT, Nat.reduceLeDiff]) | (intro _))
      rw [hR, hro]; simp [roF]
    | cons y q2 =>
      have hg2 := mid_get V.str hq
      have ht2 := mid_take V.str hq
      have hl2 : (p2.length : Int) ≤ q.roles.length := by rw [hq]; simp; omega
      simp (maxSteps := 1000000) -implicitDefEqProofs only [h5, h34, h35, h36, hg2, mid_lt hq, mid_wrap hq hlen, headOk_str, hl2, ht2, Int.le_refl, Int.natCast_nonneg, go_sem, ↓reduceIte, Nat.reduceEqDiff, Nat.reduceBEq, Int.reduceToNat, Nat.reduceAdd, Nat.reduceLT, Nat.reduceLeDiff, reduceCtorEq, Nat.reduceSub]
      repeat' (first | ((with_reducible first | refine cgR (t72 y) ?_ ?_ | refine cgR (t29 p2 y) ?_ ?_); (focus (simp [norefL, noref, norefL_app, norefL_str, norefL_int, norefL_encE, norefL_encS, norefL_encP, noref_encE, noref_encS, noref_encP, noref_encPl]; done)); simp (maxSteps := 1000000) -implicitDefEqProofs only [h5, h34, h35, h36, hg2, mid_lt hq, mid_wrap hq hlen, headOk_str, hl2, ht2, Int.le_refl, Int.natCast_nonneg, go_sem, ↓reduceIte, Nat.reduceEqDiff, Nat.reduceBEq, Int.reduceToNat, Nat.reduceAdd, Nat.reduceLT, Nat.reduceLeDiff, reduceCtorEq, Nat.reduceSub]) | ((with_reducible apply cgF); (focus ((simp (maxSteps := 1000000) -implicitDefEqProofs only [List.map_cons, List.map_nil, push_cast, ↓reduceIte, Nat.reduceEqDiff, reduceCtorEq, Nat.reduceAdd, Nat.reduceLT, Nat.reduceLeDiff] <;> rfl); done)); (with_reducible first | exact (t72 y) | exact (t29 p2 y)); (focus (rfl; done)); simp (maxSteps := 1000000) -implicitDefEqProofs only [h5, h34, h35, h36, hg2, mid_lt hq, mid_wrap hq hlen, headOk_str, hl2, ht2, Int.le_refl, Int.natCast_nonneg, go_sem, ↓reduceIte, Nat.reduceEqDiff, Nat.reduceBEq, Int.reduceToNat, Nat.reduceAdd, Nat.reduceLT, Nat.reduceLeDiff, reduceCtorEq, Nat.reduceSub]) | ((with_reducible show F _ _ (Cfg.code (SCode.qregion _) _ _ _)); refine F_q2 ?_; simp (maxSteps := 1000000) -implicitDefEqProofs only [h5, h34, h35, h36, hg2, mid_lt hq, mid_wrap hq hlen, headOk_str, hl2, ht2, Int.le_refl, Int.natCast_nonneg, go_sem, ↓reduceIte, Nat.reduceEqDiff, Nat.reduceBEq, Int.reduceToNat, Nat.reduceAdd, Nat.reduceLT, Nat.reduceLeDiff, reduceCtorEq, Nat.reduceSub]) | ((with_reducible show F _ _ (Cfg.code (SCode.pregion _ _ _ _ _) _ _ _)); refine F_p2 ?_; simp (maxSteps := 1000000) -implicitDefEqProofs only [h5, h34, h35, h36, hg2, mid_lt hq, mid_wrap hq hlen, headOk_str, hl2, ht2, Int.le_refl, Int.natCast_nonneg, go_sem, ↓reduceIte, Nat.reduceEqDiff, Nat.reduceBEq, Int.reduceToNat, Nat.reduceAdd, Nat.reduceLT, Nat.reduceLeDiff, reduceCtorEq, Nat.reduceSub]) | with_reducible refine Fork.mk (fun _ => ?_) (fun _ => ?_) | with_reducible refine And.intro ?_ ?_ | ((with_reducible show resP _ _ _ _ _); simp (maxSteps := 1000000) -implicitDefEqProofs only [r61, push_cast, ↓reduceIte, Nat.reduceEqDiff, reduceCtorEq, Nat.reduceAdd, Nat.reduceLT, Nat.reduceLeDiff]) | (intro _))
      · rename_i hy
        have hy : isNm y = false := by simpa using hy
        rw [hR, hro]; simp [roF, hy]
      · rename_i hy hm
        have hy : isNm y = true := by simpa using hy
        rw [hR, hro]; simp only [roF, hy, hm]; simp
      · rename_i hy hm
        have hy : isNm y = true := by simpa using hy
        refine ⟨_, Nat.lt_succ_self _, p2 ++ [y], q2, by simp [hq], rfl, ?_, by simp⟩
        rw [hro]; simp only [roF, hy, hm]; simp
  all_goals clear h73 h62 hg ht hlt
  all_goals simp only [pF]
  all_goals (generalize q.roles.length = n at *; generalize roF [] q.roles = R; generalize (pre.any fun z => decide (z.name = q.name)) = B at *; generalize isNm q.name = N at *)
  all_goals (first | (simp_all; done) | (simp_all; omega) | (simp_all; intro h; omega))
def psF : List Pr → List Pr → Int
  | _, [] => 0
  | pre, q :: post => if pF pre q ≠ 0 then pF pre q else psF (pre ++ [q]) post
def cpF (P : Pla) : Int :=
  if P.procs.length > 50 then 2 else if psF [] P.procs ≠ 0 then psF [] P.procs else if sFs P.main 1 ≠ 0 then sFs P.main 1 else if total P > 2000 then 2 else 0
theorem cnts_le_cntP {q : Pr} {l : List Pr} (h : q ∈ l) : cnts q.steps ≤ cntP l := by
  obtain ⟨a, b, rfl⟩ := List.append_of_mem h
  rw [cntP_append, cntP]; omega
theorem t32 (P : Pla) (hc : total P ≤ 1000000) : PCall Tryz.prog 32 [encPl P] (· = .int .i64 (cpF P)) := by
  have h19 := t19 P hc
  rcases P with ⟨xs, main⟩
  simp only [total] at hc
  have h62 := t62 _ main (Nat.lt_succ_self _) (by omega) 1 (by omega) (by omega)
  simp only [encPl] at h19
  refine PCall.intro c32 300 (by simp) 20 ?_
  simp (maxSteps := 1000000) -implicitDefEqProofs only [s32, encPl, go_sem, ↓reduceIte, Nat.reduceEqDiff, Nat.reduceBEq, Int.reduceToNat, Nat.reduceAdd, Nat.reduceLT, Nat.reduceLeDiff, reduceCtorEq, Nat.reduceSub]
  repeat' (first | ((with_reducible show F _ _ (Cfg.code (SCode.qregion _) _ _ _)); refine F_q2 ?_; simp (maxSteps := 1000000) -implicitDefEqProofs only [go_sem, ↓reduceIte, Nat.reduceEqDiff, Nat.reduceBEq, Int.reduceToNat, Nat.reduceAdd, Nat.reduceLT, Nat.reduceLeDiff, reduceCtorEq, Nat.reduceSub]) | ((with_reducible show F _ _ (Cfg.code (SCode.pregion _ _ _ _ _) _ _ _)); refine F_p2 ?_; simp (maxSteps := 1000000) -implicitDefEqProofs only [go_sem, ↓reduceIte, Nat.reduceEqDiff, Nat.reduceBEq, Int.reduceToNat, Nat.reduceAdd, Nat.reduceLT, Nat.reduceLeDiff, reduceCtorEq, Nat.reduceSub]) | with_reducible refine Fork.mk (fun _ => ?_) (fun _ => ?_) | with_reducible refine And.intro ?_ ?_ | ((with_reducible show resP _ _ _ _ _); simp (maxSteps := 1000000) -implicitDefEqProofs only [r32, push_cast, ↓reduceIte, Nat.reduceEqDiff, reduceCtorEq, Nat.reduceAdd, Nat.reduceLT, Nat.reduceLeDiff]) | (intro _))
  · rename_i h50
    have h50 : xs.length > 50 := by simp at h50; omega
    simp only [cpF, if_pos h50]
  · rename_i hlen h50 _
    have h50 : ¬ xs.length > 50 := by simp at h50; omega
    refine F_loop (fun m e H => ∃ pre post, xs = pre ++ post ∧ m = post.length ∧ psF [] xs = psF pre post ∧ H = [Blk.row [.agg [.fs (xs.map encP), .fs (main.map encS)]]] ∧ e 1 = .ptr 0 0 0 ∧ e 12 = .int .i64 xs.length ∧ e 13 = .int .i64 pre.length) xs.length ⟨[], xs, by simp [upd, env0]⟩ ?_
    rintro m e H ⟨pre, post, hxs, rfl, hps, rfl, h1, h12, h13⟩
    cases post with
    | nil =>
      simp (maxSteps := 1000000) -implicitDefEqProofs only [h1, h12, h13, mid_not hxs, go_sem, ↓reduceIte, Nat.reduceEqDiff, Nat.reduceBEq, Int.reduceToNat, Nat.reduceAdd, Nat.reduceLT, Nat.reduceLeDiff, reduceCtorEq, Nat.reduceSub]
      repeat' (first | ((with_reducible first | refine cgR h62 ?_ ?_ | refine cgR h19 ?_ ?_); (focus (simp [norefL, noref, norefL_app, norefL_str, norefL_int, norefL_encE, norefL_encS, norefL_encP, noref_encE, noref_encS, noref_encP, noref_encPl]; done)); simp (maxSteps := 1000000) -implicitDefEqProofs only [h1, h12, h13, mid_not hxs, go_sem, ↓reduceIte, Nat.reduceEqDiff, Nat.reduceBEq, Int.reduceToNat, Nat.reduceAdd, Nat.reduceLT, Nat.reduceLeDiff, reduceCtorEq, Nat.reduceSub]) | ((with_reducible apply cgF); (focus ((simp (maxSteps := 1000000) -implicitDefEqProofs only [List.map_cons, List.map_nil, push_cast, ↓reduceIte, Nat.reduceEqDiff, reduceCtorEq, Nat.reduceAdd, Nat.reduceLT, Nat.reduceLeDiff] <;> rfl); done)); (with_reducible first | exact h62 | exact h19); (focus (rfl; done)); simp (maxSteps := 1000000) -implicitDefEqProofs only [h1, h12, h13, mid_not hxs, go_sem, ↓reduceIte, Nat.reduceEqDiff, Nat.reduceBEq, Int.reduceToNat, Nat.reduceAdd, Nat.reduceLT, Nat.reduceLeDiff, reduceCtorEq, Nat.reduceSub]) | ((with_reducible show F _ _ (Cfg.code (SCode.qregion _) _ _ _)); refine F_q2 ?_; simp (maxSteps := 1000000) -implicitDefEqProofs only [h1, h12, h13, mid_not hxs, go_sem, ↓reduceIte, Nat.reduceEqDiff, Nat.reduceBEq, Int.reduceToNat, Nat.reduceAdd, Nat.reduceLT, Nat.reduceLeDiff, reduceCtorEq, Nat.reduceSub]) | ((with_reducible show F _ _ (Cfg.code (SCode.pregion _ _ _ _ _) _ _ _)); refine F_p2 ?_; simp (maxSteps := 1000000) -implicitDefEqProofs only [h1, h12, h13, mid_not hxs, go_sem, ↓reduceIte, Nat.reduceEqDiff, Nat.reduceBEq, Int.reduceToNat, Nat.reduceAdd, Nat.reduceLT, Nat.reduceLeDiff, reduceCtorEq, Nat.reduceSub]) | with_reducible refine Fork.mk (fun _ => ?_) (fun _ => ?_) | with_reducible refine And.intro ?_ ?_ | ((with_reducible show resP _ _ _ _ _); simp (maxSteps := 1000000) -implicitDefEqProofs only [r32, push_cast, ↓reduceIte, Nat.reduceEqDiff, reduceCtorEq, Nat.reduceAdd, Nat.reduceLT, Nat.reduceLeDiff]) | (intro _))
      all_goals (simp only [cpF, if_neg h50, hps, psF])
      all_goals (generalize total _ = T at *; generalize sFs main 1 = S at *)
      all_goals clear h62 h19
      · rename_i hS
        have hS : S ≠ 0 := by simpa using hS
        simp [hS]
      · rename_i hT hS
        have hS : S = 0 := by simpa using hS
        have hT : T > 2000 := by simp at hT; omega
        simp [hS, hT]
      · rename_i hT hS
        have hS : S = 0 := by simpa using hS
        have hT : ¬ T > 2000 := by simp at hT; omega
        simp [hS, hT]
    | cons q post =>
      have h61 := t61 xs pre post q hxs (by have := cnts_le_cntP (q := q) (l := xs) (by rw [hxs]; simp); omega)
      simp (maxSteps := 1000000) -implicitDefEqProofs only [h1, h12, h13, mid_lt hxs, mid_wrap hxs hlen, go_sem, ↓reduceIte, Nat.reduceEqDiff, Nat.reduceBEq, Int.reduceToNat, Nat.reduceAdd, Nat.reduceLT, Nat.reduceLeDiff, reduceCtorEq, Nat.reduceSub]
      repeat' (first | ((with_reducible first | refine cgR h61 ?_ ?_); (focus (simp [norefL, noref, norefL_app, norefL_str, norefL_int, norefL_encE, norefL_encS, norefL_encP, noref_encE, noref_encS, noref_encP, noref_encPl]; done)); simp (maxSteps := 1000000) -implicitDefEqProofs only [h1, h12, h13, mid_lt hxs, mid_wrap hxs hlen, go_sem, ↓reduceIte, Nat.reduceEqDiff, Nat.reduceBEq, Int.reduceToNat, Nat.reduceAdd, Nat.reduceLT, Nat.reduceLeDiff, reduceCtorEq, Nat.reduceSub]) | ((with_reducible apply cgF); (focus ((simp (maxSteps := 1000000) -implicitDefEqProofs only [List.map_cons, List.map_nil, push_cast, ↓reduceIte, Nat.reduceEqDiff, reduceCtorEq, Nat.reduceAdd, Nat.reduceLT, Nat.reduceLeDiff] <;> rfl); done)); (with_reducible first | exact h61); (focus (rfl; done)); simp (maxSteps := 1000000) -implicitDefEqProofs only [h1, h12, h13, mid_lt hxs, mid_wrap hxs hlen, go_sem, ↓reduceIte, Nat.reduceEqDiff, Nat.reduceBEq, Int.reduceToNat, Nat.reduceAdd, Nat.reduceLT, Nat.reduceLeDiff, reduceCtorEq, Nat.reduceSub]) | ((with_reducible show F _ _ (Cfg.code (SCode.qregion _) _ _ _)); refine F_q2 ?_; simp (maxSteps := 1000000) -implicitDefEqProofs only [h1, h12, h13, mid_lt hxs, mid_wrap hxs hlen, go_sem, ↓reduceIte, Nat.reduceEqDiff, Nat.reduceBEq, Int.reduceToNat, Nat.reduceAdd, Nat.reduceLT, Nat.reduceLeDiff, reduceCtorEq, Nat.reduceSub]) | ((with_reducible show F _ _ (Cfg.code (SCode.pregion _ _ _ _ _) _ _ _)); refine F_p2 ?_; simp (maxSteps := 1000000) -implicitDefEqProofs only [h1, h12, h13, mid_lt hxs, mid_wrap hxs hlen, go_sem, ↓reduceIte, Nat.reduceEqDiff, Nat.reduceBEq, Int.reduceToNat, Nat.reduceAdd, Nat.reduceLT, Nat.reduceLeDiff, reduceCtorEq, Nat.reduceSub]) | with_reducible refine Fork.mk (fun _ => ?_) (fun _ => ?_) | with_reducible refine And.intro ?_ ?_ | ((with_reducible show resP _ _ _ _ _); simp (maxSteps := 1000000) -implicitDefEqProofs only [r32, push_cast, ↓reduceIte, Nat.reduceEqDiff, reduceCtorEq, Nat.reduceAdd, Nat.reduceLT, Nat.reduceLeDiff]) | (intro _))
      · rename_i hq
        have hq : pF pre q ≠ 0 := by simpa using hq
        simp only [cpF, if_neg h50, hps, psF, if_pos hq]
      · rename_i hq
        have hq : pF pre q = 0 := by simpa using hq
        refine ⟨_, Nat.lt_succ_self _, pre ++ [q], post, by simp [hxs], rfl, ?_, by simp⟩
        rw [hps, psF, hq]; simp
def rolesS (k : Int) (r t : ByteArray) (ps : List ByteArray) : List ByteArray := if k = 5 then ps else if k = 1 ∨ k = 2 then [r, t] else [r]
theorem t63 (k : Int) (r t v l : ByteArray) (ek en : Int) (es : ByteArray) (eas : List Ex) (a b : List St) (p : ByteArray) (ps : List ByteArray) :
    PCall Tryz.prog 63 [encS (.mk k r t v l (.mk ek en es eas) a b p ps)] (· = .fs ((rolesS k r t ps).map .str)) := by
  refine PCall.intro c63 300 (by simp) 20 ?_
  simp (maxSteps := 1000000) -implicitDefEqProofs only [s63, encS_mk, go_sem, ↓reduceIte, Nat.reduceEqDiff, Nat.reduceBEq, Int.reduceToNat, Nat.reduceAdd, Nat.reduceLT, Nat.reduceLeDiff, reduceCtorEq, Nat.reduceSub]
  repeat' (first | ((with_reducible show F _ _ (Cfg.code (SCode.qregion _) _ _ _)); refine F_q2 ?_; simp (maxSteps := 1000000) -implicitDefEqProofs only [go_sem, ↓reduceIte, Nat.reduceEqDiff, Nat.reduceBEq, Int.reduceToNat, Nat.reduceAdd, Nat.reduceLT, Nat.reduceLeDiff, reduceCtorEq, Nat.reduceSub]) | ((with_reducible show F _ _ (Cfg.code (SCode.pregion _ _ _ _ _) _ _ _)); refine F_p2 ?_; simp (maxSteps := 1000000) -implicitDefEqProofs only [go_sem, ↓reduceIte, Nat.reduceEqDiff, Nat.reduceBEq, Int.reduceToNat, Nat.reduceAdd, Nat.reduceLT, Nat.reduceLeDiff, reduceCtorEq, Nat.reduceSub]) | with_reducible refine Fork.mk (fun _ => ?_) (fun _ => ?_) | with_reducible refine And.intro ?_ ?_ | ((with_reducible show resP _ _ _ _ _); simp (maxSteps := 1000000) -implicitDefEqProofs only [r63, push_cast, ↓reduceIte, Nat.reduceEqDiff, reduceCtorEq, Nat.reduceAdd, Nat.reduceLT, Nat.reduceLeDiff]) | (intro _))
  all_goals (simp_all [rolesS])
theorem t27 (k : Int) (r t v l : ByteArray) (ek en : Int) (es : ByteArray) (eas : List Ex) (a b : List St) (p : ByteArray) (ps : List ByteArray) :
    PCall Tryz.prog 27 [encS (.mk k r t v l (.mk ek en es eas) a b p ps)] (· = .fs ((rolesS k r t ps).map .str)) := by
  refine PCall.intro c27 300 (by simp) 20 ?_
  simp (maxSteps := 1000000) -implicitDefEqProofs only [s27, encS_mk, go_sem, ↓reduceIte, Nat.reduceEqDiff, Nat.reduceBEq, Int.reduceToNat, Nat.reduceAdd, Nat.reduceLT, Nat.reduceLeDiff, reduceCtorEq, Nat.reduceSub]
  repeat' (first | ((with_reducible show F _ _ (Cfg.code (SCode.qregion _) _ _ _)); refine F_q2 ?_; simp (maxSteps := 1000000) -implicitDefEqProofs only [go_sem, ↓reduceIte, Nat.reduceEqDiff, Nat.reduceBEq, Int.reduceToNat, Nat.reduceAdd, Nat.reduceLT, Nat.reduceLeDiff, reduceCtorEq, Nat.reduceSub]) | ((with_reducible show F _ _ (Cfg.code (SCode.pregion _ _ _ _ _) _ _ _)); refine F_p2 ?_; simp (maxSteps := 1000000) -implicitDefEqProofs only [go_sem, ↓reduceIte, Nat.reduceEqDiff, Nat.reduceBEq, Int.reduceToNat, Nat.reduceAdd, Nat.reduceLT, Nat.reduceLeDiff, reduceCtorEq, Nat.reduceSub]) | with_reducible refine Fork.mk (fun _ => ?_) (fun _ => ?_) | with_reducible refine And.intro ?_ ?_ | ((with_reducible show resP _ _ _ _ _); simp (maxSteps := 1000000) -implicitDefEqProofs only [r27, push_cast, ↓reduceIte, Nat.reduceEqDiff, reduceCtorEq, Nat.reduceAdd, Nat.reduceLT, Nat.reduceLeDiff]) | (intro _))
  all_goals (simp_all [rolesS])
def procI (xs : List Pr) (nm : ByteArray) : Int := ixF (fun z => decide (z.name = nm)) xs 0
theorem t30 (P : Pla) (nm : ByteArray) : PCall Tryz.prog 30 [encPl P, .str nm] (· = .int .i64 (procI P.procs nm)) := by
  have h59 := t59 P.procs 60 [] [.rptr [.str nm]] (fun z => decide (z.name = nm)) rfl rfl (fun z _ => t60 z nm)
  refine PCall.intro c30 300 (by simp) 20 ?_
  simp (maxSteps := 1000000) -implicitDefEqProofs only [s30, encPl, go_sem, ↓reduceIte, Nat.reduceEqDiff, Nat.reduceBEq, Int.reduceToNat, Nat.reduceAdd, Nat.reduceLT, Nat.reduceLeDiff, reduceCtorEq, Nat.reduceSub]
  repeat' (first | ((with_reducible first | refine cgR h59 ?_ ?_); (focus (simp [norefL, noref, norefL_app, norefL_str, norefL_int, norefL_encE, norefL_encS, norefL_encP, noref_encE, noref_encS, noref_encP, noref_encPl]; done)); simp (maxSteps := 1000000) -implicitDefEqProofs only [go_sem, ↓reduceIte, Nat.reduceEqDiff, Nat.reduceBEq, Int.reduceToNat, Nat.reduceAdd, Nat.reduceLT, Nat.reduceLeDiff, reduceCtorEq, Nat.reduceSub]) | ((with_reducible apply cgF); (focus ((simp (maxSteps := 1000000) -implicitDefEqProofs only [List.map_cons, List.map_nil, push_cast, ↓reduceIte, Nat.reduceEqDiff, reduceCtorEq, Nat.reduceAdd, Nat.reduceLT, Nat.reduceLeDiff] <;> rfl); done)); (with_reducible first | exact h59); (focus (rfl; done)); simp (maxSteps := 1000000) -implicitDefEqProofs only [go_sem, ↓reduceIte, Nat.reduceEqDiff, Nat.reduceBEq, Int.reduceToNat, Nat.reduceAdd, Nat.reduceLT, Nat.reduceLeDiff, reduceCtorEq, Nat.reduceSub]) | ((with_reducible show F _ _ (Cfg.code (SCode.qregion _) _ _ _)); refine F_q2 ?_; simp (maxSteps := 1000000) -implicitDefEqProofs only [go_sem, ↓reduceIte, Nat.reduceEqDiff, Nat.reduceBEq, Int.reduceToNat, Nat.reduceAdd, Nat.reduceLT, Nat.reduceLeDiff, reduceCtorEq, Nat.reduceSub]) | ((with_reducible show F _ _ (Cfg.code (SCode.pregion _ _ _ _ _) _ _ _)); refine F_p2 ?_; simp (maxSteps := 1000000) -implicitDefEqProofs only [go_sem, ↓reduceIte, Nat.reduceEqDiff, Nat.reduceBEq, Int.reduceToNat, Nat.reduceAdd, Nat.reduceLT, Nat.reduceLeDiff, reduceCtorEq, Nat.reduceSub]) | with_reducible refine Fork.mk (fun _ => ?_) (fun _ => ?_) | with_reducible refine And.intro ?_ ?_ | ((with_reducible show resP _ _ _ _ _); simp (maxSteps := 1000000) -implicitDefEqProofs only [r30, push_cast, ↓reduceIte, Nat.reduceEqDiff, reduceCtorEq, Nat.reduceAdd, Nat.reduceLT, Nat.reduceLeDiff]) | (intro _))
  all_goals (try rfl)
theorem t65 (P : Pla) (nm : ByteArray) : PCall Tryz.prog 65 [encPl P, .str nm] (· = .int .i64 (procI P.procs nm)) := by
  have h59 := t59 P.procs 76 [] [.rptr [.str nm]] (fun z => decide (z.name = nm)) rfl rfl (fun z _ => t76 z nm)
  refine PCall.intro c65 300 (by simp) 20 ?_
  simp (maxSteps := 1000000) -implicitDefEqProofs only [s65, encPl, go_sem, ↓reduceIte, Nat.reduceEqDiff, Nat.reduceBEq, Int.reduceToNat, Nat.reduceAdd, Nat.reduceLT, Nat.reduceLeDiff, reduceCtorEq, Nat.reduceSub]
  repeat' (first | ((with_reducible first | refine cgR h59 ?_ ?_); (focus (simp [norefL, noref, norefL_app, norefL_str, norefL_int, norefL_encE, norefL_encS, norefL_encP, noref_encE, noref_encS, noref_encP, noref_encPl]; done)); simp (maxSteps := 1000000) -implicitDefEqProofs only [go_sem, ↓reduceIte, Nat.reduceEqDiff, Nat.reduceBEq, Int.reduceToNat, Nat.reduceAdd, Nat.reduceLT, Nat.reduceLeDiff, reduceCtorEq, Nat.reduceSub]) | ((with_reducible apply cgF); (focus ((simp (maxSteps := 1000000) -implicitDefEqProofs only [List.map_cons, List.map_nil, push_cast, ↓reduceIte, Nat.reduceEqDiff, reduceCtorEq, Nat.reduceAdd, Nat.reduceLT, Nat.reduceLeDiff] <;> rfl); done)); (with_reducible first | exact h59); (focus (rfl; done)); simp (maxSteps := 1000000) -implicitDefEqProofs only [go_sem, ↓reduceIte, Nat.reduceEqDiff, Nat.reduceBEq, Int.reduceToNat, Nat.reduceAdd, Nat.reduceLT, Nat.reduceLeDiff, reduceCtorEq, Nat.reduceSub]) | ((with_reducible show F _ _ (Cfg.code (SCode.qregion _) _ _ _)); refine F_q2 ?_; simp (maxSteps := 1000000) -implicitDefEqProofs only [go_sem, ↓reduceIte, Nat.reduceEqDiff, Nat.reduceBEq, Int.reduceToNat, Nat.reduceAdd, Nat.reduceLT, Nat.reduceLeDiff, reduceCtorEq, Nat.reduceSub]) | ((with_reducible show F _ _ (Cfg.code (SCode.pregion _ _ _ _ _) _ _ _)); refine F_p2 ?_; simp (maxSteps := 1000000) -implicitDefEqProofs only [go_sem, ↓reduceIte, Nat.reduceEqDiff, Nat.reduceBEq, Int.reduceToNat, Nat.reduceAdd, Nat.reduceLT, Nat.reduceLeDiff, reduceCtorEq, Nat.reduceSub]) | with_reducible refine Fork.mk (fun _ => ?_) (fun _ => ?_) | with_reducible refine And.intro ?_ ?_ | ((with_reducible show resP _ _ _ _ _); simp (maxSteps := 1000000) -implicitDefEqProofs only [r65, push_cast, ↓reduceIte, Nat.reduceEqDiff, reduceCtorEq, Nat.reduceAdd, Nat.reduceLT, Nat.reduceLeDiff]) | (intro _))
  all_goals (try rfl)
theorem t64 (pre post : List Pr) (q : Pr) (main : List St) (nm : ByteArray) :
    PCall Tryz.prog 64 [.str nm, .rptr [.fs ((pre ++ q :: post).map encP), .fs (main.map encS)], .rptr [.int .i64 pre.length]] (· = .bool (!q.roles.any fun y => decide (nm = y))) := by
  have hg := mid_get encP (rfl : pre ++ q :: post = pre ++ q :: post)
  have hlt := mid_lt (rfl : pre ++ q :: post = pre ++ q :: post)
  simp only [encP] at hg
  have h29 := t29 q.roles nm
  refine PCall.intro c64 300 (by simp) 20 ?_
  generalize hL : pre ++ q :: post = L at *
  simp (maxSteps := 1000000) -implicitDefEqProofs only [s64, hg, hlt, go_sem, ↓reduceIte, Nat.reduceEqDiff, Nat.reduceBEq, Int.reduceToNat, Nat.reduceAdd, Nat.reduceLT, Nat.reduceLeDiff, reduceCtorEq, Nat.reduceSub]
  repeat' (first | ((with_reducible first | refine cgR h29 ?_ ?_); (focus (simp [norefL, noref, norefL_app, norefL_str, norefL_int, norefL_encE, norefL_encS, norefL_encP, noref_encE, noref_encS, noref_encP, noref_encPl]; done)); simp (maxSteps := 1000000) -implicitDefEqProofs only [hg, hlt, go_sem, ↓reduceIte, Nat.reduceEqDiff, Nat.reduceBEq, Int.reduceToNat, Nat.reduceAdd, Nat.reduceLT, Nat.reduceLeDiff, reduceCtorEq, Nat.reduceSub]) | ((with_reducible apply cgF); (focus ((simp (maxSteps := 1000000) -implicitDefEqProofs only [List.map_cons, List.map_nil, push_cast, ↓reduceIte, Nat.reduceEqDiff, reduceCtorEq, Nat.reduceAdd, Nat.reduceLT, Nat.reduceLeDiff] <;> rfl); done)); (with_reducible first | exact h29); (focus (rfl; done)); simp (maxSteps := 1000000) -implicitDefEqProofs only [hg, hlt, go_sem, ↓reduceIte, Nat.reduceEqDiff, Nat.reduceBEq, Int.reduceToNat, Nat.reduceAdd, Nat.reduceLT, Nat.reduceLeDiff, reduceCtorEq, Nat.reduceSub]) | ((with_reducible show F _ _ (Cfg.code (SCode.qregion _) _ _ _)); refine F_q2 ?_; simp (maxSteps := 1000000) -implicitDefEqProofs only [hg, hlt, go_sem, ↓reduceIte, Nat.reduceEqDiff, Nat.reduceBEq, Int.reduceToNat, Nat.reduceAdd, Nat.reduceLT, Nat.reduceLeDiff, reduceCtorEq, Nat.reduceSub]) | ((with_reducible show F _ _ (Cfg.code (SCode.pregion _ _ _ _ _) _ _ _)); refine F_p2 ?_; simp (maxSteps := 1000000) -implicitDefEqProofs only [hg, hlt, go_sem, ↓reduceIte, Nat.reduceEqDiff, Nat.reduceBEq, Int.reduceToNat, Nat.reduceAdd, Nat.reduceLT, Nat.reduceLeDiff, reduceCtorEq, Nat.reduceSub]) | with_reducible refine Fork.mk (fun _ => ?_) (fun _ => ?_) | with_reducible refine And.intro ?_ ?_ | ((with_reducible show resP _ _ _ _ _); simp (maxSteps := 1000000) -implicitDefEqProofs only [r64, push_cast, ↓reduceIte, Nat.reduceEqDiff, reduceCtorEq, Nat.reduceAdd, Nat.reduceLT, Nat.reduceLeDiff]) | (intro _))
  all_goals (try rfl)
theorem ixF_zip {α : Type} (p : α → Bool) : ∀ (xs : List α) (i : Int), 0 ≤ i → (ixF p xs i = -1 ∧ xs.find? p = none) ∨ ∃ pre q post, xs = pre ++ q :: post ∧ ixF p xs i = i + (pre.length : Int) ∧ xs.find? p = some q
  | [], i, _ => .inl ⟨rfl, rfl⟩
  | x :: l, i, hi => by
    by_cases hp : p x = true
    · exact .inr ⟨[], x, l, rfl, by simp [ixF, hp], by simp [hp]⟩
    · rcases ixF_zip p l (i + 1) (by omega) with ⟨h1, h2⟩ | ⟨pre, q, post, h1, h2, h3⟩
      · exact .inl ⟨by simp [ixF, hp, h1], by rw [List.find?_cons_of_neg hp, h2]⟩
      · refine .inr ⟨x :: pre, q, post, by simp [h1], ?_, by rw [List.find?_cons_of_neg hp, h3]⟩
        simp only [ixF, hp, h2, List.length_cons, Bool.false_eq_true, if_false]; omega
theorem neg1 : (0 ≤ (-1 : Int)) = False := by simp
theorem lt1 : ((-1 : Int) < 0) = True := by simp
def dupF : List ByteArray → List ByteArray → Bool
  | _, [] => false
  | seen, x :: l => (seen.any fun y => decide (x = y)) || dupF (seen ++ [x]) l
def cF (P : Pla) (rs : Option (List ByteArray)) (k : Int) (r t p : ByteArray) (ps : List ByteArray) : Int :=
  if (match rs with | none => false | some rs => (rolesS k r t ps).any fun z => !rs.any fun y => decide (z = y)) then 5
  else if nE t = true ∧ r = t then 6 else if k ≠ 5 then 0
  else match P.procs.find? (fun z => decide (z.name = p)) with
    | none => 8
    | some q => if q.roles.length ≠ ps.length then 3 else if dupF [] ps then 6 else 0
theorem t34n (P : Pla) (k : Int) (r t v l : ByteArray) (ek en : Int) (es : ByteArray) (eas : List Ex) (a b : List St) (p : ByteArray) (ps : List ByteArray) :
    PCall Tryz.prog 34 [encPl P, .int .i64 (-1), encS (.mk k r t v l (.mk ek en es eas) a b p ps)] (· = .int .i64 (cF P none k r t p ps)) := by
  have h65 := t65 P p
  rcases P with ⟨xs, main⟩
  simp only [encPl] at h65
  rcases ixF_zip (fun z : Pr => decide (z.name = p)) xs 0 (by omega) with ⟨hI, hF⟩ | ⟨pre, q, post, hxs, hI, hQ⟩
  · rw [procI, hI] at h65
    refine PCall.intro c34 400 (by simp) 20 ?_
    simp (maxSteps := 1000000) -implicitDefEqProofs only [s34, encS_mk, encPl, neg1, lt1, go_sem, ↓reduceIte, Nat.reduceEqDiff, Nat.reduceBEq, Int.reduceToNat, Nat.reduceAdd, Nat.reduceLT, Nat.reduceLeDiff, reduceCtorEq, Nat.reduceSub]
    repeat' (first | ((with_reducible first | refine cgR h65 ?_ ?_); (focus (simp [norefL, noref, norefL_app, norefL_str, norefL_int, norefL_encE, norefL_encS, norefL_encP, noref_encE, noref_encS, noref_encP, noref_encPl]; done)); simp (maxSteps := 1000000) -implicitDefEqProofs only [neg1, lt1, go_sem, ↓reduceIte, Nat.reduceEqDiff, Nat.reduceBEq, Int.reduceToNat, Nat.reduceAdd, Nat.reduceLT, Nat.reduceLeDiff, reduceCtorEq, Nat.reduceSub]) | ((with_reducible apply cgF); (focus ((simp (maxSteps := 1000000) -implicitDefEqProofs only [List.map_cons, List.map_nil, push_cast, ↓reduceIte, Nat.reduceEqDiff, reduceCtorEq, Nat.reduceAdd, Nat.reduceLT, Nat.reduceLeDiff] <;> rfl); done)); (with_reducible first | exact h65); (focus (rfl; done)); simp (maxSteps := 1000000) -implicitDefEqProofs only [neg1, lt1, go_sem, ↓reduceIte, Nat.reduceEqDiff, Nat.reduceBEq, Int.reduceToNat, Nat.reduceAdd, Nat.reduceLT, Nat.reduceLeDiff, reduceCtorEq, Nat.reduceSub]) | ((with_reducible show F _ _ (Cfg.code (SCode.qregion _) _ _ _)); refine F_q2 ?_; simp (maxSteps := 1000000) -implicitDefEqProofs only [neg1, lt1, go_sem, ↓reduceIte, Nat.reduceEqDiff, Nat.reduceBEq, Int.reduceToNat, Nat.reduceAdd, Nat.reduceLT, Nat.reduceLeDiff, reduceCtorEq, Nat.reduceSub]) | ((with_reducible show F _ _ (Cfg.code (SCode.pregion _ _ _ _ _) _ _ _)); refine F_p2 ?_; simp (maxSteps := 1000000) -implicitDefEqProofs only [neg1, lt1, go_sem, ↓reduceIte, Nat.reduceEqDiff, Nat.reduceBEq, Int.reduceToNat, Nat.reduceAdd, Nat.reduceLT, Nat.reduceLeDiff, reduceCtorEq, Nat.reduceSub]) | with_reducible refine Fork.mk (fun _ => ?_) (fun _ => ?_) | with_reducible refine And.intro ?_ ?_ | ((with_reducible show resP _ _ _ _ _); simp (maxSteps := 1000000) -implicitDefEqProofs only [r34, push_cast, ↓reduceIte, Nat.reduceEqDiff, reduceCtorEq, Nat.reduceAdd, Nat.reduceLT, Nat.reduceLeDiff]) | (intro _))
    all_goals (clear h65; simp only [cF, hF]; simp_all [nE])
  · rw [procI, hI] at h65
    have hg := mid_get encP hxs
    have hlt := mid_lt hxs
    simp only [encP] at hg
    have hneg : ¬ ((pre.length : Int) < 0) := by omega
    rw [Int.zero_add] at h65
    refine PCall.intro c34 400 (by simp) 20 ?_
    simp (maxSteps := 1000000) -implicitDefEqProofs only [s34, encS_mk, encPl, hg, hlt, hneg, neg1, lt1, go_sem, ↓reduceIte, Nat.reduceEqDiff, Nat.reduceBEq, Int.reduceToNat, Nat.reduceAdd, Nat.reduceLT, Nat.reduceLeDiff, reduceCtorEq, Nat.reduceSub]
    repeat' (first | ((with_reducible first | refine cgR h65 ?_ ?_); (focus (simp [norefL, noref, norefL_app, norefL_str, norefL_int, norefL_encE, norefL_encS, norefL_encP, noref_encE, noref_encS, noref_encP, noref_encPl]; done)); simp (maxSteps := 1000000) -implicitDefEqProofs only [hg, hlt, hneg, neg1, lt1, go_sem, ↓reduceIte, Nat.reduceEqDiff, Nat.reduceBEq, Int.reduceToNat, Nat.reduceAdd, Nat.reduceLT, Nat.reduceLeDiff, reduceCtorEq, Nat.reduceSub]) | ((with_reducible apply cgF); (focus ((simp (maxSteps := 1000000) -implicitDefEqProofs only [List.map_cons, List.map_nil, push_cast, ↓reduceIte, Nat.reduceEqDiff, reduceCtorEq, Nat.reduceAdd, Nat.reduceLT, Nat.reduceLeDiff] <;> rfl); done)); (with_reducible first | exact h65); (focus (rfl; done)); simp (maxSteps := 1000000) -implicitDefEqProofs only [hg, hlt, hneg, neg1, lt1, go_sem, ↓reduceIte, Nat.reduceEqDiff, Nat.reduceBEq, Int.reduceToNat, Nat.reduceAdd, Nat.reduceLT, Nat.reduceLeDiff, reduceCtorEq, Nat.reduceSub]) | ((with_reducible show F _ _ (Cfg.code (SCode.qregion _) _ _ _)); refine F_q2 ?_; simp (maxSteps := 1000000) -implicitDefEqProofs only [hg, hlt, hneg, neg1, lt1, go_sem, ↓reduceIte, Nat.reduceEqDiff, Nat.reduceBEq, Int.reduceToNat, Nat.reduceAdd, Nat.reduceLT, Nat.reduceLeDiff, reduceCtorEq, Nat.reduceSub]) | ((with_reducible show F _ _ (Cfg.code (SCode.pregion _ _ _ _ _) _ _ _)); refine F_p2 ?_; simp (maxSteps := 1000000) -implicitDefEqProofs only [hg, hlt, hneg, neg1, lt1, go_sem, ↓reduceIte, Nat.reduceEqDiff, Nat.reduceBEq, Int.reduceToNat, Nat.reduceAdd, Nat.reduceLT, Nat.reduceLeDiff, reduceCtorEq, Nat.reduceSub]) | with_reducible refine Fork.mk (fun _ => ?_) (fun _ => ?_) | with_reducible refine And.intro ?_ ?_ | ((with_reducible show resP _ _ _ _ _); simp (maxSteps := 1000000) -implicitDefEqProofs only [r34, push_cast, ↓reduceIte, Nat.reduceEqDiff, reduceCtorEq, Nat.reduceAdd, Nat.reduceLT, Nat.reduceLeDiff]) | (intro _))
    all_goals clear h65
    all_goals first
      | ((with_reducible show F _ _ _)
         have hlen : ps.length ≤ 9223372036854775807 := by assumption
         have hR : cF { procs := xs, main := main } none k r t p ps = if dupF [] ps then 6 else 0 := by
           clear hg hlt
           simp only [cF, hQ]
           generalize dupF [] ps = D at *
           generalize ps.length = n at *
           generalize q.roles.length = m at *
           simp_all [nE] <;> omega
         refine F_loop (fun m e H => ∃ p2 q2, ps = p2 ++ q2 ∧ m = q2.length ∧ dupF [] ps = dupF p2 q2 ∧ (∃ X Y, H = [X, Y, Blk.row [.agg [.int .i64 k, .str r, .str t, .str v, .str l, .int .i64 ek, .int .i64 en, .str es, .fs (eas.map encE), .fs (a.map encS), .fs (b.map encS), .str p, .fs (ps.map .str)]]]) ∧ e 5 = .ptr 2 0 0 ∧ e 49 = .fs (ps.map .str) ∧ e 50 = .int .i64 ps.length ∧ e 51 = .int .i64 p2.length) ps.length ⟨[], ps, by simp [upd, env0]⟩ ?_
         rintro m e H ⟨p2, q2, hq, rfl, hd, ⟨X, Y, rfl⟩, h5, h34, h35, h36⟩
         cases q2 with
         | nil =>
           simp (maxSteps := 1000000) -implicitDefEqProofs only [h5, h34, h35, h36, mid_not hq, go_sem, ↓reduceIte, Nat.reduceEqDiff, Nat.reduceBEq, Int.reduceToNat, Nat.reduceAdd, Nat.reduceLT, Nat.reduceLeDiff, reduceCtorEq, Nat.reduceSub]
           simp (maxSteps := 1000000) -implicitDefEqProofs only [r34, push_cast, ↓reduceIte, Nat.reduceEqDiff, reduceCtorEq, Nat.reduceAdd, Nat.reduceLT, Nat.reduceLeDiff]
           rw [hR, hd]; simp [dupF]
         | cons y q2 =>
           have hg2 := mid_get V.str hq
           have ht2 := mid_take V.str hq
           have hl2 : (p2.length : Int) ≤ ps.length := by rw [hq]; simp; omega
           simp (maxSteps := 1000000) -implicitDefEqProofs only [h5, h34, h35, h36, hg2, mid_lt hq, mid_wrap hq hlen, headOk_str, hl2, ht2, Int.le_refl, Int.natCast_nonneg, go_sem, ↓reduceIte, Nat.reduceEqDiff, Nat.reduceBEq, Int.reduceToNat, Nat.reduceAdd, Nat.reduceLT, Nat.reduceLeDiff, reduceCtorEq, Nat.reduceSub]
           repeat' (first | ((with_reducible first | refine cgR (t29 p2 y) ?_ ?_); (focus (simp [norefL, noref, norefL_app, norefL_str, norefL_int, norefL_encE, norefL_encS, norefL_encP, noref_encE, noref_encS, noref_encP, noref_encPl]; done)); simp (maxSteps := 1000000) -implicitDefEqProofs only [h5, h34, h35, h36, hg2, mid_lt hq, mid_wrap hq hlen, headOk_str, hl2, ht2, Int.le_refl, Int.natCast_nonneg, go_sem, ↓reduceIte, Nat.reduceEqDiff, Nat.reduceBEq, Int.reduceToNat, Nat.reduceAdd, Nat.reduceLT, Nat.reduceLeDiff, reduceCtorEq, Nat.reduceSub]) | ((with_reducible apply cgF); (focus ((simp (maxSteps := 1000000) -implicitDefEqProofs only [List.map_cons, List.map_nil, push_cast, ↓reduceIte, Nat.reduceEqDiff, reduceCtorEq, Nat.reduceAdd, Nat.reduceLT, Nat.reduceLeDiff] <;> rfl); done)); (with_reducible first | exact (t29 p2 y)); (focus (rfl; done)); simp (maxSteps := 1000000) -implicitDefEqProofs only [h5, h34, h35, h36, hg2, mid_lt hq, mid_wrap hq hlen, headOk_str, hl2, ht2, Int.le_refl, Int.natCast_nonneg, go_sem, ↓reduceIte, Nat.reduceEqDiff, Nat.reduceBEq, Int.reduceToNat, Nat.reduceAdd, Nat.reduceLT, Nat.reduceLeDiff, reduceCtorEq, Nat.reduceSub]) | ((with_reducible show F _ _ (Cfg.code (SCode.qregion _) _ _ _)); refine F_q2 ?_; simp (maxSteps := 1000000) -implicitDefEqProofs only [h5, h34, h35, h36, hg2, mid_lt hq, mid_wrap hq hlen, headOk_str, hl2, ht2, Int.le_refl, Int.natCast_nonneg, go_sem, ↓reduceIte, Nat.reduceEqDiff, Nat.reduceBEq, Int.reduceToNat, Nat.reduceAdd, Nat.reduceLT, Nat.reduceLeDiff, reduceCtorEq, Nat.reduceSub]) | ((with_reducible show F _ _ (Cfg.code (SCode.pregion _ _ _ _ _) _ _ _)); refine F_p2 ?_; simp (maxSteps := 1000000) -implicitDefEqProofs only [h5, h34, h35, h36, hg2, mid_lt hq, mid_wrap hq hlen, headOk_str, hl2, ht2, Int.le_refl, Int.natCast_nonneg, go_sem, ↓reduceIte, Nat.reduceEqDiff, Nat.reduceBEq, Int.reduceToNat, Nat.reduceAdd, Nat.reduceLT, Nat.reduceLeDiff, reduceCtorEq, Nat.reduceSub]) | with_reducible refine Fork.mk (fun _ => ?_) (fun _ => ?_) | with_reducible refine And.intro ?_ ?_ | ((with_reducible show resP _ _ _ _ _); simp (maxSteps := 1000000) -implicitDefEqProofs only [r34, push_cast, ↓reduceIte, Nat.reduceEqDiff, reduceCtorEq, Nat.reduceAdd, Nat.reduceLT, Nat.reduceLeDiff]) | (intro _))
           · rename_i hm
             rw [hR, hd]; simp only [dupF, hm]; simp
           · rename_i hm
             refine ⟨_, Nat.lt_succ_self _, p2 ++ [y], q2, by simp [hq], rfl, ?_, by simp⟩
             rw [hd]; simp only [dupF, hm]; simp)
      | (clear hg hlt; simp only [cF, hQ]; generalize dupF [] ps = D at *; generalize ps.length = n at *; generalize q.roles.length = m at *; simp_all [nE]; done)
      | (clear hg hlt; simp only [cF, hQ]; generalize dupF [] ps = D at *; generalize ps.length = n at *; generalize q.roles.length = m at *; simp_all [nE]; omega)
theorem t34p (P : Pla) (pa pb : List Pr) (qa : Pr) (hA : P.procs = pa ++ qa :: pb) (k : Int) (r t v l : ByteArray) (ek en : Int) (es : ByteArray) (eas : List Ex) (a b : List St) (p : ByteArray) (ps : List ByteArray) :
    PCall Tryz.prog 34 [encPl P, .int .i64 pa.length, encS (.mk k r t v l (.mk ek en es eas) a b p ps)] (· = .int .i64 (cF P (some qa.roles) k r t p ps)) := by
  have h65 := t65 P p
  rcases P with ⟨xs, main⟩
  simp only at hA
  have h63 := t63 k r t v l ek en es eas a b p ps
  rw [encS_mk] at h63
  have h64 : ∀ z ∈ rolesS k r t ps, PCall Tryz.prog 64 ([] ++ [V.str z] ++ [.rptr [.fs (xs.map encP), .fs (main.map encS)], .rptr [.int .i64 pa.length]]) (· = .bool (!qa.roles.any fun y => decide (z = y))) := by
    intro z _; rw [hA]; exact t64 pa pb qa main z
  have h26 := t26 (rolesS k r t ps) 64 [] [.rptr [.fs (xs.map encP), .fs (main.map encS)], .rptr [.int .i64 pa.length]] (fun z => !qa.roles.any fun y => decide (z = y)) rfl (by simp [norefL, noref, norefL_encP, norefL_encS]) h64
  clear h64
  generalize hB : (rolesS k r t ps).any (fun z => !qa.roles.any fun y => decide (z = y)) = Bad at h26
  have hge : (0 ≤ (pa.length : Int)) = True := by simp
  simp only [encPl] at h65
  rcases ixF_zip (fun z : Pr => decide (z.name = p)) xs 0 (by omega) with ⟨hI, hF⟩ | ⟨pre, q, post, hxs, hI, hQ⟩
  · rw [procI, hI] at h65
    refine PCall.intro c34 400 (by simp) 20 ?_
    simp (maxSteps := 1000000) -implicitDefEqProofs only [s34, encS_mk, encPl, neg1, lt1, hge, go_sem, ↓reduceIte, Nat.reduceEqDiff, Nat.reduceBEq, Int.reduceToNat, Nat.reduceAdd, Nat.reduceLT, Nat.reduceLeDiff, reduceCtorEq, Nat.reduceSub]
    repeat' (first | ((with_reducible first | refine cgR h65 ?_ ?_ | refine cgR h63 ?_ ?_ | refine cgR h26 ?_ ?_); (focus (simp [norefL, noref, norefL_app, norefL_str, norefL_int, norefL_encE, norefL_encS, norefL_encP, noref_encE, noref_encS, noref_encP, noref_encPl]; done)); simp (maxSteps := 1000000) -implicitDefEqProofs only [neg1, lt1, hge, go_sem, ↓reduceIte, Nat.reduceEqDiff, Nat.reduceBEq, Int.reduceToNat, Nat.reduceAdd, Nat.reduceLT, Nat.reduceLeDiff, reduceCtorEq, Nat.reduceSub]) | ((with_reducible apply cgF); (focus ((simp (maxSteps := 1000000) -implicitDefEqProofs only [List.map_cons, List.map_nil, push_cast, ↓reduceIte, Nat.reduceEqDiff, reduceCtorEq, Nat.reduceAdd, Nat.reduceLT, Nat.reduceLeDiff] <;> rfl); done)); (with_reducible first | exact h65 | exact h63 | exact h26); (focus (rfl; done)); simp (maxSteps := 1000000) -implicitDefEqProofs only [neg1, lt1, hge, go_sem, ↓reduceIte, Nat.reduceEqDiff, Nat.reduceBEq, Int.reduceToNat, Nat.reduceAdd, Nat.reduceLT, Nat.reduceLeDiff, reduceCtorEq, Nat.reduceSub]) | ((with_reducible show F _ _ (Cfg.code (SCode.qregion _) _ _ _)); refine F_q2 ?_; simp (maxSteps := 1000000) -implicitDefEqProofs only [neg1, lt1, hge, go_sem, ↓reduceIte, Nat.reduceEqDiff, Nat.reduceBEq, Int.reduceToNat, Nat.reduceAdd, Nat.reduceLT, Nat.reduceLeDiff, reduceCtorEq, Nat.reduceSub]) | ((with_reducible show F _ _ (Cfg.code (SCode.pregion _ _ _ _ _) _ _ _)); refine F_p2 ?_; simp (maxSteps := 1000000) -implicitDefEqProofs only [neg1, lt1, hge, go_sem, ↓reduceIte, Nat.reduceEqDiff, Nat.reduceBEq, Int.reduceToNat, Nat.reduceAdd, Nat.reduceLT, Nat.reduceLeDiff, reduceCtorEq, Nat.reduceSub]) | with_reducible refine Fork.mk (fun _ => ?_) (fun _ => ?_) | with_reducible refine And.intro ?_ ?_ | ((with_reducible show resP _ _ _ _ _); simp (maxSteps := 1000000) -implicitDefEqProofs only [r34, push_cast, ↓reduceIte, Nat.reduceEqDiff, reduceCtorEq, Nat.reduceAdd, Nat.reduceLT, Nat.reduceLeDiff]) | (intro _))
    all_goals (clear h65 h63 h26; simp only [cF, hF, hB]; simp_all [nE])
  · rw [procI, hI] at h65
    have hg := mid_get encP hxs
    have hlt := mid_lt hxs
    simp only [encP] at hg
    have hneg : ¬ ((pre.length : Int) < 0) := by omega
    rw [Int.zero_add] at h65
    refine PCall.intro c34 400 (by simp) 20 ?_
    simp (maxSteps := 1000000) -implicitDefEqProofs only [s34, encS_mk, encPl, hg, hlt, hneg, neg1, lt1, hge, go_sem, ↓reduceIte, Nat.reduceEqDiff, Nat.reduceBEq, Int.reduceToNat, Nat.reduceAdd, Nat.reduceLT, Nat.reduceLeDiff, reduceCtorEq, Nat.reduceSub]
    repeat' (first | ((with_reducible first | refine cgR h65 ?_ ?_ | refine cgR h63 ?_ ?_ | refine cgR h26 ?_ ?_); (focus (simp [norefL, noref, norefL_app, norefL_str, norefL_int, norefL_encE, norefL_encS, norefL_encP, noref_encE, noref_encS, noref_encP, noref_encPl]; done)); simp (maxSteps := 1000000) -implicitDefEqProofs only [hg, hlt, hneg, neg1, lt1, hge, go_sem, ↓reduceIte, Nat.reduceEqDiff, Nat.reduceBEq, Int.reduceToNat, Nat.reduceAdd, Nat.reduceLT, Nat.reduceLeDiff, reduceCtorEq, Nat.reduceSub]) | ((with_reducible apply cgF); (focus ((simp (maxSteps := 1000000) -implicitDefEqProofs only [List.map_cons, List.map_nil, push_cast, ↓reduceIte, Nat.reduceEqDiff, reduceCtorEq, Nat.reduceAdd, Nat.reduceLT, Nat.reduceLeDiff] <;> rfl); done)); (with_reducible first | exact h65 | exact h63 | exact h26); (focus (rfl; done)); simp (maxSteps := 1000000) -implicitDefEqProofs only [hg, hlt, hneg, neg1, lt1, hge, go_sem, ↓reduceIte, Nat.reduceEqDiff, Nat.reduceBEq, Int.reduceToNat, Nat.reduceAdd, Nat.reduceLT, Nat.reduceLeDiff, reduceCtorEq, Nat.reduceSub]) | ((with_reducible show F _ _ (Cfg.code (SCode.qregion _) _ _ _)); refine F_q2 ?_; simp (maxSteps := 1000000) -implicitDefEqProofs only [hg, hlt, hneg, neg1, lt1, hge, go_sem, ↓reduceIte, Nat.reduceEqDiff, Nat.reduceBEq, Int.reduceToNat, Nat.reduceAdd, Nat.reduceLT, Nat.reduceLeDiff, reduceCtorEq, Nat.reduceSub]) | ((with_reducible show F _ _ (Cfg.code (SCode.pregion _ _ _ _ _) _ _ _)); refine F_p2 ?_; simp (maxSteps := 1000000) -implicitDefEqProofs only [hg, hlt, hneg, neg1, lt1, hge, go_sem, ↓reduceIte, Nat.reduceEqDiff, Nat.reduceBEq, Int.reduceToNat, Nat.reduceAdd, Nat.reduceLT, Nat.reduceLeDiff, reduceCtorEq, Nat.reduceSub]) | with_reducible refine Fork.mk (fun _ => ?_) (fun _ => ?_) | with_reducible refine And.intro ?_ ?_ | ((with_reducible show resP _ _ _ _ _); simp (maxSteps := 1000000) -implicitDefEqProofs only [r34, push_cast, ↓reduceIte, Nat.reduceEqDiff, reduceCtorEq, Nat.reduceAdd, Nat.reduceLT, Nat.reduceLeDiff]) | (intro _))
    all_goals clear h65 h63 h26
    all_goals first
      | ((with_reducible show F _ _ _)
         have hlen : ps.length ≤ 9223372036854775807 := by assumption
         have hR : cF { procs := xs, main := main } (some qa.roles) k r t p ps = if dupF [] ps then 6 else 0 := by
           clear hg hlt
           simp only [cF, hQ, hB]
           generalize dupF [] ps = D at *
           generalize ps.length = n at *
           generalize q.roles.length = m at *
           simp_all [nE] <;> omega
         refine F_loop (fun m e H => ∃ p2 q2, ps = p2 ++ q2 ∧ m = q2.length ∧ dupF [] ps = dupF p2 q2 ∧ (∃ X Y, H = [X, Y, Blk.row [.agg [.int .i64 k, .str r, .str t, .str v, .str l, .int .i64 ek, .int .i64 en, .str es, .fs (eas.map encE), .fs (a.map encS), .fs (b.map encS), .str p, .fs (ps.map .str)]]]) ∧ e 5 = .ptr 2 0 0 ∧ e 49 = .fs (ps.map .str) ∧ e 50 = .int .i64 ps.length ∧ e 51 = .int .i64 p2.length) ps.length ⟨[], ps, by simp [upd, env0]⟩ ?_
         rintro m e H ⟨p2, q2, hq, rfl, hd, ⟨X, Y, rfl⟩, h5, h34, h35, h36⟩
         cases q2 with
         | nil =>
           simp (maxSteps := 1000000) -implicitDefEqProofs only [h5, h34, h35, h36, mid_not hq, go_sem, ↓reduceIte, Nat.reduceEqDiff, Nat.reduceBEq, Int.reduceToNat, Nat.reduceAdd, Nat.reduceLT, Nat.reduceLeDiff, reduceCtorEq, Nat.reduceSub]
           simp (maxSteps := 1000000) -implicitDefEqProofs only [r34, push_cast, ↓reduceIte, Nat.reduceEqDiff, reduceCtorEq, Nat.reduceAdd, Nat.reduceLT, Nat.reduceLeDiff]
           rw [hR, hd]; simp [dupF]
         | cons y q2 =>
           have hg2 := mid_get V.str hq
           have ht2 := mid_take V.str hq
           have hl2 : (p2.length : Int) ≤ ps.length := by rw [hq]; simp; omega
           simp (maxSteps := 1000000) -implicitDefEqProofs only [h5, h34, h35, h36, hg2, mid_lt hq, mid_wrap hq hlen, headOk_str, hl2, ht2, Int.le_refl, Int.natCast_nonneg, go_sem, ↓reduceIte, Nat.reduceEqDiff, Nat.reduceBEq, Int.reduceToNat, Nat.reduceAdd, Nat.reduceLT, Nat.reduceLeDiff, reduceCtorEq, Nat.reduceSub]
           repeat' (first | ((with_reducible first | refine cgR (t29 p2 y) ?_ ?_); (focus (simp [norefL, noref, norefL_app, norefL_str, norefL_int, norefL_encE, norefL_encS, norefL_encP, noref_encE, noref_encS, noref_encP, noref_encPl]; done)); simp (maxSteps := 1000000) -implicitDefEqProofs only [h5, h34, h35, h36, hg2, mid_lt hq, mid_wrap hq hlen, headOk_str, hl2, ht2, Int.le_refl, Int.natCast_nonneg, go_sem, ↓reduceIte, Nat.reduceEqDiff, Nat.reduceBEq, Int.reduceToNat, Nat.reduceAdd, Nat.reduceLT, Nat.reduceLeDiff, reduceCtorEq, Nat.reduceSub]) | ((with_reducible apply cgF); (focus ((simp (maxSteps := 1000000) -implicitDefEqProofs only [List.map_cons, List.map_nil, push_cast, ↓reduceIte, Nat.reduceEqDiff, reduceCtorEq, Nat.reduceAdd, Nat.reduceLT, Nat.reduceLeDiff] <;> rfl); done)); (with_reducible first | exact (t29 p2 y)); (focus (rfl; done)); simp (maxSteps := 1000000) -implicitDefEqProofs only [h5, h34, h35, h36, hg2, mid_lt hq, mid_wrap hq hlen, headOk_str, hl2, ht2, Int.le_refl, Int.natCast_nonneg, go_sem, ↓reduceIte, Nat.reduceEqDiff, Nat.reduceBEq, Int.reduceToNat, Nat.reduceAdd, Nat.reduceLT, Nat.reduceLeDiff, reduceCtorEq, Nat.reduceSub]) | ((with_reducible show F _ _ (Cfg.code (SCode.qregion _) _ _ _)); refine F_q2 ?_; simp (maxSteps := 1000000) -implicitDefEqProofs only [h5, h34, h35, h36, hg2, mid_lt hq, mid_wrap hq hlen, headOk_str, hl2, ht2, Int.le_refl, Int.natCast_nonneg, go_sem, ↓reduceIte, Nat.reduceEqDiff, Nat.reduceBEq, Int.reduceToNat, Nat.reduceAdd, Nat.reduceLT, Nat.reduceLeDiff, reduceCtorEq, Nat.reduceSub]) | ((with_reducible show F _ _ (Cfg.code (SCode.pregion _ _ _ _ _) _ _ _)); refine F_p2 ?_; simp (maxSteps := 1000000) -implicitDefEqProofs only [h5, h34, h35, h36, hg2, mid_lt hq, mid_wrap hq hlen, headOk_str, hl2, ht2, Int.le_refl, Int.natCast_nonneg, go_sem, ↓reduceIte, Nat.reduceEqDiff, Nat.reduceBEq, Int.reduceToNat, Nat.reduceAdd, Nat.reduceLT, Nat.reduceLeDiff, reduceCtorEq, Nat.reduceSub]) | with_reducible refine Fork.mk (fun _ => ?_) (fun _ => ?_) | with_reducible refine And.intro ?_ ?_ | ((with_reducible show resP _ _ _ _ _); simp (maxSteps := 1000000) -implicitDefEqProofs only [r34, push_cast, ↓reduceIte, Nat.reduceEqDiff, reduceCtorEq, Nat.reduceAdd, Nat.reduceLT, Nat.reduceLeDiff]) | (intro _))
           · rename_i hm
             rw [hR, hd]; simp only [dupF, hm]; simp
           · rename_i hm
             refine ⟨_, Nat.lt_succ_self _, p2 ++ [y], q2, by simp [hq], rfl, ?_, by simp⟩
             rw [hd]; simp only [dupF, hm]; simp)
      | (clear hg hlt; simp only [cF, hQ, hB]; generalize dupF [] ps = D at *; generalize ps.length = n at *; generalize q.roles.length = m at *; simp_all [nE]; done)
      | (clear hg hlt; simp only [cF, hQ, hB]; generalize dupF [] ps = D at *; generalize ps.length = n at *; generalize q.roles.length = m at *; simp_all [nE]; omega)
theorem t28 (pre post : List Pr) (q : Pr) (main : List St) (nm : ByteArray) (c0 c1 c2 c3 c4 c5 c6 c7 c8 c9 c10 c11 c12 : V) (z : Bool) :
    PCall Tryz.prog 28 [.str nm, .rptr [.fs ((pre ++ q :: post).map encP), .fs (main.map encS)], .rptr [c0, c1, c2, c3, c4, c5, c6, c7, c8, c9, c10, c11, c12, .int .i64 pre.length, .bool z]] (· = .bool (!q.roles.any fun y => decide (nm = y))) := by
  have hg := mid_get encP (rfl : pre ++ q :: post = pre ++ q :: post)
  have hlt := mid_lt (rfl : pre ++ q :: post = pre ++ q :: post)
  simp only [encP] at hg
  have h29 := t29 q.roles nm
  refine PCall.intro c28 300 (by simp) 20 ?_
  generalize hL : pre ++ q :: post = L at *
  simp (maxSteps := 1000000) -implicitDefEqProofs only [s28, hg, hlt, go_sem, ↓reduceIte, Nat.reduceEqDiff, Nat.reduceBEq, Int.reduceToNat, Nat.reduceAdd, Nat.reduceLT, Nat.reduceLeDiff, reduceCtorEq, Nat.reduceSub]
  repeat' (first | ((with_reducible first | refine cgR h29 ?_ ?_); (focus (simp [norefL, noref, norefL_app, norefL_str, norefL_int, norefL_encE, norefL_encS, norefL_encP, noref_encE, noref_encS, noref_encP, noref_encPl]; done)); simp (maxSteps := 1000000) -implicitDefEqProofs only [hg, hlt, go_sem, ↓reduceIte, Nat.reduceEqDiff, Nat.reduceBEq, Int.reduceToNat, Nat.reduceAdd, Nat.reduceLT, Nat.reduceLeDiff, reduceCtorEq, Nat.reduceSub]) | ((with_reducible apply cgF); (focus ((simp (maxSteps := 1000000) -implicitDefEqProofs only [List.map_cons, List.map_nil, push_cast, ↓reduceIte, Nat.reduceEqDiff, reduceCtorEq, Nat.reduceAdd, Nat.reduceLT, Nat.reduceLeDiff] <;> rfl); done)); (with_reducible first | exact h29); (focus (rfl; done)); simp (maxSteps := 1000000) -implicitDefEqProofs only [hg, hlt, go_sem, ↓reduceIte, Nat.reduceEqDiff, Nat.reduceBEq, Int.reduceToNat, Nat.reduceAdd, Nat.reduceLT, Nat.reduceLeDiff, reduceCtorEq, Nat.reduceSub]) | ((with_reducible show F _ _ (Cfg.code (SCode.qregion _) _ _ _)); refine F_q2 ?_; simp (maxSteps := 1000000) -implicitDefEqProofs only [hg, hlt, go_sem, ↓reduceIte, Nat.reduceEqDiff, Nat.reduceBEq, Int.reduceToNat, Nat.reduceAdd, Nat.reduceLT, Nat.reduceLeDiff, reduceCtorEq, Nat.reduceSub]) | ((with_reducible show F _ _ (Cfg.code (SCode.pregion _ _ _ _ _) _ _ _)); refine F_p2 ?_; simp (maxSteps := 1000000) -implicitDefEqProofs only [hg, hlt, go_sem, ↓reduceIte, Nat.reduceEqDiff, Nat.reduceBEq, Int.reduceToNat, Nat.reduceAdd, Nat.reduceLT, Nat.reduceLeDiff, reduceCtorEq, Nat.reduceSub]) | with_reducible refine Fork.mk (fun _ => ?_) (fun _ => ?_) | with_reducible refine And.intro ?_ ?_ | ((with_reducible show resP _ _ _ _ _); simp (maxSteps := 1000000) -implicitDefEqProofs only [r28, push_cast, ↓reduceIte, Nat.reduceEqDiff, reduceCtorEq, Nat.reduceAdd, Nat.reduceLT, Nat.reduceLeDiff]) | (intro _))
  all_goals (try rfl)
theorem t78 (xs : List Int) (k : Int) : PCall Tryz.prog 78 [.fs (xs.map (V.int .i64)), .rptr [.int .i64 k]] (· = .bool (xs.any fun y => decide (k = y))) := by
  refine PCall.intro c78 300 (by simp) 20 ?_
  simp (maxSteps := 1000000) -implicitDefEqProofs only [s78, go_sem, ↓reduceIte, Nat.reduceEqDiff, Nat.reduceBEq, Int.reduceToNat, Nat.reduceAdd, Nat.reduceLT, Nat.reduceLeDiff, reduceCtorEq, Nat.reduceSub]
  repeat' (first | ((with_reducible first | refine cgR (t79 xs k) ?_ ?_); (focus (simp [norefL, noref, norefL_app, norefL_str, norefL_int, norefL_encE, norefL_encS, norefL_encP, noref_encE, noref_encS, noref_encP, noref_encPl]; done)); simp (maxSteps := 1000000) -implicitDefEqProofs only [go_sem, ↓reduceIte, Nat.reduceEqDiff, Nat.reduceBEq, Int.reduceToNat, Nat.reduceAdd, Nat.reduceLT, Nat.reduceLeDiff, reduceCtorEq, Nat.reduceSub]) | ((with_reducible apply cgF); (focus ((simp (maxSteps := 1000000) -implicitDefEqProofs only [List.map_cons, List.map_nil, push_cast, ↓reduceIte, Nat.reduceEqDiff, reduceCtorEq, Nat.reduceAdd, Nat.reduceLT, Nat.reduceLeDiff] <;> rfl); done)); (with_reducible first | exact (t79 xs k)); (focus (rfl; done)); simp (maxSteps := 1000000) -implicitDefEqProofs only [go_sem, ↓reduceIte, Nat.reduceEqDiff, Nat.reduceBEq, Int.reduceToNat, Nat.reduceAdd, Nat.reduceLT, Nat.reduceLeDiff, reduceCtorEq, Nat.reduceSub]) | ((with_reducible show F _ _ (Cfg.code (SCode.qregion _) _ _ _)); refine F_q2 ?_; simp (maxSteps := 1000000) -implicitDefEqProofs only [go_sem, ↓reduceIte, Nat.reduceEqDiff, Nat.reduceBEq, Int.reduceToNat, Nat.reduceAdd, Nat.reduceLT, Nat.reduceLeDiff, reduceCtorEq, Nat.reduceSub]) | ((with_reducible show F _ _ (Cfg.code (SCode.pregion _ _ _ _ _) _ _ _)); refine F_p2 ?_; simp (maxSteps := 1000000) -implicitDefEqProofs only [go_sem, ↓reduceIte, Nat.reduceEqDiff, Nat.reduceBEq, Int.reduceToNat, Nat.reduceAdd, Nat.reduceLT, Nat.reduceLeDiff, reduceCtorEq, Nat.reduceSub]) | with_reducible refine Fork.mk (fun _ => ?_) (fun _ => ?_) | with_reducible refine And.intro ?_ ?_ | ((with_reducible show resP _ _ _ _ _); simp (maxSteps := 1000000) -implicitDefEqProofs only [r78, push_cast, ↓reduceIte, Nat.reduceEqDiff, reduceCtorEq, Nat.reduceAdd, Nat.reduceLT, Nat.reduceLeDiff]) | (intro _))
  all_goals (try rfl)
theorem t82 (ps : List ByteArray) : PCall Tryz.prog 82 [.fs (ps.map .str)] (· = .int .i64 (if ps.any (fun s => !isNm s) then 5 else 0)) := by
  have h26 := t26 ps 94 [] [] (fun s => !isNm s) rfl rfl (fun x _ => t94 x)
  refine PCall.intro c82 300 (by simp) 20 ?_
  simp (maxSteps := 1000000) -implicitDefEqProofs only [s82, go_sem, ↓reduceIte, Nat.reduceEqDiff, Nat.reduceBEq, Int.reduceToNat, Nat.reduceAdd, Nat.reduceLT, Nat.reduceLeDiff, reduceCtorEq, Nat.reduceSub]
  repeat' (first | ((with_reducible first | refine cgR h26 ?_ ?_); (focus (simp [norefL, noref, norefL_app, norefL_str, norefL_int, norefL_encE, norefL_encS, norefL_encP, noref_encE, noref_encS, noref_encP, noref_encPl]; done)); simp (maxSteps := 1000000) -implicitDefEqProofs only [go_sem, ↓reduceIte, Nat.reduceEqDiff, Nat.reduceBEq, Int.reduceToNat, Nat.reduceAdd, Nat.reduceLT, Nat.reduceLeDiff, reduceCtorEq, Nat.reduceSub]) | ((with_reducible apply cgF); (focus ((simp (maxSteps := 1000000) -implicitDefEqProofs only [List.map_cons, List.map_nil, push_cast, ↓reduceIte, Nat.reduceEqDiff, reduceCtorEq, Nat.reduceAdd, Nat.reduceLT, Nat.reduceLeDiff] <;> rfl); done)); (with_reducible first | exact h26); (focus (rfl; done)); simp (maxSteps := 1000000) -implicitDefEqProofs only [go_sem, ↓reduceIte, Nat.reduceEqDiff, Nat.reduceBEq, Int.reduceToNat, Nat.reduceAdd, Nat.reduceLT, Nat.reduceLeDiff, reduceCtorEq, Nat.reduceSub]) | ((with_reducible show F _ _ (Cfg.code (SCode.qregion _) _ _ _)); refine F_q2 ?_; simp (maxSteps := 1000000) -implicitDefEqProofs only [go_sem, ↓reduceIte, Nat.reduceEqDiff, Nat.reduceBEq, Int.reduceToNat, Nat.reduceAdd, Nat.reduceLT, Nat.reduceLeDiff, reduceCtorEq, Nat.reduceSub]) | ((with_reducible show F _ _ (Cfg.code (SCode.pregion _ _ _ _ _) _ _ _)); refine F_p2 ?_; simp (maxSteps := 1000000) -implicitDefEqProofs only [go_sem, ↓reduceIte, Nat.reduceEqDiff, Nat.reduceBEq, Int.reduceToNat, Nat.reduceAdd, Nat.reduceLT, Nat.reduceLeDiff, reduceCtorEq, Nat.reduceSub]) | with_reducible refine Fork.mk (fun _ => ?_) (fun _ => ?_) | with_reducible refine And.intro ?_ ?_ | ((with_reducible show resP _ _ _ _ _); simp (maxSteps := 1000000) -implicitDefEqProofs only [r82, push_cast, ↓reduceIte, Nat.reduceEqDiff, reduceCtorEq, Nat.reduceAdd, Nat.reduceLT, Nat.reduceLeDiff]) | (intro _))
  all_goals clear h26
  all_goals (generalize (ps.any fun s => !isNm s) = B at *)
  all_goals (try simp_all)
theorem t80f {H : List Blk} {a b : Nat} {ok : Bool} {s : ByteArray} (hb : H[b]? = some (.row [.bool ok])) :
    ACall Tryz.prog 80 [.bool false, .str s, .ptr a 0 0, .ptr b 0 0] H (ret1 (.tup []) (H.set b (.row [.bool (ok && decide (s = ⟨#[]⟩))]))) := by
  refine ACall.intro c80 100 (by simp) ?_
  cases ok
  · simp (maxSteps := 1000000) -implicitDefEqProofs only [s80, hb, go_sem, ↓reduceIte, Nat.reduceEqDiff, Nat.reduceBEq, Int.reduceToNat, Nat.reduceAdd, Nat.reduceLT, Nat.reduceLeDiff, reduceCtorEq, Nat.reduceSub]
    simp (maxSteps := 1000000) -implicitDefEqProofs only [r80, push_cast, ↓reduceIte, Nat.reduceEqDiff, reduceCtorEq, Nat.reduceAdd, Nat.reduceLT, Nat.reduceLeDiff]
    try simp
  · simp (maxSteps := 1000000) -implicitDefEqProofs only [s80, hb, go_sem, ↓reduceIte, Nat.reduceEqDiff, Nat.reduceBEq, Int.reduceToNat, Nat.reduceAdd, Nat.reduceLT, Nat.reduceLeDiff, reduceCtorEq, Nat.reduceSub]
    simp (maxSteps := 1000000) -implicitDefEqProofs only [r80, push_cast, ↓reduceIte, Nat.reduceEqDiff, reduceCtorEq, Nat.reduceAdd, Nat.reduceLT, Nat.reduceLeDiff]
    try simp
theorem t80n {H : List Blk} {a b : Nat} {s : ByteArray} (ha : H[a]? = some (.row [.nils])) :
    ACall Tryz.prog 80 [.bool true, .str s, .ptr a 0 0, .ptr b 0 0] H (ret1 (.tup []) ((H ++ [Blk.row [.str s]]).set a (.row [.ms H.length 0 1]))) := by
  have hl : a < H.length := (List.getElem?_eq_some_iff.1 ha).1
  refine ACall.intro c80 100 (by simp) ?_
  have ha1 : ∀ l : List Blk, (H ++ l)[a]? = some (.row [.nils]) := fun l => by rw [List.getElem?_append_left hl]; exact ha
  simp (maxSteps := 1000000) -implicitDefEqProofs only [s80, ha, ha1, go_sem, ↓reduceIte, Nat.reduceEqDiff, Nat.reduceBEq, Int.reduceToNat, Nat.reduceAdd, Nat.reduceLT, Nat.reduceLeDiff, reduceCtorEq, Nat.reduceSub]
  refine ⟨fun h => absurd h (by simp), fun _ => ⟨by omega, ?_⟩⟩
  simp (maxSteps := 1000000) -implicitDefEqProofs only [r80, push_cast, ↓reduceIte, Nat.reduceEqDiff, reduceCtorEq, Nat.reduceAdd, Nat.reduceLT, Nat.reduceLeDiff]
theorem t80m {H : List Blk} {a b id : Nat} {ns : List V} {s : ByteArray} (ha : H[a]? = some (.row [.ms id 0 ns.length])) (hid : H[id]? = some (.row ns)) (hne : id ≠ a) (hn : ns ≠ []) (h12 : ns.length ≤ 1000) (hh : headOk 1 ns) :
    ACall Tryz.prog 80 [.bool true, .str s, .ptr a 0 0, .ptr b 0 0] H (ret1 (.tup []) ((H.set id .dead ++ [Blk.row (ns ++ [.str s])]).set a (.row [.ms H.length 0 (ns.length + 1)]))) := by
  have hl : a < H.length := (List.getElem?_eq_some_iff.1 ha).1
  have hl2 : id < H.length := (List.getElem?_eq_some_iff.1 hid).1
  have hid1 : ∀ l : List Blk, (H ++ l)[id]? = some (.row ns) := fun l => by rw [List.getElem?_append_left hl2]; exact hid
  have hs : ∀ (l : List Blk) x, (H ++ l).set id x = H.set id x ++ l := fun l x => List.set_append_left _ _ hl2
  have ha2 : ∀ l : List Blk, (H.set id .dead ++ l)[a]? = some (.row [.ms id 0 ns.length]) := fun l => by
    rw [List.getElem?_append_left (by simpa using hl), List.getElem?_set_ne hne]; exact ha
  have hnm : (ns ≠ []) = True := by simp [hn]
  refine ACall.intro c80 100 (by simp) ?_
  simp (maxSteps := 1000000) -implicitDefEqProofs only [s80, ha, hid, hid1, hs, ha2, hh, hnm, go_sem, ↓reduceIte, Nat.reduceEqDiff, Nat.reduceBEq, Int.reduceToNat, Nat.reduceAdd, Nat.reduceLT, Nat.reduceLeDiff, reduceCtorEq, Nat.reduceSub]
  refine ⟨⟨by intros; contradiction, by omega⟩, ?_⟩
  · simp (maxSteps := 1000000) -implicitDefEqProofs only [r80, push_cast, ↓reduceIte, Nat.reduceEqDiff, reduceCtorEq, Nat.reduceAdd, Nat.reduceLT, Nat.reduceLeDiff]
theorem headOk1 {s : ByteArray} {l : List V} : headOk 1 (V.str s :: l) := by intro e he; simp at he; subst he; rfl
end Go.Proofs.YteoboibjepokoaaGreatDoor.Av
