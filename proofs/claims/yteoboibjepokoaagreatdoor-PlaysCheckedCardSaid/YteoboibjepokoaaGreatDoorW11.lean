/- Proved: for every list of numbers the law PlaysChecked answers true and leaves its argument as it was (the tied card); no condition beyond the row's own. Text 11 of 14. -/
import Derived.Test.YteoboibjepokoaaGreatDoorProg
import Derived.Test.YteoboibjepokoaaGreatDoorW10
set_option linter.unusedVariables false
set_option linter.unusedSimpArgs false
set_option linter.unusedSectionVars false
set_option linter.all false
namespace Go.Proofs.YteoboibjepokoaaGreatDoor.Av
open Go.RowKit
theorem t40 (L : List Int) (a : Nat) (rs : List ByteArray) (ha : a ≤ 900000) (hl : 2 ≤ rs.length) (hl2 : rs.length ≤ 1000) : ∃ r1 r2, MC 40 L a [.fs (rs.map .str)] (.tup [.str r1, .str r2]) (a + 2) := by
  have hb1 := nxF_bound (L := L) (a := a) (n := rs.length) (by omega) (by omega)
  have hb2 := nxF_bound (L := L) (a := a + 1) (n := (rs.length : Int) - 1) (by omega) (by omega)
  have h1 := t16 L a rs.length (by omega)
  have h2 := t16 L (a + 1) ((rs.length : Int) - 1) (by omega)
  generalize nxF L a rs.length = v1 at *
  generalize nxF L (a + 1) ((rs.length : Int) - 1) = v2 at *
  obtain ⟨i, rfl⟩ : ∃ i : Nat, v1 = i := ⟨v1.toNat, by omega⟩
  obtain ⟨j, rfl⟩ : ∃ j : Nat, v2 = j := ⟨v2.toNat, by omega⟩
  have w1 : IntKind.i64.wrap ((i : Int) + 1) = ((i + 1 : Nat) : Int) := wrap_succ (by omega)
  have w2 : IntKind.i64.wrap ((rs.length : Int) - 1) = (rs.length : Int) - 1 := wrap_int (by omega) (by omega)
  have w3 : IntKind.i64.wrap (((i + 1 : Nat) : Int) + (j : Int)) = ((i + (1 + j) : Nat) : Int) := by rw [wrap_int (by omega) (by omega)]; omega
  have e1 : ((i + (1 + j) : Nat) : Int).tmod (rs.length : Int) = (((i + (1 + j)) % rs.length : Nat) : Int) := rfl
  have hlt : (i + (1 + j)) % rs.length < rs.length := Nat.mod_lt _ (by omega)
  have hli : i < rs.length := by omega
  have hg1 : (rs.map V.str).getD i .any = .str (rs.getD i ⟨#[]⟩) := by simp [List.getD, hli]
  have hg2 : (rs.map V.str).getD ((i + (1 + j)) % rs.length) .any = .str (rs.getD ((i + (1 + j)) % rs.length) ⟨#[]⟩) := by simp [List.getD, hlt]
  have hn0 : ¬ ((rs.length : Int) = 0) := by omega
  refine ⟨rs.getD i ⟨#[]⟩, rs.getD ((i + (1 + j)) % rs.length) ⟨#[]⟩, fun sid N T hT => ?_⟩
  have h1 := h1 sid N T hT
  have h2 := h2 sid N T hT
  generalize rs.getD i ⟨#[]⟩ = r1 at *
  generalize rs.getD ((i + (1 + j)) % rs.length) ⟨#[]⟩ = r2 at *
  refine ACall.intro c40 100 (by simp) ?_
  simp (maxSteps := 1000000) -implicitDefEqProofs only [s40, w1, w2, w3, go_sem, ↓reduceIte, Nat.reduceEqDiff, Nat.reduceBEq, Int.reduceToNat, Nat.reduceAdd, Nat.reduceLT, Nat.reduceLeDiff, reduceCtorEq, Nat.reduceSub]
  repeat' (first | ((with_reducible first | refine cgA h1 ?_ | refine cgA h2 ?_); simp (maxSteps := 1000000) -implicitDefEqProofs only [w1, w2, w3, e1, hlt, hli, hg1, hg2, hn0, ne_eq, not_false_eq_true, go_sem, ↓reduceIte, Nat.reduceEqDiff, Nat.reduceBEq, Int.reduceToNat, Nat.reduceAdd, Nat.reduceLT, Nat.reduceLeDiff, reduceCtorEq, Nat.reduceSub]) | ((with_reducible show F _ _ (Cfg.code (SCode.qregion _) _ _ _)); refine F_q2 ?_; simp (maxSteps := 1000000) -implicitDefEqProofs only [w1, w2, w3, e1, hlt, hli, hg1, hg2, hn0, ne_eq, not_false_eq_true, go_sem, ↓reduceIte, Nat.reduceEqDiff, Nat.reduceBEq, Int.reduceToNat, Nat.reduceAdd, Nat.reduceLT, Nat.reduceLeDiff, reduceCtorEq, Nat.reduceSub]) | ((with_reducible show F _ _ (Cfg.code (SCode.pregion _ _ _ _ _) _ _ _)); refine F_p2 ?_; simp (maxSteps := 1000000) -implicitDefEqProofs only [w1, w2, w3, e1, hlt, hli, hg1, hg2, hn0, ne_eq, not_false_eq_true, go_sem, ↓reduceIte, Nat.reduceEqDiff, Nat.reduceBEq, Int.reduceToNat, Nat.reduceAdd, Nat.reduceLT, Nat.reduceLeDiff, reduceCtorEq, Nat.reduceSub]) | with_reducible refine Fork.mk (fun _ => ?_) (fun _ => ?_) | with_reducible refine And.intro ?_ ?_ | ((with_reducible show resP _ _ _ _ _); simp (maxSteps := 1000000) -implicitDefEqProofs only [r40, push_cast, ↓reduceIte, Nat.reduceEqDiff, reduceCtorEq, Nat.reduceAdd, Nat.reduceLT, Nat.reduceLeDiff]) | (intro _))
theorem prefix_eq {H A : List Blk} (hl : A.length ≤ H.length) (h : ∀ j, j < A.length → H[j]? = A[j]?) : ∃ J, H = A ++ J := by
  refine ⟨H.drop A.length, ?_⟩
  apply List.ext_getElem?
  intro i
  by_cases hi : i < A.length
  · rw [List.getElem?_append_left hi]; exact h i hi
  · rw [List.getElem?_append_right (by omega), List.getElem?_drop]; congr 1; omega
theorem app_T {σ : Type} {N : Nat} {T : σ → List Blk} (hT : TOK N T) {a : σ} {L0 J : List Blk} {esz bytes : Nat} {src : List V} {yv kv : V} {K : V → List Blk → Prop} {acc : List V} (hov : OV (T a ++ (L0 ++ J)) kv acc)
    (hk0 : ∀ j, j < N + L0.length → kvne kv j) (hy : ∀ i o l, yv ≠ .ms i o l) (hh : headOk esz acc) (hb : (acc.length + src.length) * bytes ≤ 140737488355328)
    (hk : ∀ kv' J', OV (T a ++ (L0 ++ J')) kv' (acc ++ src) → (∀ j, j < N + L0.length → kvne kv' j) → K kv' (T a ++ (L0 ++ J'))) : appK esz bytes src yv kv (T a ++ (L0 ++ J)) K := by
  refine app_OV hov (fun i o l h => absurd h (hy i o l)) hh hb ?_
  intro kv' H' hov' hle hfr
  have hlen : (T a ++ L0).length = N + L0.length := by rw [List.length_append, hT.len]
  rw [← List.append_assoc] at hle hfr
  obtain ⟨J', rfl⟩ := prefix_eq (H := H') (A := T a ++ L0) (by rw [List.length_append] at hle; omega) (fun j hj => by
    rw [(hfr j (by rw [List.length_append]; omega) (hk0 j (by omega))).1, List.getElem?_append_left hj])
  rw [List.append_assoc] at hov' ⊢
  exact hk kv' J' hov' (fun j hj => (hfr j (by rw [List.length_append]; omega) (hk0 j hj)).2)
theorem OV.mid {A L0 L1 J : List Blk} {kv : V} {acc : List V} {n : Nat} (h : OV (A ++ (L0 ++ J)) kv acc) (hA : A.length = n) (hk : ∀ j, j < n + L0.length → kvne kv j) {B : List Blk} (hB : B.length = n) (hl : L1.length = L0.length) (J2 : List Blk) : OV (B ++ (L1 ++ (J ++ J2))) kv acc := by
  rcases h with h | ⟨h1, id, h2, h3⟩
  · exact .inl h
  · have hid : ¬ id < n + L0.length := fun hx => hk id hx 0 _ h2
    refine .inr ⟨h1, id, h2, ?_⟩
    rw [List.getElem?_append_right (by omega), List.getElem?_append_right (by omega)] at h3
    rw [List.getElem?_append_right (by omega), List.getElem?_append_right (by omega), List.getElem?_append_left (by have := (List.getElem?_eq_some_iff.1 h3).1; omega), ← h3]
    congr 1; omega
theorem keepL_tail {A X : List Blk} {N : Nat} (hA : A.length = N) : keepL (List.range' N X.length) (A ++ X) = List.replicate N .dead ++ X := by
  apply List.ext_getElem?
  intro i
  rw [keepL_get]
  by_cases hi : i < N
  · rw [List.getElem?_append_left (by omega), List.getElem?_append_left (by simpa using hi), List.getElem?_eq_getElem (by omega : i < A.length)]
    have : (List.range' N X.length).contains i = false := by simp; omega
    simp [hi]
    omega
  · rw [List.getElem?_append_right (by omega), List.getElem?_append_right (by simp; omega), hA, List.length_replicate]
    cases hx : X[i - N]? with
    | none => rfl
    | some b =>
      have := (List.getElem?_eq_some_iff.1 hx).1
      have : (List.range' N X.length).contains i = true := by simp; omega
      simp only [Option.map_some, this, if_true]
theorem killL_tail {A X : List Blk} {N : Nat} (hA : A.length = N) : ∃ X', killL (List.range' N X.length) (A ++ X) = A ++ X' := by
  refine prefix_eq (by rw [killL_length]; simp) (fun j hj => ?_)
  rw [killL_get, if_neg, List.getElem?_append_left hj]
  rintro ⟨h, _⟩
  simp at h; omega
theorem MS.trimO {L : List Int} {sid N : Nat} {T : Nat → List Blk} (hT : MS L sid N T) {g : FuncId} {vs : List V} {a a' : Nat} {r : V} (hr : noref r = true)
    (h : ACall Tryz.prog g vs (T a) (fun r' H' => ∃ X, H' = T a' ++ X ∧ ∃ r2, fz (List.replicate N .dead ++ X) 20 r' = some r2 ∧ r2 = r)) : ACall Tryz.prog g vs (T a) (ret1 r (T a')) := by
  refine hT.trim hr (ACall.fz (h.mono ?_))
  rintro r' H' ⟨X, rfl, r2, h1, rfl⟩
  obtain ⟨X', hX⟩ := killL_tail (A := T a') (X := X) (hT.tok.len a')
  refine ⟨List.range' N X.length, r2, ?_, rfl, X', hX⟩
  rw [keepL_tail (hT.tok.len a')]; exact h1
def trC : Nat → Nat
  | 0 => 5
  | d + 1 => 10 + 3 * trC d
theorem trC_pos : ∀ d, 5 ≤ trC d
  | 0 => Nat.le_refl _
  | d + 1 => by simp [trC]; omega
theorem t42leaf (L : List Int) (a : Nat) (d : Int) (ha : a ≤ 800000) (h : d < 2) : ∃ x, wE x = 1 ∧ MC 42 L a [.int .i64 d] (encE x) (a + 2) := by
  obtain ⟨x, hx, h45⟩ := t45 L a (by omega)
  refine ⟨x, hx, fun sid N T hT => hT.trimF (noref_encE _) ?_⟩
  have h45 := h45.at hT [.row [.agg [.int .i64 0, .int .i64 0, .str ⟨#[]⟩, .nils]]]
  rcases x with ⟨k, n, s, xs⟩
  rw [encE_mk] at h45 ⊢
  refine ACall.intro c42 100 (by simp) ?_
  simp (maxSteps := 1000000) -implicitDefEqProofs only [s42, hT.tok.len, hT.tok.at0, hT.tok.atS, hT.tok.set0, hT.tok.setS, hT.tok.get, h, go_sem, ↓reduceIte, Nat.reduceEqDiff, Nat.reduceBEq, Int.reduceToNat, Nat.reduceAdd, Nat.reduceLT, Nat.reduceLeDiff, reduceCtorEq, Nat.reduceSub]
  repeat' (first | ((with_reducible first | refine cgA h45 ?_); simp (maxSteps := 1000000) -implicitDefEqProofs only [hT.tok.len, hT.tok.at0, hT.tok.atS, hT.tok.set0, hT.tok.setS, hT.tok.get, h, go_sem, ↓reduceIte, Nat.reduceEqDiff, Nat.reduceBEq, Int.reduceToNat, Nat.reduceAdd, Nat.reduceLT, Nat.reduceLeDiff, reduceCtorEq, Nat.reduceSub]) | ((with_reducible show F _ _ (Cfg.code (SCode.qregion _) _ _ _)); refine F_q2 ?_; simp (maxSteps := 1000000) -implicitDefEqProofs only [hT.tok.len, hT.tok.at0, hT.tok.atS, hT.tok.set0, hT.tok.setS, hT.tok.get, h, go_sem, ↓reduceIte, Nat.reduceEqDiff, Nat.reduceBEq, Int.reduceToNat, Nat.reduceAdd, Nat.reduceLT, Nat.reduceLeDiff, reduceCtorEq, Nat.reduceSub]) | ((with_reducible show F _ _ (Cfg.code (SCode.pregion _ _ _ _ _) _ _ _)); refine F_p2 ?_; simp (maxSteps := 1000000) -implicitDefEqProofs only [hT.tok.len, hT.tok.at0, hT.tok.atS, hT.tok.set0, hT.tok.setS, hT.tok.get, h, go_sem, ↓reduceIte, Nat.reduceEqDiff, Nat.reduceBEq, Int.reduceToNat, Nat.reduceAdd, Nat.reduceLT, Nat.reduceLeDiff, reduceCtorEq, Nat.reduceSub]) | with_reducible refine Fork.mk (fun _ => ?_) (fun _ => ?_) | with_reducible refine And.intro ?_ ?_ | ((with_reducible show resP _ _ _ _ _); simp (maxSteps := 1000000) -implicitDefEqProofs only [r42, hT.tok.len, hT.tok.at0, hT.tok.atS, hT.tok.set0, hT.tok.setS, hT.tok.get, push_cast, ↓reduceIte, Nat.reduceEqDiff, reduceCtorEq, Nat.reduceAdd, Nat.reduceLT, Nat.reduceLeDiff]) | (intro _))
  all_goals exact ⟨_, rfl⟩
theorem t42flip (L : List Int) (a : Nat) (d : Int) (ha : a ≤ 800000) (h : ¬ d < 2) (h0 : nxF L a 3 = 0) : ∃ x, wE x = 1 ∧ MC 42 L a [.int .i64 d] (encE x) (a + 3) := by
  obtain ⟨x, hx, h45⟩ := t45 L (a + 1) (by omega)
  refine ⟨x, hx, fun sid N T hT => hT.trimF (noref_encE _) ?_⟩
  have h45 := h45.at hT [.row [.agg [.int .i64 0, .int .i64 0, .str ⟨#[]⟩, .nils]]]
  have h14 := (t14 L a 3 (by omega)).at hT [.row [.agg [.int .i64 0, .int .i64 0, .str ⟨#[]⟩, .nils]]]
  rw [decide_eq_true h0] at h14
  rcases x with ⟨k, n, s, xs⟩
  rw [encE_mk] at h45 ⊢
  refine ACall.intro c42 100 (by simp) ?_
  simp (maxSteps := 1000000) -implicitDefEqProofs only [s42, hT.tok.len, hT.tok.at0, hT.tok.atS, hT.tok.set0, hT.tok.setS, hT.tok.get, h, go_sem, ↓reduceIte, Nat.reduceEqDiff, Nat.reduceBEq, Int.reduceToNat, Nat.reduceAdd, Nat.reduceLT, Nat.reduceLeDiff, reduceCtorEq, Nat.reduceSub]
  repeat' (first | ((with_reducible first | refine cgA h45 ?_ | refine cgA h14 ?_); simp (maxSteps := 1000000) -implicitDefEqProofs only [hT.tok.len, hT.tok.at0, hT.tok.atS, hT.tok.set0, hT.tok.setS, hT.tok.get, h, go_sem, ↓reduceIte, Nat.reduceEqDiff, Nat.reduceBEq, Int.reduceToNat, Nat.reduceAdd, Nat.reduceLT, Nat.reduceLeDiff, reduceCtorEq, Nat.reduceSub]) | ((with_reducible show F _ _ (Cfg.code (SCode.qregion _) _ _ _)); refine F_q2 ?_; simp (maxSteps := 1000000) -implicitDefEqProofs only [hT.tok.len, hT.tok.at0, hT.tok.atS, hT.tok.set0, hT.tok.setS, hT.tok.get, h, go_sem, ↓reduceIte, Nat.reduceEqDiff, Nat.reduceBEq, Int.reduceToNat, Nat.reduceAdd, Nat.reduceLT, Nat.reduceLeDiff, reduceCtorEq, Nat.reduceSub]) | ((with_reducible show F _ _ (Cfg.code (SCode.pregion _ _ _ _ _) _ _ _)); refine F_p2 ?_; simp (maxSteps := 1000000) -implicitDefEqProofs only [hT.tok.len, hT.tok.at0, hT.tok.atS, hT.tok.set0, hT.tok.setS, hT.tok.get, h, go_sem, ↓reduceIte, Nat.reduceEqDiff, Nat.reduceBEq, Int.reduceToNat, Nat.reduceAdd, Nat.reduceLT, Nat.reduceLeDiff, reduceCtorEq, Nat.reduceSub]) | with_reducible refine Fork.mk (fun _ => ?_) (fun _ => ?_) | with_reducible refine And.intro ?_ ?_ | ((with_reducible show resP _ _ _ _ _); simp (maxSteps := 1000000) -implicitDefEqProofs only [r42, hT.tok.len, hT.tok.at0, hT.tok.atS, hT.tok.set0, hT.tok.setS, hT.tok.get, push_cast, ↓reduceIte, Nat.reduceEqDiff, reduceCtorEq, Nat.reduceAdd, Nat.reduceLT, Nat.reduceLeDiff]) | (intro _))
  all_goals exact ⟨_, rfl⟩
def itr {α : Type} (f : Nat → α × Nat) (a : Nat) : Nat → List α × Nat
  | 0 => ([], a)
  | j + 1 => ((itr f a j).1 ++ [(f (itr f a j).2).1], (f (itr f a j).2).2)
theorem itr_length {α : Type} (f : Nat → α × Nat) (a : Nat) : ∀ j, (itr f a j).1.length = j
  | 0 => rfl
  | j + 1 => by simp [itr, itr_length f a j]
theorem itr_bound {α : Type} (f : Nat → α × Nat) (w : List α → Nat) (C M : Nat) (hw0 : w [] = 0) (hwa : ∀ l x, w (l ++ [x]) ≤ w l + w [x]) (h : ∀ a, a ≤ M → a ≤ (f a).2 ∧ (f a).2 ≤ a + C ∧ w [(f a).1] ≤ C) (a : Nat) : ∀ j, a + j * C ≤ M + C → a ≤ (itr f a j).2 ∧ (itr f a j).2 ≤ a + j * C ∧ w (itr f a j).1 ≤ j * C
  | 0, _ => by simp [itr, hw0]
  | j + 1, hj => by
    have h1 : (j + 1) * C = j * C + C := Nat.succ_mul j C
    obtain ⟨h2, h3, h4⟩ := itr_bound f w C M hw0 hwa h a j (by omega)
    obtain ⟨h5, h6, h7⟩ := h (itr f a j).2 (by omega)
    have h8 := hwa (itr f a j).1 (f (itr f a j).2).1
    simp only [itr]
    omega
set_option maxRecDepth 20000 in
theorem t42s (L : List Int) (a : Nat) (d : Int) (C : Nat) (ha : a + 10 + 3 * C ≤ 700000) (hd : 2 ≤ d) (hd2 : d ≤ 1000) (h0 : ¬ nxF L a 3 = 0)
    (h : ∀ a, a ≤ 700000 - C → ∃ x a', a ≤ a' ∧ a' ≤ a + C ∧ wE x ≤ C ∧ MC 42 L a [.int .i64 (d - 1)] (encE x) a') :
    ∃ x a', a ≤ a' ∧ a' ≤ a + 10 + 3 * C ∧ wE x ≤ 10 + 3 * C ∧ MC 42 L a [.int .i64 d] (encE x) a' := by
  have hf : ∀ a, ∃ p : Ex × Nat, a ≤ 700000 - C → a ≤ p.2 ∧ p.2 ≤ a + C ∧ wE p.1 ≤ C ∧ MC 42 L a [.int .i64 (d - 1)] (encE p.1) p.2 := fun a => by
    by_cases ha : a ≤ 700000 - C
    · obtain ⟨x, a', h1⟩ := h a ha
      exact ⟨(x, a'), fun _ => h1⟩
    · exact ⟨(.mk 0 0 ⟨#[]⟩ [], 0), fun h => absurd h ha⟩
  let f : Nat → Ex × Nat := fun a => Classical.choose (hf a)
  have hf : ∀ a, a ≤ 700000 - C → a ≤ (f a).2 ∧ (f a).2 ≤ a + C ∧ wE (f a).1 ≤ C ∧ MC 42 L a [.int .i64 (d - 1)] (encE (f a).1) (f a).2 := fun a => Classical.choose_spec (hf a)
  generalize f = f at hf
  generalize hk : ([3, 4, 5, 6, 7, 8, 9] : List Int).getD (nxF L (a + 1) 7).toNat 0 = k
  obtain ⟨m, hm⟩ : ∃ m : Nat, m = if k = 8 then 1 else if k = 9 then 3 else 2 := ⟨_, rfl⟩
  have hm3 : m ≤ 3 := by rw [hm]; split; omega; split <;> omega
  have hI := itr_bound f wEs C (700000 - C) rfl (fun l x => by rw [wEs_append]; exact Nat.le_refl _) (fun a ha => by obtain ⟨h1, h2, h3, _⟩ := hf a ha; exact ⟨h1, h2, by simpa [wEs] using h3⟩) (a + 2)
  have hmC : m * C ≤ 3 * C := Nat.mul_le_mul_right C hm3
  have hIm := hI m (by omega)
  refine ⟨.mk k 0 ⟨#[]⟩ (itr f (a + 2) m).1, (itr f (a + 2) m).2, by omega, by omega, by simp only [wE]; omega, fun sid N T hT => hT.trimO (noref_encE _) ?_⟩
  have h14 := (t14 L a 3 (by omega)).at hT [.row [.agg [.int .i64 0, .int .i64 0, .str ⟨#[]⟩, .nils]]]
  rw [decide_eq_false h0] at h14
  have h5 := (t5 L (a + 1) [3, 4, 5, 6, 7, 8, 9] (by omega) (by simp) (by simp)).at hT [.row [.agg [.int .i64 0, .int .i64 0, .str ⟨#[]⟩, .nils]]]
  simp only [List.map_cons, List.map_nil, List.length_cons, List.length_nil, Nat.zero_add, Nat.reduceAdd] at h5
  change ACall _ _ _ _ (ret1 (.int .i64 (([3, 4, 5, 6, 7, 8, 9] : List Int).getD (nxF L (a + 1) 7).toNat 0)) _) at h5
  rw [hk] at h5
  rw [encE_mk]
  have hd' : ¬ d < 2 := by omega
  have w1 : IntKind.i64.wrap (d - 1) = d - 1 := wrap_int (by omega) (by omega)
  by_cases h8 : k = 8
  · subst h8
    obtain rfl : m = 1 := by rw [hm]; simp
    refine ACall.intro c42 200 (by simp) ?_
    simp (maxSteps := 1000000) -implicitDefEqProofs only [s42, hT.tok.len, hT.tok.at0, hT.tok.atS, hT.tok.set0, hT.tok.setS, hT.tok.get, hd', show ((8 : Int) = 9) = False by decide, go_sem, ↓reduceIte, Nat.reduceEqDiff, Nat.reduceBEq, Int.reduceToNat, Nat.reduceAdd, Nat.reduceLT, Nat.reduceLeDiff, reduceCtorEq, Nat.reduceSub]
    repeat' (first | ((with_reducible first | refine cgA h14 ?_ | refine cgA h5 ?_); simp (maxSteps := 1000000) -implicitDefEqProofs only [hT.tok.len, hT.tok.at0, hT.tok.atS, hT.tok.set0, hT.tok.setS, hT.tok.get, hd', show ((8 : Int) = 9) = False by decide, go_sem, ↓reduceIte, Nat.reduceEqDiff, Nat.reduceBEq, Int.reduceToNat, Nat.reduceAdd, Nat.reduceLT, Nat.reduceLeDiff, reduceCtorEq, Nat.reduceSub]) | ((with_reducible show F _ _ (Cfg.code (SCode.qregion _) _ _ _)); refine F_q2 ?_; simp (maxSteps := 1000000) -implicitDefEqProofs only [hT.tok.len, hT.tok.at0, hT.tok.atS, hT.tok.set0, hT.tok.setS, hT.tok.get, hd', show ((8 : Int) = 9) = False by decide, go_sem, ↓reduceIte, Nat.reduceEqDiff, Nat.reduceBEq, Int.reduceToNat, Nat.reduceAdd, Nat.reduceLT, Nat.reduceLeDiff, reduceCtorEq, Nat.reduceSub]) | ((with_reducible show F _ _ (Cfg.code (SCode.pregion _ _ _ _ _) _ _ _)); refine F_p2 ?_; simp (maxSteps := 1000000) -implicitDefEqProofs only [hT.tok.len, hT.tok.at0, hT.tok.atS, hT.tok.set0, hT.tok.setS, hT.tok.get, hd', show ((8 : Int) = 9) = False by decide, go_sem, ↓reduceIte, Nat.reduceEqDiff, Nat.reduceBEq, Int.reduceToNat, Nat.reduceAdd, Nat.reduceLT, Nat.reduceLeDiff, reduceCtorEq, Nat.reduceSub]) | with_reducible refine Fork.mk (fun _ => ?_) (fun _ => ?_) | with_reducible refine And.intro ?_ ?_ | ((with_reducible show resP _ _ _ _ _); simp (maxSteps := 1000000) -implicitDefEqProofs only [r42, hT.tok.len, hT.tok.at0, hT.tok.atS, hT.tok.set0, hT.tok.setS, hT.tok.get, push_cast, ↓reduceIte, Nat.reduceEqDiff, reduceCtorEq, Nat.reduceAdd, Nat.reduceLT, Nat.reduceLeDiff]) | (intro _))
    refine F_loop (fun q e H => ∃ j kv J, q = 1 - j ∧ j ≤ 1 ∧ e 0 = .ptr sid 0 0 ∧ e 1 = .int .i64 d ∧ e 4 = .ptr N 0 0 ∧ e 5 = .ptr (N + 1) 0 0 ∧ e 25 = .int .i64 1 ∧ e 26 = .int .i64 j ∧
      H = T (itr f (a + 2) j).2 ++ ([Blk.row [.agg [.int .i64 0, .int .i64 0, .str ⟨#[]⟩, .nils]], Blk.row [.agg [.int .i64 8, .int .i64 0, .str ⟨#[]⟩, kv]]] ++ J) ∧ OV H kv ((itr f (a + 2) j).1.map encE) ∧ ∀ i, i < N + 2 → kvne kv i) 1
      ⟨0, .nils, [], by simp, by simp, by simp [upd, env0], by simp [upd, env0], by simp [upd, env0], by simp [upd, env0], by simp [upd, env0], by simp [upd, env0], by simp [itr], .inl ⟨rfl, rfl⟩, (fun i _ a b h => by cases h)⟩ ?_
    rintro q e H ⟨j, kv, J, rfl, hj, e0, e1, e4, e5, e25, e26, rfl, hov, hkn⟩
    have hone := hov.vone
    simp only [V.one] at hone
    have hc1 := hov.one
    by_cases hjm : j = 1
    · subst hjm
      have hlj : ¬ (((1 : Nat) : Int) < 1) := by omega
      simp (maxSteps := 1000000) -implicitDefEqProofs only [e0, e1, e4, e5, e25, e26, hT.tok.len, hT.tok.at0, hT.tok.atS, hT.tok.set0, hT.tok.setS, hT.tok.get, hlj, hone, hc1, go_sem, ↓reduceIte, Nat.reduceEqDiff, Nat.reduceBEq, Int.reduceToNat, Nat.reduceAdd, Nat.reduceLT, Nat.reduceLeDiff, reduceCtorEq, Nat.reduceSub]
      have hov2 : OV (List.replicate N .dead ++ ([Blk.row [.agg [.int .i64 8, .int .i64 0, .str ⟨#[]⟩, kv]], Blk.row [.agg [.int .i64 8, .int .i64 0, .str ⟨#[]⟩, kv]]] ++ (J ++ []))) kv ((itr f (a + 2) 1).1.map encE) :=
        hov.mid (hT.tok.len _) hkn (B := List.replicate N .dead) (L1 := [Blk.row [.agg [.int .i64 8, .int .i64 0, .str ⟨#[]⟩, kv]], Blk.row [.agg [.int .i64 8, .int .i64 0, .str ⟨#[]⟩, kv]]]) List.length_replicate rfl []
      simp only [List.cons_append, List.nil_append, List.append_nil] at hov2
      have hz : fz _ 19 kv = _ := fz_OV (f := encE) (n := 17) (fun H x => fz_encE H 16 x) hov2
      simp (maxSteps := 1000000) -implicitDefEqProofs only [r42, hT.tok.len, hT.tok.at0, hT.tok.atS, hT.tok.set0, hT.tok.setS, hT.tok.get, e4, hone, hc1, push_cast, ↓reduceIte, Nat.reduceEqDiff, reduceCtorEq, Nat.reduceAdd, Nat.reduceLT, Nat.reduceLeDiff]
      refine ⟨_, rfl, ?_⟩
      simp (maxSteps := 1000000) -implicitDefEqProofs only [hz, push_cast, ↓reduceIte, Nat.reduceEqDiff, reduceCtorEq, Nat.reduceAdd, Nat.reduceLT, Nat.reduceLeDiff]
    · have hjC : j * C ≤ 2 * C := Nat.mul_le_mul_right C (by omega)
      have hIj := hI j (by omega)
      obtain ⟨hf1, hf2, hf3, hf4⟩ := hf (itr f (a + 2) j).2 (by omega)
      have hlj : ((j : Int) < 1) := by omega
      have hw2 : IntKind.i64.wrap ((j : Int) + 1) = ((j + 1 : Nat) : Int) := wrap_succ (by omega)
      have hit : itr f (a + 2) (j + 1) = ((itr f (a + 2) j).1 ++ [(f (itr f (a + 2) j).2).1], (f (itr f (a + 2) j).2).2) := rfl
      have hil := itr_length f (a + 2) j
      generalize itr f (a + 2) j = ij at *
      generalize f ij.2 = fj at *
      rcases fj with ⟨⟨k', n', s', zs⟩, b'⟩
      simp only [encE_mk] at hf4
      have h42 := hf4.at hT ([Blk.row [.agg [.int .i64 0, .int .i64 0, .str ⟨#[]⟩, .nils]], Blk.row [.agg [.int .i64 8, .int .i64 0, .str ⟨#[]⟩, kv]]] ++ J)
      simp only [List.cons_append, List.nil_append] at h42
      simp (maxSteps := 1000000) -implicitDefEqProofs only [e0, e1, e4, e5, e25, e26, hT.tok.len, hT.tok.at0, hT.tok.atS, hT.tok.set0, hT.tok.setS, hT.tok.get, hlj, hone, hc1, go_sem, ↓reduceIte, Nat.reduceEqDiff, Nat.reduceBEq, Int.reduceToNat, Nat.reduceAdd, Nat.reduceLT, Nat.reduceLeDiff, reduceCtorEq, Nat.reduceSub]
      repeat' (first | ((with_reducible first | refine cgA h42 ?_); simp (maxSteps := 1000000) -implicitDefEqProofs only [e0, e1, e4, e5, e25, e26, hT.tok.len, hT.tok.at0, hT.tok.atS, hT.tok.set0, hT.tok.setS, hT.tok.get, hlj, hone, hc1, w1, go_sem, ↓reduceIte, Nat.reduceEqDiff, Nat.reduceBEq, Int.reduceToNat, Nat.reduceAdd, Nat.reduceLT, Nat.reduceLeDiff, reduceCtorEq, Nat.reduceSub]) | ((with_reducible show F _ _ (Cfg.code (SCode.qregion _) _ _ _)); refine F_q2 ?_; simp (maxSteps := 1000000) -implicitDefEqProofs only [e0, e1, e4, e5, e25, e26, hT.tok.len, hT.tok.at0, hT.tok.atS, hT.tok.set0, hT.tok.setS, hT.tok.get, hlj, hone, hc1, w1, go_sem, ↓reduceIte, Nat.reduceEqDiff, Nat.reduceBEq, Int.reduceToNat, Nat.reduceAdd, Nat.reduceLT, Nat.reduceLeDiff, reduceCtorEq, Nat.reduceSub]) | ((with_reducible show F _ _ (Cfg.code (SCode.pregion _ _ _ _ _) _ _ _)); refine F_p2 ?_; simp (maxSteps := 1000000) -implicitDefEqProofs only [e0, e1, e4, e5, e25, e26, hT.tok.len, hT.tok.at0, hT.tok.atS, hT.tok.set0, hT.tok.setS, hT.tok.get, hlj, hone, hc1, w1, go_sem, ↓reduceIte, Nat.reduceEqDiff, Nat.reduceBEq, Int.reduceToNat, Nat.reduceAdd, Nat.reduceLT, Nat.reduceLeDiff, reduceCtorEq, Nat.reduceSub]) | with_reducible refine Fork.mk (fun _ => ?_) (fun _ => ?_) | with_reducible refine And.intro ?_ ?_ | ((with_reducible show resP _ _ _ _ _); simp (maxSteps := 1000000) -implicitDefEqProofs only [r42, hT.tok.len, hT.tok.at0, hT.tok.atS, hT.tok.set0, hT.tok.setS, hT.tok.get, push_cast, ↓reduceIte, Nat.reduceEqDiff, reduceCtorEq, Nat.reduceAdd, Nat.reduceLT, Nat.reduceLeDiff]) | (intro _))
      refine app_T hT.tok (L0 := [Blk.row [.agg [.int .i64 0, .int .i64 0, .str ⟨#[]⟩, .nils]], Blk.row [.agg [.int .i64 8, .int .i64 0, .str ⟨#[]⟩, kv]]]) (J := J) (acc := ij.1.map encE) ?_ hkn (fun i o l h => by cases h) (headOk_E _) (by simp; omega) ?_
      · have := hov.mid (hT.tok.len _) hkn (B := T b') (L1 := [Blk.row [.agg [.int .i64 0, .int .i64 0, .str ⟨#[]⟩, .nils]], Blk.row [.agg [.int .i64 8, .int .i64 0, .str ⟨#[]⟩, kv]]]) (hT.tok.len _) rfl []
        simpa only [List.append_nil] using this
      · intro kv' J' hov' hkn'
        have hone' := hov'.vone
        simp only [V.one] at hone'
        have hc1' := hov'.one
        try simp only [List.cons_append, List.nil_append]
        simp (maxSteps := 1000000) -implicitDefEqProofs only [e0, e1, e4, e5, e25, e26, hT.tok.len, hT.tok.at0, hT.tok.atS, hT.tok.set0, hT.tok.setS, hT.tok.get, hlj, hone, hc1, hone', hc1', hw2, go_sem, ↓reduceIte, Nat.reduceEqDiff, Nat.reduceBEq, Int.reduceToNat, Nat.reduceAdd, Nat.reduceLT, Nat.reduceLeDiff, reduceCtorEq, Nat.reduceSub]
        refine ⟨1 - (j + 1), by omega, j + 1, kv', J', rfl, by omega, rfl, ?_, ?_, hkn'⟩
        · rw [hit]
        · rw [hit]
          have := hov'.mid (hT.tok.len _) hkn' (B := T b') (L1 := [Blk.row [.agg [.int .i64 0, .int .i64 0, .str ⟨#[]⟩, .nils]], Blk.row [.agg [.int .i64 8, .int .i64 0, .str ⟨#[]⟩, kv']]]) (hT.tok.len _) rfl []
          simpa [encE_mk] using this
  · by_cases h9 : k = 9
    · subst h9
      obtain rfl : m = 3 := by rw [hm]; simp
      refine ACall.intro c42 200 (by simp) ?_
      simp (maxSteps := 1000000) -implicitDefEqProofs only [s42, hT.tok.len, hT.tok.at0, hT.tok.atS, hT.tok.set0, hT.tok.setS, hT.tok.get, hd', h8, go_sem, ↓reduceIte, Nat.reduceEqDiff, Nat.reduceBEq, Int.reduceToNat, Nat.reduceAdd, Nat.reduceLT, Nat.reduceLeDiff, reduceCtorEq, Nat.reduceSub]
      repeat' (first | ((with_reducible first | refine cgA h14 ?_ | refine cgA h5 ?_); simp (maxSteps := 1000000) -implicitDefEqProofs only [hT.tok.len, hT.tok.at0, hT.tok.atS, hT.tok.set0, hT.tok.setS, hT.tok.get, hd', h8, go_sem, ↓reduceIte, Nat.reduceEqDiff, Nat.reduceBEq, Int.reduceToNat, Nat.reduceAdd, Nat.reduceLT, Nat.reduceLeDiff, reduceCtorEq, Nat.reduceSub]) | ((with_reducible show F _ _ (Cfg.code (SCode.qregion _) _ _ _)); refine F_q2 ?_; simp (maxSteps := 1000000) -implicitDefEqProofs only [hT.tok.len, hT.tok.at0, hT.tok.atS, hT.tok.set0, hT.tok.setS, hT.tok.get, hd', h8, go_sem, ↓reduceIte, Nat.reduceEqDiff, Nat.reduceBEq, Int.reduceToNat, Nat.reduceAdd, Nat.reduceLT, Nat.reduceLeDiff, reduceCtorEq, Nat.reduceSub]) | ((with_reducible show F _ _ (Cfg.code (SCode.pregion _ _ _ _ _) _ _ _)); refine F_p2 ?_; simp (maxSteps := 1000000) -implicitDefEqProofs only [hT.tok.len, hT.tok.at0, hT.tok.atS, hT.tok.set0, hT.tok.setS, hT.tok.get, hd', h8, go_sem, ↓reduceIte, Nat.reduceEqDiff, Nat.reduceBEq, Int.reduceToNat, Nat.reduceAdd, Nat.reduceLT, Nat.reduceLeDiff, reduceCtorEq, Nat.reduceSub]) | with_reducible refine Fork.mk (fun _ => ?_) (fun _ => ?_) | with_reducible refine And.intro ?_ ?_ | ((with_reducible show resP _ _ _ _ _); simp (maxSteps := 1000000) -implicitDefEqProofs only [r42, hT.tok.len, hT.tok.at0, hT.tok.atS, hT.tok.set0, hT.tok.setS, hT.tok.get, push_cast, ↓reduceIte, Nat.reduceEqDiff, reduceCtorEq, Nat.reduceAdd, Nat.reduceLT, Nat.reduceLeDiff]) | (intro _))
      refine F_loop (fun q e H => ∃ j kv J, q = 3 - j ∧ j ≤ 3 ∧ e 0 = .ptr sid 0 0 ∧ e 1 = .int .i64 d ∧ e 4 = .ptr N 0 0 ∧ e 5 = .ptr (N + 1) 0 0 ∧ e 25 = .int .i64 3 ∧ e 26 = .int .i64 j ∧
        H = T (itr f (a + 2) j).2 ++ ([Blk.row [.agg [.int .i64 0, .int .i64 0, .str ⟨#[]⟩, .nils]], Blk.row [.agg [.int .i64 9, .int .i64 0, .str ⟨#[]⟩, kv]]] ++ J) ∧ OV H kv ((itr f (a + 2) j).1.map encE) ∧ ∀ i, i < N + 2 → kvne kv i) 3
        ⟨0, .nils, [], by simp, by simp, by simp [upd, env0], by simp [upd, env0], by simp [upd, env0], by simp [upd, env0], by simp [upd, env0], by simp [upd, env0], by simp [itr], .inl ⟨rfl, rfl⟩, (fun i _ a b h => by cases h)⟩ ?_
      rintro q e H ⟨j, kv, J, rfl, hj, e0, e1, e4, e5, e25, e26, rfl, hov, hkn⟩
      have hone := hov.vone
      simp only [V.one] at hone
      have hc1 := hov.one
      by_cases hjm : j = 3
      · subst hjm
        have hlj : ¬ (((3 : Nat) : Int) < 3) := by omega
        simp (maxSteps := 1000000) -implicitDefEqProofs only [e0, e1, e4, e5, e25, e26, hT.tok.len, hT.tok.at0, hT.tok.atS, hT.tok.set0, hT.tok.setS, hT.tok.get, hlj, hone, hc1, go_sem, ↓reduceIte, Nat.reduceEqDiff, Nat.reduceBEq, Int.reduceToNat, Nat.reduceAdd, Nat.reduceLT, Nat.reduceLeDiff, reduceCtorEq, Nat.reduceSub]
        have hov2 : OV (List.replicate N .dead ++ ([Blk.row [.agg [.int .i64 9, .int .i64 0, .str ⟨#[]⟩, kv]], Blk.row [.agg [.int .i64 9, .int .i64 0, .str ⟨#[]⟩, kv]]] ++ (J ++ []))) kv ((itr f (a + 2) 3).1.map encE) :=
          hov.mid (hT.tok.len _) hkn (B := List.replicate N .dead) (L1 := [Blk.row [.agg [.int .i64 9, .int .i64 0, .str ⟨#[]⟩, kv]], Blk.row [.agg [.int .i64 9, .int .i64 0, .str ⟨#[]⟩, kv]]]) List.length_replicate rfl []
        simp only [List.cons_append, List.nil_append, List.append_nil] at hov2
        have hz : fz _ 19 kv = _ := fz_OV (f := encE) (n := 17) (fun H x => fz_encE H 16 x) hov2
        simp (maxSteps := 1000000) -implicitDefEqProofs only [r42, hT.tok.len, hT.tok.at0, hT.tok.atS, hT.tok.set0, hT.tok.setS, hT.tok.get, e4, hone, hc1, push_cast, ↓reduceIte, Nat.reduceEqDiff, reduceCtorEq, Nat.reduceAdd, Nat.reduceLT, Nat.reduceLeDiff]
        refine ⟨_, rfl, ?_⟩
        simp (maxSteps := 1000000) -implicitDefEqProofs only [hz, push_cast, ↓reduceIte, Nat.reduceEqDiff, reduceCtorEq, Nat.reduceAdd, Nat.reduceLT, Nat.reduceLeDiff]
      · have hjC : j * C ≤ 2 * C := Nat.mul_le_mul_right C (by omega)
        have hIj := hI j (by omega)
        obtain ⟨hf1, hf2, hf3, hf4⟩ := hf (itr f (a + 2) j).2 (by omega)
        have hlj : ((j : Int) < 3) := by omega
        have hw2 : IntKind.i64.wrap ((j : Int) + 1) = ((j + 1 : Nat) : Int) := wrap_succ (by omega)
        have hit : itr f (a + 2) (j + 1) = ((itr f (a + 2) j).1 ++ [(f (itr f (a + 2) j).2).1], (f (itr f (a + 2) j).2).2) := rfl
        have hil := itr_length f (a + 2) j
        generalize itr f (a + 2) j = ij at *
        generalize f ij.2 = fj at *
        rcases fj with ⟨⟨k', n', s', zs⟩, b'⟩
        simp only [encE_mk] at hf4
        have h42 := hf4.at hT ([Blk.row [.agg [.int .i64 0, .int .i64 0, .str ⟨#[]⟩, .nils]], Blk.row [.agg [.int .i64 9, .int .i64 0, .str ⟨#[]⟩, kv]]] ++ J)
        simp only [List.cons_append, List.nil_append] at h42
        simp (maxSteps := 1000000) -implicitDefEqProofs only [e0, e1, e4, e5, e25, e26, hT.tok.len, hT.tok.at0, hT.tok.atS, hT.tok.set0, hT.tok.setS, hT.tok.get, hlj, hone, hc1, go_sem, ↓reduceIte, Nat.reduceEqDiff, Nat.reduceBEq, Int.reduceToNat, Nat.reduceAdd, Nat.reduceLT, Nat.reduceLeDiff, reduceCtorEq, Nat.reduceSub]
        repeat' (first | ((with_reducible first | refine cgA h42 ?_); simp (maxSteps := 1000000) -implicitDefEqProofs only [e0, e1, e4, e5, e25, e26, hT.tok.len, hT.tok.at0, hT.tok.atS, hT.tok.set0, hT.tok.setS, hT.tok.get, hlj, hone, hc1, w1, go_sem, ↓reduceIte, Nat.reduceEqDiff, Nat.reduceBEq, Int.reduceToNat, Nat.reduceAdd, Nat.reduceLT, Nat.reduceLeDiff, reduceCtorEq, Nat.reduceSub]) | ((with_reducible show F _ _ (Cfg.code (SCode.qregion _) _ _ _)); refine F_q2 ?_; simp (maxSteps := 1000000) -implicitDefEqProofs only [e0, e1, e4, e5, e25, e26, hT.tok.len, hT.tok.at0, hT.tok.atS, hT.tok.set0, hT.tok.setS, hT.tok.get, hlj, hone, hc1, w1, go_sem, ↓reduceIte, Nat.reduceEqDiff, Nat.reduceBEq, Int.reduceToNat, Nat.reduceAdd, Nat.reduceLT, Nat.reduceLeDiff, reduceCtorEq, Nat.reduceSub]) | ((with_reducible show F _ _ (Cfg.code (SCode.pregion _ _ _ _ _) _ _ _)); refine F_p2 ?_; simp (maxSteps := 1000000) -implicitDefEqProofs only [e0, e1, e4, e5, e25, e26, hT.tok.len, hT.tok.at0, hT.tok.atS, hT.tok.set0, hT.tok.setS, hT.tok.get, hlj, hone, hc1, w1, go_sem, ↓reduceIte, Nat.reduceEqDiff, Nat.reduceBEq, Int.reduceToNat, Nat.reduceAdd, Nat.reduceLT, Nat.reduceLeDiff, reduceCtorEq, Nat.reduceSub]) | with_reducible refine Fork.mk (fun _ => ?_) (fun _ => ?_) | with_reducible refine And.intro ?_ ?_ | ((with_reducible show resP _ _ _ _ _); simp (maxSteps := 1000000) -implicitDefEqProofs only [r42, hT.tok.len, hT.tok.at0, hT.tok.atS, hT.tok.set0, hT.tok.setS, hT.tok.get, push_cast, ↓reduceIte, Nat.reduceEqDiff, reduceCtorEq, Nat.reduceAdd, Nat.reduceLT, Nat.reduceLeDiff]) | (intro _))
        refine app_T hT.tok (L0 := [Blk.row [.agg [.int .i64 0, .int .i64 0, .str ⟨#[]⟩, .nils]], Blk.row [.agg [.int .i64 9, .int .i64 0, .str ⟨#[]⟩, kv]]]) (J := J) (acc := ij.1.map encE) ?_ hkn (fun i o l h => by cases h) (headOk_E _) (by simp; omega) ?_
        · have := hov.mid (hT.tok.len _) hkn (B := T b') (L1 := [Blk.row [.agg [.int .i64 0, .int .i64 0, .str ⟨#[]⟩, .nils]], Blk.row [.agg [.int .i64 9, .int .i64 0, .str ⟨#[]⟩, kv]]]) (hT.tok.len _) rfl []
          simpa only [List.append_nil] using this
        · intro kv' J' hov' hkn'
          have hone' := hov'.vone
          simp only [V.one] at hone'
          have hc1' := hov'.one
          try simp only [List.cons_append, List.nil_append]
          simp (maxSteps := 1000000) -implicitDefEqProofs only [e0, e1, e4, e5, e25, e26, hT.tok.len, hT.tok.at0, hT.tok.atS, hT.tok.set0, hT.tok.setS, hT.tok.get, hlj, hone, hc1, hone', hc1', hw2, go_sem, ↓reduceIte, Nat.reduceEqDiff, Nat.reduceBEq, Int.reduceToNat, Nat.reduceAdd, Nat.reduceLT, Nat.reduceLeDiff, reduceCtorEq, Nat.reduceSub]
          refine ⟨3 - (j + 1), by omega, j + 1, kv', J', rfl, by omega, rfl, ?_, ?_, hkn'⟩
          · rw [hit]
          · rw [hit]
            have := hov'.mid (hT.tok.len _) hkn' (B := T b') (L1 := [Blk.row [.agg [.int .i64 0, .int .i64 0, .str ⟨#[]⟩, .nils]], Blk.row [.agg [.int .i64 9, .int .i64 0, .str ⟨#[]⟩, kv']]]) (hT.tok.len _) rfl []
            simpa [encE_mk] using this
    · obtain rfl : m = 2 := by rw [hm]; simp [h8, h9]
      refine ACall.intro c42 200 (by simp) ?_
      simp (maxSteps := 1000000) -implicitDefEqProofs only [s42, hT.tok.len, hT.tok.at0, hT.tok.atS, hT.tok.set0, hT.tok.setS, hT.tok.get, hd', h8, h9, go_sem, ↓reduceIte, Nat.reduceEqDiff, Nat.reduceBEq, Int.reduceToNat, Nat.reduceAdd, Nat.reduceLT, Nat.reduceLeDiff, reduceCtorEq, Nat.reduceSub]
      repeat' (first | ((with_reducible first | refine cgA h14 ?_ | refine cgA h5 ?_); simp (maxSteps := 1000000) -implicitDefEqProofs only [hT.tok.len, hT.tok.at0, hT.tok.atS, hT.tok.set0, hT.tok.setS, hT.tok.get, hd', h8, h9, go_sem, ↓reduceIte, Nat.reduceEqDiff, Nat.reduceBEq, Int.reduceToNat, Nat.reduceAdd, Nat.reduceLT, Nat.reduceLeDiff, reduceCtorEq, Nat.reduceSub]) | ((with_reducible show F _ _ (Cfg.code (SCode.qregion _) _ _ _)); refine F_q2 ?_; simp (maxSteps := 1000000) -implicitDefEqProofs only [hT.tok.len, hT.tok.at0, hT.tok.atS, hT.tok.set0, hT.tok.setS, hT.tok.get, hd', h8, h9, go_sem, ↓reduceIte, Nat.reduceEqDiff, Nat.reduceBEq, Int.reduceToNat, Nat.reduceAdd, Nat.reduceLT, Nat.reduceLeDiff, reduceCtorEq, Nat.reduceSub]) | ((with_reducible show F _ _ (Cfg.code (SCode.pregion _ _ _ _ _) _ _ _)); refine F_p2 ?_; simp (maxSteps := 1000000) -implicitDefEqProofs only [hT.tok.len, hT.tok.at0, hT.tok.atS, hT.tok.set0, hT.tok.setS, hT.tok.get, hd', h8, h9, go_sem, ↓reduceIte, Nat.reduceEqDiff, Nat.reduceBEq, Int.reduceToNat, Nat.reduceAdd, Nat.reduceLT, Nat.reduceLeDiff, reduceCtorEq, Nat.reduceSub]) | with_reducible refine Fork.mk (fun _ => ?_) (fun _ => ?_) | with_reducible refine And.intro ?_ ?_ | ((with_reducible show resP _ _ _ _ _); simp (maxSteps := 1000000) -implicitDefEqProofs only [r42, hT.tok.len, hT.tok.at0, hT.tok.atS, hT.tok.set0, hT.tok.setS, hT.tok.get, push_cast, ↓reduceIte, Nat.reduceEqDiff, reduceCtorEq, Nat.reduceAdd, Nat.reduceLT, Nat.reduceLeDiff]) | (intro _))
      refine F_loop (fun q e H => ∃ j kv J, q = 2 - j ∧ j ≤ 2 ∧ e 0 = .ptr sid 0 0 ∧ e 1 = .int .i64 d ∧ e 4 = .ptr N 0 0 ∧ e 5 = .ptr (N + 1) 0 0 ∧ e 25 = .int .i64 2 ∧ e 26 = .int .i64 j ∧
        H = T (itr f (a + 2) j).2 ++ ([Blk.row [.agg [.int .i64 0, .int .i64 0, .str ⟨#[]⟩, .nils]], Blk.row [.agg [.int .i64 k, .int .i64 0, .str ⟨#[]⟩, kv]]] ++ J) ∧ OV H kv ((itr f (a + 2) j).1.map encE) ∧ ∀ i, i < N + 2 → kvne kv i) 2
        ⟨0, .nils, [], by simp, by simp, by simp [upd, env0], by simp [upd, env0], by simp [upd, env0], by simp [upd, env0], by simp [upd, env0], by simp [upd, env0], by simp [itr], .inl ⟨rfl, rfl⟩, (fun i _ a b h => by cases h)⟩ ?_
      rintro q e H ⟨j, kv, J, rfl, hj, e0, e1, e4, e5, e25, e26, rfl, hov, hkn⟩
      have hone := hov.vone
      simp only [V.one] at hone
      have hc1 := hov.one
      by_cases hjm : j = 2
      · subst hjm
        have hlj : ¬ (((2 : Nat) : Int) < 2) := by omega
        simp (maxSteps := 1000000) -implicitDefEqProofs only [e0, e1, e4, e5, e25, e26, hT.tok.len, hT.tok.at0, hT.tok.atS, hT.tok.set0, hT.tok.setS, hT.tok.get, hlj, hone, hc1, go_sem, ↓reduceIte, Nat.reduceEqDiff, Nat.reduceBEq, Int.reduceToNat, Nat.reduceAdd, Nat.reduceLT, Nat.reduceLeDiff, reduceCtorEq, Nat.reduceSub]
        have hov2 : OV (List.replicate N .dead ++ ([Blk.row [.agg [.int .i64 k, .int .i64 0, .str ⟨#[]⟩, kv]], Blk.row [.agg [.int .i64 k, .int .i64 0, .str ⟨#[]⟩, kv]]] ++ (J ++ []))) kv ((itr f (a + 2) 2).1.map encE) :=
          hov.mid (hT.tok.len _) hkn (B := List.replicate N .dead) (L1 := [Blk.row [.agg [.int .i64 k, .int .i64 0, .str ⟨#[]⟩, kv]], Blk.row [.agg [.int .i64 k, .int .i64 0, .str ⟨#[]⟩, kv]]]) List.length_replicate rfl []
        simp only [List.cons_append, List.nil_append, List.append_nil] at hov2
        have hz : fz _ 19 kv = _ := fz_OV (f := encE) (n := 17) (fun H x => fz_encE H 16 x) hov2
        simp (maxSteps := 1000000) -implicitDefEqProofs only [r42, hT.tok.len, hT.tok.at0, hT.tok.atS, hT.tok.set0, hT.tok.setS, hT.tok.get, e4, hone, hc1, push_cast, ↓reduceIte, Nat.reduceEqDiff, reduceCtorEq, Nat.reduceAdd, Nat.reduceLT, Nat.reduceLeDiff]
        refine ⟨_, rfl, ?_⟩
        simp (maxSteps := 1000000) -implicitDefEqProofs only [hz, push_cast, ↓reduceIte, Nat.reduceEqDiff, reduceCtorEq, Nat.reduceAdd, Nat.reduceLT, Nat.reduceLeDiff]
      · have hjC : j * C ≤ 2 * C := Nat.mul_le_mul_right C (by omega)
        have hIj := hI j (by omega)
        obtain ⟨hf1, hf2, hf3, hf4⟩ := hf (itr f (a + 2) j).2 (by omega)
        have hlj : ((j : Int) < 2) := by omega
        have hw2 : IntKind.i64.wrap ((j : Int) + 1) = ((j + 1 : Nat) : Int) := wrap_succ (by omega)
        have hit : itr f (a + 2) (j + 1) = ((itr f (a + 2) j).1 ++ [(f (itr f (a + 2) j).2).1], (f (itr f (a + 2) j).2).2) := rfl
        have hil := itr_length f (a + 2) j
        generalize itr f (a + 2) j = ij at *
        generalize f ij.2 = fj at *
        rcases fj with ⟨⟨k', n', s', zs⟩, b'⟩
        simp only [encE_mk] at hf4
        have h42 := hf4.at hT ([Blk.row [.agg [.int .i64 0, .int .i64 0, .str ⟨#[]⟩, .nils]], Blk.row [.agg [.int .i64 k, .int .i64 0, .str ⟨#[]⟩, kv]]] ++ J)
        simp only [List.cons_append, List.nil_append] at h42
        simp (maxSteps := 1000000) -implicitDefEqProofs only [e0, e1, e4, e5, e25, e26, hT.tok.len, hT.tok.at0, hT.tok.atS, hT.tok.set0, hT.tok.setS, hT.tok.get, hlj, hone, hc1, go_sem, ↓reduceIte, Nat.reduceEqDiff, Nat.reduceBEq, Int.reduceToNat, Nat.reduceAdd, Nat.reduceLT, Nat.reduceLeDiff, reduceCtorEq, Nat.reduceSub]
        repeat' (first | ((with_reducible first | refine cgA h42 ?_); simp (maxSteps := 1000000) -implicitDefEqProofs only [e0, e1, e4, e5, e25, e26, hT.tok.len, hT.tok.at0, hT.tok.atS, hT.tok.set0, hT.tok.setS, hT.tok.get, hlj, hone, hc1, w1, go_sem, ↓reduceIte, Nat.reduceEqDiff, Nat.reduceBEq, Int.reduceToNat, Nat.reduceAdd, Nat.reduceLT, Nat.reduceLeDiff, reduceCtorEq, Nat.reduceSub]) | ((with_reducible show F _ _ (Cfg.code (SCode.qregion _) _ _ _)); refine F_q2 ?_; simp (maxSteps := 1000000) -implicitDefEqProofs only [e0, e1, e4, e5, e25, e26, hT.tok.len, hT.tok.at0, hT.tok.atS, hT.tok.set0, hT.tok.setS, hT.tok.get, hlj, hone, hc1, w1, go_sem, ↓reduceIte, Nat.reduceEqDiff, Nat.reduceBEq, Int.reduceToNat, Nat.reduceAdd, Nat.reduceLT, Nat.reduceLeDiff, reduceCtorEq, Nat.reduceSub]) | ((with_reducible show F _ _ (Cfg.code (SCode.pregion _ _ _ _ _) _ _ _)); refine F_p2 ?_; simp (maxSteps := 1000000) -implicitDefEqProofs only [e0, e1, e4, e5, e25, e26, hT.tok.len, hT.tok.at0, hT.tok.atS, hT.tok.set0, hT.tok.setS, hT.tok.get, hlj, hone, hc1, w1, go_sem, ↓reduceIte, Nat.reduceEqDiff, Nat.reduceBEq, Int.reduceToNat, Nat.reduceAdd, Nat.reduceLT, Nat.reduceLeDiff, reduceCtorEq, Nat.reduceSub]) | with_reducible refine Fork.mk (fun _ => ?_) (fun _ => ?_) | with_reducible refine And.intro ?_ ?_ | ((with_reducible show resP _ _ _ _ _); simp (maxSteps := 1000000) -implicitDefEqProofs only [r42, hT.tok.len, hT.tok.at0, hT.tok.atS, hT.tok.set0, hT.tok.setS, hT.tok.get, push_cast, ↓reduceIte, Nat.reduceEqDiff, reduceCtorEq, Nat.reduceAdd, Nat.reduceLT, Nat.reduceLeDiff]) | (intro _))
        refine app_T hT.tok (L0 := [Blk.row [.agg [.int .i64 0, .int .i64 0, .str ⟨#[]⟩, .nils]], Blk.row [.agg [.int .i64 k, .int .i64 0, .str ⟨#[]⟩, kv]]]) (J := J) (acc := ij.1.map encE) ?_ hkn (fun i o l h => by cases h) (headOk_E _) (by simp; omega) ?_
        · have := hov.mid (hT.tok.len _) hkn (B := T b') (L1 := [Blk.row [.agg [.int .i64 0, .int .i64 0, .str ⟨#[]⟩, .nils]], Blk.row [.agg [.int .i64 k, .int .i64 0, .str ⟨#[]⟩, kv]]]) (hT.tok.len _) rfl []
          simpa only [List.append_nil] using this
        · intro kv' J' hov' hkn'
          have hone' := hov'.vone
          simp only [V.one] at hone'
          have hc1' := hov'.one
          try simp only [List.cons_append, List.nil_append]
          simp (maxSteps := 1000000) -implicitDefEqProofs only [e0, e1, e4, e5, e25, e26, hT.tok.len, hT.tok.at0, hT.tok.atS, hT.tok.set0, hT.tok.setS, hT.tok.get, hlj, hone, hc1, hone', hc1', hw2, go_sem, ↓reduceIte, Nat.reduceEqDiff, Nat.reduceBEq, Int.reduceToNat, Nat.reduceAdd, Nat.reduceLT, Nat.reduceLeDiff, reduceCtorEq, Nat.reduceSub]
          refine ⟨2 - (j + 1), by omega, j + 1, kv', J', rfl, by omega, rfl, ?_, ?_, hkn'⟩
          · rw [hit]
          · rw [hit]
            have := hov'.mid (hT.tok.len _) hkn' (B := T b') (L1 := [Blk.row [.agg [.int .i64 0, .int .i64 0, .str ⟨#[]⟩, .nils]], Blk.row [.agg [.int .i64 k, .int .i64 0, .str ⟨#[]⟩, kv']]]) (hT.tok.len _) rfl []
            simpa [encE_mk] using this
theorem t42 (L : List Int) : ∀ (d a : Nat), d ≤ 5 → a + trC d ≤ 700000 → ∃ x a', a ≤ a' ∧ a' ≤ a + trC d ∧ wE x ≤ trC d ∧ MC 42 L a [.int .i64 d] (encE x) a'
  | 0, a, _, ha => by
    obtain ⟨x, hx, h⟩ := t42leaf L a (0 : Nat) (by simp only [trC] at ha; omega) (by omega)
    exact ⟨x, a + 2, by omega, by simp only [trC]; omega, by simp only [trC]; omega, h⟩
  | d + 1, a, hd, ha => by
    simp only [trC] at ha ⊢
    by_cases h2 : ((d + 1 : Nat) : Int) < 2
    · obtain ⟨x, hx, h⟩ := t42leaf L a (d + 1 : Nat) (by omega) h2
      exact ⟨x, a + 2, by omega, by omega, by omega, h⟩
    · by_cases h0 : nxF L a 3 = 0
      · obtain ⟨x, hx, h⟩ := t42flip L a (d + 1 : Nat) (by omega) h2 h0
        exact ⟨x, a + 3, by omega, by omega, by omega, h⟩
      · obtain ⟨x, a', h3, h4, h5, h6⟩ := t42s L a (d + 1 : Nat) (trC d) (by omega) (by omega) (by omega) h0 (fun a' ha' => by
          have := t42 L d a' (by omega) (by omega)
          rwa [show ((d + 1 : Nat) : Int) - 1 = (d : Nat) by omega])
        exact ⟨x, a', h3, by omega, by omega, h6⟩
theorem getI {l : List Int} {i : Nat} (h : i < l.length) : (l.map (V.int .i64)).getD i .any = .int .i64 (l.getD i 0) := by simp [List.getD, h]
theorem mapI_set (l : List Int) (i : Nat) (v : Int) : (l.map (V.int .i64)).set i (.int .i64 v) = (l.set i v).map (.int .i64) := by rw [List.map_set]
theorem headOk_I (l : List Int) : headOk 1 (l.map (V.int .i64)) := headOk_map (V.int .i64) 1 (fun _ => rfl) l
theorem fz_I (H : List Blk) (n : Nat) (x : Int) : fz H (n + 1) (V.int .i64 x) = some (.int .i64 x) := fz_int _ _ _ _
def upTo (n : Nat) : List Int := (List.range n).map (fun (i : Nat) => (i : Int))
theorem upTo_succ (n : Nat) : upTo (n + 1) = upTo n ++ [(n : Int)] := by simp [upTo, List.range_succ]
theorem upTo_length (n : Nat) : (upTo n).length = n := by simp [upTo]
def shuf (L : List Int) : Nat → List Int → Nat → List Int × Nat
  | 0, l, a => (l, a)
  | i + 1, l, a =>
    let k := (nxF L a ((i + 2 : Nat) : Int)).toNat
    shuf L i ((l.set (i + 1) (l.getD k 0)).set k (l.getD (i + 1) 0)) (a + 1)
theorem shuf_spec (L : List Int) (n : Nat) : ∀ (i : Nat) (l : List Int) (a : Nat), i < n → l.length = n → (∀ x ∈ l, 0 ≤ x ∧ x < n) → (shuf L i l a).1.length = n ∧ (∀ x ∈ (shuf L i l a).1, 0 ≤ x ∧ x < n) ∧ (shuf L i l a).2 = a + i
  | 0, l, a, _, hl, h => ⟨hl, h, rfl⟩
  | i + 1, l, a, hi, hl, h => by
    have hd : ∀ j, 0 ≤ l.getD j 0 ∧ l.getD j 0 < n := by
      intro j
      by_cases hj : j < l.length
      · have : l.getD j 0 = l[j] := by simp [List.getD, hj]
        rw [this]; exact h _ (List.getElem_mem hj)
      · have : l.getD j 0 = 0 := by simp [List.getD, hj]
        rw [this]; omega
    have := shuf_spec L n i ((l.set (i + 1) (l.getD (nxF L a ((i + 2 : Nat) : Int)).toNat 0)).set (nxF L a ((i + 2 : Nat) : Int)).toNat (l.getD (i + 1) 0)) (a + 1) (by omega) (by simp [hl]) (fun x hx => by
      rcases List.mem_or_eq_of_mem_set hx with hx | rfl
      · rcases List.mem_or_eq_of_mem_set hx with hx | rfl
        · exact h x hx
        · exact hd _
      · exact hd _)
    simp only [shuf]
    refine ⟨this.1, this.2.1, by rw [this.2.2]; omega⟩
set_option maxRecDepth 20000 in
theorem t43 (L : List Int) (a n : Nat) (hn : 1 ≤ n) (hn2 : n ≤ 12) (ha : a ≤ 700000) : ∃ (l : List Int) (a' : Nat), l.length = n ∧ (∀ x ∈ l, 0 ≤ x ∧ x < n) ∧ a ≤ a' ∧ a' ≤ a + n ∧ MC 43 L a [.int .i64 n] (.fs (l.map (.int .i64))) a' := by
  obtain ⟨h1, h2, h3⟩ := shuf_spec L n (n - 1) (upTo n) a (by omega) (upTo_length n) (fun x hx => by simp [upTo] at hx; omega)
  refine ⟨(shuf L (n - 1) (upTo n) a).1, (shuf L (n - 1) (upTo n) a).2, h1, h2, by rw [h3]; omega, by rw [h3]; omega, fun sid N T hT => hT.trimO (by simp only [noref]; exact norefL_int _) ?_⟩
  refine ACall.intro c43 200 (by simp) ?_
  simp (maxSteps := 1000000) -implicitDefEqProofs only [s43, go_sem, ↓reduceIte, Nat.reduceEqDiff, Nat.reduceBEq, Int.reduceToNat, Nat.reduceAdd, Nat.reduceLT, Nat.reduceLeDiff, reduceCtorEq, Nat.reduceSub]
  refine F_loop (fun q e H => ∃ j kv J, q = n - j ∧ j ≤ n ∧ e 0 = .ptr sid 0 0 ∧ e 1 = .int .i64 n ∧ e 5 = kv ∧ e 9 = .int .i64 n ∧ e 10 = .int .i64 j ∧ H = T a ++ ([] ++ J) ∧ OV H kv ((upTo j).map (.int .i64)) ∧ ∀ i, i < N + 0 → kvne kv i) n
    ⟨0, .nils, [], by simp, by simp, by simp [upd, env0], by simp [upd, env0], by simp [upd, env0], by simp [upd, env0], by simp [upd, env0], by simp, .inl ⟨rfl, rfl⟩, (fun i _ a b h => by cases h)⟩ ?_
  rintro q e H ⟨j, kv, J, rfl, hj, e0, e1, e5, e9, e10, rfl, hov, hkn⟩
  by_cases hjn : j = n
  · subst hjn
    have hlj : ¬ ((j : Int) < j) := by omega
    have w1 : IntKind.i64.wrap ((j : Int) - 1) = ((j - 1 : Nat) : Int) := by rw [wrap_int (by omega) (by omega)]; omega
    simp (maxSteps := 1000000) -implicitDefEqProofs only [e0, e1, e5, e9, e10, hT.tok.len, hT.tok.at0, hT.tok.atS, hT.tok.set0, hT.tok.setS, hT.tok.get, hlj, w1, go_sem, ↓reduceIte, Nat.reduceEqDiff, Nat.reduceBEq, Int.reduceToNat, Nat.reduceAdd, Nat.reduceLT, Nat.reduceLeDiff, reduceCtorEq, Nat.reduceSub]
    obtain ⟨id, hkv, hid⟩ : ∃ id, kv = .ms (N + id) 0 j ∧ J[id]? = some (.row ((upTo j).map (.int .i64))) := by
      rcases hov with ⟨h, _⟩ | ⟨_, id, h4, h5⟩
      · have := congrArg List.length h; simp [upTo_length] at this; omega
      · have hge : ¬ id < N := fun h => hkn id (by omega) 0 _ h4
        refine ⟨id - N, by rw [h4]; simp [upTo_length]; omega, ?_⟩
        rw [List.nil_append, List.getElem?_append_right (by rw [hT.tok.len]; omega), hT.tok.len] at h5
        exact h5
    subst hkv
    have hidl := (List.getElem?_eq_some_iff.1 hid).1
    refine F_loop (fun q e H => ∃ i l a' J, q = i ∧ i < j ∧ l.length = j ∧ e 0 = .ptr sid 0 0 ∧ e 5 = .ms (N + id) 0 j ∧ e 7 = .int .i64 (i : Nat) ∧ H = T a' ++ J ∧ J[id]? = some (.row ((l : List Int).map (.int .i64))) ∧ a' ≤ 700000 + 12 - i ∧ (shuf L i l a') = shuf L (j - 1) (upTo j) a) (j - 1)
      ⟨j - 1, upTo j, a, J, rfl, by omega, upTo_length j, by simp [upd, e0], by simp [upd, e5], by simp [upd], rfl, hid, by omega, rfl⟩ ?_
    clear hid hidl hov e0 e1 e5 e9 e10
    rintro q e H ⟨i, l, a', J, rfl, hi, hl, e0, e5, e7, rfl, hid, ha', hsh⟩
    have hidl := (List.getElem?_eq_some_iff.1 hid).1
    cases q with
    | zero =>
      have h00 : ¬ ((0 : Int) < ((0 : Nat) : Int)) := by omega
      simp only [shuf] at hsh
      simp (maxSteps := 1000000) -implicitDefEqProofs only [e0, e5, e7, hT.tok.len, hT.tok.at0, hT.tok.atS, hT.tok.set0, hT.tok.setS, hT.tok.get, h00, go_sem, ↓reduceIte, Nat.reduceEqDiff, Nat.reduceBEq, Int.reduceToNat, Nat.reduceAdd, Nat.reduceLT, Nat.reduceLeDiff, reduceCtorEq, Nat.reduceSub]
      rw [← hsh]
      have hz : fz (List.replicate N .dead ++ J) 20 (.ms (N + id) 0 j) = some (.fs (l.map (.int .i64))) := by
        have : (List.replicate N Blk.dead ++ J)[N + id]? = some (.row (l.map (.int .i64))) := by
          rw [List.getElem?_append_right (by simp), List.length_replicate, Nat.add_sub_cancel_left]; exact hid
        rw [fz_ms, this, fzM_row, if_pos (by simp [hl]), List.drop_zero, List.take_of_length_le (by simp [hl]), fzL_map _ _ (fun x => fz_int _ _ _ _)]
        rfl
      simp (maxSteps := 1000000) -implicitDefEqProofs only [r43, push_cast, ↓reduceIte, Nat.reduceEqDiff, reduceCtorEq, Nat.reduceAdd, Nat.reduceLT, Nat.reduceLeDiff]
      exact ⟨_, rfl, _, hz, rfl⟩
    | succ i =>
      have hb := nxF_bound (L := L) (a := a') (n := ((i + 2 : Nat) : Int)) (by omega) (by omega)
      have h16 := (t16 L a' ((i + 2 : Nat) : Int) (by omega)).at hT J
      simp only [shuf] at hsh
      generalize nxF L a' ((i + 2 : Nat) : Int) = v at *
      obtain ⟨k, rfl⟩ : ∃ k : Nat, v = k := ⟨v.toNat, by omega⟩
      have hi1 : ((0 : Int) < ((i + 1 : Nat) : Int)) := by omega
      have w2 : IntKind.i64.wrap (((i + 1 : Nat) : Int) + 1) = ((i + 2 : Nat) : Int) := by rw [wrap_int (by omega) (by omega)]; omega
      have w3 : IntKind.i64.wrap (((i + 1 : Nat) : Int) - 1) = (i : Int) := by rw [wrap_int (by omega) (by omega)]; omega
      have hk : k < j := by omega
      have hJs : ∀ x, (J.set id x)[id]? = some x := fun x => List.getElem?_set_self hidl
      have hgk : (l.map (V.int .i64)).getD k .any = .int .i64 (l.getD k 0) := getI (by omega)
      have hgi : (l.map (V.int .i64)).getD (i + 1) .any = .int .i64 (l.getD (i + 1) 0) := getI (by omega)
      have hgk2 : ((l.set (i + 1) (l.getD k 0)).map (V.int .i64)).getD k .any = .int .i64 ((l.set (i + 1) (l.getD k 0)).getD k 0) := getI (by simp; omega)
      simp (maxSteps := 1000000) -implicitDefEqProofs only [e0, e5, e7, hT.tok.len, hT.tok.at0, hT.tok.atS, hT.tok.set0, hT.tok.setS, hT.tok.get, hi1, w2, go_sem, ↓reduceIte, Nat.reduceEqDiff, Nat.reduceBEq, Int.reduceToNat, Nat.reduceAdd, Nat.reduceLT, Nat.reduceLeDiff, reduceCtorEq, Nat.reduceSub]
      repeat' (first | ((with_reducible first | refine cgA h16 ?_); simp (maxSteps := 1000000) -implicitDefEqProofs only [e0, e5, e7, hT.tok.len, hT.tok.at0, hT.tok.atS, hT.tok.set0, hT.tok.setS, hT.tok.get, hi1, w2, w3, hid, hJs, hgk, hgi, hgk2, mapI_set, hk, hi, hl, List.length_set, List.set_set, Nat.le_refl, go_sem, ↓reduceIte, Nat.reduceEqDiff, Nat.reduceBEq, Int.reduceToNat, Nat.reduceAdd, Nat.reduceLT, Nat.reduceLeDiff, reduceCtorEq, Nat.reduceSub]) | ((with_reducible show F _ _ (Cfg.code (SCode.qregion _) _ _ _)); refine F_q2 ?_; simp (maxSteps := 1000000) -implicitDefEqProofs only [e0, e5, e7, hT.tok.len, hT.tok.at0, hT.tok.atS, hT.tok.set0, hT.tok.setS, hT.tok.get, hi1, w2, w3, hid, hJs, hgk, hgi, hgk2, mapI_set, hk, hi, hl, List.length_set, List.set_set, Nat.le_refl, go_sem, ↓reduceIte, Nat.reduceEqDiff, Nat.reduceBEq, Int.reduceToNat, Nat.reduceAdd, Nat.reduceLT, Nat.reduceLeDiff, reduceCtorEq, Nat.reduceSub]) | ((with_reducible show F _ _ (Cfg.code (SCode.pregion _ _ _ _ _) _ _ _)); refine F_p2 ?_; simp (maxSteps := 1000000) -implicitDefEqProofs only [e0, e5, e7, hT.tok.len, hT.tok.at0, hT.tok.atS, hT.tok.set0, hT.tok.setS, hT.tok.get, hi1, w2, w3, hid, hJs, hgk, hgi, hgk2, mapI_set, hk, hi, hl, List.length_set, List.set_set, Nat.le_refl, go_sem, ↓reduceIte, Nat.reduceEqDiff, Nat.reduceBEq, Int.reduceToNat, Nat.reduceAdd, Nat.reduceLT, Nat.reduceLeDiff, reduceCtorEq, Nat.reduceSub]) | with_reducible refine Fork.mk (fun _ => ?_) (fun _ => ?_) | with_reducible refine And.intro ?_ ?_ | ((with_reducible show resP _ _ _ _ _); simp (maxSteps := 1000000) -implicitDefEqProofs only [r43, push_cast, ↓reduceIte, Nat.reduceEqDiff, reduceCtorEq, Nat.reduceAdd, Nat.reduceLT, Nat.reduceLeDiff]) | (intro _))
      simp only [Int.toNat_natCast] at hsh
      exact ⟨i, by omega, i, _, a' + 1, _, rfl, by omega, by simp [hl], rfl, rfl, hJs _, by omega, hsh⟩
  · have hlj : ((j : Int) < n) := by omega
    have hw2 : IntKind.i64.wrap ((j : Int) + 1) = ((j + 1 : Nat) : Int) := wrap_succ (by omega)
    simp (maxSteps := 1000000) -implicitDefEqProofs only [e0, e1, e5, e9, e10, hT.tok.len, hT.tok.at0, hT.tok.atS, hT.tok.set0, hT.tok.setS, hT.tok.get, hlj, hw2, go_sem, ↓reduceIte, Nat.reduceEqDiff, Nat.reduceBEq, Int.reduceToNat, Nat.reduceAdd, Nat.reduceLT, Nat.reduceLeDiff, reduceCtorEq, Nat.reduceSub]
    refine app_T hT.tok (L0 := []) (J := J) (acc := (upTo j).map (.int .i64)) ?_ hkn (fun i o l h => by cases h) (headOk_I _) (by simp [upTo_length]; omega) ?_
    · simpa using hov
    · intro kv' J' hov' hkn'
      simp (maxSteps := 1000000) -implicitDefEqProofs only [e0, e1, e5, e9, e10, hT.tok.len, hT.tok.at0, hT.tok.atS, hT.tok.set0, hT.tok.setS, hT.tok.get, hlj, hw2, go_sem, ↓reduceIte, Nat.reduceEqDiff, Nat.reduceBEq, Int.reduceToNat, Nat.reduceAdd, Nat.reduceLT, Nat.reduceLeDiff, reduceCtorEq, Nat.reduceSub]
      refine ⟨n - (j + 1), by omega, j + 1, kv', J', rfl, by omega, rfl, rfl, rfl, ?_, hkn'⟩
      rw [upTo_succ]; simpa using hov'
def fnz : Int → List Int → Int
  | st, [] => st
  | st, c :: l => fnz (if st = 0 then c else st) l
theorem fnz_append : ∀ (a b : List Int) (st : Int), fnz st (a ++ b) = fnz (fnz st a) b
  | [], b, st => rfl
  | c :: a, b, st => by rw [List.cons_append, fnz, fnz_append a b, fnz]
theorem fnz_ne : ∀ (l : List Int) (st : Int), st ≠ 0 → fnz st l = st
  | [], st, _ => rfl
  | c :: l, st, h => by rw [fnz, if_neg h]; exact fnz_ne l st h
def gSp (P : Pla) (y : Spo) : Int := cFS P y.2.1 y.1
mutual
theorem fE1ufnz (P : Pla) : ∀ (x : St) (pr : Int) (la : Bool) (st n : Int), fE1 (fun st n x => ckS P st n pr x) st x n = fnz st ((sp1 x pr la).map (gSp P))
  | .mk k r t v l e a b p ps, pr, la, st, n => by
    rw [fE1, fE_fnz P a pr la, fE_fnz P b pr la, sp1, List.map_cons, List.map_append, fnz, fnz_append]
    rfl
theorem fE_fnz (P : Pla) : ∀ (l : List St) (pr : Int) (la : Bool) (st n : Int), fE (fun st n x => ckS P st n pr x) st l n = fnz st ((spL l pr la).map (gSp P))
  | [], _, _, _, _ => rfl
  | x :: l, pr, la, st, n => by
    rw [fE, fE1ufnz P x pr (la && l.isEmpty), fE_fnz P l pr la, spL, List.map_append, fnz_append]
end
theorem fP_fnz (P : Pla) : ∀ (l : List Pr) (i : Nat) (st n : Int), fP (ckS P) st l i n = fnz st ((spP l i).map (gSp P))
  | [], _, _, _ => rfl
  | q :: l, i, st, n => by
    rw [fP, fE_fnz P q.steps i true, fP_fnz P l (i + 1), spP, List.map_append, fnz_append]
theorem fEP_fnz (P : Pla) : fEP (ckS P) 0 P = fnz 0 ((spots P).map (gSp P)) := by
  rw [fEP, fE_fnz P P.main (-1) true, fP_fnz, spots, List.map_append, fnz_append]
theorem oFL_fnz (P : Pla) : ∀ l : List Spo, oFL P l = fnz 0 (l.map (oFS P))
  | [] => rfl
  | x :: l => by
    rw [oFL, List.map_cons, fnz]
    by_cases h : oFS P x = 0
    · simp only [h, if_true, ne_eq, not_true_eq_false, if_false]; exact oFL_fnz P l
    · simp only [if_true, ne_eq, h, not_false_eq_true, fnz_ne _ _ h]
mutual
theorem sp1uraw : ∀ (x : St) (pr : Int) (la : Bool) (d : Int), sF x d = 0 → ∀ y ∈ sp1 x pr la, ∃ d', stF' y.1 d' = 0
  | .mk k r t v l e a b p ps, pr, la, d, h => by
    intro y hy
    simp only [sF] at h
    by_cases h1 : stF' (.mk k r t v l e a b p ps) d ≠ 0
    · rw [if_pos h1] at h; exact absurd h h1
    · rw [if_neg h1] at h
      by_cases h2 : sFs a (d + 1) ≠ 0
      · rw [if_pos h2] at h; exact absurd h h2
      · rw [if_neg h2] at h
        simp only [sp1, List.mem_cons, List.mem_append] at hy
        rcases hy with rfl | hy | hy
        · exact ⟨d, by simpa using h1⟩
        · exact spL_raw a pr la (d + 1) (by simpa using h2) y hy
        · exact spL_raw b pr la (d + 1) h y hy
theorem spL_raw : ∀ (l : List St) (pr : Int) (la : Bool) (d : Int), sFs l d = 0 → ∀ y ∈ spL l pr la, ∃ d', stF' y.1 d' = 0
  | [], _, _, _, _ => by intro y hy; simp [spL] at hy
  | x :: l, pr, la, d, h => by
    intro y hy
    rw [sFs] at h
    by_cases h1 : sF x d ≠ 0
    · rw [if_pos h1] at h; exact absurd h h1
    · rw [if_neg h1] at h
      simp only [spL, List.mem_append] at hy
      rcases hy with hy | hy
      · exact sp1uraw x pr _ d (by simpa using h1) y hy
      · exact spL_raw l pr la d h y hy
end
theorem psF_raw : ∀ (l pre : List Pr) (i : Nat), psF pre l = 0 → ∀ y ∈ spP l i, ∃ d', stF' y.1 d' = 0
  | [], _, _, _ => by intro y hy; simp [spP] at hy
  | q :: l, pre, i, h => by
    intro y hy
    rw [psF] at h
    by_cases h1 : pF pre q ≠ 0
    · rw [if_pos h1] at h; exact absurd h h1
    · rw [if_neg h1] at h
      have h1 : pF pre q = 0 := by simpa using h1
      simp only [spP, List.mem_append] at hy
      rcases hy with hy | hy
      · refine spL_raw q.steps _ _ 1 ?_ y hy
        rw [pF] at h1
        repeat' split at h1
        all_goals first | (exact absurd h1 (by decide)) | (exact absurd h1 (by assumption)) | exact h1
      · exact psF_raw l (pre ++ [q]) (i + 1) h y hy
theorem spots_raw (P : Pla) (h : cpF P = 0) : ∀ y ∈ spots P, ∃ d', stF' y.1 d' = 0 := by
  intro y hy
  rw [cpF] at h
  by_cases h1 : P.procs.length > 50
  · rw [if_pos h1] at h; exact absurd h (by decide)
  · rw [if_neg h1] at h
    by_cases h2 : psF [] P.procs ≠ 0
    · rw [if_pos h2] at h; exact absurd h h2
    · rw [if_neg h2] at h
      by_cases h3 : sFs P.main 1 ≠ 0
      · rw [if_pos h3] at h; exact absurd h h3
      · simp only [spots, List.mem_append] at hy
        rcases hy with hy | hy
        · exact spL_raw _ _ _ 1 (by simpa using h3) y hy
        · exact psF_raw _ [] 0 (by simpa using h2) y hy
theorem cFS_oFS (P : Pla) (y : Spo) (d : Int) (h : stF' y.1 d = 0) : gSp P y = oFS P y := by
  rcases y with ⟨⟨k, r, t, v, l, ⟨ek, en, es, eas⟩, a, b, p, ps⟩, pr, la⟩
  simp only [gSp, cFS, oFS, cF, oF, stF', stF] at *
  have hd : ¬ d > 20 := by intro hd; rw [if_pos hd] at h; exact absurd h (by decide)
  rw [if_neg hd] at h
  have hk : ¬ (k < 1 ∨ 5 < k) := by intro hd; rw [if_pos hd] at h; exact absurd h (by decide)
  rw [if_neg hk] at h
  have hf : foF k r t v l (isNone ek en es eas) a.length b.length p ps.length = 0 := by
    refine Classical.byContradiction fun hf => ?_
    rw [if_pos hf] at h; exact absurd h (by decide)
  rw [if_neg (by simpa using hf)] at h
  have hn : naF k r t v l p = 0 := by
    refine Classical.byContradiction fun hf => ?_
    rw [if_pos hf] at h; exact absurd h (by decide)
  have key : ∀ X : Int, (if nE t = true ∧ r = t then 6 else if k ≠ 5 then 0 else X) = if k ≠ 5 then (if t = r then 6 else 0) else X := by
    intro X
    by_cases h5 : k = 5
    · subst h5
      have ht : nE t = false := by
        refine Classical.byContradiction fun ht => ?_
        have : nE t = true := by simpa using ht
        unfold foF at hf
        rw [if_pos (.inr (.inl ⟨by omega, this⟩))] at hf
        exact absurd hf (by decide)
      simp [ht]
    · have hr : isNm r = true := by
        refine Classical.byContradiction fun ht => ?_
        have : isNm r = false := by simpa using ht
        unfold naF at hn
        rw [if_pos (.inl ⟨by omega, this⟩)] at hn
        exact absurd hn (by decide)
      have hr2 : nE r = true := by
        unfold nE
        refine Classical.byContradiction fun hx => ?_
        have hx : r = ⟨#[]⟩ := by simpa using hx
        subst hx
        exact absurd hr (by decide)
      by_cases hrt : t = r
      · subst hrt; simp [h5, hr2]
      · have : ¬ r = t := fun h => hrt h.symm
        simp [h5, hrt, this]
  rw [key]
  cases procRs P pr <;> cases P.procs.find? (fun z => decide (z.name = p)) <;> rfl
theorem ck_pl (P : Pla) : ckF P = plF P := by
  rw [ckF, plF]
  by_cases h : cpF P = 0
  · simp only [h, ne_eq, not_true_eq_false, if_false]
    rw [fEP_fnz, oFL_fnz]
    congr 1
    apply List.map_congr_left
    intro y hy
    obtain ⟨d, hd⟩ := spots_raw P h y hy
    exact cFS_oFS P y d hd
  · simp only [ne_eq, h, not_false_eq_true, if_true]
abbrev Hd := ByteArray × List ByteArray
def encH (h : Hd) : V := .agg [.str h.1, .fs (h.2.map .str)]
theorem noref_encH (h : Hd) : noref (encH h) = true := by simp [encH, noref, norefL, norefL_str]
theorem norefL_encH (l : List Hd) : norefL (l.map encH) = true := norefL_mapf noref_encH l
def ex0 : Ex := .mk 0 0 ⟨#[]⟩ []
def em : ByteArray := ⟨#[]⟩
def pk9 (L : List Int) (a : Nat) : Int := ([1, 1, 1, 2, 3, 3, 4, 4, 5] : List Int).getD (nxF L a 9).toNat 0
theorem pk9umem (L : List Int) (a : Nat) : pk9 L a = 1 ∨ pk9 L a = 2 ∨ pk9 L a = 3 ∨ pk9 L a = 4 ∨ pk9 L a = 5 := by
  have hb := nxF_bound (L := L) (a := a) (n := 9) (by omega) (by omega)
  unfold pk9
  generalize nxF L a 9 = v at *
  obtain ⟨k, rfl⟩ : ∃ k : Nat, v = k := ⟨v.toNat, by omega⟩
  have : k = 0 ∨ k = 1 ∨ k = 2 ∨ k = 3 ∨ k = 4 ∨ k = 5 ∨ k = 6 ∨ k = 7 ∨ k = 8 := by omega
  rcases this with rfl | rfl | rfl | rfl | rfl | rfl | rfl | rfl | rfl <;> simp
def so3 (L : List Int) (a : Nat) (l : List ByteArray) : ByteArray := l.getD (nxF L a l.length).toNat ⟨#[]⟩
def vxyz : List ByteArray := [⟨#[120]⟩, ⟨#[121]⟩, ⟨#[122]⟩]
def lyes : List ByteArray := [⟨#[121, 101, 115]⟩, ⟨#[110, 111]⟩, ⟨#[103, 111]⟩]
def one (L : List Int) (roles : List ByteArray) (d : Int) (heads : List Hd) (tw : Nat → ByteArray × ByteArray) (tr2 tr3 : Nat → Ex × Nat) (od : Nat → List Int × Nat) (sb : Nat → List St × Nat) (a : Nat) : List St × Nat :=
  let k0 := pk9 L (a + 2)
  let k := if (k0 = 4 ∧ d < 2) ∨ (k0 = 5 ∧ heads = []) then 3 else k0
  if k = 1 then ([.mk 1 (tw a).1 (tw a).2 (so3 L (a + 3) vxyz) em (tr2 (a + 4)).1 [] [] em []], (tr2 (a + 4)).2)
  else if k = 2 then ([.mk 2 (tw a).1 (tw a).2 em (so3 L (a + 3) lyes) ex0 [] [] em []], a + 4)
  else if k = 3 then ([.mk 3 (tw a).1 em (so3 L (a + 3) vxyz) em (tr3 (a + 4)).1 [] [] em []], (tr3 (a + 4)).2)
  else if k = 4 then ([.mk 4 (tw a).1 em em em (tr2 (a + 3)).1 (sb (tr2 (a + 3)).2).1 (sb (sb (tr2 (a + 3)).2).2).1 em []], (sb (sb (tr2 (a + 3)).2).2).2)
  else
    let h := heads.getD (nxF L (a + 3) heads.length).toNat (em, [])
    if h.2.length > roles.length then ([], a + 4)
    else ([.mk 5 em em em em ex0 [] [] h.1 (((od (a + 4)).1.take h.2.length).map fun i => roles.getD i.toNat em)], (od (a + 4)).2)
def resV (N : Nat) (xs : List St) : V := if xs = [] then .nils else .ms N 0 xs.length
def resH (xs : List St) : List Blk := if xs = [] then [] else [.row (xs.map encS)]
def MCO (k : FuncId) (L : List Int) (a : Nat) (args : List V) (xs : List St) (a' : Nat) : Prop := ∀ sid N T, MS L sid N T → ACall Tryz.prog k (.ptr sid 0 0 :: args) (T a) (ret1 (resV N xs) (T a' ++ resH xs))
def MCR (k : FuncId) (L : List Int) (a : Nat) (args : List V) (xs : List St) (a' : Nat) : Prop := ∀ sid N T, MS L sid N T → ACall Tryz.prog k (.ptr sid 0 0 :: args) (T a) (fun r H' => ∃ X, H' = T a' ++ X ∧ OV (T a' ++ X) r (xs.map encS) ∧ ∀ i, i < N → kvne r i)
theorem OV.tail {A X : List Blk} {kv : V} {acc : List V} {n : Nat} (h : OV (A ++ X) kv acc) (hA : A.length = n) (hk : ∀ j, j < n → kvne kv j) {B : List Blk} (hB : B.length = n) : OV (B ++ X) kv acc := by
  have := OV.mid (L0 := []) (L1 := []) (J := X) (by simpa using h) hA (by simpa using hk) hB rfl []
  simpa using this
theorem MCR.fz {k : FuncId} {L : List Int} {a a' : Nat} {args : List V} {xs : List St} (h : MCR k L a args xs a') : MC k L a args (.fs (xs.map encS)) a' := by
  intro sid N T hT
  refine hT.trimO (by simp only [noref]; exact norefL_encS _) ((h sid N T hT).mono ?_)
  rintro r H' ⟨X, rfl, hov, hk⟩
  exact ⟨X, rfl, _, fz_OV (f := encS) (n := 18) (fun H x => fz_encS H 17 x) (hov.tail (hT.tok.len _) hk List.length_replicate), rfl⟩
theorem MCR.mco {k : FuncId} {L : List Int} {a a' : Nat} {args : List V} {xs : List St} (h : MCR k L a args xs a') : MCO k L a args xs a' := by
  intro sid N T hT
  by_cases hx : xs = []
  · subst hx
    simp only [resV, resH, if_true, List.append_nil]
    refine hT.trim rfl ((h sid N T hT).mono ?_)
    rintro r H' ⟨X, rfl, hov, hk⟩
    rcases hov with ⟨_, rfl⟩ | ⟨h1, _⟩
    · exact ⟨rfl, X, rfl⟩
    · exact absurd rfl h1
  · simp only [resV, resH, if_neg hx]
    refine ACall.trimM ((h sid N T hT).mono ?_)
    rintro r H' ⟨X, rfl, hov, hk⟩
    rcases hov with ⟨h1, _⟩ | ⟨h1, id, rfl, hid⟩
    · exact absurd (by simpa using h1) hx
    · have hge : ¬ id < N := fun hl => hk id hl 0 _ rfl
      rw [List.getElem?_append_right (by rw [hT.tok.len]; omega), hT.tok.len] at hid
      refine ⟨T a', X, id - N, 0, xs.length, xs.map encS, rfl, by rw [hT.tok.len, hT.tok.len], hT.tok.row _ _, ?_, hid, norefL_encS _, ?_⟩
      · rw [hT.tok.len, List.length_map]; congr 1; omega
      · rw [hT.tok.len]; exact ⟨rfl, rfl⟩
theorem keep_tail2 {A X : List Blk} {M : Nat} (hA : A.length = M) {v v' : V} {K : V → List Blk → Prop} (hz : fz (List.replicate M .dead ++ X) 20 v = some v') (hk : ∀ X', K v' (A ++ X')) : ∃ D v', fz (keepL D (A ++ X)) 20 v = some v' ∧ K v' (killL D (A ++ X)) := by
  obtain ⟨X', hX⟩ := killL_tail (A := A) (X := X) hA
  refine ⟨List.range' M X.length, v', ?_, ?_⟩
  · rw [keepL_tail hA]; exact hz
  · rw [hX]; exact hk X'
theorem keep_none {H : List Blk} {v v' : V} {K : V → List Blk → Prop} (hz : fz [] 20 v = some v') (hk : K v' H) : ∃ D v', fz (keepL D H) 20 v = some v' ∧ K v' (killL D H) :=
  ⟨[], v', fz_mono _ _ hz, hk⟩
end Go.Proofs.YteoboibjepokoaaGreatDoor.Av
set_option maxRecDepth 100000
namespace Go.Proofs.YteoboibjepokoaaGreatDoor.Av
open Go.RowKit
def bm4u0 : SCode :=
  (.seq (.region [⟨(some 19), .bin .lss (.tmp 18) (.tmp 17), none⟩])
  (.seq (.cond (.tmp 19) .skip (.exit 0))
  (.seq (.block 1 (.seq (.region [⟨(some 20), .iaddr 2 (.tmp 16) (.tmp 18), none⟩,
    ⟨(some 21), .load true 2 (.tmp 20), none⟩,
    ⟨(some 6), .alloc (.agg [.str ⟨#[]⟩, .nils]), none⟩,
    ⟨none, .store 2 (.tmp 6) (.tmp 21), none⟩])
  (.seq (.region [⟨(some 22), .mov (.tmp 0), none⟩,
    ⟨(some 23), .call (.val (.clos 14 [] [])) [.tmp 22, .val (.int .i64 2)], none⟩])
  (.cond (.tmp 23) (.region [⟨(some 24), .mov (.tmp 4), none⟩,
    ⟨(some 25), .load true 2 (.tmp 6), none⟩,
    ⟨(some 26), .buildF 2 [.tmp 25], none⟩,
    ⟨(some 27), .append 2 40 (.tmp 24) (.tmp 26), none⟩,
    ⟨(some 4), .mov (.tmp 27), none⟩]) .skip))))
  (.region [⟨(some 28), .bin .add (.tmp 18) (.val (.int .i64 1)), none⟩,
    ⟨(some 18), .mov (.tmp 28), none⟩]))))
def bm4u961 : SCode :=
  (.region [⟨(some 61), .faddr 0 (.tmp 3), none⟩,
    ⟨(some 62), .load false 1 (.tmp 61), none⟩,
    ⟨(some 63), .faddr 0 (.tmp 8), none⟩,
    ⟨(some 64), .load false 1 (.tmp 63), none⟩,
    ⟨(some 65), .faddr 1 (.tmp 8), none⟩,
    ⟨(some 66), .load false 1 (.tmp 65), none⟩,
    ⟨(some 67), .mov (.tmp 9), none⟩,
    ⟨(some 68), .build [.str ⟨#[]⟩, .nils, .nils] [(0, 1, .tmp 64), (1, 1, .tmp 66), (2, 1, .tmp 67)], none⟩,
    ⟨(some 69), .buildF 3 [.tmp 68], none⟩,
    ⟨(some 70), .append 3 64 (.tmp 62) (.tmp 69), none⟩,
    ⟨(some 71), .faddr 0 (.tmp 3), none⟩,
    ⟨none, .store 1 (.tmp 71) (.tmp 70), none⟩])
def bm4u944 : SCode :=
  (.seq (.seq (.region [⟨(some 44), .mov (.tmp 0), none⟩,
    ⟨(some 45), .call (.val (.clos 16 [] [])) [.tmp 44, .val (.int .i64 6)], none⟩])
  (.block 4 (.seq (.seq (.region [⟨(some 47), .bin .eql (.tmp 45) (.val (.int .i64 0)), none⟩,
    ⟨(some 46), .mov (.tmp 47), none⟩])
  (.cond (.tmp 46) .skip (.region [⟨(some 48), .bin .eql (.tmp 45) (.val (.int .i64 1)), none⟩,
    ⟨(some 46), .mov (.tmp 48), none⟩])))
  (.cond (.tmp 46) (.region [⟨(some 49), .mov (.tmp 9), none⟩,
    ⟨(some 50), .mov (.tmp 0), none⟩,
    ⟨(some 51), .load true 2 (.tmp 8), none⟩,
    ⟨(some 52), .call (.val (.clos 17 [] [])) [.tmp 50, .tmp 51], none⟩,
    ⟨(some 53), .append 13 216 (.tmp 49) (.tmp 52), none⟩,
    ⟨(some 9), .mov (.tmp 53), none⟩]) (.seq (.region [⟨(some 55), .bin .eql (.tmp 45) (.val (.int .i64 2)), none⟩,
    ⟨(some 54), .mov (.tmp 55), none⟩])
  (.cond (.tmp 54) (.region [⟨(some 56), .mov (.tmp 0), none⟩,
    ⟨(some 57), .faddr 1 (.tmp 8), none⟩,
    ⟨(some 58), .load false 1 (.tmp 57), none⟩,
    ⟨(some 59), .mov (.tmp 4), none⟩,
    ⟨(some 60), .call (.val (.clos 15 [] [])) [.tmp 56, .tmp 58, .val (.int .i64 2), .val (.int .i64 3), .tmp 59], none⟩,
    ⟨(some 9), .mov (.tmp 60), none⟩]) .skip))))))
  bm4u961)
def bm4u1 : SCode :=
  (.seq (.region [⟨(some 32), .bin .lss (.tmp 31) (.tmp 30), none⟩])
  (.seq (.cond (.tmp 32) .skip (.exit 2))
  (.seq (.block 3 (.seq (.region [⟨(some 33), .mov (.tmp 31), none⟩,
    ⟨(some 34), .iaddr 2 (.tmp 29) (.tmp 31), none⟩,
    ⟨(some 35), .load true 2 (.tmp 34), none⟩,
    ⟨(some 8), .alloc (.agg [.str ⟨#[]⟩, .nils]), none⟩,
    ⟨(some 7), .mov (.tmp 33), none⟩,
    ⟨none, .store 2 (.tmp 8) (.tmp 35), none⟩])
  (.seq (.qregion [⟨⟨(some 36), .mov (.tmp 0), none⟩, false, 0, 0, 0⟩,
    ⟨⟨(some 37), .faddr 1 (.tmp 8), none⟩, false, 0, 0, 0⟩,
    ⟨⟨(some 38), .load false 1 (.tmp 37), none⟩, false, 0, 0, 2⟩,
    ⟨⟨(some 39), .mov (.tmp 4), none⟩, false, 0, 0, 0⟩,
    ⟨⟨(some 40), .mov (.tmp 7), none⟩, false, 0, 0, 0⟩,
    ⟨⟨(some 41), .bin .add (.tmp 40) (.val (.int .i64 1)), none⟩, false, 0, 0, 16⟩,
    ⟨⟨(some 42), .slice 2 (.tmp 39) (some (.tmp 41)) none, none⟩, false, 0, 0, 56⟩,
    ⟨⟨(some 43), .call (.val (.clos 15 [] [])) [.tmp 36, .tmp 38, .val (.int .i64 2), .val (.int .i64 3), .tmp 42], none⟩, true, 0, 0, 127⟩,
    ⟨⟨(some 9), .mov (.tmp 43), none⟩, false, 1, 1, 255⟩])
  bm4u944)))
  (.region [⟨(some 72), .bin .add (.tmp 31) (.val (.int .i64 1)), none⟩,
    ⟨(some 31), .mov (.tmp 72), none⟩]))))
def bm4u978 : SCode :=
  (.seq (.seq (.region [⟨(some 78), .mov (.tmp 0), none⟩,
    ⟨(some 79), .call (.val (.clos 14 [] [])) [.tmp 78, .val (.int .i64 12)], none⟩])
  (.cond (.tmp 79) (.region [⟨(some 80), .mov (.tmp 0), none⟩,
    ⟨(some 81), .call (.val (.clos 18 [] [])) [.tmp 80, .tmp 3], none⟩]) .skip))
  (.seq (.region [⟨(some 82), .load true 2 (.tmp 3), none⟩,
    ⟨none, .store 2 (.tmp 2) (.tmp 82), none⟩])
  .ret))
def sm4 : SCode :=
  (.seq (.region [⟨(some 2), .alloc (.agg [.nils, .nils]), none⟩])
  (.seq (.region [⟨(some 3), .alloc (.agg [.nils, .nils]), none⟩])
  (.seq (.region [⟨(some 4), .mov (.val (.nils)), none⟩])
  (.seq (.seq (.region [⟨(some 10), .buildF 1 [.val (.str ⟨#[113]⟩), .val (.str ⟨#[114]⟩)], none⟩,
    ⟨(some 11), .build [.str ⟨#[]⟩, .nils] [(0, 1, .val (.str ⟨#[102]⟩)), (1, 1, .tmp 10)], none⟩,
    ⟨(some 12), .buildF 1 [.val (.str ⟨#[113]⟩), .val (.str ⟨#[114]⟩), .val (.str ⟨#[116]⟩)], none⟩,
    ⟨(some 13), .build [.str ⟨#[]⟩, .nils] [(0, 1, .val (.str ⟨#[103]⟩)), (1, 1, .tmp 12)], none⟩,
    ⟨(some 14), .buildF 1 [.val (.str ⟨#[113]⟩), .val (.str ⟨#[114]⟩)], none⟩,
    ⟨(some 15), .build [.str ⟨#[]⟩, .nils] [(0, 1, .val (.str ⟨#[104]⟩)), (1, 1, .tmp 14)], none⟩,
    ⟨(some 16), .buildF 2 [.tmp 11, .tmp 13, .tmp 15], none⟩,
    ⟨(some 17), .len false (.tmp 16), none⟩,
    ⟨(some 18), .mov (.val (.int .i64 0)), none⟩])
  (.block 0 (.loop bm4u0)))
  (.seq (.seq (.region [⟨(some 4), .frz 4, none⟩,
    ⟨(some 29), .mov (.tmp 4), none⟩,
    ⟨(some 30), .len false (.tmp 29), none⟩,
    ⟨(some 31), .mov (.val (.int .i64 0)), none⟩])
  (.block 2 (.loop bm4u1)))
  (.seq (.region [⟨(some 73), .mov (.tmp 0), none⟩,
    ⟨(some 74), .buildF 1 [.val (.str ⟨#[97]⟩), .val (.str ⟨#[98]⟩), .val (.str ⟨#[99]⟩)], none⟩,
    ⟨(some 75), .mov (.tmp 4), none⟩,
    ⟨(some 76), .call (.val (.clos 15 [] [])) [.tmp 73, .tmp 74, .val (.int .i64 3), .val (.int .i64 5), .tmp 75], none⟩,
    ⟨(some 77), .faddr 1 (.tmp 3), none⟩,
    ⟨none, .store 1 (.tmp 77) (.tmp 76), none⟩])
  bm4u978))))))
def rm4 : List SRes := [.cell true 2 2]
theorem cm4 : Code1 Tryz.prog 4 sm4 rm4 83 :=
  ⟨⟨Tryz.f4, _, Tryz.func4, rfl, rfl, by kernel_rfl, by kernel_rfl⟩, by kernel_rfl, by kernel_rfl⟩
def bm15u1 : SCode :=
  (.seq (.region [⟨(some 79), .bin .lss (.tmp 78) (.tmp 77), none⟩])
  (.seq (.cond (.tmp 79) .skip (.exit 3))
  (.seq (.block 4 (.seq (.region [⟨(some 80), .iaddr 1 (.tmp 76) (.tmp 78), none⟩,
    ⟨(some 81), .load false 1 (.tmp 80), none⟩,
    ⟨(some 17), .mov (.tmp 81), none⟩])
  (.qregion [⟨⟨(some 82), .faddr 12 (.tmp 14), none⟩, false, 0, 0, 0⟩,
    ⟨⟨(some 83), .load false 1 (.tmp 82), none⟩, false, 0, 0, 1⟩,
    ⟨⟨(some 84), .mov (.tmp 1), none⟩, false, 0, 0, 0⟩,
    ⟨⟨(some 85), .mov (.tmp 17), none⟩, false, 0, 0, 0⟩,
    ⟨⟨(some 86), .iaddr 1 (.tmp 84) (.tmp 85), none⟩, false, 0, 0, 12⟩,
    ⟨⟨(some 87), .load false 1 (.tmp 86), none⟩, false, 0, 0, 28⟩,
    ⟨⟨(some 88), .buildF 1 [.tmp 87], none⟩, false, 0, 0, 60⟩,
    ⟨⟨(some 89), .append 1 16 (.tmp 83) (.tmp 88), none⟩, true, 0, 0, 127⟩,
    ⟨⟨(some 90), .faddr 12 (.tmp 14), none⟩, false, 1, 1, 255⟩,
    ⟨⟨none, .store 1 (.tmp 90) (.tmp 89), none⟩, true, 0, 0, 511⟩])))
  (.region [⟨(some 91), .bin .add (.tmp 78) (.val (.int .i64 1)), none⟩,
    ⟨(some 78), .mov (.tmp 91), none⟩]))))
def bm15u0 : SCode :=
  (.seq (.region [⟨(some 22), .bin .lss (.tmp 21) (.tmp 20), none⟩])
  (.seq (.cond (.tmp 22) .skip (.exit 0))
  (.seq (.block 1 (.seq (.region [⟨(some 24), .mov (.tmp 0), none⟩,
    ⟨(some 25), .mov (.tmp 1), none⟩,
    ⟨(some 26), .call (.val (.clos 40 [] [])) [.tmp 24, .tmp 25], none⟩,
    ⟨(some 23), .mov (.tmp 26), none⟩,
    ⟨(some 27), .extract (.tmp 23) 0, none⟩,
    ⟨(some 28), .extract (.tmp 23) 1, none⟩,
    ⟨(some 12), .mov (.tmp 27), none⟩,
    ⟨(some 13), .mov (.tmp 28), none⟩])
  (.seq (.region [⟨(some 29), .mov (.tmp 0), none⟩,
    ⟨(some 30), .buildF 1 [.val (.int .i64 1), .val (.int .i64 1), .val (.int .i64 1), .val (.int .i64 2), .val (.int .i64 3), .val (.int .i64 3), .val (.int .i64 4), .val (.int .i64 4), .val (.int .i64 5)], none⟩,
    ⟨(some 31), .call (.val (.clos 5 [] [])) [.tmp 29, .tmp 30], none⟩,
    ⟨(some 32), .build [.int .i64 0, .str ⟨#[]⟩, .str ⟨#[]⟩, .str ⟨#[]⟩, .str ⟨#[]⟩, .int .i64 0, .int .i64 0, .str ⟨#[]⟩, .nils, .nils, .nils, .str ⟨#[]⟩, .nils] [(0, 1, .tmp 31)], none⟩,
    ⟨(some 14), .alloc (.agg [.int .i64 0, .str ⟨#[]⟩, .str ⟨#[]⟩, .str ⟨#[]⟩, .str ⟨#[]⟩, .int .i64 0, .int .i64 0, .str ⟨#[]⟩, .nils, .nils, .nils, .str ⟨#[]⟩, .nils]), none⟩,
    ⟨none, .store 13 (.tmp 14) (.tmp 32), none⟩])
  (.seq (.seq (.region [⟨(some 33), .faddr 0 (.tmp 14), none⟩,
    ⟨(some 34), .load false 1 (.tmp 33), none⟩,
    ⟨(some 35), .bin .eql (.tmp 34) (.val (.int .i64 4)), none⟩,
    ⟨(some 36), .mov (.tmp 35), none⟩,
    ⟨(some 37), .mov (.tmp 2), (some (36, true))⟩,
    ⟨(some 38), .bin .lss (.tmp 37) (.val (.int .i64 2)), (some (36, true))⟩,
    ⟨(some 39), .pick (.tmp 36) (.tmp 38) (.val (.bool false)), none⟩,
    ⟨(some 40), .mov (.tmp 39), none⟩,
    ⟨(some 41), .faddr 0 (.tmp 14), (some (40, false))⟩,
    ⟨(some 42), .load false 1 (.tmp 41), (some (40, false))⟩,
    ⟨(some 43), .bin .eql (.tmp 42) (.val (.int .i64 5)), (some (40, false))⟩,
    ⟨(some 44), .mov (.tmp 43), (some (40, false))⟩,
    ⟨(some 45), .mov (.tmp 4), (some (44, true))⟩,
    ⟨(some 46), .len false (.tmp 45), (some (44, true))⟩,
    ⟨(some 47), .bin .eql (.tmp 46) (.val (.int .i64 0)), (some (44, true))⟩,
    ⟨(some 48), .pick (.tmp 44) (.tmp 47) (.val (.bool false)), (some (40, false))⟩,
    ⟨(some 49), .pick (.tmp 40) (.val (.bool true)) (.tmp 48), none⟩])
  (.cond (.tmp 49) (.region [⟨(some 50), .faddr 0 (.tmp 14), none⟩,
    ⟨none, .store 1 (.tmp 50) (.val (.int .i64 3)), none⟩]) .skip))
  (.seq (.seq (.region [⟨(some 51), .faddr 0 (.tmp 14), none⟩,
    ⟨(some 52), .load false 1 (.tmp 51), none⟩])
  (.block 2 (.seq (.region [⟨(some 93), .bin .eql (.tmp 52) (.val (.int .i64 1)), none⟩,
    ⟨(some 92), .mov (.tmp 93), none⟩])
  (.cond (.tmp 92) (.region [⟨(some 94), .mov (.tmp 12), none⟩,
    ⟨(some 95), .mov (.tmp 13), none⟩,
    ⟨(some 96), .mov (.tmp 0), none⟩,
    ⟨(some 97), .buildF 1 [.val (.str ⟨#[120]⟩), .val (.str ⟨#[121]⟩), .val (.str ⟨#[122]⟩)], none⟩,
    ⟨(some 98), .call (.val (.clos 41 [] [])) [.tmp 96, .tmp 97], none⟩,
    ⟨(some 99), .mov (.tmp 0), none⟩,
    ⟨(some 100), .call (.val (.clos 42 [] [])) [.tmp 99, .val (.int .i64 2)], none⟩,
    ⟨(some 101), .faddr 1 (.tmp 14), none⟩,
    ⟨none, .store 1 (.tmp 101) (.tmp 94), none⟩,
    ⟨(some 102), .faddr 2 (.tmp 14), none⟩,
    ⟨none, .store 1 (.tmp 102) (.tmp 95), none⟩,
    ⟨(some 103), .faddr 3 (.tmp 14), none⟩,
    ⟨none, .store 1 (.tmp 103) (.tmp 98), none⟩,
    ⟨(some 104), .faddr 5 (.tmp 14), none⟩,
    ⟨none, .store 4 (.tmp 104) (.tmp 100), none⟩]) (.seq (.region [⟨(some 106), .bin .eql (.tmp 52) (.val (.int .i64 2)), none⟩,
    ⟨(some 105), .mov (.tmp 106), none⟩])
  (.cond (.tmp 105) (.region [⟨(some 107), .mov (.tmp 12), none⟩,
    ⟨(some 108), .mov (.tmp 13), none⟩,
    ⟨(some 109), .mov (.tmp 0), none⟩,
    ⟨(some 110), .buildF 1 [.val (.str ⟨#[121, 101, 115]⟩), .val (.str ⟨#[110, 111]⟩), .val (.str ⟨#[103, 111]⟩)], none⟩,
    ⟨(some 111), .call (.val (.clos 41 [] [])) [.tmp 109, .tmp 110], none⟩,
    ⟨(some 112), .faddr 1 (.tmp 14), none⟩,
    ⟨none, .store 1 (.tmp 112) (.tmp 107), none⟩,
    ⟨(some 113), .faddr 2 (.tmp 14), none⟩,
    ⟨none, .store 1 (.tmp 113) (.tmp 108), none⟩,
    ⟨(some 114), .faddr 4 (.tmp 14), none⟩,
    ⟨none, .store 1 (.tmp 114) (.tmp 111), none⟩]) (.seq (.region [⟨(some 116), .bin .eql (.tmp 52) (.val (.int .i64 3)), none⟩,
    ⟨(some 115), .mov (.tmp 116), none⟩])
  (.cond (.tmp 115) (.region [⟨(some 117), .mov (.tmp 12), none⟩,
    ⟨(some 118), .mov (.tmp 0), none⟩,
    ⟨(some 119), .buildF 1 [.val (.str ⟨#[120]⟩), .val (.str ⟨#[121]⟩), .val (.str ⟨#[122]⟩)], none⟩,
    ⟨(some 120), .call (.val (.clos 41 [] [])) [.tmp 118, .tmp 119], none⟩,
    ⟨(some 121), .mov (.tmp 0), none⟩,
    ⟨(some 122), .call (.val (.clos 42 [] [])) [.tmp 121, .val (.int .i64 3)], none⟩,
    ⟨(some 123), .faddr 1 (.tmp 14), none⟩,
    ⟨none, .store 1 (.tmp 123) (.tmp 117), none⟩,
    ⟨(some 124), .faddr 3 (.tmp 14), none⟩,
    ⟨none, .store 1 (.tmp 124) (.tmp 120), none⟩,
    ⟨(some 125), .faddr 5 (.tmp 14), none⟩,
    ⟨none, .store 4 (.tmp 125) (.tmp 122), none⟩]) (.seq (.region [⟨(some 127), .bin .eql (.tmp 52) (.val (.int .i64 4)), none⟩,
    ⟨(some 126), .mov (.tmp 127), none⟩])
  (.cond (.tmp 126) (.seq (.region [⟨(some 128), .mov (.tmp 12), none⟩,
    ⟨(some 129), .mov (.tmp 0), none⟩,
    ⟨(some 130), .call (.val (.clos 42 [] [])) [.tmp 129, .val (.int .i64 2)], none⟩,
    ⟨(some 131), .faddr 1 (.tmp 14), none⟩,
    ⟨none, .store 1 (.tmp 131) (.tmp 128), none⟩,
    ⟨(some 132), .faddr 5 (.tmp 14), none⟩,
    ⟨none, .store 4 (.tmp 132) (.tmp 130), none⟩])
  (.region [⟨(some 133), .mov (.tmp 0), none⟩,
    ⟨(some 134), .mov (.tmp 1), none⟩,
    ⟨(some 135), .mov (.tmp 2), none⟩,
    ⟨(some 136), .bin .sub (.tmp 135) (.val (.int .i64 1)), none⟩,
    ⟨(some 137), .mov (.tmp 4), none⟩,
    ⟨(some 138), .call (.val (.clos 15 [] [])) [.tmp 133, .tmp 134, .tmp 136, .val (.int .i64 2), .tmp 137], none⟩,
    ⟨(some 139), .mov (.tmp 0), none⟩,
    ⟨(some 140), .mov (.tmp 1), none⟩,
    ⟨(some 141), .mov (.tmp 2), none⟩,
    ⟨(some 142), .bin .sub (.tmp 141) (.val (.int .i64 1)), none⟩,
    ⟨(some 143), .mov (.tmp 4), none⟩,
    ⟨(some 144), .call (.val (.clos 15 [] [])) [.tmp 139, .tmp 140, .tmp 142, .val (.int .i64 2), .tmp 143], none⟩,
    ⟨(some 145), .faddr 9 (.tmp 14), none⟩,
    ⟨none, .store 1 (.tmp 145) (.tmp 138), none⟩,
    ⟨(some 146), .faddr 10 (.tmp 14), none⟩,
    ⟨none, .store 1 (.tmp 146) (.tmp 144), none⟩])) (.seq (.region [⟨(some 53), .mov (.tmp 4), none⟩,
    ⟨(some 54), .mov (.tmp 0), none⟩,
    ⟨(some 55), .mov (.tmp 4), none⟩,
    ⟨(some 56), .len false (.tmp 55), none⟩,
    ⟨(some 57), .call (.val (.clos 16 [] [])) [.tmp 54, .tmp 56], none⟩,
    ⟨(some 58), .iaddr 2 (.tmp 53) (.tmp 57), none⟩,
    ⟨(some 59), .load true 2 (.tmp 58), none⟩,
    ⟨(some 15), .alloc (.agg [.str ⟨#[]⟩, .nils]), none⟩,
    ⟨none, .store 2 (.tmp 15) (.tmp 59), none⟩])
  (.seq (.seq (.region [⟨(some 60), .faddr 1 (.tmp 15), none⟩,
    ⟨(some 61), .load false 1 (.tmp 60), none⟩,
    ⟨(some 62), .len false (.tmp 61), none⟩,
    ⟨(some 63), .mov (.tmp 1), none⟩,
    ⟨(some 64), .len false (.tmp 63), none⟩,
    ⟨(some 65), .bin .gtr (.tmp 62) (.tmp 64), none⟩])
  (.cond (.tmp 65) (.exit 1) .skip))
  (.seq (.region [⟨(some 66), .faddr 0 (.tmp 15), none⟩,
    ⟨(some 67), .load false 1 (.tmp 66), none⟩,
    ⟨(some 68), .faddr 11 (.tmp 14), none⟩,
    ⟨none, .store 1 (.tmp 68) (.tmp 67), none⟩])
  (.seq (.qregion [⟨⟨(some 69), .mov (.tmp 0), none⟩, false, 0, 0, 0⟩,
    ⟨⟨(some 70), .mov (.tmp 1), none⟩, false, 0, 0, 0⟩,
    ⟨⟨(some 71), .len false (.tmp 70), none⟩, false, 0, 0, 2⟩,
    ⟨⟨(some 72), .call (.val (.clos 43 [] [])) [.tmp 69, .tmp 71], none⟩, true, 0, 0, 7⟩,
    ⟨⟨(some 73), .faddr 1 (.tmp 15), none⟩, false, 0, 1, 0⟩,
    ⟨⟨(some 74), .load false 1 (.tmp 73), none⟩, false, 0, 1, 16⟩,
    ⟨⟨(some 75), .len false (.tmp 74), none⟩, false, 0, 1, 48⟩,
    ⟨⟨(some 76), .slice 1 (.tmp 72) none (some (.tmp 75)), none⟩, false, 1, 1, 127⟩,
    ⟨⟨(some 77), .len false (.tmp 76), none⟩, false, 1, 1, 255⟩,
    ⟨⟨(some 78), .mov (.val (.int .i64 0)), none⟩, false, 0, 1, 0⟩])
  (.block 3 (.loop bm15u1))))))))))))))))
  (.region [⟨(some 147), .mov (.tmp 11), none⟩,
    ⟨(some 148), .load true 13 (.tmp 14), none⟩,
    ⟨(some 148), .frz 148, none⟩,
    ⟨(some 149), .buildF 13 [.tmp 148], none⟩,
    ⟨(some 150), .append 13 216 (.tmp 147) (.tmp 149), none⟩,
    ⟨(some 11), .mov (.tmp 150), none⟩]))))))
  (.region [⟨(some 151), .bin .add (.tmp 21) (.val (.int .i64 1)), none⟩,
    ⟨(some 21), .mov (.tmp 151), none⟩]))))
def sm15 : SCode :=
  (.seq (.region [⟨(some 10), .mov (.val (.nils)), none⟩])
  (.seq (.region [⟨(some 11), .mov (.val (.nils)), none⟩])
  (.seq (.seq (.region [⟨(some 18), .mov (.tmp 0), none⟩,
    ⟨(some 19), .mov (.tmp 3), none⟩,
    ⟨(some 20), .call (.val (.clos 39 [] [])) [.tmp 18, .val (.int .i64 0), .tmp 19], none⟩,
    ⟨(some 21), .mov (.val (.int .i64 0)), none⟩])
  (.block 0 (.loop bm15u0)))
  (.seq (.region [⟨(some 152), .mov (.tmp 11), none⟩,
    ⟨(some 10), .mov (.tmp 152), none⟩])
  .ret))))
def rm15 : List SRes := [.tmp 10]
theorem cm15 : Code1 Tryz.prog 15 sm15 rm15 153 :=
  ⟨⟨Tryz.f15, _, Tryz.func15, rfl, rfl, by kernel_rfl, by kernel_rfl⟩, by kernel_rfl, by kernel_rfl⟩
def sm17 : SCode :=
  (.seq (.region [⟨(some 3), .box (.tmp 1), none⟩,
    ⟨(some 4), .mov (.val (.fs [])), none⟩])
  (.seq (.region [⟨(some 11), .faddr 1 (.tmp 3), none⟩,
    ⟨(some 12), .load false 1 (.tmp 11), none⟩,
    ⟨(some 13), .iaddr 1 (.tmp 12) (.val (.int .i64 0)), none⟩,
    ⟨(some 14), .load false 1 (.tmp 13), none⟩,
    ⟨(some 5), .mov (.tmp 14), none⟩])
  (.seq (.region [⟨(some 15), .build [.int .i64 0, .int .i64 0, .str ⟨#[]⟩, .fs []] [(0, 1, .val (.int .i64 1)), (1, 1, .val (.int .i64 1))], none⟩,
    ⟨(some 16), .build [.int .i64 0, .int .i64 0, .str ⟨#[]⟩, .fs []] [(0, 1, .val (.int .i64 2)), (2, 1, .val (.str ⟨#[120]⟩))], none⟩,
    ⟨(some 6), .alloc (.agg [.int .i64 0, .int .i64 0, .str ⟨#[]⟩, .nils]), none⟩,
    ⟨(some 7), .alloc (.agg [.int .i64 0, .int .i64 0, .str ⟨#[]⟩, .nils]), none⟩,
    ⟨none, .store 4 (.tmp 6) (.tmp 15), none⟩,
    ⟨none, .store 4 (.tmp 7) (.tmp 16), none⟩])
  (.seq (.region [⟨(some 17), .mov (.tmp 5), none⟩,
    ⟨(some 18), .load true 4 (.tmp 7), none⟩,
    ⟨(some 19), .load true 4 (.tmp 6), none⟩,
    ⟨(some 20), .buildF 4 [.tmp 18, .tmp 19], none⟩,
    ⟨(some 21), .build [.int .i64 0, .int .i64 0, .str ⟨#[]⟩, .fs []] [(0, 1, .val (.int .i64 4)), (3, 1, .tmp 20)], none⟩,
    ⟨(some 22), .build [.int .i64 0, .str ⟨#[]⟩, .str ⟨#[]⟩, .str ⟨#[]⟩, .str ⟨#[]⟩, .int .i64 0, .int .i64 0, .str ⟨#[]⟩, .fs [], .fs [], .fs [], .str ⟨#[]⟩, .fs []] [(0, 1, .val (.int .i64 3)), (1, 1, .tmp 17), (3, 1, .val (.str ⟨#[120]⟩)), (5, 4, .tmp 21)], none⟩,
    ⟨(some 23), .buildS 13 [.tmp 22], none⟩,
    ⟨(some 8), .mov (.tmp 23), none⟩])
  (.seq (.seq (.region [⟨(some 24), .faddr 1 (.tmp 3), none⟩,
    ⟨(some 25), .load false 1 (.tmp 24), none⟩,
    ⟨(some 26), .len false (.tmp 25), none⟩,
    ⟨(some 27), .bin .gtr (.tmp 26) (.val (.int .i64 1)), none⟩])
  (.cond (.tmp 27) (.qregion [⟨⟨(some 28), .mov (.tmp 8), none⟩, false, 0, 2, 0⟩,
    ⟨⟨(some 29), .mov (.tmp 5), none⟩, false, 0, 2, 0⟩,
    ⟨⟨(some 30), .faddr 1 (.tmp 3), none⟩, false, 0, 2, 0⟩,
    ⟨⟨(some 31), .load false 1 (.tmp 30), none⟩, false, 0, 2, 4⟩,
    ⟨⟨(some 32), .iaddr 1 (.tmp 31) (.val (.int .i64 1)), none⟩, false, 0, 2, 12⟩,
    ⟨⟨(some 33), .load false 1 (.tmp 32), none⟩, false, 0, 2, 28⟩,
    ⟨⟨(some 34), .mov (.tmp 0), none⟩, false, 0, 0, 0⟩,
    ⟨⟨(some 35), .buildF 1 [.val (.str ⟨#[120]⟩), .val (.str ⟨#[121]⟩)], none⟩, false, 0, 0, 0⟩,
    ⟨⟨(some 36), .call (.val (.clos 41 [] [])) [.tmp 34, .tmp 35], none⟩, true, 0, 0, 192⟩,
    ⟨⟨(some 37), .mov (.tmp 0), none⟩, false, 0, 1, 0⟩,
    ⟨⟨(some 38), .call (.val (.clos 45 [] [])) [.tmp 37], none⟩, true, 0, 0, 960⟩,
    ⟨⟨(some 39), .build [.int .i64 0, .str ⟨#[]⟩, .str ⟨#[]⟩, .str ⟨#[]⟩, .str ⟨#[]⟩, .int .i64 0, .int .i64 0, .str ⟨#[]⟩, .fs [], .fs [], .fs [], .str ⟨#[]⟩, .fs []] [(0, 1, .val (.int .i64 1)), (1, 1, .tmp 29), (2, 1, .tmp 33), (3, 1, .tmp 36), (5, 4, .tmp 38)], none⟩, false, 2, 2, 2046⟩,
    ⟨⟨(some 40), .buildF 13 [.tmp 39], none⟩, false, 2, 2, 4094⟩,
    ⟨⟨(some 41), .append 13 216 (.tmp 28) (.tmp 40), none⟩, true, 0, 0, 8191⟩,
    ⟨⟨(some 8), .mov (.tmp 41), none⟩, false, 3, 3, 16383⟩]) .skip))
  (.seq (.pregion [⟨⟨(some 42), .faddr 0 (.tmp 3), none⟩, false, 0, 1, 0⟩,
    ⟨⟨(some 43), .load false 1 (.tmp 42), none⟩, false, 0, 1, 1⟩,
    ⟨⟨(some 44), .faddr 1 (.tmp 3), none⟩, false, 0, 0, 0⟩,
    ⟨⟨(some 45), .load false 1 (.tmp 44), none⟩, false, 0, 0, 4⟩,
    ⟨⟨(some 46), .call (.val (.clos 46 [] [])) [.tmp 45], none⟩, true, 0, 0, 12⟩,
    ⟨⟨(some 47), .build [.int .i64 0, .str ⟨#[]⟩, .str ⟨#[]⟩, .str ⟨#[]⟩, .str ⟨#[]⟩, .int .i64 0, .int .i64 0, .str ⟨#[]⟩, .fs [], .fs [], .fs [], .str ⟨#[]⟩, .fs []] [(0, 1, .val (.int .i64 5)), (11, 1, .tmp 43), (12, 1, .tmp 46)], none⟩, false, 1, 1, 31⟩,
    ⟨⟨(some 9), .jalloc, none⟩, false, 0, 1, 0⟩] 9 6 (.agg [.int .i64 0, .str ⟨#[]⟩, .str ⟨#[]⟩, .str ⟨#[]⟩, .str ⟨#[]⟩, .int .i64 0, .int .i64 0, .str ⟨#[]⟩, .nils, .nils, .nils, .str ⟨#[]⟩, .nils]) ⟨none, .store 13 (.tmp 9) (.tmp 47), none⟩)
  (.seq (.seq (.region [⟨(some 48), .mov (.tmp 0), none⟩,
    ⟨(some 49), .call (.val (.clos 14 [] [])) [.tmp 48, .val (.int .i64 3)], none⟩,
    ⟨(some 50), .mov (.tmp 49), none⟩,
    ⟨(some 51), .faddr 1 (.tmp 3), (some (50, true))⟩,
    ⟨(some 52), .load false 1 (.tmp 51), (some (50, true))⟩,
    ⟨(some 53), .len false (.tmp 52), (some (50, true))⟩,
    ⟨(some 54), .bin .eql (.tmp 53) (.val (.int .i64 2)), (some (50, true))⟩,
    ⟨(some 55), .pick (.tmp 50) (.tmp 54) (.val (.bool false)), none⟩])
  (.cond (.tmp 55) (.region [⟨(some 56), .faddr 12 (.tmp 9), none⟩,
    ⟨(some 57), .load false 1 (.tmp 56), none⟩,
    ⟨(some 58), .call (.val (.clos 47 [] [])) [.tmp 57], none⟩]) .skip))
  (.seq (.region [⟨(some 59), .mov (.tmp 8), none⟩,
    ⟨(some 60), .load true 13 (.tmp 9), none⟩,
    ⟨(some 61), .buildF 13 [.tmp 60], none⟩,
    ⟨(some 62), .append 13 216 (.tmp 59) (.tmp 61), none⟩,
    ⟨(some 8), .mov (.tmp 62), none⟩])
  (.seq (.seq (.region [⟨(some 63), .mov (.tmp 0), none⟩,
    ⟨(some 64), .call (.val (.clos 14 [] [])) [.tmp 63, .val (.int .i64 4)], none⟩])
  (.cond (.tmp 64) (.region [⟨(some 65), .mov (.tmp 8), none⟩,
    ⟨(some 66), .mov (.tmp 5), none⟩,
    ⟨(some 67), .mov (.tmp 0), none⟩,
    ⟨(some 68), .call (.val (.clos 45 [] [])) [.tmp 67], none⟩,
    ⟨(some 69), .build [.int .i64 0, .str ⟨#[]⟩, .str ⟨#[]⟩, .str ⟨#[]⟩, .str ⟨#[]⟩, .int .i64 0, .int .i64 0, .str ⟨#[]⟩, .fs [], .fs [], .fs [], .str ⟨#[]⟩, .fs []] [(0, 1, .val (.int .i64 3)), (1, 1, .tmp 66), (3, 1, .val (.str ⟨#[122]⟩)), (5, 4, .tmp 68)], none⟩,
    ⟨(some 70), .buildF 13 [.tmp 69], none⟩,
    ⟨(some 71), .append 13 216 (.tmp 65) (.tmp 70), none⟩,
    ⟨(some 8), .mov (.tmp 71), none⟩]) .skip))
  (.seq (.region [⟨(some 72), .build [.int .i64 0, .int .i64 0, .str ⟨#[]⟩, .fs []] [(0, 1, .val (.int .i64 1))], none⟩,
    ⟨(some 73), .load true 4 (.tmp 7), none⟩,
    ⟨(some 74), .buildF 4 [.tmp 72, .tmp 73], none⟩,
    ⟨(some 75), .build [.int .i64 0, .int .i64 0, .str ⟨#[]⟩, .fs []] [(0, 1, .val (.int .i64 6)), (3, 1, .tmp 74)], none⟩,
    ⟨(some 10), .alloc (.agg [.int .i64 0, .int .i64 0, .str ⟨#[]⟩, .nils]), none⟩,
    ⟨none, .store 4 (.tmp 10) (.tmp 75), none⟩])
  (.seq (.seq (.region [⟨(some 76), .mov (.tmp 0), none⟩,
    ⟨(some 77), .call (.val (.clos 14 [] [])) [.tmp 76, .val (.int .i64 2)], none⟩])
  (.cond (.tmp 77) (.region [⟨(some 78), .load true 4 (.tmp 7), none⟩,
    ⟨none, .store 4 (.tmp 10) (.tmp 78), none⟩]) .skip))
  (.seq (.region [⟨(some 79), .mov (.tmp 5), none⟩,
    ⟨(some 80), .load true 4 (.tmp 10), none⟩,
    ⟨(some 81), .mov (.tmp 8), none⟩,
    ⟨(some 82), .build [.int .i64 0, .str ⟨#[]⟩, .str ⟨#[]⟩, .str ⟨#[]⟩, .str ⟨#[]⟩, .int .i64 0, .int .i64 0, .str ⟨#[]⟩, .fs [], .fs [], .fs [], .str ⟨#[]⟩, .fs []] [(0, 1, .val (.int .i64 4)), (1, 1, .tmp 79), (5, 4, .tmp 80), (9, 1, .tmp 81)], none⟩,
    ⟨(some 82), .frz 82, none⟩,
    ⟨(some 83), .buildF 13 [.tmp 82], none⟩,
    ⟨(some 4), .mov (.tmp 83), none⟩])
  .ret))))))))))))
def rm17 : List SRes := [.tmp 4]
theorem cm17 : Code1 Tryz.prog 17 sm17 rm17 84 :=
  ⟨⟨Tryz.f17, _, Tryz.func17, rfl, rfl, by kernel_rfl, by kernel_rfl⟩, by kernel_rfl, by kernel_rfl⟩
def bm18u0 : SCode :=
  (.seq (.region [⟨(some 79), .bin .lss (.tmp 78) (.tmp 77), none⟩])
  (.seq (.cond (.tmp 79) .skip (.exit 1))
  (.seq (.block 2 (.qregion [⟨⟨(some 80), .mov (.tmp 6), none⟩, false, 0, 1, 0⟩,
    ⟨⟨(some 81), .mov (.tmp 0), none⟩, false, 0, 0, 0⟩,
    ⟨⟨(some 82), .buildF 1 [.val (.str ⟨#[97]⟩), .val (.str ⟨#[113]⟩)], none⟩, false, 0, 0, 0⟩,
    ⟨⟨(some 83), .call (.val (.clos 41 [] [])) [.tmp 81, .tmp 82], none⟩, true, 0, 0, 6⟩,
    ⟨⟨(some 84), .build [.int .i64 0, .int .i64 0, .str ⟨#[]⟩, .fs []] [(0, 1, .val (.int .i64 1))], none⟩, false, 0, 1, 0⟩,
    ⟨⟨(some 85), .mov (.tmp 6), none⟩, false, 0, 1, 0⟩,
    ⟨⟨(some 86), .nilc (.tmp 85), none⟩, false, 0, 1, 32⟩,
    ⟨⟨(some 87), .load true 13 (.tmp 86), none⟩, false, 0, 1, 96⟩,
    ⟨⟨(some 88), .buildF 13 [.tmp 87], none⟩, false, 0, 1, 224⟩,
    ⟨⟨(some 89), .build [.int .i64 0, .str ⟨#[]⟩, .str ⟨#[]⟩, .str ⟨#[]⟩, .str ⟨#[]⟩, .int .i64 0, .int .i64 0, .str ⟨#[]⟩, .fs [], .fs [], .fs [], .str ⟨#[]⟩, .fs []] [(0, 1, .val (.int .i64 4)), (1, 1, .tmp 83), (5, 4, .tmp 84), (9, 1, .tmp 88)], none⟩, false, 1, 1, 510⟩,
    ⟨⟨(some 90), .nilc (.tmp 80), none⟩, false, 1, 1, 1023⟩,
    ⟨⟨none, .store 13 (.tmp 90) (.tmp 89), none⟩, true, 0, 0, 2047⟩]))
  (.region [⟨(some 91), .bin .add (.tmp 78) (.val (.int .i64 1)), none⟩,
    ⟨(some 78), .mov (.tmp 91), none⟩]))))
def bm18u964 : SCode :=
  (.seq (.seq (.region [⟨(some 64), .mov (.tmp 4), none⟩,
    ⟨(some 65), .len false (.tmp 64), none⟩,
    ⟨(some 66), .bin .eql (.tmp 65) (.val (.int .i64 0)), none⟩])
  (.cond (.tmp 66) .ret .skip))
  (.seq (.region [⟨(some 67), .mov (.tmp 4), none⟩,
    ⟨(some 68), .mov (.tmp 0), none⟩,
    ⟨(some 69), .mov (.tmp 4), none⟩,
    ⟨(some 70), .len false (.tmp 69), none⟩,
    ⟨(some 71), .call (.val (.clos 16 [] [])) [.tmp 68, .tmp 70], none⟩,
    ⟨(some 72), .iaddr 13 (.tmp 67) (.tmp 71), none⟩,
    ⟨(some 6), .mov (.tmp 72), none⟩])
  (.seq (.region [⟨(some 73), .mov (.tmp 0), none⟩,
    ⟨(some 74), .call (.val (.clos 16 [] [])) [.tmp 73, .val (.int .i64 6)], none⟩])
  (.block 0 (.seq (.region [⟨(some 93), .bin .eql (.tmp 74) (.val (.int .i64 0)), none⟩,
    ⟨(some 92), .mov (.tmp 93), none⟩])
  (.cond (.tmp 92) (.region [⟨(some 94), .mov (.tmp 6), none⟩,
    ⟨(some 95), .mov (.tmp 0), none⟩,
    ⟨(some 96), .call (.val (.clos 48 [] [])) [.tmp 95, .val (.int .i64 1), .val (.int .i64 5)], none⟩,
    ⟨(some 97), .nilc (.tmp 94), none⟩,
    ⟨(some 98), .faddr 0 (.tmp 97), none⟩,
    ⟨none, .store 1 (.tmp 98) (.tmp 96), none⟩]) (.seq (.region [⟨(some 100), .bin .eql (.tmp 74) (.val (.int .i64 1)), none⟩,
    ⟨(some 99), .mov (.tmp 100), none⟩])
  (.cond (.tmp 99) (.qregion [⟨⟨(some 101), .mov (.tmp 6), none⟩, false, 0, 2, 0⟩,
    ⟨⟨(some 102), .mov (.tmp 6), none⟩, false, 0, 3, 0⟩,
    ⟨⟨(some 103), .mov (.tmp 0), none⟩, false, 0, 0, 0⟩,
    ⟨⟨(some 104), .mov (.tmp 6), none⟩, false, 0, 0, 0⟩,
    ⟨⟨(some 105), .nilc (.tmp 104), none⟩, false, 0, 0, 8⟩,
    ⟨⟨(some 106), .faddr 1 (.tmp 105), none⟩, false, 0, 0, 24⟩,
    ⟨⟨(some 107), .load false 1 (.tmp 106), none⟩, false, 0, 0, 56⟩,
    ⟨⟨(some 108), .buildF 1 [.tmp 107, .val (.str ⟨#[]⟩), .val (.str ⟨#[97]⟩), .val (.str ⟨#[113]⟩), .val (.str ⟨#[65]⟩)], none⟩, false, 0, 0, 120⟩,
    ⟨⟨(some 109), .call (.val (.clos 41 [] [])) [.tmp 103, .tmp 108], none⟩, true, 0, 0, 252⟩,
    ⟨⟨(some 110), .mov (.tmp 0), none⟩, false, 0, 1, 0⟩,
    ⟨⟨(some 111), .mov (.tmp 6), none⟩, false, 0, 1, 0⟩,
    ⟨⟨(some 112), .nilc (.tmp 111), none⟩, false, 0, 1, 1024⟩,
    ⟨⟨(some 113), .faddr 2 (.tmp 112), none⟩, false, 0, 1, 3072⟩,
    ⟨⟨(some 114), .load false 1 (.tmp 113), none⟩, false, 0, 1, 7168⟩,
    ⟨⟨(some 115), .buildF 1 [.tmp 114, .val (.str ⟨#[97]⟩), .val (.str ⟨#[113]⟩), .val (.str ⟨#[]⟩)], none⟩, false, 0, 1, 15360⟩,
    ⟨⟨(some 116), .call (.val (.clos 41 [] [])) [.tmp 110, .tmp 115], none⟩, true, 0, 0, 32764⟩,
    ⟨⟨(some 117), .nilc (.tmp 101), none⟩, false, 2, 2, 65533⟩,
    ⟨⟨(some 118), .faddr 1 (.tmp 117), none⟩, false, 2, 2, 131069⟩,
    ⟨⟨none, .store 1 (.tmp 118) (.tmp 109), none⟩, true, 0, 0, 262141⟩,
    ⟨⟨(some 119), .nilc (.tmp 102), none⟩, false, 3, 3, 524287⟩,
    ⟨⟨(some 120), .faddr 2 (.tmp 119), none⟩, false, 3, 3, 1048575⟩,
    ⟨⟨none, .store 1 (.tmp 120) (.tmp 116), none⟩, true, 0, 0, 2097151⟩]) (.seq (.region [⟨(some 122), .bin .eql (.tmp 74) (.val (.int .i64 2)), none⟩,
    ⟨(some 121), .mov (.tmp 122), none⟩])
  (.cond (.tmp 121) (.qregion [⟨⟨(some 123), .mov (.tmp 6), none⟩, false, 0, 2, 0⟩,
    ⟨⟨(some 124), .mov (.tmp 6), none⟩, false, 0, 3, 0⟩,
    ⟨⟨(some 125), .mov (.tmp 0), none⟩, false, 0, 0, 0⟩,
    ⟨⟨(some 126), .mov (.tmp 6), none⟩, false, 0, 0, 0⟩,
    ⟨⟨(some 127), .nilc (.tmp 126), none⟩, false, 0, 0, 8⟩,
    ⟨⟨(some 128), .faddr 3 (.tmp 127), none⟩, false, 0, 0, 24⟩,
    ⟨⟨(some 129), .load false 1 (.tmp 128), none⟩, false, 0, 0, 56⟩,
    ⟨⟨(some 130), .buildF 1 [.tmp 129, .val (.str ⟨#[]⟩), .val (.str ⟨#[101, 108, 115, 101]⟩)], none⟩, false, 0, 0, 120⟩,
    ⟨⟨(some 131), .call (.val (.clos 41 [] [])) [.tmp 125, .tmp 130], none⟩, true, 0, 0, 252⟩,
    ⟨⟨(some 132), .mov (.tmp 0), none⟩, false, 0, 1, 0⟩,
    ⟨⟨(some 133), .mov (.tmp 6), none⟩, false, 0, 1, 0⟩,
    ⟨⟨(some 134), .nilc (.tmp 133), none⟩, false, 0, 1, 1024⟩,
    ⟨⟨(some 135), .faddr 4 (.tmp 134), none⟩, false, 0, 1, 3072⟩,
    ⟨⟨(some 136), .load false 1 (.tmp 135), none⟩, false, 0, 1, 7168⟩,
    ⟨⟨(some 137), .buildF 1 [.tmp 136, .val (.str ⟨#[121, 101, 115]⟩), .val (.str ⟨#[]⟩)], none⟩, false, 0, 1, 15360⟩,
    ⟨⟨(some 138), .call (.val (.clos 41 [] [])) [.tmp 132, .tmp 137], none⟩, true, 0, 0, 32764⟩,
    ⟨⟨(some 139), .nilc (.tmp 123), none⟩, false, 2, 2, 65533⟩,
    ⟨⟨(some 140), .faddr 3 (.tmp 139), none⟩, false, 2, 2, 131069⟩,
    ⟨⟨none, .store 1 (.tmp 140) (.tmp 131), none⟩, true, 0, 0, 262141⟩,
    ⟨⟨(some 141), .nilc (.tmp 124), none⟩, false, 3, 3, 524287⟩,
    ⟨⟨(some 142), .faddr 4 (.tmp 141), none⟩, false, 3, 3, 1048575⟩,
    ⟨⟨none, .store 1 (.tmp 142) (.tmp 138), none⟩, true, 0, 0, 2097151⟩]) (.seq (.region [⟨(some 144), .bin .eql (.tmp 74) (.val (.int .i64 3)), none⟩,
    ⟨(some 143), .mov (.tmp 144), none⟩])
  (.cond (.tmp 143) (.region [⟨(some 145), .mov (.tmp 6), none⟩,
    ⟨(some 146), .mov (.tmp 0), none⟩,
    ⟨(some 147), .call (.val (.clos 48 [] [])) [.tmp 146, .val (.int .i64 1), .val (.int .i64 9)], none⟩,
    ⟨(some 148), .mov (.tmp 0), none⟩,
    ⟨(some 149), .call (.val (.clos 48 [] [])) [.tmp 148, .val (.int .i64 0), .val (.int .i64 999)], none⟩,
    ⟨(some 150), .mov (.tmp 0), none⟩,
    ⟨(some 151), .buildF 1 [.val (.str ⟨#[]⟩), .val (.str ⟨#[120]⟩)], none⟩,
    ⟨(some 152), .call (.val (.clos 41 [] [])) [.tmp 150, .tmp 151], none⟩,
    ⟨(some 153), .build [.int .i64 0, .int .i64 0, .str ⟨#[]⟩, .fs []] [(0, 1, .tmp 147), (1, 1, .tmp 149), (2, 1, .tmp 152)], none⟩,
    ⟨(some 154), .nilc (.tmp 145), none⟩,
    ⟨(some 155), .faddr 5 (.tmp 154), none⟩,
    ⟨none, .store 4 (.tmp 155) (.tmp 153), none⟩]) (.seq (.region [⟨(some 157), .bin .eql (.tmp 74) (.val (.int .i64 4)), none⟩,
    ⟨(some 156), .mov (.tmp 157), none⟩])
  (.cond (.tmp 156) (.region [⟨(some 158), .mov (.tmp 6), none⟩,
    ⟨(some 159), .mov (.tmp 6), none⟩,
    ⟨(some 160), .mov (.tmp 0), none⟩,
    ⟨(some 161), .mov (.tmp 6), none⟩,
    ⟨(some 162), .nilc (.tmp 161), none⟩,
    ⟨(some 163), .faddr 11 (.tmp 162), none⟩,
    ⟨(some 164), .load false 1 (.tmp 163), none⟩,
    ⟨(some 165), .buildF 1 [.tmp 164, .val (.str ⟨#[122, 122]⟩), .val (.str ⟨#[102]⟩), .val (.str ⟨#[]⟩)], none⟩,
    ⟨(some 166), .call (.val (.clos 41 [] [])) [.tmp 160, .tmp 165], none⟩,
    ⟨(some 167), .buildF 1 [.val (.str ⟨#[97]⟩)], none⟩,
    ⟨(some 168), .buildF 1 [.val (.str ⟨#[97]⟩), .val (.str ⟨#[97]⟩)], none⟩,
    ⟨(some 169), .buildF 1 [.val (.str ⟨#[113]⟩), .val (.str ⟨#[114]⟩)], none⟩,
    ⟨(some 170), .buildF 1 [.val (.str ⟨#[97]⟩), .val (.str ⟨#[98]⟩)], none⟩,
    ⟨(some 171), .buildF 1 [.val (.fs []), .tmp 167, .tmp 168, .tmp 169, .tmp 170], none⟩,
    ⟨(some 172), .mov (.tmp 0), none⟩,
    ⟨(some 173), .call (.val (.clos 16 [] [])) [.tmp 172, .val (.int .i64 5)], none⟩,
    ⟨(some 174), .iaddr 1 (.tmp 171) (.tmp 173), none⟩,
    ⟨(some 175), .load false 1 (.tmp 174), none⟩,
    ⟨(some 176), .nilc (.tmp 158), none⟩,
    ⟨(some 177), .faddr 11 (.tmp 176), none⟩,
    ⟨none, .store 1 (.tmp 177) (.tmp 166), none⟩,
    ⟨(some 178), .nilc (.tmp 159), none⟩,
    ⟨(some 179), .faddr 12 (.tmp 178), none⟩,
    ⟨none, .store 1 (.tmp 179) (.tmp 175), none⟩]) (.seq (.region [⟨(some 75), .mov (.tmp 0), none⟩,
    ⟨(some 76), .call (.val (.clos 39 [] [])) [.tmp 75, .val (.int .i64 (-1)), .val (.int .i64 1)], none⟩,
    ⟨(some 77), .bin .add (.val (.int .i64 20)) (.tmp 76), none⟩,
    ⟨(some 78), .mov (.val (.int .i64 0)), none⟩])
  (.block 1 (.loop bm18u0)))))))))))))))))
def sm18 : SCode :=
  (.seq (.region [⟨(some 7), .mov (.tmp 1), none⟩,
    ⟨(some 8), .nilc (.tmp 7), none⟩,
    ⟨(some 9), .faddr 1 (.tmp 8), none⟩,
    ⟨(some 10), .load false 1 (.tmp 9), none⟩,
    ⟨(some 4), .mov (.tmp 10), none⟩])
  (.seq (.seq (.region [⟨(some 11), .mov (.tmp 1), none⟩,
    ⟨(some 12), .nilc (.tmp 11), none⟩,
    ⟨(some 13), .faddr 0 (.tmp 12), none⟩,
    ⟨(some 14), .load false 1 (.tmp 13), none⟩,
    ⟨(some 15), .len false (.tmp 14), none⟩,
    ⟨(some 16), .bin .gtr (.tmp 15) (.val (.int .i64 0)), none⟩,
    ⟨(some 17), .mov (.tmp 16), none⟩,
    ⟨(some 18), .mov (.tmp 0), (some (17, true))⟩,
    ⟨(some 19), .call (.val (.clos 14 [] [])) [.tmp 18, .val (.int .i64 2)], (some (17, true))⟩,
    ⟨(some 20), .pick (.tmp 17) (.tmp 19) (.val (.bool false)), none⟩])
  (.cond (.tmp 20) (.seq (.region [⟨(some 21), .mov (.tmp 0), none⟩,
    ⟨(some 22), .mov (.tmp 1), none⟩,
    ⟨(some 23), .nilc (.tmp 22), none⟩,
    ⟨(some 24), .faddr 0 (.tmp 23), none⟩,
    ⟨(some 25), .load false 1 (.tmp 24), none⟩,
    ⟨(some 26), .len false (.tmp 25), none⟩,
    ⟨(some 27), .call (.val (.clos 16 [] [])) [.tmp 21, .tmp 26], none⟩,
    ⟨(some 5), .mov (.tmp 27), none⟩])
  (.seq (.region [⟨(some 28), .mov (.tmp 1), none⟩,
    ⟨(some 29), .nilc (.tmp 28), none⟩,
    ⟨(some 30), .faddr 0 (.tmp 29), none⟩,
    ⟨(some 31), .load false 1 (.tmp 30), none⟩,
    ⟨(some 32), .mov (.tmp 5), none⟩,
    ⟨(some 33), .iaddr 3 (.tmp 31) (.tmp 32), none⟩,
    ⟨(some 34), .faddr 2 (.tmp 33), none⟩,
    ⟨(some 35), .load false 1 (.tmp 34), none⟩,
    ⟨(some 4), .mov (.tmp 35), none⟩])
  (.seq (.region [⟨(some 36), .mov (.tmp 0), none⟩,
    ⟨(some 37), .call (.val (.clos 14 [] [])) [.tmp 36, .val (.int .i64 3)], none⟩])
  (.cond (.tmp 37) (.seq (.qregion [⟨⟨(some 38), .mov (.tmp 1), none⟩, false, 0, 1, 0⟩,
    ⟨⟨(some 39), .nilc (.tmp 38), none⟩, false, 0, 1, 1⟩,
    ⟨⟨(some 40), .faddr 0 (.tmp 39), none⟩, false, 0, 1, 3⟩,
    ⟨⟨(some 41), .load false 1 (.tmp 40), none⟩, false, 0, 1, 7⟩,
    ⟨⟨(some 42), .mov (.tmp 5), none⟩, false, 0, 1, 0⟩,
    ⟨⟨(some 43), .mov (.tmp 0), none⟩, false, 0, 0, 0⟩,
    ⟨⟨(some 44), .buildF 1 [.val (.str ⟨#[]⟩), .val (.str ⟨#[102]⟩), .val (.str ⟨#[109, 97, 105, 110]⟩), .val (.str ⟨#[65]⟩), .val (.str ⟨#[107]⟩)], none⟩, false, 0, 0, 0⟩,
    ⟨⟨(some 45), .call (.val (.clos 41 [] [])) [.tmp 43, .tmp 44], none⟩, true, 0, 0, 96⟩,
    ⟨⟨(some 46), .iaddr 3 (.tmp 41) (.tmp 42), none⟩, false, 1, 1, 255⟩,
    ⟨⟨(some 47), .faddr 0 (.tmp 46), none⟩, false, 1, 1, 511⟩,
    ⟨⟨none, .store 1 (.tmp 47) (.tmp 45), none⟩, true, 0, 0, 1023⟩])
  (.seq (.qregion [⟨⟨(some 48), .mov (.tmp 1), none⟩, false, 0, 1, 0⟩,
    ⟨⟨(some 49), .nilc (.tmp 48), none⟩, false, 0, 1, 1⟩,
    ⟨⟨(some 50), .faddr 0 (.tmp 49), none⟩, false, 0, 1, 3⟩,
    ⟨⟨(some 51), .load false 1 (.tmp 50), none⟩, false, 0, 1, 7⟩,
    ⟨⟨(some 52), .mov (.tmp 5), none⟩, false, 0, 1, 0⟩,
    ⟨⟨(some 53), .buildF 1 [.val (.str ⟨#[113]⟩)], none⟩, false, 0, 1, 0⟩,
    ⟨⟨(some 54), .buildF 1 [.val (.str ⟨#[113]⟩), .val (.str ⟨#[113]⟩)], none⟩, false, 0, 1, 0⟩,
    ⟨⟨(some 55), .buildF 1 [.val (.str ⟨#[113]⟩), .val (.str ⟨#[114]⟩), .val (.str ⟨#[116]⟩), .val (.str ⟨#[117]⟩)], none⟩, false, 0, 1, 0⟩,
    ⟨⟨(some 56), .buildF 1 [.val (.str ⟨#[105, 102]⟩)], none⟩, false, 0, 1, 0⟩,
    ⟨⟨(some 57), .buildF 1 [.val (.fs []), .tmp 53, .tmp 54, .tmp 55, .tmp 56], none⟩, false, 0, 1, 480⟩,
    ⟨⟨(some 58), .mov (.tmp 0), none⟩, false, 0, 0, 0⟩,
    ⟨⟨(some 59), .call (.val (.clos 16 [] [])) [.tmp 58, .val (.int .i64 5)], none⟩, true, 0, 0, 1024⟩,
    ⟨⟨(some 60), .iaddr 1 (.tmp 57) (.tmp 59), none⟩, false, 1, 1, 4064⟩,
    ⟨⟨(some 61), .load false 1 (.tmp 60), none⟩, false, 1, 1, 8160⟩,
    ⟨⟨(some 62), .iaddr 3 (.tmp 51) (.tmp 52), none⟩, false, 1, 1, 16383⟩,
    ⟨⟨(some 63), .faddr 1 (.tmp 62), none⟩, false, 1, 1, 32767⟩,
    ⟨⟨none, .store 1 (.tmp 63) (.tmp 61), none⟩, true, 0, 0, 65535⟩])
  .ret)) .skip)))) .skip))
  bm18u964))
def rm18 : List SRes := []
theorem cm18 : Code1 Tryz.prog 18 sm18 rm18 180 :=
  ⟨⟨Tryz.f18, _, Tryz.func18, rfl, rfl, by kernel_rfl, by kernel_rfl⟩, by kernel_rfl, by kernel_rfl⟩
theorem app_T0 {σ : Type} {N : Nat} {T : σ → List Blk} (hT : TOK N T) {a : σ} {J : List Blk} {esz bytes : Nat} {src : List V} {yv kv : V} {K : V → List Blk → Prop} {acc : List V} (hov : OV (T a ++ J) kv acc)
    (hk0 : ∀ j, j < N → kvne kv j) (hy : ∀ i o l, yv ≠ .ms i o l) (hh : headOk esz acc) (hb : (acc.length + src.length) * bytes ≤ 140737488355328)
    (hk : ∀ kv' J', OV (T a ++ J') kv' (acc ++ src) → (∀ j, j < N → kvne kv' j) → K kv' (T a ++ J')) : appK esz bytes src yv kv (T a ++ J) K := by
  have := app_T hT (L0 := []) (J := J) (K := K) (yv := yv) (a := a) (by simpa using hov) (by simpa using hk0) hy hh hb (fun kv' J' h1 h2 => by simpa using hk kv' J' (by simpa using h1) (by simpa using h2))
  simpa using this
structure L15 (sid : Nat) (roles : List ByteArray) (d : Int) (heads : List Hd) (n N : Nat) (T : Nat → List Blk) (j aj : Nat) (kv : V) (acc : List St) (J : List Blk) (e : Env) (H : List Blk) : Prop where
  e0 : e 0 = .ptr sid 0 0
  e1 : e 1 = .fs (roles.map .str)
  e2 : e 2 = .int .i64 d
  e4 : e 4 = .fs (heads.map encH)
  e11 : e 11 = kv
  e20 : e 20 = .int .i64 n
  e21 : e 21 = .int .i64 j
  hH : H = T aj ++ J
  ov : OV H kv (acc.map encS)
  kn : ∀ i, i < N → kvne kv i
structure M15 (M : Nat) (L : List Int) (roles : List ByteArray) (d : Int) (heads : List Hd) (tw : Nat → ByteArray × ByteArray) (tr2 tr3 : Nat → Ex × Nat) (od : Nat → List Int × Nat) (sb : Nat → List St × Nat) : Prop where
  tw : ∀ a, a ≤ M + 100000 → MC 40 L a [.fs (roles.map .str)] (.tup [.str (tw a).1, .str (tw a).2]) (a + 2)
  tr2 : ∀ a, a ≤ M + 100000 → a ≤ (tr2 a).2 ∧ (tr2 a).2 ≤ a + 100 ∧ wE (tr2 a).1 ≤ 100 ∧ MC 42 L a [.int .i64 2] (encE (tr2 a).1) (tr2 a).2
  tr3 : ∀ a, a ≤ M + 100000 → a ≤ (tr3 a).2 ∧ (tr3 a).2 ≤ a + 300 ∧ wE (tr3 a).1 ≤ 300 ∧ MC 42 L a [.int .i64 3] (encE (tr3 a).1) (tr3 a).2
  od : ∀ a, a ≤ M + 100000 → a ≤ (od a).2 ∧ (od a).2 ≤ a + 12 ∧ (od a).1.length = roles.length ∧ (∀ x ∈ (od a).1, 0 ≤ x ∧ x < roles.length) ∧ MC 43 L a [.int .i64 roles.length] (.fs ((od a).1.map (.int .i64))) (od a).2
  sb : 2 ≤ d → ∀ a, a ≤ M + 60000 → a ≤ (sb a).2 ∧ (sb a).2 ≤ a + 20000 ∧ MC 15 L a [.fs (roles.map .str), .int .i64 (d - 1), .int .i64 2, .fs (heads.map encH)] (.fs ((sb a).1.map encS)) (sb a).2
def B15 (L : List Int) (roles : List ByteArray) (d : Int) (heads : List Hd) (tw : Nat → ByteArray × ByteArray) (tr2 tr3 : Nat → Ex × Nat) (od : Nat → List Int × Nat) (sb : Nat → List St × Nat) (aj : Nat) : Prop :=
  ∀ (sid n N : Nat) (T : Nat → List Blk) (j : Nat) (kv : V) (acc : List St) (J : List Blk) (e : Env) (H : List Blk) (m : Nat) (k : Kont), MS L sid N T → L15 sid roles d heads n N T j aj kv acc J e H → j < n → n ≤ 100 → acc.length ≤ 100 →
    (∀ p e' kv' J' H', L15 sid roles d heads n N T (j + 1) (one L roles d heads tw tr2 tr3 od sb aj).2 kv' (acc ++ (one L roles d heads tw tr2 tr3 od sb aj).1) J' e' H' → F Tryz.prog (p + 1) (.app k .normal e' H')) →
    F Tryz.prog (m + 300) (.code bm15u0 e H k)
end Go.Proofs.YteoboibjepokoaaGreatDoor.Av
