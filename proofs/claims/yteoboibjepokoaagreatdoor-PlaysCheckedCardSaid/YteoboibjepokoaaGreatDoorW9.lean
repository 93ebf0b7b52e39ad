/- Proved: for every list of numbers the law PlaysChecked answers true and leaves its argument as it was (the tied card); no condition beyond the row's own. Text 9 of 14. -/
import Derived.Test.YteoboibjepokoaaGreatDoorW8
set_option linter.unusedVariables false
set_option linter.unusedSimpArgs false
set_option linter.unusedSectionVars false
set_option linter.all false
namespace Go.Proofs.YteoboibjepokoaaGreatDoor.Av
open Go.RowKit
theorem spots_length (P : Pla) : (spots P).length = total P := by simp [spots, spL_length, spP_length, total]
theorem t9 (P : Pla) (hc : total P ≤ 1000000) : PCall Tryz.prog 9 [encPl P] (· = .int .i64 (total P)) := by
  have h25 := t25 P hc
  have hl := spots_length P
  rcases P with ⟨xs, main⟩
  generalize hS : spots ⟨xs, main⟩ = S at *
  simp only [encPl] at h25
  refine PCall.intro c9 300 (by simp) 20 ?_
  simp (maxSteps := 1000000) -implicitDefEqProofs only [s9, encPl, go_sem, ↓reduceIte, Nat.reduceEqDiff, Nat.reduceBEq, Int.reduceToNat, Nat.reduceAdd, Nat.reduceLT, Nat.reduceLeDiff, reduceCtorEq, Nat.reduceSub]
  repeat' (first | ((with_reducible first | refine cgR h25 ?_ ?_); (focus (simp [norefL, noref, norefL_app, norefL_str, norefL_int, norefL_encE, norefL_encS, norefL_encP, noref_encE, noref_encS, noref_encP, noref_encPl]; done)); simp (maxSteps := 1000000) -implicitDefEqProofs only [go_sem, ↓reduceIte, Nat.reduceEqDiff, Nat.reduceBEq, Int.reduceToNat, Nat.reduceAdd, Nat.reduceLT, Nat.reduceLeDiff, reduceCtorEq, Nat.reduceSub]) | ((with_reducible apply cgF); (focus ((simp (maxSteps := 1000000) -implicitDefEqProofs only [List.map_cons, List.map_nil, push_cast, ↓reduceIte, Nat.reduceEqDiff, reduceCtorEq, Nat.reduceAdd, Nat.reduceLT, Nat.reduceLeDiff] <;> rfl); done)); (with_reducible first | exact h25); (focus (rfl; done)); simp (maxSteps := 1000000) -implicitDefEqProofs only [go_sem, ↓reduceIte, Nat.reduceEqDiff, Nat.reduceBEq, Int.reduceToNat, Nat.reduceAdd, Nat.reduceLT, Nat.reduceLeDiff, reduceCtorEq, Nat.reduceSub]) | ((with_reducible show F _ _ (Cfg.code (SCode.qregion _) _ _ _)); refine F_q2 ?_; simp (maxSteps := 1000000) -implicitDefEqProofs only [go_sem, ↓reduceIte, Nat.reduceEqDiff, Nat.reduceBEq, Int.reduceToNat, Nat.reduceAdd, Nat.reduceLT, Nat.reduceLeDiff, reduceCtorEq, Nat.reduceSub]) | ((with_reducible show F _ _ (Cfg.code (SCode.pregion _ _ _ _ _) _ _ _)); refine F_p2 ?_; simp (maxSteps := 1000000) -implicitDefEqProofs only [go_sem, ↓reduceIte, Nat.reduceEqDiff, Nat.reduceBEq, Int.reduceToNat, Nat.reduceAdd, Nat.reduceLT, Nat.reduceLeDiff, reduceCtorEq, Nat.reduceSub]) | with_reducible refine Fork.mk (fun _ => ?_) (fun _ => ?_) | with_reducible refine And.intro ?_ ?_ | ((with_reducible show resP _ _ _ _ _); simp (maxSteps := 1000000) -implicitDefEqProofs only [r9, push_cast, ↓reduceIte, Nat.reduceEqDiff, reduceCtorEq, Nat.reduceAdd, Nat.reduceLT, Nat.reduceLeDiff]) | (intro _))
  rw [hl]
def procRs (P : Pla) (pr : Int) : Option (List ByteArray) := if pr < 0 then none else (P.procs[pr.toNat]?).map (·.roles)
def oF (P : Pla) (rs : Option (List ByteArray)) (k : Int) (r t p : ByteArray) (ps : List ByteArray) : Int :=
  if (match rs with | none => false | some rs => (rolesS k r t ps).any fun z => !rs.any fun y => decide (z = y)) then 5
  else if k ≠ 5 then (if t = r then 6 else 0)
  else match P.procs.find? (fun z => decide (z.name = p)) with
    | none => 8
    | some q => if q.roles.length ≠ ps.length then 3 else if dupF [] ps then 6 else 0
def oFS (P : Pla) : Spo → Int
  | (.mk k r t v l e a b p ps, pr, _) => oF P (procRs P pr) k r t p ps
def oFL (P : Pla) : List Spo → Int
  | [] => 0
  | x :: l => if oFS P x ≠ 0 then oFS P x else oFL P l
def plF (P : Pla) : Int := if cpF P ≠ 0 then cpF P else oFL P (spots P)
def SPok (P : Pla) (x : Spo) : Prop := x.2.1 = -1 ∨ ∃ pa qa pb, P.procs = pa ++ qa :: pb ∧ x.2.1 = pa.length
mutual
theorem sp1uproc : ∀ (x : St) (pr : Int) (la : Bool), ∀ y ∈ sp1 x pr la, y.2.1 = pr
  | .mk k r t v l e a b p ps, pr, la => by
    intro y hy
    simp only [sp1, List.mem_cons, List.mem_append] at hy
    rcases hy with rfl | hy | hy
    · rfl
    · exact spL_proc a pr la y hy
    · exact spL_proc b pr la y hy
theorem spL_proc : ∀ (l : List St) (pr : Int) (la : Bool), ∀ y ∈ spL l pr la, y.2.1 = pr
  | [], _, _ => by intro y hy; simp [spL] at hy
  | x :: l, pr, la => by
    intro y hy
    simp only [spL, List.mem_append] at hy
    rcases hy with hy | hy
    · exact sp1uproc x pr _ y hy
    · exact spL_proc l pr la y hy
end
theorem spP_proc : ∀ (l pre : List Pr), ∀ y ∈ spP l pre.length, ∃ pa qa pb, pre ++ l = pa ++ qa :: pb ∧ y.2.1 = pa.length
  | [], pre => by intro y hy; simp [spP] at hy
  | q :: l, pre => by
    intro y hy
    simp only [spP, List.mem_append] at hy
    rcases hy with hy | hy
    · exact ⟨pre, q, l, rfl, spL_proc _ _ _ y hy⟩
    · obtain ⟨pa, qa, pb, h1, h2⟩ := spP_proc l (pre ++ [q]) y (by simpa using hy)
      exact ⟨pa, qa, pb, by simpa using h1, h2⟩
theorem spots_ok (P : Pla) : ∀ y ∈ spots P, SPok P y := by
  intro y hy
  simp only [spots, List.mem_append] at hy
  rcases hy with hy | hy
  · exact .inl (spL_proc _ _ _ y hy)
  · obtain ⟨pa, qa, pb, h1, h2⟩ := spP_proc P.procs [] y (by simpa using hy)
    exact .inr ⟨pa, qa, pb, by simpa using h1, h2⟩
theorem oFL_append (P : Pla) : ∀ (pre post : List Spo), (∀ y ∈ pre, oFS P y = 0) → oFL P (pre ++ post) = oFL P post
  | [], post, _ => rfl
  | x :: pre, post, h => by
    rw [List.cons_append, oFL, h x (by simp)]
    simp only [ne_eq, not_true_eq_false, if_false]
    exact oFL_append P pre post (fun y hy => h y (by simp [hy]))
theorem procRs_neg (P : Pla) : procRs P (-1) = none := by simp [procRs]
theorem procRs_at {P : Pla} {pa pb : List Pr} {qa : Pr} (h : P.procs = pa ++ qa :: pb) : procRs P pa.length = some qa.roles := by
  rw [procRs, if_neg (by omega)]; simp [h]
set_option maxRecDepth 20000 in
theorem t8 (P : Pla) (hc : total P ≤ 1000000) : PCall Tryz.prog 8 [encPl P] (· = .int .i64 (plF P)) := by
  have h24 := t24 P hc
  have h25 := t25 P hc
  have h30 := fun nm => t30 P nm
  have hok := spots_ok P
  rcases P with ⟨xs, main⟩
  have hP : plF ⟨xs, main⟩ = if cpF ⟨xs, main⟩ ≠ 0 then cpF ⟨xs, main⟩ else oFL ⟨xs, main⟩ (spots ⟨xs, main⟩) := rfl
  generalize plF ⟨xs, main⟩ = R at *
  generalize spots ⟨xs, main⟩ = S at *
  generalize cpF ⟨xs, main⟩ = C at *
  simp only [encPl] at h24 h25 h30
  refine PCall.intro c8 300 (by simp) 20 ?_
  simp (maxSteps := 1000000) -implicitDefEqProofs only [s8, encPl, go_sem, ↓reduceIte, Nat.reduceEqDiff, Nat.reduceBEq, Int.reduceToNat, Nat.reduceAdd, Nat.reduceLT, Nat.reduceLeDiff, reduceCtorEq, Nat.reduceSub]
  repeat' (first | ((with_reducible first | refine cgR h24 ?_ ?_ | refine cgR h25 ?_ ?_); (focus (simp [norefL, noref, norefL_app, norefL_str, norefL_int, norefL_encE, norefL_encS, norefL_encP, noref_encE, noref_encS, noref_encP, noref_encPl]; done)); simp (maxSteps := 1000000) -implicitDefEqProofs only [go_sem, ↓reduceIte, Nat.reduceEqDiff, Nat.reduceBEq, Int.reduceToNat, Nat.reduceAdd, Nat.reduceLT, Nat.reduceLeDiff, reduceCtorEq, Nat.reduceSub]) | ((with_reducible apply cgF); (focus ((simp (maxSteps := 1000000) -implicitDefEqProofs only [List.map_cons, List.map_nil, push_cast, ↓reduceIte, Nat.reduceEqDiff, reduceCtorEq, Nat.reduceAdd, Nat.reduceLT, Nat.reduceLeDiff] <;> rfl); done)); (with_reducible first | exact h24 | exact h25); (focus (rfl; done)); simp (maxSteps := 1000000) -implicitDefEqProofs only [go_sem, ↓reduceIte, Nat.reduceEqDiff, Nat.reduceBEq, Int.reduceToNat, Nat.reduceAdd, Nat.reduceLT, Nat.reduceLeDiff, reduceCtorEq, Nat.reduceSub]) | ((with_reducible show F _ _ (Cfg.code (SCode.qregion _) _ _ _)); refine F_q2 ?_; simp (maxSteps := 1000000) -implicitDefEqProofs only [go_sem, ↓reduceIte, Nat.reduceEqDiff, Nat.reduceBEq, Int.reduceToNat, Nat.reduceAdd, Nat.reduceLT, Nat.reduceLeDiff, reduceCtorEq, Nat.reduceSub]) | ((with_reducible show F _ _ (Cfg.code (SCode.pregion _ _ _ _ _) _ _ _)); refine F_p2 ?_; simp (maxSteps := 1000000) -implicitDefEqProofs only [go_sem, ↓reduceIte, Nat.reduceEqDiff, Nat.reduceBEq, Int.reduceToNat, Nat.reduceAdd, Nat.reduceLT, Nat.reduceLeDiff, reduceCtorEq, Nat.reduceSub]) | with_reducible refine Fork.mk (fun _ => ?_) (fun _ => ?_) | with_reducible refine And.intro ?_ ?_ | ((with_reducible show resP _ _ _ _ _); simp (maxSteps := 1000000) -implicitDefEqProofs only [r8, push_cast, ↓reduceIte, Nat.reduceEqDiff, reduceCtorEq, Nat.reduceAdd, Nat.reduceLT, Nat.reduceLeDiff]) | (intro _))
  · rename_i hC
    have hC : C ≠ 0 := by simpa using hC
    rw [hP, if_pos hC]
  · rename_i hC hlen
    have hC : C = 0 := by simpa using hC
    rw [if_neg (by simpa using hC)] at hP
    refine F_loop (fun m e H => ∃ pre post J, S = pre ++ post ∧ m = post.length ∧ (∀ y ∈ pre, oFS ⟨xs, main⟩ y = 0) ∧ H = Blk.row [.agg [.fs (xs.map encP), .fs (main.map encS)]] :: J ∧ e 1 = .ptr 0 0 0 ∧ e 16 = .fs (S.map encSp) ∧ e 17 = .int .i64 S.length ∧ e 18 = .int .i64 pre.length) S.length ⟨[], S, [], by simp [upd, env0]⟩ ?_
    rintro m e H ⟨pre, post, J, hS, rfl, hz, rfl, h1, h16, h17, h18⟩
    cases post with
    | nil =>
      simp (maxSteps := 1000000) -implicitDefEqProofs only [h1, h16, h17, h18, mid_not hS, go_sem, ↓reduceIte, Nat.reduceEqDiff, Nat.reduceBEq, Int.reduceToNat, Nat.reduceAdd, Nat.reduceLT, Nat.reduceLeDiff, reduceCtorEq, Nat.reduceSub]
      simp (maxSteps := 1000000) -implicitDefEqProofs only [r8, push_cast, ↓reduceIte, Nat.reduceEqDiff, reduceCtorEq, Nat.reduceAdd, Nat.reduceLT, Nat.reduceLeDiff]
      rw [hP, hS, oFL_append _ _ _ hz]; rfl
    | cons y post =>
      have hg := mid_get encSp hS
      have hy := hok y (by rw [hS]; simp)
      have hR : R = if oFS ⟨xs, main⟩ y ≠ 0 then oFS ⟨xs, main⟩ y else oFL ⟨xs, main⟩ post := by rw [hP, hS, oFL_append _ _ _ hz, oFL]
      have hnext : oFS ⟨xs, main⟩ y = 0 → ∀ z ∈ pre ++ [y], oFS ⟨xs, main⟩ z = 0 := fun h z hz' => by
        rcases List.mem_append.1 hz' with hz' | hz'
        · exact hz z hz'
        · simp at hz'; subst hz'; exact h
      rcases y with ⟨⟨k, r, t, v, l, ⟨ek, en, es, eas⟩, a, b, p, ps⟩, pr, la⟩
      rw [encSp_mk] at hg
      simp only [SPok] at hy
      have h27 := t27 k r t v l ek en es eas a b p ps
      rw [encS_mk] at h27
      have h30 := h30 p
      rcases hy with rfl | ⟨pa, qa, pb, hA, rfl⟩
      · skip
        rw [show oFS ⟨xs, main⟩ (.mk k r t v l (.mk ek en es eas) a b p ps, ((-1) : Int), la) = oF ⟨xs, main⟩ none k r t p ps by rw [oFS, procRs_neg]] at hR hnext
        rcases ixF_zip (fun z : Pr => decide (z.name = p)) xs 0 (by omega) with ⟨hI, hF⟩ | ⟨pre2, q2, post2, hxs, hI, hQ⟩
        · rw [procI, hI] at h30
          simp (maxSteps := 1000000) -implicitDefEqProofs only [h1, h16, h17, h18, mid_lt hS, mid_wrap hS hlen, hg, neg1, lt1, go_sem, ↓reduceIte, Nat.reduceEqDiff, Nat.reduceBEq, Int.reduceToNat, Nat.reduceAdd, Nat.reduceLT, Nat.reduceLeDiff, reduceCtorEq, Nat.reduceSub]
          repeat' (first | ((with_reducible first | refine cgR h30 ?_ ?_); (focus (simp [norefL, noref, norefL_app, norefL_str, norefL_int, norefL_encE, norefL_encS, norefL_encP, noref_encE, noref_encS, noref_encP, noref_encPl]; done)); simp (maxSteps := 1000000) -implicitDefEqProofs only [h1, h16, h17, h18, mid_lt hS, mid_wrap hS hlen, hg, neg1, lt1, go_sem, ↓reduceIte, Nat.reduceEqDiff, Nat.reduceBEq, Int.reduceToNat, Nat.reduceAdd, Nat.reduceLT, Nat.reduceLeDiff, reduceCtorEq, Nat.reduceSub]) | ((with_reducible apply cgF); (focus ((simp (maxSteps := 1000000) -implicitDefEqProofs only [List.map_cons, List.map_nil, push_cast, ↓reduceIte, Nat.reduceEqDiff, reduceCtorEq, Nat.reduceAdd, Nat.reduceLT, Nat.reduceLeDiff] <;> rfl); done)); (with_reducible first | exact h30); (focus (rfl; done)); simp (maxSteps := 1000000) -implicitDefEqProofs only [h1, h16, h17, h18, mid_lt hS, mid_wrap hS hlen, hg, neg1, lt1, go_sem, ↓reduceIte, Nat.reduceEqDiff, Nat.reduceBEq, Int.reduceToNat, Nat.reduceAdd, Nat.reduceLT, Nat.reduceLeDiff, reduceCtorEq, Nat.reduceSub]) | ((with_reducible show F _ _ (Cfg.code (SCode.qregion _) _ _ _)); refine F_q2 ?_; simp (maxSteps := 1000000) -implicitDefEqProofs only [h1, h16, h17, h18, mid_lt hS, mid_wrap hS hlen, hg, neg1, lt1, go_sem, ↓reduceIte, Nat.reduceEqDiff, Nat.reduceBEq, Int.reduceToNat, Nat.reduceAdd, Nat.reduceLT, Nat.reduceLeDiff, reduceCtorEq, Nat.reduceSub]) | ((with_reducible show F _ _ (Cfg.code (SCode.pregion _ _ _ _ _) _ _ _)); refine F_p2 ?_; simp (maxSteps := 1000000) -implicitDefEqProofs only [h1, h16, h17, h18, mid_lt hS, mid_wrap hS hlen, hg, neg1, lt1, go_sem, ↓reduceIte, Nat.reduceEqDiff, Nat.reduceBEq, Int.reduceToNat, Nat.reduceAdd, Nat.reduceLT, Nat.reduceLeDiff, reduceCtorEq, Nat.reduceSub]) | with_reducible refine Fork.mk (fun _ => ?_) (fun _ => ?_) | with_reducible refine And.intro ?_ ?_ | ((with_reducible show resP _ _ _ _ _); simp (maxSteps := 1000000) -implicitDefEqProofs only [r8, push_cast, ↓reduceIte, Nat.reduceEqDiff, reduceCtorEq, Nat.reduceAdd, Nat.reduceLT, Nat.reduceLeDiff]) | (intro _))
          all_goals clear h27 h30 hok h24 h25
          all_goals first
            | ((with_reducible show F _ _ _)
               have hlen2 : ps.length ≤ 9223372036854775807 := by assumption
               have hO : oF ⟨xs, main⟩ none k r t p ps = if dupF [] ps then 6 else 0 := by
                 clear hg hR hnext hI hP hz
                 simp only [oF, hF]
                 generalize dupF [] ps = D at *
                 generalize ps.length = n at *
                 simp_all <;> omega
               rw [hO] at hR hnext
               refine F_loop (fun m e H => ∃ p2 q2, ps = p2 ++ q2 ∧ m = q2.length ∧ dupF [] ps = dupF p2 q2 ∧ (∃ J2, H = Blk.row [.agg [.fs (xs.map encP), .fs (main.map encS)]] :: (J ++ J2) ∧ J2[1]? = some (Blk.row [.agg [.int .i64 k, .str r, .str t, .str v, .str l, .int .i64 ek, .int .i64 en, .str es, .fs (eas.map encE), .fs (a.map encS), .fs (b.map encS), .str p, .fs (ps.map .str)]])) ∧
                 e 1 = .ptr 0 0 0 ∧ e 16 = .fs (S.map encSp) ∧ e 17 = .int .i64 S.length ∧ e 18 = .int .i64 pre.length ∧ e 6 = .ptr (J.length + 2) 0 0 ∧ e 61 = .fs (ps.map .str) ∧ e 62 = .int .i64 ps.length ∧ e 63 = .int .i64 p2.length) ps.length ⟨[], ps, by simp [upd, env0, h1, h16, h17, h18]⟩ ?_
               rintro m e H ⟨p2, q2, hq, rfl, hd, ⟨J2, rfl, hJ2⟩, h1, h16, h17, h18, h6, h61, h62, h63⟩
               cases q2 with
               | nil =>
                 simp (maxSteps := 1000000) -implicitDefEqProofs only [h1, h16, h17, h18, h6, h61, h62, h63, mid_not hq, mid_lt hS, mid_wrap hS hlen, go_sem, ↓reduceIte, Nat.reduceEqDiff, Nat.reduceBEq, Int.reduceToNat, Nat.reduceAdd, Nat.reduceLT, Nat.reduceLeDiff, reduceCtorEq, Nat.reduceSub]
                 refine ⟨_, Nat.lt_succ_self _, pre ++ [(.mk k r t v l (.mk ek en es eas) a b p ps, -1, la)], post, _, by simp [hS], rfl, hnext ?_, rfl, by simp⟩
                 rw [hd]; simp [dupF]
               | cons y q2 =>
                 have hg2 := mid_get V.str hq
                 have ht2 := mid_take V.str hq
                 have hl2 : (p2.length : Int) ≤ ps.length := by rw [hq]; simp; omega
                 have hJ3 : (J ++ J2)[J.length + 1]? = J2[1]? := get_appS _ _ _
                 simp (maxSteps := 1000000) -implicitDefEqProofs only [h1, h16, h17, h18, h6, h61, h62, h63, hJ3, hJ2, hg2, mid_lt hq, mid_wrap hq hlen2, headOk_str, hl2, ht2, Int.le_refl, Int.natCast_nonneg, go_sem, ↓reduceIte, Nat.reduceEqDiff, Nat.reduceBEq, Int.reduceToNat, Nat.reduceAdd, Nat.reduceLT, Nat.reduceLeDiff, reduceCtorEq, Nat.reduceSub]
                 repeat' (first | ((with_reducible first | refine cgR (t29 p2 y) ?_ ?_); (focus (simp [norefL, noref, norefL_app, norefL_str, norefL_int, norefL_encE, norefL_encS, norefL_encP, noref_encE, noref_encS, noref_encP, noref_encPl]; done)); simp (maxSteps := 1000000) -implicitDefEqProofs only [h1, h16, h17, h18, h6, h61, h62, h63, hJ3, hJ2, hg2, mid_lt hq, mid_wrap hq hlen2, headOk_str, hl2, ht2, Int.le_refl, Int.natCast_nonneg, go_sem, ↓reduceIte, Nat.reduceEqDiff, Nat.reduceBEq, Int.reduceToNat, Nat.reduceAdd, Nat.reduceLT, Nat.reduceLeDiff, reduceCtorEq, Nat.reduceSub]) | ((with_reducible apply cgF); (focus ((simp (maxSteps := 1000000) -implicitDefEqProofs only [List.map_cons, List.map_nil, push_cast, ↓reduceIte, Nat.reduceEqDiff, reduceCtorEq, Nat.reduceAdd, Nat.reduceLT, Nat.reduceLeDiff] <;> rfl); done)); (with_reducible first | exact (t29 p2 y)); (focus (rfl; done)); simp (maxSteps := 1000000) -implicitDefEqProofs only [h1, h16, h17, h18, h6, h61, h62, h63, hJ3, hJ2, hg2, mid_lt hq, mid_wrap hq hlen2, headOk_str, hl2, ht2, Int.le_refl, Int.natCast_nonneg, go_sem, ↓reduceIte, Nat.reduceEqDiff, Nat.reduceBEq, Int.reduceToNat, Nat.reduceAdd, Nat.reduceLT, Nat.reduceLeDiff, reduceCtorEq, Nat.reduceSub]) | ((with_reducible show F _ _ (Cfg.code (SCode.qregion _) _ _ _)); refine F_q2 ?_; simp (maxSteps := 1000000) -implicitDefEqProofs only [h1, h16, h17, h18, h6, h61, h62, h63, hJ3, hJ2, hg2, mid_lt hq, mid_wrap hq hlen2, headOk_str, hl2, ht2, Int.le_refl, Int.natCast_nonneg, go_sem, ↓reduceIte, Nat.reduceEqDiff, Nat.reduceBEq, Int.reduceToNat, Nat.reduceAdd, Nat.reduceLT, Nat.reduceLeDiff, reduceCtorEq, Nat.reduceSub]) | ((with_reducible show F _ _ (Cfg.code (SCode.pregion _ _ _ _ _) _ _ _)); refine F_p2 ?_; simp (maxSteps := 1000000) -implicitDefEqProofs only [h1, h16, h17, h18, h6, h61, h62, h63, hJ3, hJ2, hg2, mid_lt hq, mid_wrap hq hlen2, headOk_str, hl2, ht2, Int.le_refl, Int.natCast_nonneg, go_sem, ↓reduceIte, Nat.reduceEqDiff, Nat.reduceBEq, Int.reduceToNat, Nat.reduceAdd, Nat.reduceLT, Nat.reduceLeDiff, reduceCtorEq, Nat.reduceSub]) | with_reducible refine Fork.mk (fun _ => ?_) (fun _ => ?_) | with_reducible refine And.intro ?_ ?_ | ((with_reducible show resP _ _ _ _ _); simp (maxSteps := 1000000) -implicitDefEqProofs only [r8, push_cast, ↓reduceIte, Nat.reduceEqDiff, reduceCtorEq, Nat.reduceAdd, Nat.reduceLT, Nat.reduceLeDiff]) | (intro _))
                 · rename_i hm
                   rw [hR, hd]; simp only [dupF, hm]; simp
                 · rename_i hm
                   refine ⟨_, Nat.lt_succ_self _, p2 ++ [y], q2, by simp [hq], rfl, ?_, ⟨J2, rfl, hJ2⟩, by simp [h1, h16, h17, h18, h6, h61, h62]⟩
                   rw [hd]; simp only [dupF, hm]; simp)
            | (refine ⟨_, Nat.lt_succ_self _, pre ++ [(.mk k r t v l (.mk ek en es eas) a b p ps, -1, la)], post, _, by simp [hS], rfl, hnext ?_, rfl, by simp⟩
               clear hg hR hnext hI hP hz
               simp only [oF, hF]; generalize dupF [] ps = D at *; generalize ps.length = n at *; simp_all; done)
            | (rw [hR]; clear hg hR hnext hI hP hz; simp only [oF, hF]; generalize dupF [] ps = D at *; generalize ps.length = n at *; simp_all; done)
            | (rw [hR]; clear hg hR hnext hI hP hz; simp only [oF, hF]; generalize dupF [] ps = D at *; generalize ps.length = n at *; simp_all; omega)
        · rw [procI, hI, Int.zero_add] at h30
          have hgq := mid_get encP hxs
          have hltq := mid_lt hxs
          simp only [encP] at hgq
          have hneg : ¬ ((pre2.length : Int) < 0) := by omega
          simp (maxSteps := 1000000) -implicitDefEqProofs only [h1, h16, h17, h18, mid_lt hS, mid_wrap hS hlen, hg, neg1, lt1, hgq, hltq, hneg, go_sem, ↓reduceIte, Nat.reduceEqDiff, Nat.reduceBEq, Int.reduceToNat, Nat.reduceAdd, Nat.reduceLT, Nat.reduceLeDiff, reduceCtorEq, Nat.reduceSub]
          repeat' (first | ((with_reducible first | refine cgR h30 ?_ ?_); (focus (simp [norefL, noref, norefL_app, norefL_str, norefL_int, norefL_encE, norefL_encS, norefL_encP, noref_encE, noref_encS, noref_encP, noref_encPl]; done)); simp (maxSteps := 1000000) -implicitDefEqProofs only [h1, h16, h17, h18, mid_lt hS, mid_wrap hS hlen, hg, neg1, lt1, hgq, hltq, hneg, go_sem, ↓reduceIte, Nat.reduceEqDiff, Nat.reduceBEq, Int.reduceToNat, Nat.reduceAdd, Nat.reduceLT, Nat.reduceLeDiff, reduceCtorEq, Nat.reduceSub]) | ((with_reducible apply cgF); (focus ((simp (maxSteps := 1000000) -implicitDefEqProofs only [List.map_cons, List.map_nil, push_cast, ↓reduceIte, Nat.reduceEqDiff, reduceCtorEq, Nat.reduceAdd, Nat.reduceLT, Nat.reduceLeDiff] <;> rfl); done)); (with_reducible first | exact h30); (focus (rfl; done)); simp (maxSteps := 1000000) -implicitDefEqProofs only [h1, h16, h17, h18, mid_lt hS, mid_wrap hS hlen, hg, neg1, lt1, hgq, hltq, hneg, go_sem, ↓reduceIte, Nat.reduceEqDiff, Nat.reduceBEq, Int.reduceToNat, Nat.reduceAdd, Nat.reduceLT, Nat.reduceLeDiff, reduceCtorEq, Nat.reduceSub]) | ((with_reducible show F _ _ (Cfg.code (SCode.qregion _) _ _ _)); refine F_q2 ?_; simp (maxSteps := 1000000) -implicitDefEqProofs only [h1, h16, h17, h18, mid_lt hS, mid_wrap hS hlen, hg, neg1, lt1, hgq, hltq, hneg, go_sem, ↓reduceIte, Nat.reduceEqDiff, Nat.reduceBEq, Int.reduceToNat, Nat.reduceAdd, Nat.reduceLT, Nat.reduceLeDiff, reduceCtorEq, Nat.reduceSub]) | ((with_reducible show F _ _ (Cfg.code (SCode.pregion _ _ _ _ _) _ _ _)); refine F_p2 ?_; simp (maxSteps := 1000000) -implicitDefEqProofs only [h1, h16, h17, h18, mid_lt hS, mid_wrap hS hlen, hg, neg1, lt1, hgq, hltq, hneg, go_sem, ↓reduceIte, Nat.reduceEqDiff, Nat.reduceBEq, Int.reduceToNat, Nat.reduceAdd, Nat.reduceLT, Nat.reduceLeDiff, reduceCtorEq, Nat.reduceSub]) | with_reducible refine Fork.mk (fun _ => ?_) (fun _ => ?_) | with_reducible refine And.intro ?_ ?_ | ((with_reducible show resP _ _ _ _ _); simp (maxSteps := 1000000) -implicitDefEqProofs only [r8, push_cast, ↓reduceIte, Nat.reduceEqDiff, reduceCtorEq, Nat.reduceAdd, Nat.reduceLT, Nat.reduceLeDiff]) | (intro _))
          all_goals clear h27 h30 hok h24 h25
          all_goals first
            | ((with_reducible show F _ _ _)
               have hlen2 : ps.length ≤ 9223372036854775807 := by assumption
               have hO : oF ⟨xs, main⟩ none k r t p ps = if dupF [] ps then 6 else 0 := by
                 clear hg hR hnext hI hP hz
                 simp only [oF, hQ]
                 generalize dupF [] ps = D at *
                 generalize ps.length = n at *
                 simp_all <;> omega
               rw [hO] at hR hnext
               refine F_loop (fun m e H => ∃ p2 q2, ps = p2 ++ q2 ∧ m = q2.length ∧ dupF [] ps = dupF p2 q2 ∧ (∃ J2, H = Blk.row [.agg [.fs (xs.map encP), .fs (main.map encS)]] :: (J ++ J2) ∧ J2[1]? = some (Blk.row [.agg [.int .i64 k, .str r, .str t, .str v, .str l, .int .i64 ek, .int .i64 en, .str es, .fs (eas.map encE), .fs (a.map encS), .fs (b.map encS), .str p, .fs (ps.map .str)]])) ∧
                 e 1 = .ptr 0 0 0 ∧ e 16 = .fs (S.map encSp) ∧ e 17 = .int .i64 S.length ∧ e 18 = .int .i64 pre.length ∧ e 6 = .ptr (J.length + 2) 0 0 ∧ e 61 = .fs (ps.map .str) ∧ e 62 = .int .i64 ps.length ∧ e 63 = .int .i64 p2.length) ps.length ⟨[], ps, by simp [upd, env0, h1, h16, h17, h18]⟩ ?_
               rintro m e H ⟨p2, q2, hq, rfl, hd, ⟨J2, rfl, hJ2⟩, h1, h16, h17, h18, h6, h61, h62, h63⟩
               cases q2 with
               | nil =>
                 simp (maxSteps := 1000000) -implicitDefEqProofs only [h1, h16, h17, h18, h6, h61, h62, h63, mid_not hq, mid_lt hS, mid_wrap hS hlen, go_sem, ↓reduceIte, Nat.reduceEqDiff, Nat.reduceBEq, Int.reduceToNat, Nat.reduceAdd, Nat.reduceLT, Nat.reduceLeDiff, reduceCtorEq, Nat.reduceSub]
                 refine ⟨_, Nat.lt_succ_self _, pre ++ [(.mk k r t v l (.mk ek en es eas) a b p ps, -1, la)], post, _, by simp [hS], rfl, hnext ?_, rfl, by simp⟩
                 rw [hd]; simp [dupF]
               | cons y q2 =>
                 have hg2 := mid_get V.str hq
                 have ht2 := mid_take V.str hq
                 have hl2 : (p2.length : Int) ≤ ps.length := by rw [hq]; simp; omega
                 have hJ3 : (J ++ J2)[J.length + 1]? = J2[1]? := get_appS _ _ _
                 simp (maxSteps := 1000000) -implicitDefEqProofs only [h1, h16, h17, h18, h6, h61, h62, h63, hJ3, hJ2, hg2, mid_lt hq, mid_wrap hq hlen2, headOk_str, hl2, ht2, Int.le_refl, Int.natCast_nonneg, go_sem, ↓reduceIte, Nat.reduceEqDiff, Nat.reduceBEq, Int.reduceToNat, Nat.reduceAdd, Nat.reduceLT, Nat.reduceLeDiff, reduceCtorEq, Nat.reduceSub]
                 repeat' (first | ((with_reducible first | refine cgR (t29 p2 y) ?_ ?_); (focus (simp [norefL, noref, norefL_app, norefL_str, norefL_int, norefL_encE, norefL_encS, norefL_encP, noref_encE, noref_encS, noref_encP, noref_encPl]; done)); simp (maxSteps := 1000000) -implicitDefEqProofs only [h1, h16, h17, h18, h6, h61, h62, h63, hJ3, hJ2, hg2, mid_lt hq, mid_wrap hq hlen2, headOk_str, hl2, ht2, Int.le_refl, Int.natCast_nonneg, go_sem, ↓reduceIte, Nat.reduceEqDiff, Nat.reduceBEq, Int.reduceToNat, Nat.reduceAdd, Nat.reduceLT, Nat.reduceLeDiff, reduceCtorEq, Nat.reduceSub]) | ((with_reducible apply cgF); (focus ((simp (maxSteps := 1000000) -implicitDefEqProofs only [List.map_cons, List.map_nil, push_cast, ↓reduceIte, Nat.reduceEqDiff, reduceCtorEq, Nat.reduceAdd, Nat.reduceLT, Nat.reduceLeDiff] <;> rfl); done)); (with_reducible first | exact (t29 p2 y)); (focus (rfl; done)); simp (maxSteps := 1000000) -implicitDefEqProofs only [h1, h16, h17, h18, h6, h61, h62, h63, hJ3, hJ2, hg2, mid_lt hq, mid_wrap hq hlen2, headOk_str, hl2, ht2, Int.le_refl, Int.natCast_nonneg, go_sem, ↓reduceIte, Nat.reduceEqDiff, Nat.reduceBEq, Int.reduceToNat, Nat.reduceAdd, Nat.reduceLT, Nat.reduceLeDiff, reduceCtorEq, Nat.reduceSub]) | ((with_reducible show F _ _ (Cfg.code (SCode.qregion _) _ _ _)); refine F_q2 ?_; simp (maxSteps := 1000000) -implicitDefEqProofs only [h1, h16, h17, h18, h6, h61, h62, h63, hJ3, hJ2, hg2, mid_lt hq, mid_wrap hq hlen2, headOk_str, hl2, ht2, Int.le_refl, Int.natCast_nonneg, go_sem, ↓reduceIte, Nat.reduceEqDiff, Nat.reduceBEq, Int.reduceToNat, Nat.reduceAdd, Nat.reduceLT, Nat.reduceLeDiff, reduceCtorEq, Nat.reduceSub]) | ((with_reducible show F _ _ (Cfg.code (SCode.pregion _ _ _ _ _) _ _ _)); refine F_p2 ?_; simp (maxSteps := 1000000) -implicitDefEqProofs only [h1, h16, h17, h18, h6, h61, h62, h63, hJ3, hJ2, hg2, mid_lt hq, mid_wrap hq hlen2, headOk_str, hl2, ht2, Int.le_refl, Int.natCast_nonneg, go_sem, ↓reduceIte, Nat.reduceEqDiff, Nat.reduceBEq, Int.reduceToNat, Nat.reduceAdd, Nat.reduceLT, Nat.reduceLeDiff, reduceCtorEq, Nat.reduceSub]) | with_reducible refine Fork.mk (fun _ => ?_) (fun _ => ?_) | with_reducible refine And.intro ?_ ?_ | ((with_reducible show resP _ _ _ _ _); simp (maxSteps := 1000000) -implicitDefEqProofs only [r8, push_cast, ↓reduceIte, Nat.reduceEqDiff, reduceCtorEq, Nat.reduceAdd, Nat.reduceLT, Nat.reduceLeDiff]) | (intro _))
                 · rename_i hm
                   rw [hR, hd]; simp only [dupF, hm]; simp
                 · rename_i hm
                   refine ⟨_, Nat.lt_succ_self _, p2 ++ [y], q2, by simp [hq], rfl, ?_, ⟨J2, rfl, hJ2⟩, by simp [h1, h16, h17, h18, h6, h61, h62]⟩
                   rw [hd]; simp only [dupF, hm]; simp)
            | (refine ⟨_, Nat.lt_succ_self _, pre ++ [(.mk k r t v l (.mk ek en es eas) a b p ps, -1, la)], post, _, by simp [hS], rfl, hnext ?_, rfl, by simp⟩
               clear hg hR hnext hI hP hz
               simp only [oF, hQ]; generalize dupF [] ps = D at *; generalize ps.length = n at *; simp_all; done)
            | (rw [hR]; clear hg hR hnext hI hP hz; simp only [oF, hQ]; generalize dupF [] ps = D at *; generalize ps.length = n at *; simp_all; done)
            | (rw [hR]; clear hg hR hnext hI hP hz; simp only [oF, hQ]; generalize dupF [] ps = D at *; generalize ps.length = n at *; simp_all; omega)
      · skip
        try simp only at hA
        have h28 : ∀ z ∈ rolesS k r t ps, PCall Tryz.prog 28 ([] ++ [V.str z] ++ [.rptr [.fs (xs.map encP), .fs (main.map encS)], .rptr [.int .i64 k, .str r, .str t, .str v, .str l, .int .i64 ek, .int .i64 en, .str es, .fs (eas.map encE), .fs (a.map encS), .fs (b.map encS), .str p, .fs (ps.map .str), .int .i64 pa.length, .bool la]]) (· = .bool (!qa.roles.any fun y => decide (z = y))) := by
          intro z _; rw [hA]; exact t28 pa pb qa main z _ _ _ _ _ _ _ _ _ _ _ _ _ _
        have h26 := t26 (rolesS k r t ps) 28 [] [.rptr [.fs (xs.map encP), .fs (main.map encS)], .rptr [.int .i64 k, .str r, .str t, .str v, .str l, .int .i64 ek, .int .i64 en, .str es, .fs (eas.map encE), .fs (a.map encS), .fs (b.map encS), .str p, .fs (ps.map .str), .int .i64 pa.length, .bool la]] (fun z => !qa.roles.any fun y => decide (z = y)) rfl (by simp [norefL, noref, norefL_encP, norefL_encS, norefL_encE, norefL_str]) h28
        clear h28
        generalize hB : (rolesS k r t ps).any (fun z => !qa.roles.any fun y => decide (z = y)) = Bad at h26
        have hge : (0 ≤ (pa.length : Int)) = True := by simp
        rw [show oFS ⟨xs, main⟩ (.mk k r t v l (.mk ek en es eas) a b p ps, (pa.length : Int), la) = oF ⟨xs, main⟩ (some qa.roles) k r t p ps by rw [oFS, procRs_at hA]] at hR hnext
        rcases ixF_zip (fun z : Pr => decide (z.name = p)) xs 0 (by omega) with ⟨hI, hF⟩ | ⟨pre2, q2, post2, hxs, hI, hQ⟩
        · rw [procI, hI] at h30
          simp (maxSteps := 1000000) -implicitDefEqProofs only [h1, h16, h17, h18, mid_lt hS, mid_wrap hS hlen, hg, neg1, hge, lt1, go_sem, ↓reduceIte, Nat.reduceEqDiff, Nat.reduceBEq, Int.reduceToNat, Nat.reduceAdd, Nat.reduceLT, Nat.reduceLeDiff, reduceCtorEq, Nat.reduceSub]
          repeat' (first | ((with_reducible first | refine cgR h30 ?_ ?_ | refine cgR h27 ?_ ?_ | refine cgR h26 ?_ ?_); (focus (simp [norefL, noref, norefL_app, norefL_str, norefL_int, norefL_encE, norefL_encS, norefL_encP, noref_encE, noref_encS, noref_encP, noref_encPl]; done)); simp (maxSteps := 1000000) -implicitDefEqProofs only [h1, h16, h17, h18, mid_lt hS, mid_wrap hS hlen, hg, neg1, hge, lt1, go_sem, ↓reduceIte, Nat.reduceEqDiff, Nat.reduceBEq, Int.reduceToNat, Nat.reduceAdd, Nat.reduceLT, Nat.reduceLeDiff, reduceCtorEq, Nat.reduceSub]) | ((with_reducible apply cgF); (focus ((simp (maxSteps := 1000000) -implicitDefEqProofs only [List.map_cons, List.map_nil, push_cast, ↓reduceIte, Nat.reduceEqDiff, reduceCtorEq, Nat.reduceAdd, Nat.reduceLT, Nat.reduceLeDiff] <;> rfl); done)); (with_reducible first | exact h30 | exact h27 | exact h26); (focus (rfl; done)); simp (maxSteps := 1000000) -implicitDefEqProofs only [h1, h16, h17, h18, mid_lt hS, mid_wrap hS hlen, hg, neg1, hge, lt1, go_sem, ↓reduceIte, Nat.reduceEqDiff, Nat.reduceBEq, Int.reduceToNat, Nat.reduceAdd, Nat.reduceLT, Nat.reduceLeDiff, reduceCtorEq, Nat.reduceSub]) | ((with_reducible show F _ _ (Cfg.code (SCode.qregion _) _ _ _)); refine F_q2 ?_; simp (maxSteps := 1000000) -implicitDefEqProofs only [h1, h16, h17, h18, mid_lt hS, mid_wrap hS hlen, hg, neg1, hge, lt1, go_sem, ↓reduceIte, Nat.reduceEqDiff, Nat.reduceBEq, Int.reduceToNat, Nat.reduceAdd, Nat.reduceLT, Nat.reduceLeDiff, reduceCtorEq, Nat.reduceSub]) | ((with_reducible show F _ _ (Cfg.code (SCode.pregion _ _ _ _ _) _ _ _)); refine F_p2 ?_; simp (maxSteps := 1000000) -implicitDefEqProofs only [h1, h16, h17, h18, mid_lt hS, mid_wrap hS hlen, hg, neg1, hge, lt1, go_sem, ↓reduceIte, Nat.reduceEqDiff, Nat.reduceBEq, Int.reduceToNat, Nat.reduceAdd, Nat.reduceLT, Nat.reduceLeDiff, reduceCtorEq, Nat.reduceSub]) | with_reducible refine Fork.mk (fun _ => ?_) (fun _ => ?_) | with_reducible refine And.intro ?_ ?_ | ((with_reducible show resP _ _ _ _ _); simp (maxSteps := 1000000) -implicitDefEqProofs only [r8, push_cast, ↓reduceIte, Nat.reduceEqDiff, reduceCtorEq, Nat.reduceAdd, Nat.reduceLT, Nat.reduceLeDiff]) | (intro _))
          all_goals clear h27 h26 h30 hok h24 h25
          all_goals first
            | ((with_reducible show F _ _ _)
               have hlen2 : ps.length ≤ 9223372036854775807 := by assumption
               have hO : oF ⟨xs, main⟩ (some qa.roles) k r t p ps = if dupF [] ps then 6 else 0 := by
                 clear hg hR hnext hI hP hz
                 simp only [oF, hF, hB]
                 generalize dupF [] ps = D at *
                 generalize ps.length = n at *
                 simp_all <;> omega
               rw [hO] at hR hnext
               refine F_loop (fun m e H => ∃ p2 q2, ps = p2 ++ q2 ∧ m = q2.length ∧ dupF [] ps = dupF p2 q2 ∧ (∃ J2, H = Blk.row [.agg [.fs (xs.map encP), .fs (main.map encS)]] :: (J ++ J2) ∧ J2[1]? = some (Blk.row [.agg [.int .i64 k, .str r, .str t, .str v, .str l, .int .i64 ek, .int .i64 en, .str es, .fs (eas.map encE), .fs (a.map encS), .fs (b.map encS), .str p, .fs (ps.map .str)]])) ∧
                 e 1 = .ptr 0 0 0 ∧ e 16 = .fs (S.map encSp) ∧ e 17 = .int .i64 S.length ∧ e 18 = .int .i64 pre.length ∧ e 6 = .ptr (J.length + 2) 0 0 ∧ e 61 = .fs (ps.map .str) ∧ e 62 = .int .i64 ps.length ∧ e 63 = .int .i64 p2.length) ps.length ⟨[], ps, by simp [upd, env0, h1, h16, h17, h18]⟩ ?_
               rintro m e H ⟨p2, q2, hq, rfl, hd, ⟨J2, rfl, hJ2⟩, h1, h16, h17, h18, h6, h61, h62, h63⟩
               cases q2 with
               | nil =>
                 simp (maxSteps := 1000000) -implicitDefEqProofs only [h1, h16, h17, h18, h6, h61, h62, h63, mid_not hq, mid_lt hS, mid_wrap hS hlen, go_sem, ↓reduceIte, Nat.reduceEqDiff, Nat.reduceBEq, Int.reduceToNat, Nat.reduceAdd, Nat.reduceLT, Nat.reduceLeDiff, reduceCtorEq, Nat.reduceSub]
                 refine ⟨_, Nat.lt_succ_self _, pre ++ [(.mk k r t v l (.mk ek en es eas) a b p ps, (pa.length : Int), la)], post, _, by simp [hS], rfl, hnext ?_, rfl, by simp⟩
                 rw [hd]; simp [dupF]
               | cons y q2 =>
                 have hg2 := mid_get V.str hq
                 have ht2 := mid_take V.str hq
                 have hl2 : (p2.length : Int) ≤ ps.length := by rw [hq]; simp; omega
                 have hJ3 : (J ++ J2)[J.length + 1]? = J2[1]? := get_appS _ _ _
                 simp (maxSteps := 1000000) -implicitDefEqProofs only [h1, h16, h17, h18, h6, h61, h62, h63, hJ3, hJ2, hg2, mid_lt hq, mid_wrap hq hlen2, headOk_str, hl2, ht2, Int.le_refl, Int.natCast_nonneg, go_sem, ↓reduceIte, Nat.reduceEqDiff, Nat.reduceBEq, Int.reduceToNat, Nat.reduceAdd, Nat.reduceLT, Nat.reduceLeDiff, reduceCtorEq, Nat.reduceSub]
                 repeat' (first | ((with_reducible first | refine cgR (t29 p2 y) ?_ ?_); (focus (simp [norefL, noref, norefL_app, norefL_str, norefL_int, norefL_encE, norefL_encS, norefL_encP, noref_encE, noref_encS, noref_encP, noref_encPl]; done)); simp (maxSteps := 1000000) -implicitDefEqProofs only [h1, h16, h17, h18, h6, h61, h62, h63, hJ3, hJ2, hg2, mid_lt hq, mid_wrap hq hlen2, headOk_str, hl2, ht2, Int.le_refl, Int.natCast_nonneg, go_sem, ↓reduceIte, Nat.reduceEqDiff, Nat.reduceBEq, Int.reduceToNat, Nat.reduceAdd, Nat.reduceLT, Nat.reduceLeDiff, reduceCtorEq, Nat.reduceSub]) | ((with_reducible apply cgF); (focus ((simp (maxSteps := 1000000) -implicitDefEqProofs only [List.map_cons, List.map_nil, push_cast, ↓reduceIte, Nat.reduceEqDiff, reduceCtorEq, Nat.reduceAdd, Nat.reduceLT, Nat.reduceLeDiff] <;> rfl); done)); (with_reducible first | exact (t29 p2 y)); (focus (rfl; done)); simp (maxSteps := 1000000) -implicitDefEqProofs only [h1, h16, h17, h18, h6, h61, h62, h63, hJ3, hJ2, hg2, mid_lt hq, mid_wrap hq hlen2, headOk_str, hl2, ht2, Int.le_refl, Int.natCast_nonneg, go_sem, ↓reduceIte, Nat.reduceEqDiff, Nat.reduceBEq, Int.reduceToNat, Nat.reduceAdd, Nat.reduceLT, Nat.reduceLeDiff, reduceCtorEq, Nat.reduceSub]) | ((with_reducible show F _ _ (Cfg.code (SCode.qregion _) _ _ _)); refine F_q2 ?_; simp (maxSteps := 1000000) -implicitDefEqProofs only [h1, h16, h17, h18, h6, h61, h62, h63, hJ3, hJ2, hg2, mid_lt hq, mid_wrap hq hlen2, headOk_str, hl2, ht2, Int.le_refl, Int.natCast_nonneg, go_sem, ↓reduceIte, Nat.reduceEqDiff, Nat.reduceBEq, Int.reduceToNat, Nat.reduceAdd, Nat.reduceLT, Nat.reduceLeDiff, reduceCtorEq, Nat.reduceSub]) | ((with_reducible show F _ _ (Cfg.code (SCode.pregion _ _ _ _ _) _ _ _)); refine F_p2 ?_; simp (maxSteps := 1000000) -implicitDefEqProofs only [h1, h16, h17, h18, h6, h61, h62, h63, hJ3, hJ2, hg2, mid_lt hq, mid_wrap hq hlen2, headOk_str, hl2, ht2, Int.le_refl, Int.natCast_nonneg, go_sem, ↓reduceIte, Nat.reduceEqDiff, Nat.reduceBEq, Int.reduceToNat, Nat.reduceAdd, Nat.reduceLT, Nat.reduceLeDiff, reduceCtorEq, Nat.reduceSub]) | with_reducible refine Fork.mk (fun _ => ?_) (fun _ => ?_) | with_reducible refine And.intro ?_ ?_ | ((with_reducible show resP _ _ _ _ _); simp (maxSteps := 1000000) -implicitDefEqProofs only [r8, push_cast, ↓reduceIte, Nat.reduceEqDiff, reduceCtorEq, Nat.reduceAdd, Nat.reduceLT, Nat.reduceLeDiff]) | (intro _))
                 · rename_i hm
                   rw [hR, hd]; simp only [dupF, hm]; simp
                 · rename_i hm
                   refine ⟨_, Nat.lt_succ_self _, p2 ++ [y], q2, by simp [hq], rfl, ?_, ⟨J2, rfl, hJ2⟩, by simp [h1, h16, h17, h18, h6, h61, h62]⟩
                   rw [hd]; simp only [dupF, hm]; simp)
            | (refine ⟨_, Nat.lt_succ_self _, pre ++ [(.mk k r t v l (.mk ek en es eas) a b p ps, (pa.length : Int), la)], post, _, by simp [hS], rfl, hnext ?_, rfl, by simp⟩
               clear hg hR hnext hI hP hz
               simp only [oF, hF, hB]; generalize dupF [] ps = D at *; generalize ps.length = n at *; simp_all; done)
            | (rw [hR]; clear hg hR hnext hI hP hz; simp only [oF, hF, hB]; generalize dupF [] ps = D at *; generalize ps.length = n at *; simp_all; done)
            | (rw [hR]; clear hg hR hnext hI hP hz; simp only [oF, hF, hB]; generalize dupF [] ps = D at *; generalize ps.length = n at *; simp_all; omega)
        · rw [procI, hI, Int.zero_add] at h30
          have hgq := mid_get encP hxs
          have hltq := mid_lt hxs
          simp only [encP] at hgq
          have hneg : ¬ ((pre2.length : Int) < 0) := by omega
          simp (maxSteps := 1000000) -implicitDefEqProofs only [h1, h16, h17, h18, mid_lt hS, mid_wrap hS hlen, hg, neg1, hge, lt1, hgq, hltq, hneg, go_sem, ↓reduceIte, Nat.reduceEqDiff, Nat.reduceBEq, Int.reduceToNat, Nat.reduceAdd, Nat.reduceLT, Nat.reduceLeDiff, reduceCtorEq, Nat.reduceSub]
          repeat' (first | ((with_reducible first | refine cgR h30 ?_ ?_ | refine cgR h27 ?_ ?_ | refine cgR h26 ?_ ?_); (focus (simp [norefL, noref, norefL_app, norefL_str, norefL_int, norefL_encE, norefL_encS, norefL_encP, noref_encE, noref_encS, noref_encP, noref_encPl]; done)); simp (maxSteps := 1000000) -implicitDefEqProofs only [h1, h16, h17, h18, mid_lt hS, mid_wrap hS hlen, hg, neg1, hge, lt1, hgq, hltq, hneg, go_sem, ↓reduceIte, Nat.reduceEqDiff, Nat.reduceBEq, Int.reduceToNat, Nat.reduceAdd, Nat.reduceLT, Nat.reduceLeDiff, reduceCtorEq, Nat.reduceSub]) | ((with_reducible apply cgF); (focus ((simp (maxSteps := 1000000) -implicitDefEqProofs only [List.map_cons, List.map_nil, push_cast, ↓reduceIte, Nat.reduceEqDiff, reduceCtorEq, Nat.reduceAdd, Nat.reduceLT, Nat.reduceLeDiff] <;> rfl); done)); (with_reducible first | exact h30 | exact h27 | exact h26); (focus (rfl; done)); simp (maxSteps := 1000000) -implicitDefEqProofs only [h1, h16, h17, h18, mid_lt hS, mid_wrap hS hlen, hg, neg1, hge, lt1, hgq, hltq, hneg, go_sem, ↓reduceIte, Nat.reduceEqDiff, Nat.reduceBEq, Int.reduceToNat, Nat.reduceAdd, Nat.reduceLT, Nat.reduceLeDiff, reduceCtorEq, Nat.reduceSub]) | ((with_reducible show F _ _ (Cfg.code (SCode.qregion _) _ _ _)); refine F_q2 ?_; simp (maxSteps := 1000000) -implicitDefEqProofs only [h1, h16, h17, h18, mid_lt hS, mid_wrap hS hlen, hg, neg1, hge, lt1, hgq, hltq, hneg, go_sem, ↓reduceIte, Nat.reduceEqDiff, Nat.reduceBEq, Int.reduceToNat, Nat.reduceAdd, Nat.reduceLT, Nat.reduceLeDiff, reduceCtorEq, Nat.reduceSub]) | ((with_reducible show F _ _ (Cfg.code (SCode.pregion _ _ _ _ _) _ _ _)); refine F_p2 ?_; simp (maxSteps := 1000000) -implicitDefEqProofs only [h1, h16, h17, h18, mid_lt hS, mid_wrap hS hlen, hg, neg1, hge, lt1, hgq, hltq, hneg, go_sem, ↓reduceIte, Nat.reduceEqDiff, Nat.reduceBEq, Int.reduceToNat, Nat.reduceAdd, Nat.reduceLT, Nat.reduceLeDiff, reduceCtorEq, Nat.reduceSub]) | with_reducible refine Fork.mk (fun _ => ?_) (fun _ => ?_) | with_reducible refine And.intro ?_ ?_ | ((with_reducible show resP _ _ _ _ _); simp (maxSteps := 1000000) -implicitDefEqProofs only [r8, push_cast, ↓reduceIte, Nat.reduceEqDiff, reduceCtorEq, Nat.reduceAdd, Nat.reduceLT, Nat.reduceLeDiff]) | (intro _))
          all_goals clear h27 h26 h30 hok h24 h25
          all_goals first
            | ((with_reducible show F _ _ _)
               have hlen2 : ps.length ≤ 9223372036854775807 := by assumption
               have hO : oF ⟨xs, main⟩ (some qa.roles) k r t p ps = if dupF [] ps then 6 else 0 := by
                 clear hg hR hnext hI hP hz
                 simp only [oF, hQ, hB]
                 generalize dupF [] ps = D at *
                 generalize ps.length = n at *
                 simp_all <;> omega
               rw [hO] at hR hnext
               refine F_loop (fun m e H => ∃ p2 q2, ps = p2 ++ q2 ∧ m = q2.length ∧ dupF [] ps = dupF p2 q2 ∧ (∃ J2, H = Blk.row [.agg [.fs (xs.map encP), .fs (main.map encS)]] :: (J ++ J2) ∧ J2[1]? = some (Blk.row [.agg [.int .i64 k, .str r, .str t, .str v, .str l, .int .i64 ek, .int .i64 en, .str es, .fs (eas.map encE), .fs (a.map encS), .fs (b.map encS), .str p, .fs (ps.map .str)]])) ∧
                 e 1 = .ptr 0 0 0 ∧ e 16 = .fs (S.map encSp) ∧ e 17 = .int .i64 S.length ∧ e 18 = .int .i64 pre.length ∧ e 6 = .ptr (J.length + 2) 0 0 ∧ e 61 = .fs (ps.map .str) ∧ e 62 = .int .i64 ps.length ∧ e 63 = .int .i64 p2.length) ps.length ⟨[], ps, by simp [upd, env0, h1, h16, h17, h18]⟩ ?_
               rintro m e H ⟨p2, q2, hq, rfl, hd, ⟨J2, rfl, hJ2⟩, h1, h16, h17, h18, h6, h61, h62, h63⟩
               cases q2 with
               | nil =>
                 simp (maxSteps := 1000000) -implicitDefEqProofs only [h1, h16, h17, h18, h6, h61, h62, h63, mid_not hq, mid_lt hS, mid_wrap hS hlen, go_sem, ↓reduceIte, Nat.reduceEqDiff, Nat.reduceBEq, Int.reduceToNat, Nat.reduceAdd, Nat.reduceLT, Nat.reduceLeDiff, reduceCtorEq, Nat.reduceSub]
                 refine ⟨_, Nat.lt_succ_self _, pre ++ [(.mk k r t v l (.mk ek en es eas) a b p ps, (pa.length : Int), la)], post, _, by simp [hS], rfl, hnext ?_, rfl, by simp⟩
                 rw [hd]; simp [dupF]
               | cons y q2 =>
                 have hg2 := mid_get V.str hq
                 have ht2 := mid_take V.str hq
                 have hl2 : (p2.length : Int) ≤ ps.length := by rw [hq]; simp; omega
                 have hJ3 : (J ++ J2)[J.length + 1]? = J2[1]? := get_appS _ _ _
                 simp (maxSteps := 1000000) -implicitDefEqProofs only [h1, h16, h17, h18, h6, h61, h62, h63, hJ3, hJ2, hg2, mid_lt hq, mid_wrap hq hlen2, headOk_str, hl2, ht2, Int.le_refl, Int.natCast_nonneg, go_sem, ↓reduceIte, Nat.reduceEqDiff, Nat.reduceBEq, Int.reduceToNat, Nat.reduceAdd, Nat.reduceLT, Nat.reduceLeDiff, reduceCtorEq, Nat.reduceSub]
                 repeat' (first | ((with_reducible first | refine cgR (t29 p2 y) ?_ ?_); (focus (simp [norefL, noref, norefL_app, norefL_str, norefL_int, norefL_encE, norefL_encS, norefL_encP, noref_encE, noref_encS, noref_encP, noref_encPl]; done)); simp (maxSteps := 1000000) -implicitDefEqProofs only [h1, h16, h17, h18, h6, h61, h62, h63, hJ3, hJ2, hg2, mid_lt hq, mid_wrap hq hlen2, headOk_str, hl2, ht2, Int.le_refl, Int.natCast_nonneg, go_sem, ↓reduceIte, Nat.reduceEqDiff, Nat.reduceBEq, Int.reduceToNat, Nat.reduceAdd, Nat.reduceLT, Nat.reduceLeDiff, reduceCtorEq, Nat.reduceSub]) | ((with_reducible apply cgF); (focus ((simp (maxSteps := 1000000) -implicitDefEqProofs only [List.map_cons, List.map_nil, push_cast, ↓reduceIte, Nat.reduceEqDiff, reduceCtorEq, Nat.reduceAdd, Nat.reduceLT, Nat.reduceLeDiff] <;> rfl); done)); (with_reducible first | exact (t29 p2 y)); (focus (rfl; done)); simp (maxSteps := 1000000) -implicitDefEqProofs only [h1, h16, h17, h18, h6, h61, h62, h63, hJ3, hJ2, hg2, mid_lt hq, mid_wrap hq hlen2, headOk_str, hl2, ht2, Int.le_refl, Int.natCast_nonneg, go_sem, ↓reduceIte, Nat.reduceEqDiff, Nat.reduceBEq, Int.reduceToNat, Nat.reduceAdd, Nat.reduceLT, Nat.reduceLeDiff, reduceCtorEq, Nat.reduceSub]) | ((with_reducible show F _ _ (Cfg.code (SCode.qregion _) _ _ _)); refine F_q2 ?_; simp (maxSteps := 1000000) -implicitDefEqProofs only [h1, h16, h17, h18, h6, h61, h62, h63, hJ3, hJ2, hg2, mid_lt hq, mid_wrap hq hlen2, headOk_str, hl2, ht2, Int.le_refl, Int.natCast_nonneg, go_sem, ↓reduceIte, Nat.reduceEqDiff, Nat.reduceBEq, Int.reduceToNat, Nat.reduceAdd, Nat.reduceLT, Nat.reduceLeDiff, reduceCtorEq, Nat.reduceSub]) | ((with_reducible show F _ _ (Cfg.code (SCode.pregion _ _ _ _ _) _ _ _)); refine F_p2 ?_; simp (maxSteps := 1000000) -implicitDefEqProofs only [h1, h16, h17, h18, h6, h61, h62, h63, hJ3, hJ2, hg2, mid_lt hq, mid_wrap hq hlen2, headOk_str, hl2, ht2, Int.le_refl, Int.natCast_nonneg, go_sem, ↓reduceIte, Nat.reduceEqDiff, Nat.reduceBEq, Int.reduceToNat, Nat.reduceAdd, Nat.reduceLT, Nat.reduceLeDiff, reduceCtorEq, Nat.reduceSub]) | with_reducible refine Fork.mk (fun _ => ?_) (fun _ => ?_) | with_reducible refine And.intro ?_ ?_ | ((with_reducible show resP _ _ _ _ _); simp (maxSteps := 1000000) -implicitDefEqProofs only [r8, push_cast, ↓reduceIte, Nat.reduceEqDiff, reduceCtorEq, Nat.reduceAdd, Nat.reduceLT, Nat.reduceLeDiff]) | (intro _))
                 · rename_i hm
                   rw [hR, hd]; simp only [dupF, hm]; simp
                 · rename_i hm
                   refine ⟨_, Nat.lt_succ_self _, p2 ++ [y], q2, by simp [hq], rfl, ?_, ⟨J2, rfl, hJ2⟩, by simp [h1, h16, h17, h18, h6, h61, h62]⟩
                   rw [hd]; simp only [dupF, hm]; simp)
            | (refine ⟨_, Nat.lt_succ_self _, pre ++ [(.mk k r t v l (.mk ek en es eas) a b p ps, (pa.length : Int), la)], post, _, by simp [hS], rfl, hnext ?_, rfl, by simp⟩
               clear hg hR hnext hI hP hz
               simp only [oF, hQ, hB]; generalize dupF [] ps = D at *; generalize ps.length = n at *; simp_all; done)
            | (rw [hR]; clear hg hR hnext hI hP hz; simp only [oF, hQ, hB]; generalize dupF [] ps = D at *; generalize ps.length = n at *; simp_all; done)
            | (rw [hR]; clear hg hR hnext hI hP hz; simp only [oF, hQ, hB]; generalize dupF [] ps = D at *; generalize ps.length = n at *; simp_all; omega)
def stZ : St := .mk 0 ⟨#[]⟩ ⟨#[]⟩ ⟨#[]⟩ ⟨#[]⟩ (.mk 0 0 ⟨#[]⟩ []) [] [] ⟨#[]⟩ []
theorem encS_Z : encS stZ = .agg [.int .i64 0, .str ⟨#[]⟩, .str ⟨#[]⟩, .str ⟨#[]⟩, .str ⟨#[]⟩, .int .i64 0, .int .i64 0, .str ⟨#[]⟩, .fs [], .fs [], .fs [], .str ⟨#[]⟩, .fs []] := by
  rw [stZ, encS_mk]; rfl
def keyOf (P : Pla) (pr : Int) : ByteArray := if pr < 0 then ⟨#[]⟩ else ((P.procs[pr.toNat]?).map (·.name)).getD ⟨#[]⟩
theorem keyOf_at {P : Pla} {pa pb : List Pr} {qa : Pr} (h : P.procs = pa ++ qa :: pb) : keyOf P pa.length = qa.name := by
  rw [keyOf, if_neg (by omega)]; simp [h]
theorem t10z (P : Pla) (hc : total P ≤ 1000000) (n : Int) (hn : n < 0 ∨ (total P : Int) ≤ n) : PCall Tryz.prog 10 [encPl P, .int .i64 n] (· = .tup [encS stZ, .str ⟨#[]⟩, .int .i64 1]) := by
  have h25 := t25 P hc
  have hl := spots_length P
  rw [encS_Z]
  rcases P with ⟨xs, main⟩
  generalize spots ⟨xs, main⟩ = S at *
  simp only [encPl] at h25
  have hw : IntKind.i64.wrap ((S.length : Int) - 1) = (S.length : Int) - 1 := wrap_int (by omega) (by omega)
  have q31 : PCall Tryz.prog 31 [.int .i64 n, .int .i64 0, .int .i64 ((S.length : Int) - 1)] (· = .bool false) := by
    have := t31 n 0 ((S.length : Int) - 1)
    rwa [show (decide (0 ≤ n) && decide (n ≤ (S.length : Int) - 1)) = false by simp; omega] at this
  refine PCall.intro c10 300 (by simp) 20 ?_
  simp (maxSteps := 1000000) -implicitDefEqProofs only [s10, encPl, hw, go_sem, ↓reduceIte, Nat.reduceEqDiff, Nat.reduceBEq, Int.reduceToNat, Nat.reduceAdd, Nat.reduceLT, Nat.reduceLeDiff, reduceCtorEq, Nat.reduceSub]
  repeat' (first | ((with_reducible first | refine cgR h25 ?_ ?_ | refine cgR q31 ?_ ?_); (focus (simp [norefL, noref, norefL_app, norefL_str, norefL_int, norefL_encE, norefL_encS, norefL_encP, noref_encE, noref_encS, noref_encP, noref_encPl]; done)); simp (maxSteps := 1000000) -implicitDefEqProofs only [hw, go_sem, ↓reduceIte, Nat.reduceEqDiff, Nat.reduceBEq, Int.reduceToNat, Nat.reduceAdd, Nat.reduceLT, Nat.reduceLeDiff, reduceCtorEq, Nat.reduceSub]) | ((with_reducible apply cgF); (focus ((simp (maxSteps := 1000000) -implicitDefEqProofs only [List.map_cons, List.map_nil, push_cast, ↓reduceIte, Nat.reduceEqDiff, reduceCtorEq, Nat.reduceAdd, Nat.reduceLT, Nat.reduceLeDiff] <;> rfl); done)); (with_reducible first | exact h25 | exact q31); (focus (rfl; done)); simp (maxSteps := 1000000) -implicitDefEqProofs only [hw, go_sem, ↓reduceIte, Nat.reduceEqDiff, Nat.reduceBEq, Int.reduceToNat, Nat.reduceAdd, Nat.reduceLT, Nat.reduceLeDiff, reduceCtorEq, Nat.reduceSub]) | ((with_reducible show F _ _ (Cfg.code (SCode.qregion _) _ _ _)); refine F_q2 ?_; simp (maxSteps := 1000000) -implicitDefEqProofs only [hw, go_sem, ↓reduceIte, Nat.reduceEqDiff, Nat.reduceBEq, Int.reduceToNat, Nat.reduceAdd, Nat.reduceLT, Nat.reduceLeDiff, reduceCtorEq, Nat.reduceSub]) | ((with_reducible show F _ _ (Cfg.code (SCode.pregion _ _ _ _ _) _ _ _)); refine F_p2 ?_; simp (maxSteps := 1000000) -implicitDefEqProofs only [hw, go_sem, ↓reduceIte, Nat.reduceEqDiff, Nat.reduceBEq, Int.reduceToNat, Nat.reduceAdd, Nat.reduceLT, Nat.reduceLeDiff, reduceCtorEq, Nat.reduceSub]) | with_reducible refine Fork.mk (fun _ => ?_) (fun _ => ?_) | with_reducible refine And.intro ?_ ?_ | ((with_reducible show resP _ _ _ _ _); simp (maxSteps := 1000000) -implicitDefEqProofs only [r10, push_cast, ↓reduceIte, Nat.reduceEqDiff, reduceCtorEq, Nat.reduceAdd, Nat.reduceLT, Nat.reduceLeDiff]) | (intro _))
theorem t10 (P : Pla) (hc : total P ≤ 1000000) (pre post : List Spo) (x : Spo) (hx : spots P = pre ++ x :: post) : PCall Tryz.prog 10 [encPl P, .int .i64 pre.length] (· = .tup [encS x.1, .str (keyOf P x.2.1), .int .i64 0]) := by
  have h25 := t25 P hc
  have hl := spots_length P
  have hok := spots_ok P x (by rw [hx]; simp)
  rcases P with ⟨xs, main⟩
  generalize spots ⟨xs, main⟩ = S at *
  simp only [encPl] at h25
  have hw : IntKind.i64.wrap ((S.length : Int) - 1) = (S.length : Int) - 1 := wrap_int (by omega) (by omega)
  have q31 : PCall Tryz.prog 31 [.int .i64 pre.length, .int .i64 0, .int .i64 ((S.length : Int) - 1)] (· = .bool true) := by
    have := t31 pre.length 0 ((S.length : Int) - 1)
    rwa [show (decide ((0 : Int) ≤ pre.length) && decide ((pre.length : Int) ≤ (S.length : Int) - 1)) = true by simp [hx]; omega] at this
  have hg := mid_get encSp hx
  rcases x with ⟨⟨k, r, t, v, l, ⟨ek, en, es, eas⟩, a, b, p, ps⟩, pr, la⟩
  rw [encSp_mk] at hg
  rw [encS_mk]
  have hlt := mid_lt hx
  rcases hok with hok | ⟨pa, qa, pb, hA, hok⟩
  · simp only at hok
    subst hok
    refine PCall.intro c10 300 (by simp) 20 ?_
    simp (maxSteps := 1000000) -implicitDefEqProofs only [s10, encPl, hw, go_sem, ↓reduceIte, Nat.reduceEqDiff, Nat.reduceBEq, Int.reduceToNat, Nat.reduceAdd, Nat.reduceLT, Nat.reduceLeDiff, reduceCtorEq, Nat.reduceSub]
    repeat' (first | ((with_reducible first | refine cgR h25 ?_ ?_ | refine cgR q31 ?_ ?_); (focus (simp [norefL, noref, norefL_app, norefL_str, norefL_int, norefL_encE, norefL_encS, norefL_encP, noref_encE, noref_encS, noref_encP, noref_encPl]; done)); simp (maxSteps := 1000000) -implicitDefEqProofs only [hw, hg, hlt, neg1, go_sem, ↓reduceIte, Nat.reduceEqDiff, Nat.reduceBEq, Int.reduceToNat, Nat.reduceAdd, Nat.reduceLT, Nat.reduceLeDiff, reduceCtorEq, Nat.reduceSub]) | ((with_reducible apply cgF); (focus ((simp (maxSteps := 1000000) -implicitDefEqProofs only [List.map_cons, List.map_nil, push_cast, ↓reduceIte, Nat.reduceEqDiff, reduceCtorEq, Nat.reduceAdd, Nat.reduceLT, Nat.reduceLeDiff] <;> rfl); done)); (with_reducible first | exact h25 | exact q31); (focus (rfl; done)); simp (maxSteps := 1000000) -implicitDefEqProofs only [hw, hg, hlt, neg1, go_sem, ↓reduceIte, Nat.reduceEqDiff, Nat.reduceBEq, Int.reduceToNat, Nat.reduceAdd, Nat.reduceLT, Nat.reduceLeDiff, reduceCtorEq, Nat.reduceSub]) | ((with_reducible show F _ _ (Cfg.code (SCode.qregion _) _ _ _)); refine F_q2 ?_; simp (maxSteps := 1000000) -implicitDefEqProofs only [hw, hg, hlt, neg1, go_sem, ↓reduceIte, Nat.reduceEqDiff, Nat.reduceBEq, Int.reduceToNat, Nat.reduceAdd, Nat.reduceLT, Nat.reduceLeDiff, reduceCtorEq, Nat.reduceSub]) | ((with_reducible show F _ _ (Cfg.code (SCode.pregion _ _ _ _ _) _ _ _)); refine F_p2 ?_; simp (maxSteps := 1000000) -implicitDefEqProofs only [hw, hg, hlt, neg1, go_sem, ↓reduceIte, Nat.reduceEqDiff, Nat.reduceBEq, Int.reduceToNat, Nat.reduceAdd, Nat.reduceLT, Nat.reduceLeDiff, reduceCtorEq, Nat.reduceSub]) | with_reducible refine Fork.mk (fun _ => ?_) (fun _ => ?_) | with_reducible refine And.intro ?_ ?_ | ((with_reducible show resP _ _ _ _ _); simp (maxSteps := 1000000) -implicitDefEqProofs only [r10, push_cast, ↓reduceIte, Nat.reduceEqDiff, reduceCtorEq, Nat.reduceAdd, Nat.reduceLT, Nat.reduceLeDiff]) | (intro _))
    all_goals simp [keyOf]
  · simp only at hok hA
    subst hok
    have hgq := mid_get encP hA
    have hltq := mid_lt hA
    simp only [encP] at hgq
    have hge : (0 ≤ (pa.length : Int)) = True := by simp
    rw [keyOf_at (P := ⟨xs, main⟩) hA]
    refine PCall.intro c10 300 (by simp) 20 ?_
    simp (maxSteps := 1000000) -implicitDefEqProofs only [s10, encPl, hw, go_sem, ↓reduceIte, Nat.reduceEqDiff, Nat.reduceBEq, Int.reduceToNat, Nat.reduceAdd, Nat.reduceLT, Nat.reduceLeDiff, reduceCtorEq, Nat.reduceSub]
    repeat' (first | ((with_reducible first | refine cgR h25 ?_ ?_ | refine cgR q31 ?_ ?_); (focus (simp [norefL, noref, norefL_app, norefL_str, norefL_int, norefL_encE, norefL_encS, norefL_encP, noref_encE, noref_encS, noref_encP, noref_encPl]; done)); simp (maxSteps := 1000000) -implicitDefEqProofs only [hw, hg, hlt, hgq, hltq, hge, go_sem, ↓reduceIte, Nat.reduceEqDiff, Nat.reduceBEq, Int.reduceToNat, Nat.reduceAdd, Nat.reduceLT, Nat.reduceLeDiff, reduceCtorEq, Nat.reduceSub]) | ((with_reducible apply cgF); (focus ((simp (maxSteps := 1000000) -implicitDefEqProofs only [List.map_cons, List.map_nil, push_cast, ↓reduceIte, Nat.reduceEqDiff, reduceCtorEq, Nat.reduceAdd, Nat.reduceLT, Nat.reduceLeDiff] <;> rfl); done)); (with_reducible first | exact h25 | exact q31); (focus (rfl; done)); simp (maxSteps := 1000000) -implicitDefEqProofs only [hw, hg, hlt, hgq, hltq, hge, go_sem, ↓reduceIte, Nat.reduceEqDiff, Nat.reduceBEq, Int.reduceToNat, Nat.reduceAdd, Nat.reduceLT, Nat.reduceLeDiff, reduceCtorEq, Nat.reduceSub]) | ((with_reducible show F _ _ (Cfg.code (SCode.qregion _) _ _ _)); refine F_q2 ?_; simp (maxSteps := 1000000) -implicitDefEqProofs only [hw, hg, hlt, hgq, hltq, hge, go_sem, ↓reduceIte, Nat.reduceEqDiff, Nat.reduceBEq, Int.reduceToNat, Nat.reduceAdd, Nat.reduceLT, Nat.reduceLeDiff, reduceCtorEq, Nat.reduceSub]) | ((with_reducible show F _ _ (Cfg.code (SCode.pregion _ _ _ _ _) _ _ _)); refine F_p2 ?_; simp (maxSteps := 1000000) -implicitDefEqProofs only [hw, hg, hlt, hgq, hltq, hge, go_sem, ↓reduceIte, Nat.reduceEqDiff, Nat.reduceBEq, Int.reduceToNat, Nat.reduceAdd, Nat.reduceLT, Nat.reduceLeDiff, reduceCtorEq, Nat.reduceSub]) | with_reducible refine Fork.mk (fun _ => ?_) (fun _ => ?_) | with_reducible refine And.intro ?_ ?_ | ((with_reducible show resP _ _ _ _ _); simp (maxSteps := 1000000) -implicitDefEqProofs only [r10, push_cast, ↓reduceIte, Nat.reduceEqDiff, reduceCtorEq, Nat.reduceAdd, Nat.reduceLT, Nat.reduceLeDiff]) | (intro _))
mutual
def fE1 {σ : Type} (f : σ → Int → St → σ) : σ → St → Int → σ
  | st, .mk k r t v l e a b p ps, n => fE f (fE f (f st n (.mk k r t v l e a b p ps)) a (n + 1)) b (n + 1 + cnts a)
def fE {σ : Type} (f : σ → Int → St → σ) : σ → List St → Int → σ
  | st, [], _ => st
  | st, x :: l, n => fE f (fE1 f st x n) l (n + cnt x)
end
theorem fE_append {σ : Type} (f : σ → Int → St → σ) : ∀ (a b : List St) (st : σ) (n : Int), fE f st (a ++ b) n = fE f (fE f st a n) b (n + cnts a)
  | [], b, st, n => by simp [fE, cnts]
  | x :: a, b, st, n => by
    rw [List.cons_append, fE, fE, fE_append f a b, cnts]
    congr 1; omega
structure TOK {σ : Type} (N : Nat) (T : σ → List Blk) : Prop where
  len : ∀ st, (T st).length = N
  row : ∀ st st' (i : Nat) es, (T st')[i]? = some (.row es) → (T st)[i]? = some (.row es) ∨ norefL es = true
theorem TOK.app {σ : Type} {N : Nat} {T : σ → List Blk} (h : TOK N T) (L : List Blk) : TOK (N + L.length) (fun st => T st ++ L) where
  len st := by simp [h.len]
  row st st' i es hi := by
    show (T st ++ L)[i]? = _ ∨ _
    have hi : (T st' ++ L)[i]? = some (.row es) := hi
    by_cases hl : i < N
    · rw [List.getElem?_append_left (by rw [h.len]; exact hl)] at hi ⊢; exact h.row st st' i es hi
    · rw [List.getElem?_append_right (by rw [h.len]; omega), h.len] at hi ⊢; exact .inl hi
theorem TOK.get {σ : Type} {N : Nat} {T : σ → List Blk} (h : TOK N T) (st : σ) (J l : List Blk) : (T st ++ (J ++ l))[N + J.length]? = l[0]? := by
  rw [List.getElem?_append_right (by rw [h.len]; omega), h.len, Nat.add_sub_cancel_left, get_app0]
theorem TOK.set {σ : Type} {N : Nat} {T : σ → List Blk} (h : TOK N T) (st : σ) (J l : List Blk) (x : Blk) : (T st ++ (J ++ l)).set (N + J.length) x = T st ++ (J ++ l.set 0 x) := by
  rw [List.set_append_right _ _ (by rw [h.len]; omega), h.len, Nat.add_sub_cancel_left, set_app0]
def CB {σ : Type} (g : FuncId) (first caps : List V) (T : σ → List Blk) (f : σ → Int → St → σ) : Prop :=
  ∀ st n x J, ACall Tryz.prog g (first ++ (.int .i64 n :: encS x :: caps)) (T st ++ J) (ret1 (.tup []) (T (f st n x) ++ J))
theorem CB.app {σ : Type} {g : FuncId} {first caps : List V} {T : σ → List Blk} {f : σ → Int → St → σ} (h : CB g first caps T f) (L : List Blk) : CB g first caps (fun st => T st ++ L) f := by
  intro st n x J
  have := h st n x (L ++ J)
  simpa only [List.append_assoc] using this
set_option maxRecDepth 20000 in
theorem t51s {σ : Type} (f : σ → Int → St → σ) (g : FuncId) (first caps : List V) (xs : List St) {N : Nat} {T : σ → List Blk} (hT : TOK N T) (hcb : CB g first caps T f) (st : σ) (n : Int) (hn0 : 0 ≤ n) (hn : n + cnts xs ≤ 1000000)
    (h : ∀ k r t v l e a b p ps, St.mk k r t v l e a b p ps ∈ xs → ∀ (N : Nat) (T : σ → List Blk), TOK N T → CB g first caps T f → ∀ (st : σ) (n : Int), 0 ≤ n →
      (n + cnts a ≤ 1000000 → ACall Tryz.prog 51 [.fs (a.map encS), .int .i64 n, .clos g first caps] (T st) (ret1 (.int .i64 (n + cnts a)) (T (fE f st a n)))) ∧
      (n + cnts b ≤ 1000000 → ACall Tryz.prog 51 [.fs (b.map encS), .int .i64 n, .clos g first caps] (T st) (ret1 (.int .i64 (n + cnts b)) (T (fE f st b n))))) :
    ACall Tryz.prog 51 [.fs (xs.map encS), .int .i64 n, .clos g first caps] (T st) (ret1 (.int .i64 (n + cnts xs)) (T (fE f st xs n))) := by
  refine ACall.trim ?_
  refine ACall.intro c51 400 (by simp) ?_
  simp (maxSteps := 1000000) -implicitDefEqProofs only [s51, go_sem, ↓reduceIte, Nat.reduceEqDiff, Nat.reduceBEq, Int.reduceToNat, Nat.reduceAdd, Nat.reduceLT, Nat.reduceLeDiff, reduceCtorEq, Nat.reduceSub]
  intro hlen
  refine F_loop (fun m e H => ∃ pre post J, xs = pre ++ post ∧ m = post.length ∧ e 1 = .int .i64 (n + cnts pre) ∧ e 2 = .clos g first caps ∧ e 9 = .fs (xs.map encS) ∧ e 10 = .int .i64 xs.length ∧ e 11 = .int .i64 pre.length ∧ H = T (fE f st pre n) ++ J) xs.length ⟨[], xs, [], by simp [upd, env0, cnts, fE]⟩ ?_
  rintro m e H ⟨pre, post, J, hxs, rfl, h1, h2, h9, h10, h11, rfl⟩
  cases post with
  | nil =>
    have hpx : pre = xs := by rw [hxs]; simp
    simp (maxSteps := 1000000) -implicitDefEqProofs only [h1, h2, h9, h10, h11, mid_not hxs, go_sem, ↓reduceIte, Nat.reduceEqDiff, Nat.reduceBEq, Int.reduceToNat, Nat.reduceAdd, Nat.reduceLT, Nat.reduceLeDiff, reduceCtorEq, Nat.reduceSub]
    simp (maxSteps := 1000000) -implicitDefEqProofs only [r51, push_cast, ↓reduceIte, Nat.reduceEqDiff, reduceCtorEq, Nat.reduceAdd, Nat.reduceLT, Nat.reduceLeDiff]
    exact ⟨_, _, rfl, by rw [hT.len, hT.len], hT.row _ _, by rw [hpx], by rw [hpx]⟩
  | cons y post =>
    have hg := mid_get encS hxs
    have hcy : cnts xs = cnts pre + (cnt y + cnts post) := by rw [hxs, cnts_append, cnts]
    have hcb1 := fun J => hcb (fE f st pre n) (n + cnts pre) y J
    have hfy : fE f st (pre ++ [y]) n = fE1 f (fE f st pre n) y (n + cnts pre) := by rw [fE_append]; rfl
    have hcc : cnts (pre ++ [y]) = cnts pre + cnt y := by rw [cnts_append]; simp [cnts]
    generalize fE f st pre n = s0 at *
    rcases y with ⟨k, r, t, v, l, ⟨ek, en, es, eas⟩, a, b, p, ps⟩
    rw [fE1] at hfy
    generalize f s0 (n + cnts pre) (.mk k r t v l (.mk ek en es eas) a b p ps) = s1 at *
    simp only [cnt] at hcy hcc
    rw [encS_mk] at hg
    simp only [encS_mk] at hcb1
    have w1 := wrap_int (x := n + cnts pre + 1) (by omega) (by omega)
    have hlT := hT.len
    simp (maxSteps := 1000000) -implicitDefEqProofs only [h1, h2, h9, h10, h11, mid_lt hxs, mid_wrap hxs hlen, hg, hlT, hT.get, hT.set, go_sem, ↓reduceIte, Nat.reduceEqDiff, Nat.reduceBEq, Int.reduceToNat, Nat.reduceAdd, Nat.reduceLT, Nat.reduceLeDiff, reduceCtorEq, Nat.reduceSub]
    refine ACall.of1 (hcb1 _) ?_
    simp (maxSteps := 1000000) -implicitDefEqProofs only [h1, h2, h9, h10, h11, mid_lt hxs, mid_wrap hxs hlen, hg, hlT, hT.get, hT.set, w1, go_sem, ↓reduceIte, Nat.reduceEqDiff, Nat.reduceBEq, Int.reduceToNat, Nat.reduceAdd, Nat.reduceLT, Nat.reduceLeDiff, reduceCtorEq, Nat.reduceSub]
    have hh := h k r t v l (.mk ek en es eas) a b p ps (by rw [hxs]; simp) _ _ (hT.app (J ++ [Blk.row [.agg [.int .i64 k, .str r, .str t, .str v, .str l, .int .i64 ek, .int .i64 en, .str es, .fs (eas.map encE), .fs (a.map encS), .fs (b.map encS), .str p, .fs (ps.map .str)]]])) (hcb.app _)
    refine ACall.of1 ((hh s1 (n + cnts pre + 1) (by omega)).1 (by omega)) ?_
    simp (maxSteps := 1000000) -implicitDefEqProofs only [h1, h2, h9, h10, h11, mid_lt hxs, mid_wrap hxs hlen, hg, hlT, hT.get, hT.set, w1, go_sem, ↓reduceIte, Nat.reduceEqDiff, Nat.reduceBEq, Int.reduceToNat, Nat.reduceAdd, Nat.reduceLT, Nat.reduceLeDiff, reduceCtorEq, Nat.reduceSub]
    refine ACall.of1 ((hh _ (n + cnts pre + 1 + cnts a) (by omega)).2 (by omega)) ?_
    simp (maxSteps := 1000000) -implicitDefEqProofs only [h1, h2, h9, h10, h11, mid_lt hxs, mid_wrap hxs hlen, hg, hlT, hT.get, hT.set, w1, go_sem, ↓reduceIte, Nat.reduceEqDiff, Nat.reduceBEq, Int.reduceToNat, Nat.reduceAdd, Nat.reduceLT, Nat.reduceLeDiff, reduceCtorEq, Nat.reduceSub]
    rw [← hfy]
    refine ⟨_, Nat.lt_succ_self _, pre ++ [.mk k r t v l (.mk ek en es eas) a b p ps], post, _, by simp [hxs], rfl, ?_, by simp, rfl⟩
    rw [hcc]; simp only [Int.natCast_add, Int.natCast_one]; congr 1; omega
theorem t51 {σ : Type} (f : σ → Int → St → σ) (g : FuncId) (first caps : List V) : ∀ (m : Nat) (xs : List St), SizeOf.sizeOf xs < m → ∀ (N : Nat) (T : σ → List Blk), TOK N T → CB g first caps T f → ∀ (st : σ) (n : Int), 0 ≤ n → n + cnts xs ≤ 1000000 →
    ACall Tryz.prog 51 [.fs (xs.map encS), .int .i64 n, .clos g first caps] (T st) (ret1 (.int .i64 (n + cnts xs)) (T (fE f st xs n)))
  | 0, xs, h => absurd h (Nat.not_lt_zero _)
  | m + 1, xs, hm => fun N T hT hcb st n h0 h1 => t51s f g first caps xs hT hcb st n h0 h1 (fun k r t v l e a b p ps hmem N T hT hcb st n h0 => by
    have hs := List.sizeOf_lt_of_mem hmem
    simp only [St.mk.sizeOf_spec] at hs
    exact ⟨fun hc => t51 f g first caps m a (by omega) N T hT hcb st n h0 hc, fun hc => t51 f g first caps m b (by omega) N T hT hcb st n h0 hc⟩)
def CB3 {σ : Type} (g : FuncId) (first caps : List V) (T : σ → List Blk) (f : σ → Int → Int → St → σ) (ok : Int → Prop) : Prop :=
  ∀ st n pr x J, ok pr → ACall Tryz.prog g (first ++ (.int .i64 n :: .int .i64 pr :: encS x :: caps)) (T st ++ J) (ret1 (.tup []) (T (f st n pr x) ++ J))
theorem TOK.getL {σ : Type} {N : Nat} {T : σ → List Blk} (h : TOK N T) (st : σ) {L : List Blk} {j : Nat} {b : Blk} (hL : L[j]? = some b) (l : List Blk) : (T st ++ (L ++ l))[N + j]? = some b := by
  rw [List.getElem?_append_right (by rw [h.len]; omega), h.len, Nat.add_sub_cancel_left, List.getElem?_append_left (List.getElem?_eq_some_iff.1 hL).1, hL]
theorem TOK.get2 {σ : Type} {N : Nat} {T : σ → List Blk} (h : TOK N T) (st : σ) (L J l : List Blk) : (T st ++ (L ++ (J ++ l)))[N + (L.length + J.length)]? = l[0]? := by
  rw [← List.append_assoc L J l, ← List.length_append]; exact h.get st _ _
theorem TOK.at0 {σ : Type} {N : Nat} {T : σ → List Blk} (h : TOK N T) (st : σ) (l : List Blk) : (T st ++ l)[N]? = l[0]? := by
  have := h.get st [] l
  simpa using this
theorem TOK.atS {σ : Type} {N : Nat} {T : σ → List Blk} (h : TOK N T) (st : σ) (l : List Blk) (k : Nat) : (T st ++ l)[N + k]? = l[k]? := by
  rw [List.getElem?_append_right (by rw [h.len]; omega), h.len, Nat.add_sub_cancel_left]
theorem TOK.setS {σ : Type} {N : Nat} {T : σ → List Blk} (h : TOK N T) (st : σ) (l : List Blk) (k : Nat) (x : Blk) : (T st ++ l).set (N + k) x = T st ++ l.set k x := by
  rw [List.set_append_right _ _ (by rw [h.len]; omega), h.len, Nat.add_sub_cancel_left]
theorem cb52 {σ : Type} {N : Nat} {T : σ → List Blk} (hT : TOK N T) {g : FuncId} {first caps : List V} {f : σ → Int → Int → St → σ} {ok : Int → Prop} (hok : ok (-1)) (hcb : CB3 g first caps T f ok) {L : List Blk} {j : Nat} (hL : L[j]? = some (.row [.clos g first caps])) :
    CB 52 [] [.ptr (N + j) 0 0] (fun st => T st ++ L) (fun st n x => f st n (-1) x) := by
  intro st n x J
  have hlT := hT.len
  have hg := fun st l => hT.getL st hL l
  have hc := fun J => hcb st n (-1) x J hok
  show ACall Tryz.prog 52 ([] ++ (.int .i64 n :: encS x :: [.ptr (N + j) 0 0])) ((T st ++ L) ++ J) (ret1 (.tup []) ((T (f st n (-1) x) ++ L) ++ J))
  generalize f st n (-1) x = s1 at *
  rcases x with ⟨k, r, t, v, l, ⟨ek, en, es, eas⟩, a, b, p, ps⟩
  rw [encS_mk] at *
  refine ACall.trim ?_
  refine ACall.intro c52 100 (by simp) ?_
  simp (maxSteps := 1000000) -implicitDefEqProofs only [s52, hlT, hg, hT.get2, go_sem, ↓reduceIte, Nat.reduceEqDiff, Nat.reduceBEq, Int.reduceToNat, Nat.reduceAdd, Nat.reduceLT, Nat.reduceLeDiff, reduceCtorEq, Nat.reduceSub]
  refine ACall.of1 (hc _) ?_
  simp (maxSteps := 1000000) -implicitDefEqProofs only [hlT, hg, hT.get2, go_sem, ↓reduceIte, Nat.reduceEqDiff, Nat.reduceBEq, Int.reduceToNat, Nat.reduceAdd, Nat.reduceLT, Nat.reduceLeDiff, reduceCtorEq, Nat.reduceSub]
  simp (maxSteps := 1000000) -implicitDefEqProofs only [r52, push_cast, ↓reduceIte, Nat.reduceEqDiff, reduceCtorEq, Nat.reduceAdd, Nat.reduceLT, Nat.reduceLeDiff]
  refine ⟨T s1 ++ (L ++ J), _, by simp; rfl, by simp [hlT], fun i es hi => ?_, rfl⟩
  have := (hT.app (L ++ J)).row st s1 i es
  simpa using this (by simpa using hi)
theorem cb53 {σ : Type} {N : Nat} {T : σ → List Blk} (hT : TOK N T) {g : FuncId} {first caps : List V} {f : σ → Int → Int → St → σ} {ok : Int → Prop} {pr : Int} (hok : ok pr) (hcb : CB3 g first caps T f ok) {L : List Blk} {j i : Nat} (hL : L[j]? = some (.row [.clos g first caps]))
    (hi : L[i]? = some (.row [.int .i64 pr])) : CB 53 [] [.ptr (N + j) 0 0, .ptr (N + i) 0 0] (fun st => T st ++ L) (fun st n x => f st n pr x) := by
  intro st n x J
  have hlT := hT.len
  have hg := fun st l => hT.getL st hL l
  have hg2 := fun st l => hT.getL st hi l
  have hc := fun J => hcb st n pr x J hok
  show ACall Tryz.prog 53 ([] ++ (.int .i64 n :: encS x :: [.ptr (N + j) 0 0, .ptr (N + i) 0 0])) ((T st ++ L) ++ J) (ret1 (.tup []) ((T (f st n pr x) ++ L) ++ J))
  generalize f st n pr x = s1 at *
  rcases x with ⟨k, r, t, v, l, ⟨ek, en, es, eas⟩, a, b, p, ps⟩
  rw [encS_mk] at *
  refine ACall.trim ?_
  refine ACall.intro c53 100 (by simp) ?_
  simp (maxSteps := 1000000) -implicitDefEqProofs only [s53, hlT, hg, hg2, hT.get2, go_sem, ↓reduceIte, Nat.reduceEqDiff, Nat.reduceBEq, Int.reduceToNat, Nat.reduceAdd, Nat.reduceLT, Nat.reduceLeDiff, reduceCtorEq, Nat.reduceSub]
  refine ACall.of1 (hc _) ?_
  simp (maxSteps := 1000000) -implicitDefEqProofs only [hlT, hg, hg2, hT.get2, go_sem, ↓reduceIte, Nat.reduceEqDiff, Nat.reduceBEq, Int.reduceToNat, Nat.reduceAdd, Nat.reduceLT, Nat.reduceLeDiff, reduceCtorEq, Nat.reduceSub]
  simp (maxSteps := 1000000) -implicitDefEqProofs only [r53, push_cast, ↓reduceIte, Nat.reduceEqDiff, reduceCtorEq, Nat.reduceAdd, Nat.reduceLT, Nat.reduceLeDiff]
  refine ⟨T s1 ++ (L ++ J), _, by simp; rfl, by simp [hlT], fun i es hi => ?_, rfl⟩
  have := (hT.app (L ++ J)).row st s1 i es
  simpa using this (by simpa using hi)
def fP {σ : Type} (f : σ → Int → Int → St → σ) : σ → List Pr → Nat → Int → σ
  | st, [], _, _ => st
  | st, q :: l, i, n => fP f (fE (fun st n x => f st n i x) st q.steps n) l (i + 1) (n + cnts q.steps)
theorem fP_append {σ : Type} (f : σ → Int → Int → St → σ) : ∀ (a b : List Pr) (st : σ) (i : Nat) (n : Int), fP f st (a ++ b) i n = fP f (fP f st a i n) b (i + a.length) (n + cntP a)
  | [], b, st, i, n => by simp [fP, cntP]
  | x :: a, b, st, i, n => by
    rw [List.cons_append, fP, fP, fP_append f a b, cntP, List.length_cons]
    congr 1
    · omega
    · omega
def fEP {σ : Type} (f : σ → Int → Int → St → σ) (st : σ) (P : Pla) : σ := fP f (fE (fun st n x => f st n (-1) x) st P.main 0) P.procs 0 (cnts P.main)
set_option maxRecDepth 20000 in
theorem t22 {σ : Type} {N : Nat} {T : σ → List Blk} (hT : TOK N T) {g : FuncId} {first caps : List V} {f : σ → Int → Int → St → σ} {ok : Int → Prop} (P : Pla) (hc : total P ≤ 1000000) (hok : ok (-1)) (hok2 : ∀ pa qa pb, P.procs = pa ++ qa :: pb → ok pa.length) (hcb : CB3 g first caps T f ok) (st : σ) :
    ACall Tryz.prog 22 [encPl P, .clos g first caps] (T st) (ret1 (.tup []) (T (fEP f st P))) := by
  rcases P with ⟨xs, main⟩
  simp only [total] at hc
  have hlT := hT.len
  refine ACall.trim ?_
  refine ACall.intro c22 100 (by simp) ?_
  simp (maxSteps := 1000000) -implicitDefEqProofs only [s22, encPl, hlT, hT.at0, hT.atS, go_sem, ↓reduceIte, Nat.reduceEqDiff, Nat.reduceBEq, Int.reduceToNat, Nat.reduceAdd, Nat.reduceLT, Nat.reduceLeDiff, reduceCtorEq, Nat.reduceSub]
  refine ACall.of1 (t51 (fun st n x => f st n (-1) x) 52 [] [.ptr (N + 1) 0 0] _ main (Nat.lt_succ_self _) (N + 2) _ (hT.app [_, _]) (cb52 hT hok hcb (L := [_, _]) (j := 1) rfl) st 0 (by omega) (by omega)) ?_
  simp (maxSteps := 1000000) -implicitDefEqProofs only [hlT, hT.at0, hT.atS, go_sem, ↓reduceIte, Nat.reduceEqDiff, Nat.reduceBEq, Int.reduceToNat, Nat.reduceAdd, Nat.reduceLT, Nat.reduceLeDiff, reduceCtorEq, Nat.reduceSub]
  intro hlen
  generalize hs0 : fE (fun st n x => f st n (-1) x) st main 0 = s0
  refine F_loop (fun m e H => ∃ pre post J, xs = pre ++ post ∧ m = post.length ∧ e 3 = .ptr (N + 1) 0 0 ∧ e 4 = .int .i64 ((cnts main : Int) + cntP pre) ∧ e 12 = .fs (xs.map encP) ∧ e 13 = .int .i64 xs.length ∧ e 14 = .int .i64 pre.length ∧
    H = T (fP f s0 pre 0 (cnts main)) ++ (Blk.row [.agg [.fs (xs.map encP), .fs (main.map encS)]] :: Blk.row [.clos g first caps] :: J)) xs.length ⟨[], xs, [], by simp [upd, env0, cntP, fP]⟩ ?_
  rintro m e H ⟨pre, post, J, hxs, rfl, h3, h4, h12, h13, h14, rfl⟩
  cases post with
  | nil =>
    have hpx : pre = xs := by rw [hxs]; simp
    simp (maxSteps := 1000000) -implicitDefEqProofs only [h3, h4, h12, h13, h14, mid_not hxs, go_sem, ↓reduceIte, Nat.reduceEqDiff, Nat.reduceBEq, Int.reduceToNat, Nat.reduceAdd, Nat.reduceLT, Nat.reduceLeDiff, reduceCtorEq, Nat.reduceSub]
    simp (maxSteps := 1000000) -implicitDefEqProofs only [r22, push_cast, ↓reduceIte, Nat.reduceEqDiff, reduceCtorEq, Nat.reduceAdd, Nat.reduceLT, Nat.reduceLeDiff]
    refine ⟨_, _, rfl, by simp [hT.len], hT.row _ _, ?_⟩
    rw [hpx, fEP, hs0]
  | cons q post =>
    have hg := mid_get encP hxs
    simp only [encP] at hg
    have hcq : cntP xs = cntP pre + (cnts q.steps + cntP post) := by rw [hxs, cntP_append, cntP]
    have hfq : fP f s0 (pre ++ [q]) 0 (cnts main) = fE (fun st n x => f st n pre.length x) (fP f s0 pre 0 (cnts main)) q.steps ((cnts main : Int) + cntP pre) := by
      rw [fP_append, fP, fP, Nat.zero_add]
    generalize fP f s0 pre 0 (cnts main) = s1 at *
    simp (maxSteps := 1000000) -implicitDefEqProofs only [h3, h4, h12, h13, h14, mid_lt hxs, mid_wrap hxs hlen, hg, hlT, hT.at0, hT.atS, hT.setS, go_sem, ↓reduceIte, Nat.reduceEqDiff, Nat.reduceBEq, Int.reduceToNat, Nat.reduceAdd, Nat.reduceLT, Nat.reduceLeDiff, reduceCtorEq, Nat.reduceSub]
    have hi : (Blk.row [.agg [.fs (xs.map encP), .fs (main.map encS)]] :: Blk.row [.clos g first caps] :: (J ++ [Blk.row [.int .i64 pre.length], Blk.row [.agg [.str q.name, .fs (q.roles.map .str), .fs (q.steps.map encS)]]]))[J.length + 2]? = some (Blk.row [.int .i64 pre.length]) := by simp
    refine ACall.of1 (t51 (fun st n x => f st n pre.length x) 53 [] [.ptr (N + 1) 0 0, .ptr (N + (J.length + 2)) 0 0] _ q.steps (Nat.lt_succ_self _) _ _ (hT.app _) (cb53 hT (hok2 pre q post hxs) hcb (j := 1) rfl hi) s1 ((cnts main : Int) + cntP pre) (by omega) (by omega)) ?_
    simp (maxSteps := 1000000) -implicitDefEqProofs only [h3, h4, h12, h13, h14, mid_lt hxs, mid_wrap hxs hlen, hg, hlT, hT.at0, hT.atS, hT.setS, go_sem, ↓reduceIte, Nat.reduceEqDiff, Nat.reduceBEq, Int.reduceToNat, Nat.reduceAdd, Nat.reduceLT, Nat.reduceLeDiff, reduceCtorEq, Nat.reduceSub]
    rw [← hfq]
    refine ⟨_, Nat.lt_succ_self _, pre ++ [q], post, _, by simp [hxs], rfl, ?_, by simp, rfl⟩
    rw [cntP_append]; simp only [cntP]; simp only [Int.natCast_add, Int.natCast_one]; congr 1; omega
def cFS (P : Pla) (pr : Int) : St → Int
  | .mk k r t v l e a b p ps => cF P (procRs P pr) k r t p ps
def ckS (P : Pla) (st : Int) (n pr : Int) (x : St) : Int := if st = 0 then cFS P pr x else st
def ckF (P : Pla) : Int := if cpF P ≠ 0 then cpF P else fEP (ckS P) 0 P
def prOK (P : Pla) (pr : Int) : Prop := pr = -1 ∨ ∃ pa qa pb, P.procs = pa ++ qa :: pb ∧ pr = pa.length
theorem t34 (P : Pla) (pr : Int) (h : prOK P pr) (k : Int) (r t v l : ByteArray) (ek en : Int) (es : ByteArray) (eas : List Ex) (a b : List St) (p : ByteArray) (ps : List ByteArray) :
    PCall Tryz.prog 34 [encPl P, .int .i64 pr, encS (.mk k r t v l (.mk ek en es eas) a b p ps)] (· = .int .i64 (cF P (procRs P pr) k r t p ps)) := by
  rcases h with rfl | ⟨pa, qa, pb, hA, rfl⟩
  · rw [procRs_neg]; exact t34n P k r t v l ek en es eas a b p ps
  · rw [procRs_at hA]; exact t34p P pa pb qa hA k r t v l ek en es eas a b p ps
def TCk (P : Pla) (st : Int) : List Blk := [.row [encPl P], .row [.int .i64 st]]
theorem TCk_ok (P : Pla) : TOK 2 (TCk P) where
  len st := rfl
  row st st' i es hi := by
    right
    rcases i with _ | _ | i
    · simp [TCk] at hi; subst hi; simp [norefL, noref_encPl]
    · simp [TCk] at hi; subst hi; simp [norefL, noref]
    · simp [TCk] at hi
theorem t33 (P : Pla) : CB3 33 [] [.ptr 1 0 0, .ptr 0 0 0] (TCk P) (ckS P) (prOK P) := by
  intro st n pr x J hok
  rcases x with ⟨k, r, t, v, l, ⟨ek, en, es, eas⟩, a, b, p, ps⟩
  have h34 := t34 P pr hok k r t v l ek en es eas a b p ps
  have hS : ckS P st n pr (.mk k r t v l (.mk ek en es eas) a b p ps) = if st = 0 then cF P (procRs P pr) k r t p ps else st := rfl
  generalize hc : cF P (procRs P pr) k r t p ps = c at *
  generalize ckS P st n pr (.mk k r t v l (.mk ek en es eas) a b p ps) = s1 at *
  subst hS
  have hrow := (TCk_ok P).app J
  rcases P with ⟨xs, main⟩
  have hl : ∀ st, TCk ⟨xs, main⟩ st = [.row [.agg [.fs (xs.map encP), .fs (main.map encS)]], .row [.int .i64 st]] := fun st => rfl
  simp only [encPl, encS_mk] at h34
  rw [encS_mk]
  refine ACall.trim ?_
  rw [hl, hl]
  refine ACall.intro c33 100 (by simp) ?_
  simp (maxSteps := 1000000) -implicitDefEqProofs only [s33, go_sem, ↓reduceIte, Nat.reduceEqDiff, Nat.reduceBEq, Int.reduceToNat, Nat.reduceAdd, Nat.reduceLT, Nat.reduceLeDiff, reduceCtorEq, Nat.reduceSub]
  repeat' (first | ((with_reducible first | refine cgR h34 ?_ ?_); (focus (simp [norefL, noref, norefL_app, norefL_str, norefL_int, norefL_encE, norefL_encS, norefL_encP, noref_encE, noref_encS, noref_encP, noref_encPl]; done)); simp (maxSteps := 1000000) -implicitDefEqProofs only [go_sem, ↓reduceIte, Nat.reduceEqDiff, Nat.reduceBEq, Int.reduceToNat, Nat.reduceAdd, Nat.reduceLT, Nat.reduceLeDiff, reduceCtorEq, Nat.reduceSub]) | ((with_reducible apply cgF); (focus ((simp (maxSteps := 1000000) -implicitDefEqProofs only [List.map_cons, List.map_nil, push_cast, ↓reduceIte, Nat.reduceEqDiff, reduceCtorEq, Nat.reduceAdd, Nat.reduceLT, Nat.reduceLeDiff] <;> rfl); done)); (with_reducible first | exact h34); (focus (rfl; done)); simp (maxSteps := 1000000) -implicitDefEqProofs only [go_sem, ↓reduceIte, Nat.reduceEqDiff, Nat.reduceBEq, Int.reduceToNat, Nat.reduceAdd, Nat.reduceLT, Nat.reduceLeDiff, reduceCtorEq, Nat.reduceSub]) | ((with_reducible show F _ _ (Cfg.code (SCode.qregion _) _ _ _)); refine F_q2 ?_; simp (maxSteps := 1000000) -implicitDefEqProofs only [go_sem, ↓reduceIte, Nat.reduceEqDiff, Nat.reduceBEq, Int.reduceToNat, Nat.reduceAdd, Nat.reduceLT, Nat.reduceLeDiff, reduceCtorEq, Nat.reduceSub]) | ((with_reducible show F _ _ (Cfg.code (SCode.pregion _ _ _ _ _) _ _ _)); refine F_p2 ?_; simp (maxSteps := 1000000) -implicitDefEqProofs only [go_sem, ↓reduceIte, Nat.reduceEqDiff, Nat.reduceBEq, Int.reduceToNat, Nat.reduceAdd, Nat.reduceLT, Nat.reduceLeDiff, reduceCtorEq, Nat.reduceSub]) | with_reducible refine Fork.mk (fun _ => ?_) (fun _ => ?_) | with_reducible refine And.intro ?_ ?_ | ((with_reducible show resP _ _ _ _ _); simp (maxSteps := 1000000) -implicitDefEqProofs only [r33, push_cast, ↓reduceIte, Nat.reduceEqDiff, reduceCtorEq, Nat.reduceAdd, Nat.reduceLT, Nat.reduceLeDiff]) | (intro _))
  · rename_i h0
    have h0 : st = 0 := by simpa using h0
    refine ⟨[.row [.agg [.fs (xs.map encP), .fs (main.map encS)]], .row [.int .i64 c]] ++ J, _, by simp; rfl, by simp, fun i es hi => ?_, by simp [h0]⟩
    have := hrow.row st c i es
    simp only [hl] at this
    simpa using this (by simpa using hi)
  · rename_i h0
    have h0 : ¬ st = 0 := by simpa using h0
    refine ⟨[.row [.agg [.fs (xs.map encP), .fs (main.map encS)]], .row [.int .i64 st]] ++ J, _, by simp; rfl, by simp, fun i es hi => ?_, by simp [h0]⟩
    have := hrow.row st st i es
    simp only [hl] at this
    simpa using this (by simpa using hi)
theorem t11 (P : Pla) (hc : total P ≤ 1000000) : PCall Tryz.prog 11 [encPl P] (· = .int .i64 (ckF P)) := by
  have h32 := t32 P hc
  have h22 := t22 (TCk_ok P) P hc (.inl rfl) (fun pa qa pb h => .inr ⟨pa, qa, pb, h, rfl⟩) (t33 P) 0
  have hl : ∀ st, TCk P st = [.row [encPl P], .row [.int .i64 st]] := fun st => rfl
  rw [hl, hl] at h22
  have hF : ckF P = if cpF P ≠ 0 then cpF P else fEP (ckS P) 0 P := rfl
  generalize ckF P = R at *
  generalize fEP (ckS P) 0 P = f at *
  generalize cpF P = c at *
  simp only [encPl] at *
  refine PCall.intro c11 100 (by simp) 20 ?_
  simp (maxSteps := 1000000) -implicitDefEqProofs only [s11, go_sem, ↓reduceIte, Nat.reduceEqDiff, Nat.reduceBEq, Int.reduceToNat, Nat.reduceAdd, Nat.reduceLT, Nat.reduceLeDiff, reduceCtorEq, Nat.reduceSub]
  repeat' (first | ((with_reducible first | refine cgA h22 ?_); simp (maxSteps := 1000000) -implicitDefEqProofs only [go_sem, ↓reduceIte, Nat.reduceEqDiff, Nat.reduceBEq, Int.reduceToNat, Nat.reduceAdd, Nat.reduceLT, Nat.reduceLeDiff, reduceCtorEq, Nat.reduceSub]) | ((with_reducible first | refine cgR h32 ?_ ?_); (focus (simp [norefL, noref, norefL_app, norefL_str, norefL_int, norefL_encE, norefL_encS, norefL_encP, noref_encE, noref_encS, noref_encP, noref_encPl]; done)); simp (maxSteps := 1000000) -implicitDefEqProofs only [go_sem, ↓reduceIte, Nat.reduceEqDiff, Nat.reduceBEq, Int.reduceToNat, Nat.reduceAdd, Nat.reduceLT, Nat.reduceLeDiff, reduceCtorEq, Nat.reduceSub]) | ((with_reducible apply cgF); (focus ((simp (maxSteps := 1000000) -implicitDefEqProofs only [List.map_cons, List.map_nil, push_cast, ↓reduceIte, Nat.reduceEqDiff, reduceCtorEq, Nat.reduceAdd, Nat.reduceLT, Nat.reduceLeDiff] <;> rfl); done)); (with_reducible first | exact h32); (focus (rfl; done)); simp (maxSteps := 1000000) -implicitDefEqProofs only [go_sem, ↓reduceIte, Nat.reduceEqDiff, Nat.reduceBEq, Int.reduceToNat, Nat.reduceAdd, Nat.reduceLT, Nat.reduceLeDiff, reduceCtorEq, Nat.reduceSub]) | ((with_reducible show F _ _ (Cfg.code (SCode.qregion _) _ _ _)); refine F_q2 ?_; simp (maxSteps := 1000000) -implicitDefEqProofs only [go_sem, ↓reduceIte, Nat.reduceEqDiff, Nat.reduceBEq, Int.reduceToNat, Nat.reduceAdd, Nat.reduceLT, Nat.reduceLeDiff, reduceCtorEq, Nat.reduceSub]) | ((with_reducible show F _ _ (Cfg.code (SCode.pregion _ _ _ _ _) _ _ _)); refine F_p2 ?_; simp (maxSteps := 1000000) -implicitDefEqProofs only [go_sem, ↓reduceIte, Nat.reduceEqDiff, Nat.reduceBEq, Int.reduceToNat, Nat.reduceAdd, Nat.reduceLT, Nat.reduceLeDiff, reduceCtorEq, Nat.reduceSub]) | with_reducible refine Fork.mk (fun _ => ?_) (fun _ => ?_) | with_reducible refine And.intro ?_ ?_ | ((with_reducible show resP _ _ _ _ _); simp (maxSteps := 1000000) -implicitDefEqProofs only [r11, push_cast, ↓reduceIte, Nat.reduceEqDiff, reduceCtorEq, Nat.reduceAdd, Nat.reduceLT, Nat.reduceLeDiff]) | (intro _))
  all_goals simp_all
theorem t6 (P : Pla) (hc : total P ≤ 1000000) : PCall Tryz.prog 6 [encPl P] (· = .tup [.int .i64 (if ckF P = 0 then total P else 0), .int .i64 (ckF P)]) := by
  have h11 := t11 P hc
  have h19 := t19 P hc
  generalize ckF P = c at *
  simp only [encPl] at *
  refine PCall.intro c6 100 (by simp) 20 ?_
  simp (maxSteps := 1000000) -implicitDefEqProofs only [s6, go_sem, ↓reduceIte, Nat.reduceEqDiff, Nat.reduceBEq, Int.reduceToNat, Nat.reduceAdd, Nat.reduceLT, Nat.reduceLeDiff, reduceCtorEq, Nat.reduceSub]
  repeat' (first | ((with_reducible first | refine cgR h11 ?_ ?_ | refine cgR h19 ?_ ?_); (focus (simp [norefL, noref, norefL_app, norefL_str, norefL_int, norefL_encE, norefL_encS, norefL_encP, noref_encE, noref_encS, noref_encP, noref_encPl]; done)); simp (maxSteps := 1000000) -implicitDefEqProofs only [go_sem, ↓reduceIte, Nat.reduceEqDiff, Nat.reduceBEq, Int.reduceToNat, Nat.reduceAdd, Nat.reduceLT, Nat.reduceLeDiff, reduceCtorEq, Nat.reduceSub]) | ((with_reducible apply cgF); (focus ((simp (maxSteps := 1000000) -implicitDefEqProofs only [List.map_cons, List.map_nil, push_cast, ↓reduceIte, Nat.reduceEqDiff, reduceCtorEq, Nat.reduceAdd, Nat.reduceLT, Nat.reduceLeDiff] <;> rfl); done)); (with_reducible first | exact h11 | exact h19); (focus (rfl; done)); simp (maxSteps := 1000000) -implicitDefEqProofs only [go_sem, ↓reduceIte, Nat.reduceEqDiff, Nat.reduceBEq, Int.reduceToNat, Nat.reduceAdd, Nat.reduceLT, Nat.reduceLeDiff, reduceCtorEq, Nat.reduceSub]) | ((with_reducible show F _ _ (Cfg.code (SCode.qregion _) _ _ _)); refine F_q2 ?_; simp (maxSteps := 1000000) -implicitDefEqProofs only [go_sem, ↓reduceIte, Nat.reduceEqDiff, Nat.reduceBEq, Int.reduceToNat, Nat.reduceAdd, Nat.reduceLT, Nat.reduceLeDiff, reduceCtorEq, Nat.reduceSub]) | ((with_reducible show F _ _ (Cfg.code (SCode.pregion _ _ _ _ _) _ _ _)); refine F_p2 ?_; simp (maxSteps := 1000000) -implicitDefEqProofs only [go_sem, ↓reduceIte, Nat.reduceEqDiff, Nat.reduceBEq, Int.reduceToNat, Nat.reduceAdd, Nat.reduceLT, Nat.reduceLeDiff, reduceCtorEq, Nat.reduceSub]) | with_reducible refine Fork.mk (fun _ => ?_) (fun _ => ?_) | with_reducible refine And.intro ?_ ?_ | ((with_reducible show resP _ _ _ _ _); simp (maxSteps := 1000000) -implicitDefEqProofs only [r6, push_cast, ↓reduceIte, Nat.reduceEqDiff, reduceCtorEq, Nat.reduceAdd, Nat.reduceLT, Nat.reduceLeDiff]) | (intro _))
  all_goals simp_all
theorem fz_emp (H : List Blk) (n : Nat) : fz H (n + 1) .emp = some (.fs []) := by rw [fz]
theorem cellsV_emp : cellsV .emp = [.emp] := rfl
theorem all_encE (l : List Ex) : (l.map encE).all (fun e => (cellsV e).length == 4 && !e.isAny && (cellsV e).all V.one) = true := by
  rw [List.all_map, List.all_eq_true]; intro x _
  rcases x with ⟨k, n, s, xs⟩
  simp [encE_mk, cellsV, V.isAny, V.one]
theorem all_str (l : List ByteArray) : (l.map V.str).all (fun e => (cellsV e).length == 1 && !e.isAny && (cellsV e).all V.one) = true := by
  rw [List.all_map]; simp [cellsV, V.isAny, V.one]
theorem all_encS (l : List St) : (l.map encS).all (fun e => (cellsV e).length == 13 && !e.isAny && (cellsV e).all V.one) = true := by
  rw [List.all_map, List.all_eq_true]; intro x _
  rcases x with ⟨k, r, t, v, l, ⟨ek, en, es, eas⟩, a, b, p, ps⟩
  simp [encS_mk, cellsV, V.isAny, V.one]
theorem t46 (xs : List ByteArray) (hl : xs.length ≤ 1000000) : PCall Tryz.prog 46 [.fs (xs.map .str)] (· = .fs (xs.map .str)) := by
  have ha := all_str xs
  refine PCall.intro c46 100 (by simp) 20 ?_
  cases xs with
  | nil =>
    simp (maxSteps := 1000000) -implicitDefEqProofs only [s46, List.map_nil, go_sem, ↓reduceIte, Nat.reduceEqDiff, Nat.reduceBEq, Int.reduceToNat, Nat.reduceAdd, Nat.reduceLT, Nat.reduceLeDiff, reduceCtorEq, Nat.reduceSub]
    intro b
    cases b
    · simp (maxSteps := 1000000) -implicitDefEqProofs only [go_sem, ↓reduceIte, Nat.reduceEqDiff, Nat.reduceBEq, Int.reduceToNat, Nat.reduceAdd, Nat.reduceLT, Nat.reduceLeDiff, reduceCtorEq, Nat.reduceSub]
      refine ⟨fun _ => ?_, fun h => absurd rfl h⟩
      simp (maxSteps := 1000000) -implicitDefEqProofs only [r46, fz_emp, push_cast, ↓reduceIte, Nat.reduceEqDiff, reduceCtorEq, Nat.reduceAdd, Nat.reduceLT, Nat.reduceLeDiff]
    · simp (maxSteps := 1000000) -implicitDefEqProofs only [go_sem, ↓reduceIte, Nat.reduceEqDiff, Nat.reduceBEq, Int.reduceToNat, Nat.reduceAdd, Nat.reduceLT, Nat.reduceLeDiff, reduceCtorEq, Nat.reduceSub]
      simp (maxSteps := 1000000) -implicitDefEqProofs only [r46, push_cast, ↓reduceIte, Nat.reduceEqDiff, reduceCtorEq, Nat.reduceAdd, Nat.reduceLT, Nat.reduceLeDiff]
  | cons x xs =>
    simp only [List.map_cons] at ha
    simp (maxSteps := 1000000) -implicitDefEqProofs only [s46, List.map_cons, ha, go_sem, ↓reduceIte, Nat.reduceEqDiff, Nat.reduceBEq, Int.reduceToNat, Nat.reduceAdd, Nat.reduceLT, Nat.reduceLeDiff, reduceCtorEq, Nat.reduceSub]
    refine ⟨by simpa [cellsV, V.isAny, V.one] using all_str xs, fun h => h.elim, fun _ => ⟨by simp at hl; omega, ?_⟩⟩
    have hz : fz [Blk.row (V.str x :: xs.map V.str)] 20 (.ms 0 0 (xs.length + 1)) = some (.fs (V.str x :: xs.map V.str)) := fz_msS (l := x :: xs) rfl
    simp (maxSteps := 1000000) -implicitDefEqProofs only [r46, hz, push_cast, ↓reduceIte, Nat.reduceEqDiff, reduceCtorEq, Nat.reduceAdd, Nat.reduceLT, Nat.reduceLeDiff]
mutual
def wE : Ex → Nat
  | .mk _ _ _ xs => 1 + wEs xs
def wEs : List Ex → Nat
  | [] => 0
  | x :: l => wE x + wEs l
end
mutual
def wS : St → Nat
  | .mk _ _ _ _ _ e a b _ ps => 1 + wE e + ps.length + wSs a + wSs b
def wSs : List St → Nat
  | [] => 0
  | x :: l => wS x + wSs l
end
theorem len_wEs : ∀ l : List Ex, l.length ≤ wEs l
  | [] => Nat.zero_le _
  | .mk _ _ _ _ :: l => by have := len_wEs l; simp [wEs, wE]; omega
theorem wEs_append : ∀ a b : List Ex, wEs (a ++ b) = wEs a + wEs b
  | [], b => by simp [wEs]
  | x :: a, b => by simp [wEs, wEs_append a b]; omega
theorem wSs_append : ∀ a b : List St, wSs (a ++ b) = wSs a + wSs b
  | [], b => by simp [wSs]
  | x :: a, b => by simp [wSs, wSs_append a b]; omega
mutual
theorem cnt_wS : ∀ x : St, cnt x ≤ wS x
  | .mk _ _ _ _ _ e a b _ ps => by have := cnts_wSs a; have := cnts_wSs b; simp only [cnt, wS]; omega
theorem cnts_wSs : ∀ l : List St, cnts l ≤ wSs l
  | [] => Nat.le_refl _
  | x :: l => by have := cnt_wS x; have := cnts_wSs l; simp only [cnts, wSs]; omega
end
def wPs : List Pr → Nat
  | [] => 0
  | q :: l => q.roles.length + wSs q.steps + wPs l
theorem wPs_append : ∀ a b : List Pr, wPs (a ++ b) = wPs a + wPs b
  | [], b => by simp [wPs]
  | x :: a, b => by simp [wPs, wPs_append a b]; omega
def wPl (P : Pla) : Nat := wSs P.main + wPs P.procs
theorem cntP_wPs : ∀ l : List Pr, cntP l ≤ wPs l
  | [] => Nat.le_refl _
  | q :: l => by have := cnts_wSs q.steps; have := cntP_wPs l; simp only [cntP, wPs]; omega
theorem total_wPl (P : Pla) : total P ≤ wPl P := by have := cnts_wSs P.main; have := cntP_wPs P.procs; simp only [total, wPl]; omega
theorem OV.grow {H : List Blk} {acc : List V} {v : V} {id : Nat} (h : H[id]? = some (.row (acc ++ [v]))) : OV H (.ms id 0 (acc.length + 1)) (acc ++ [v]) := .inr ⟨by simp, id, by simp, h⟩
theorem headOk_E (l : List Ex) : headOk 4 (l.map encE) := headOk_map _ _ (fun x => by rcases x with ⟨k, n, s, xs⟩; rw [encE_mk]; rfl) l
theorem headOk_S (l : List St) : headOk 13 (l.map encS) := headOk_map _ _ (fun x => by rcases x with ⟨k, r, t, v, l, ⟨ek, en, es, eas⟩, a, b, p, ps⟩; rw [encS_mk]; rfl) l
theorem fz_OV {α : Type} {f : α → V} {n : Nat} (hf : ∀ (H : List Blk) x, fz H (n + 1) (f x) = some (f x)) {H : List Blk} {kv : V} {l : List α} (h : OV H kv (l.map f)) : fz H (n + 2) kv = some (.fs (l.map f)) := by
  rcases h with ⟨h1, rfl⟩ | ⟨_, id, rfl, hid⟩
  · rw [fz_nils, h1]
  · rw [fz_ms, hid, fzM_row, if_pos (by simp), List.drop_zero, List.take_of_length_le (by simp), fzL_map _ _ (fun x => hf H x)]
    rfl
theorem OV.set {H : List Blk} {kv : V} {acc : List V} (h : OV H kv acc) {j : Nat} {x : Blk} (hj : kvne kv j) : OV (H.set j x) kv acc := by
  rcases h with h | ⟨h1, id, h2, h3⟩
  · exact .inl h
  · refine .inr ⟨h1, id, h2, ?_⟩
    rw [List.getElem?_set_ne]
    · exact h3
    · rintro rfl; exact hj 0 _ h2
theorem OV.app {H : List Blk} {kv : V} {acc : List V} (h : OV H kv acc) (L : List Blk) : OV (H ++ L) kv acc := by
  rcases h with h | ⟨h1, id, h2, h3⟩
  · exact .inl h
  · exact .inr ⟨h1, id, h2, by rw [List.getElem?_append_left (List.getElem?_eq_some_iff.1 h3).1]; exact h3⟩
theorem two_cons {H : List Blk} {a b : Blk} (h0 : H[0]? = some a) (h1 : H[1]? = some b) : ∃ J, H = a :: b :: J := by
  match H, h0, h1 with
  | x :: y :: J, h0, h1 => simp at h0 h1; subst h0 h1; exact ⟨J, rfl⟩
set_option maxRecDepth 20000 in
theorem t68s (k n : Int) (s : ByteArray) (xs : List Ex) (hw : wEs xs ≤ 1000000) (h : ∀ y ∈ xs, PCall Tryz.prog 68 [encE y] (· = encE y)) : PCall Tryz.prog 68 [encE (.mk k n s xs)] (· = encE (.mk k n s xs)) := by
  have hlw := len_wEs xs
  rw [encE_mk]
  refine PCall.intro c68 100 (by simp) 20 ?_
  simp (maxSteps := 1000000) -implicitDefEqProofs only [s68, go_sem, ↓reduceIte, Nat.reduceEqDiff, Nat.reduceBEq, Int.reduceToNat, Nat.reduceAdd, Nat.reduceLT, Nat.reduceLeDiff, reduceCtorEq, Nat.reduceSub]
  intro hlen
  refine F_loop (fun m e H => ∃ pre post kv J, xs = pre ++ post ∧ m = post.length ∧ e 1 = .ptr 0 0 0 ∧ e 2 = .ptr 1 0 0 ∧ e 3 = kv ∧ e 7 = .fs (xs.map encE) ∧ e 8 = .int .i64 xs.length ∧ e 9 = .int .i64 pre.length ∧
    H = Blk.row [.agg [.int .i64 k, .int .i64 n, .str s, .fs (xs.map encE)]] :: Blk.row [.agg [.int .i64 0, .int .i64 0, .str ⟨#[]⟩, .nils]] :: J ∧ OV H kv (pre.map encE) ∧ kvne kv 0 ∧ kvne kv 1) xs.length ⟨[], xs, .nils, [], by simp [upd, env0], rfl, by simp [upd, env0], by simp [upd, env0], by simp [upd, env0], by simp [upd, env0], by simp [upd, env0], by simp [upd, env0], rfl, .inl ⟨rfl, rfl⟩, (fun a b h => by cases h), (fun a b h => by cases h)⟩ ?_
  rintro m e H ⟨pre, post, kv, J, hxs, rfl, h1, h2, h3, h7, h8, h9, rfl, hov, hk0, hk1⟩
  cases post with
  | nil =>
    have hpx : pre = xs := by rw [hxs]; simp
    have hc1 := hov.one
    simp (maxSteps := 1000000) -implicitDefEqProofs only [h1, h2, h3, h7, h8, h9, mid_not hxs, hc1, go_sem, ↓reduceIte, Nat.reduceEqDiff, Nat.reduceBEq, Int.reduceToNat, Nat.reduceAdd, Nat.reduceLT, Nat.reduceLeDiff, reduceCtorEq, Nat.reduceSub]
    refine ⟨by rcases hov with ⟨_, rfl⟩ | ⟨_, id, rfl, _⟩ <;> rfl, by rcases hov with ⟨_, rfl⟩ | ⟨_, id, rfl, _⟩ <;> rfl, ?_⟩
    have hov2 : OV (Blk.row [.agg [.int .i64 k, .int .i64 n, .str s, kv]] :: Blk.row [.agg [.int .i64 k, .int .i64 n, .str s, kv]] :: J) kv (pre.map encE) := (hov.set (x := Blk.row [.agg [.int .i64 k, .int .i64 n, .str s, kv]]) hk0).set (x := Blk.row [.agg [.int .i64 k, .int .i64 n, .str s, kv]]) hk1
    have hz : fz _ 19 kv = _ := fz_OV (f := encE) (n := 17) (fun H x => fz_encE H 16 x) hov2
    rw [hpx] at hz
    simp (maxSteps := 1000000) -implicitDefEqProofs only [r68, h2, hz, push_cast, ↓reduceIte, Nat.reduceEqDiff, reduceCtorEq, Nat.reduceAdd, Nat.reduceLT, Nat.reduceLeDiff]
  | cons y post =>
    have hg := mid_get encE hxs
    have hy := h y (by rw [hxs]; simp)
    have hpl : pre.length ≤ xs.length := by rw [hxs]; simp
    have hya : ([encE y]).all (fun e => (cellsV e).length == 4 && !e.isAny && (cellsV e).all V.one) = true := all_encE [y]
    rcases y with ⟨k', n', s', zs⟩
    rw [encE_mk] at hg hy hya
    simp (maxSteps := 1000000) -implicitDefEqProofs only [h1, h2, h3, h7, h8, h9, mid_lt hxs, mid_wrap hxs hlen, hg, go_sem, ↓reduceIte, Nat.reduceEqDiff, Nat.reduceBEq, Int.reduceToNat, Nat.reduceAdd, Nat.reduceLT, Nat.reduceLeDiff, reduceCtorEq, Nat.reduceSub]
    repeat' (first | ((with_reducible first | refine cgR hy ?_ ?_); (focus (simp [norefL, noref, norefL_app, norefL_str, norefL_int, norefL_encE, norefL_encS, norefL_encP, noref_encE, noref_encS, noref_encP, noref_encPl]; done)); simp (maxSteps := 1000000) -implicitDefEqProofs only [h1, h2, h3, h7, h8, h9, mid_lt hxs, mid_wrap hxs hlen, hg, go_sem, ↓reduceIte, Nat.reduceEqDiff, Nat.reduceBEq, Int.reduceToNat, Nat.reduceAdd, Nat.reduceLT, Nat.reduceLeDiff, reduceCtorEq, Nat.reduceSub]) | ((with_reducible apply cgF); (focus ((simp (maxSteps := 1000000) -implicitDefEqProofs only [List.map_cons, List.map_nil, push_cast, ↓reduceIte, Nat.reduceEqDiff, reduceCtorEq, Nat.reduceAdd, Nat.reduceLT, Nat.reduceLeDiff] <;> rfl); done)); (with_reducible first | exact hy); (focus (rfl; done)); simp (maxSteps := 1000000) -implicitDefEqProofs only [h1, h2, h3, h7, h8, h9, mid_lt hxs, mid_wrap hxs hlen, hg, go_sem, ↓reduceIte, Nat.reduceEqDiff, Nat.reduceBEq, Int.reduceToNat, Nat.reduceAdd, Nat.reduceLT, Nat.reduceLeDiff, reduceCtorEq, Nat.reduceSub]) | ((with_reducible show F _ _ (Cfg.code (SCode.qregion _) _ _ _)); refine F_q2 ?_; simp (maxSteps := 1000000) -implicitDefEqProofs only [h1, h2, h3, h7, h8, h9, mid_lt hxs, mid_wrap hxs hlen, hg, go_sem, ↓reduceIte, Nat.reduceEqDiff, Nat.reduceBEq, Int.reduceToNat, Nat.reduceAdd, Nat.reduceLT, Nat.reduceLeDiff, reduceCtorEq, Nat.reduceSub]) | ((with_reducible show F _ _ (Cfg.code (SCode.pregion _ _ _ _ _) _ _ _)); refine F_p2 ?_; simp (maxSteps := 1000000) -implicitDefEqProofs only [h1, h2, h3, h7, h8, h9, mid_lt hxs, mid_wrap hxs hlen, hg, go_sem, ↓reduceIte, Nat.reduceEqDiff, Nat.reduceBEq, Int.reduceToNat, Nat.reduceAdd, Nat.reduceLT, Nat.reduceLeDiff, reduceCtorEq, Nat.reduceSub]) | with_reducible refine Fork.mk (fun _ => ?_) (fun _ => ?_) | with_reducible refine And.intro ?_ ?_ | ((with_reducible show resP _ _ _ _ _); simp (maxSteps := 1000000) -implicitDefEqProofs only [r68, push_cast, ↓reduceIte, Nat.reduceEqDiff, reduceCtorEq, Nat.reduceAdd, Nat.reduceLT, Nat.reduceLeDiff]) | (intro _))
    have hov2 : ∀ L : List Blk, OV (Blk.row [.agg [.int .i64 k, .int .i64 n, .str s, .fs (xs.map encE)]] :: Blk.row [.agg [.int .i64 0, .int .i64 0, .str ⟨#[]⟩, .nils]] :: (J ++ L)) kv (pre.map encE) := fun L => hov.app L
    refine app_OV (hov2 _) (fun i o l h => by cases h) (headOk_E _) (by simp; omega) ?_
    rintro kv' H' hov' hle hfr
    obtain ⟨hf0, hn0⟩ := hfr 0 (by simp) hk0
    obtain ⟨hf1, hn1⟩ := hfr 1 (by simp) hk1
    simp only [List.getElem?_cons_zero, List.getElem?_cons_succ] at hf0 hf1
    obtain ⟨J', rfl⟩ := two_cons hf0 hf1
    simp (maxSteps := 1000000) -implicitDefEqProofs only [h1, h2, h3, h7, h8, h9, mid_lt hxs, mid_wrap hxs hlen, hg, go_sem, ↓reduceIte, Nat.reduceEqDiff, Nat.reduceBEq, Int.reduceToNat, Nat.reduceAdd, Nat.reduceLT, Nat.reduceLeDiff, reduceCtorEq, Nat.reduceSub]
    refine ⟨_, Nat.lt_succ_self _, pre ++ [.mk k' n' s' zs], post, kv', J', by simp [hxs], rfl, rfl, by simp, rfl, ?_, hn0, hn1⟩
    simpa [encE_mk] using hov'
theorem t68 : ∀ (n : Nat) (x : Ex), SizeOf.sizeOf x < n → wE x ≤ 1000000 → PCall Tryz.prog 68 [encE x] (· = encE x)
  | 0, x, h, _ => absurd h (Nat.not_lt_zero _)
  | n + 1, .mk k i s xs, hn, hw => t68s k i s xs (by simp only [wE] at hw; omega) (fun y hy => by
    have hs := List.sizeOf_lt_of_mem hy
    have hwy : wE y ≤ wEs xs := by
      obtain ⟨p1, p2, rfl⟩ := List.append_of_mem hy
      rw [wEs_append, wEs]; omega
    simp only [wE] at hw
    simp only [Ex.mk.sizeOf_spec] at hn
    exact t68 n y (by omega) (by omega))
end Go.Proofs.YteoboibjepokoaaGreatDoor.Av
