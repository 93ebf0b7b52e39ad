/- Proved: for every list of numbers the law PlaysChecked answers true and leaves its argument as it was (the tied card); no condition beyond the row's own. Text 10 of 14. -/
import Derived.Test.YteoboibjepokoaaGreatDoorW9
set_option linter.unusedVariables false
set_option linter.unusedSimpArgs false
set_option linter.unusedSectionVars false
set_option linter.all false
namespace Go.Proofs.YteoboibjepokoaaGreatDoor.Av
open Go.RowKit
mutual
def tu1 (tf : Int → St → List St) : St → Int → List St
  | .mk k r t v l e a b p ps, n => tf n (.mk k r t v l e (tuL tf a (n + 1)) (tuL tf b (n + 1 + cnts a)) p ps)
def tuL (tf : Int → St → List St) : List St → Int → List St
  | [], _ => []
  | x :: l, n => tu1 tf x n ++ tuL tf l (n + cnt x)
end
theorem tuL_append (tf : Int → St → List St) : ∀ (a b : List St) (n : Int), tuL tf (a ++ b) n = tuL tf a n ++ tuL tf b (n + cnts a)
  | [], b, n => by simp [tuL, cnts]
  | x :: a, b, n => by
    rw [List.cons_append, tuL, tuL, tuL_append tf a b, cnts, List.append_assoc]
    congr 3; omega
theorem tuL_length (tf : Int → St → List St) (h1 : ∀ n x, (tf n x).length ≤ 1) : ∀ (l : List St) (n : Int), (tuL tf l n).length ≤ l.length
  | [], n => by simp [tuL]
  | .mk k r t v l e a b p ps :: l', n => by
    have := tuL_length tf h1 l' (n + cnt (.mk k r t v l e a b p ps))
    have := h1 n (.mk k r t v l e (tuL tf a (n + 1)) (tuL tf b (n + 1 + cnts a)) p ps)
    simp [tuL, tu1]; omega
set_option maxRecDepth 20000 in
theorem t50s (tf : Int → St → List St) (h1 : ∀ n x, (tf n x).length ≤ 1) (g : FuncId) (hto : ∀ n x, PCall Tryz.prog g [.int .i64 n, encS x] (· = .fs ((tf n x).map encS))) (xs : List St) (hw : wSs xs ≤ 1000000) (n : Int) (hn0 : 0 ≤ n) (hn : n + cnts xs ≤ 1000000)
    (h : ∀ k r t v l e a b p ps, St.mk k r t v l e a b p ps ∈ xs → ∀ n : Int, 0 ≤ n →
      (n + cnts a ≤ 1000000 → PCall Tryz.prog 50 [.fs (a.map encS), .int .i64 n, .clos g [] []] (· = .tup [.fs ((tuL tf a n).map encS), .int .i64 (n + cnts a)])) ∧
      (n + cnts b ≤ 1000000 → PCall Tryz.prog 50 [.fs (b.map encS), .int .i64 n, .clos g [] []] (· = .tup [.fs ((tuL tf b n).map encS), .int .i64 (n + cnts b)]))) :
    PCall Tryz.prog 50 [.fs (xs.map encS), .int .i64 n, .clos g [] []] (· = .tup [.fs ((tuL tf xs n).map encS), .int .i64 (n + cnts xs)]) := by
  have hlw := len_cnts xs
  refine PCall.intro c50 400 (by simp) 20 ?_
  simp (maxSteps := 1000000) -implicitDefEqProofs only [s50, go_sem, ↓reduceIte, Nat.reduceEqDiff, Nat.reduceBEq, Int.reduceToNat, Nat.reduceAdd, Nat.reduceLT, Nat.reduceLeDiff, reduceCtorEq, Nat.reduceSub]
  intro hlen
  refine F_loop (fun m e H => ∃ pre post kv, xs = pre ++ post ∧ m = post.length ∧ e 1 = .int .i64 (n + cnts pre) ∧ e 2 = .clos g [] [] ∧ e 8 = kv ∧ e 12 = .fs (xs.map encS) ∧ e 13 = .int .i64 xs.length ∧ e 14 = .int .i64 pre.length ∧ OV H kv ((tuL tf pre n).map encS)) xs.length ⟨[], xs, .nils, by simp [upd, env0, cnts], rfl, by simp [upd, env0, cnts], by simp [upd, env0], by simp [upd, env0], by simp [upd, env0], by simp [upd, env0], by simp [upd, env0], .inl ⟨rfl, rfl⟩⟩ ?_
  rintro m e H ⟨pre, post, kv, hxs, rfl, h1', h2, h8, h12, h13, h14, hov⟩
  cases post with
  | nil =>
    have hpx : pre = xs := by rw [hxs]; simp
    simp (maxSteps := 1000000) -implicitDefEqProofs only [h1', h2, h8, h12, h13, h14, mid_not hxs, go_sem, ↓reduceIte, Nat.reduceEqDiff, Nat.reduceBEq, Int.reduceToNat, Nat.reduceAdd, Nat.reduceLT, Nat.reduceLeDiff, reduceCtorEq, Nat.reduceSub]
    have hz : fz H 19 kv = _ := fz_OV (f := encS) (n := 17) (fun H x => fz_encS H 16 x) hov
    rw [hpx] at hz
    simp (maxSteps := 1000000) -implicitDefEqProofs only [r50, hz, push_cast, ↓reduceIte, Nat.reduceEqDiff, reduceCtorEq, Nat.reduceAdd, Nat.reduceLT, Nat.reduceLeDiff]
    rw [hpx]
  | cons y post =>
    have hg := mid_get encS hxs
    have hcy : cnts xs = cnts pre + (cnt y + cnts post) := by rw [hxs, cnts_append, cnts]
    have hwy : wSs xs = wSs pre + (wS y + wSs post) := by rw [hxs, wSs_append, wSs]
    have hpl : pre.length ≤ xs.length := by rw [hxs]; simp
    have htl := tuL_length tf h1 pre n
    rcases y with ⟨k, r, t, v, l, ⟨ek, en, es, eas⟩, a, b, p, ps⟩
    have hfy : tuL tf (pre ++ [.mk k r t v l (.mk ek en es eas) a b p ps]) n = tuL tf pre n ++ tf (n + cnts pre) (.mk k r t v l (.mk ek en es eas) (tuL tf a (n + cnts pre + 1)) (tuL tf b (n + cnts pre + 1 + cnts a)) p ps) := by
      rw [tuL_append]; simp only [tuL, tu1, List.append_nil]
    have htl1 := h1 (n + cnts pre) (.mk k r t v l (.mk ek en es eas) (tuL tf a (n + cnts pre + 1)) (tuL tf b (n + cnts pre + 1 + cnts a)) p ps)
    have hto1 := hto (n + cnts pre) (.mk k r t v l (.mk ek en es eas) (tuL tf a (n + cnts pre + 1)) (tuL tf b (n + cnts pre + 1 + cnts a)) p ps)
    simp only [cnt] at hcy
    simp only [wS, wE] at hwy
    have hh := h k r t v l (.mk ek en es eas) a b p ps (by rw [hxs]; simp)
    have ha := (hh (n + cnts pre + 1) (by omega)).1 (by omega)
    have hb := (hh (n + cnts pre + 1 + cnts a) (by omega)).2 (by omega)
    have h46 := t46 ps (by omega)
    have h68 := t68 _ (.mk ek en es eas) (Nat.lt_succ_self _) (by simp only [wE]; omega)
    have hcc : cnts (pre ++ [.mk k r t v l (.mk ek en es eas) a b p ps]) = cnts pre + (1 + cnts a + cnts b) := by rw [cnts_append]; simp [cnts, cnt]
    rw [encE_mk] at h68
    rw [encS_mk] at hg hto1
    generalize hta : tuL tf a (n + cnts pre + 1) = ta at *
    generalize htb : tuL tf b (n + cnts pre + 1 + cnts a) = tb at *
    have w1 := wrap_int (x := n + cnts pre + 1) (by omega) (by omega)
    simp (maxSteps := 1000000) -implicitDefEqProofs only [h1', h2, h8, h12, h13, h14, mid_lt hxs, mid_wrap hxs hlen, hg, w1, go_sem, ↓reduceIte, Nat.reduceEqDiff, Nat.reduceBEq, Int.reduceToNat, Nat.reduceAdd, Nat.reduceLT, Nat.reduceLeDiff, reduceCtorEq, Nat.reduceSub]
    repeat' (first | ((with_reducible first | refine cgR h46 ?_ ?_ | refine cgR h68 ?_ ?_ | refine cgR ha ?_ ?_ | refine cgR hb ?_ ?_ | refine cgR hto1 ?_ ?_); (focus (simp [norefL, noref, norefL_app, norefL_str, norefL_int, norefL_encE, norefL_encS, norefL_encP, noref_encE, noref_encS, noref_encP, noref_encPl]; done)); simp (maxSteps := 1000000) -implicitDefEqProofs only [h1', h2, h8, h12, h13, h14, mid_lt hxs, mid_wrap hxs hlen, hg, w1, go_sem, ↓reduceIte, Nat.reduceEqDiff, Nat.reduceBEq, Int.reduceToNat, Nat.reduceAdd, Nat.reduceLT, Nat.reduceLeDiff, reduceCtorEq, Nat.reduceSub]) | ((with_reducible apply cgF); (focus ((simp (maxSteps := 1000000) -implicitDefEqProofs only [List.map_cons, List.map_nil, push_cast, ↓reduceIte, Nat.reduceEqDiff, reduceCtorEq, Nat.reduceAdd, Nat.reduceLT, Nat.reduceLeDiff] <;> rfl); done)); (with_reducible first | exact h46 | exact h68 | exact ha | exact hb | exact hto1); (focus (rfl; done)); simp (maxSteps := 1000000) -implicitDefEqProofs only [h1', h2, h8, h12, h13, h14, mid_lt hxs, mid_wrap hxs hlen, hg, w1, go_sem, ↓reduceIte, Nat.reduceEqDiff, Nat.reduceBEq, Int.reduceToNat, Nat.reduceAdd, Nat.reduceLT, Nat.reduceLeDiff, reduceCtorEq, Nat.reduceSub]) | ((with_reducible show F _ _ (Cfg.code (SCode.qregion _) _ _ _)); refine F_q2 ?_; simp (maxSteps := 1000000) -implicitDefEqProofs only [h1', h2, h8, h12, h13, h14, mid_lt hxs, mid_wrap hxs hlen, hg, w1, go_sem, ↓reduceIte, Nat.reduceEqDiff, Nat.reduceBEq, Int.reduceToNat, Nat.reduceAdd, Nat.reduceLT, Nat.reduceLeDiff, reduceCtorEq, Nat.reduceSub]) | ((with_reducible show F _ _ (Cfg.code (SCode.pregion _ _ _ _ _) _ _ _)); refine F_p2 ?_; simp (maxSteps := 1000000) -implicitDefEqProofs only [h1', h2, h8, h12, h13, h14, mid_lt hxs, mid_wrap hxs hlen, hg, w1, go_sem, ↓reduceIte, Nat.reduceEqDiff, Nat.reduceBEq, Int.reduceToNat, Nat.reduceAdd, Nat.reduceLT, Nat.reduceLeDiff, reduceCtorEq, Nat.reduceSub]) | with_reducible refine Fork.mk (fun _ => ?_) (fun _ => ?_) | with_reducible refine And.intro ?_ ?_ | ((with_reducible show resP _ _ _ _ _); simp (maxSteps := 1000000) -implicitDefEqProofs only [r50, push_cast, ↓reduceIte, Nat.reduceEqDiff, reduceCtorEq, Nat.reduceAdd, Nat.reduceLT, Nat.reduceLeDiff]) | (intro _))
    · exact all_encS _
    · refine app_OV (hov.app _) (fun i o l h => by cases h) (headOk_S _) (by simp; omega) ?_
      rintro kv' H' hov' hle hfr
      simp (maxSteps := 1000000) -implicitDefEqProofs only [h1', h2, h8, h12, h13, h14, mid_lt hxs, mid_wrap hxs hlen, hg, go_sem, ↓reduceIte, Nat.reduceEqDiff, Nat.reduceBEq, Int.reduceToNat, Nat.reduceAdd, Nat.reduceLT, Nat.reduceLeDiff, reduceCtorEq, Nat.reduceSub]
      refine ⟨_, Nat.lt_succ_self _, pre ++ [.mk k r t v l (.mk ek en es eas) a b p ps], post, kv', by simp [hxs], rfl, ?_, rfl, by simp, ?_⟩
      · rw [hcc]; simp only [Int.natCast_add, Int.natCast_one]; congr 1; omega
      · rw [hfy]; simpa using hov'
theorem t50 (tf : Int → St → List St) (h1 : ∀ n x, (tf n x).length ≤ 1) (g : FuncId) (hto : ∀ n x, PCall Tryz.prog g [.int .i64 n, encS x] (· = .fs ((tf n x).map encS))) : ∀ (m : Nat) (xs : List St), SizeOf.sizeOf xs < m → wSs xs ≤ 1000000 → ∀ n : Int, 0 ≤ n → n + cnts xs ≤ 1000000 →
    PCall Tryz.prog 50 [.fs (xs.map encS), .int .i64 n, .clos g [] []] (· = .tup [.fs ((tuL tf xs n).map encS), .int .i64 (n + cnts xs)])
  | 0, xs, h, _ => absurd h (Nat.not_lt_zero _)
  | m + 1, xs, hm, hw => fun n h0 hn => t50s tf h1 g hto xs hw n h0 hn (fun k r t v l e a b p ps hmem n h0 => by
    have hs := List.sizeOf_lt_of_mem hmem
    simp only [St.mk.sizeOf_spec] at hs
    have hwm : wS (.mk k r t v l e a b p ps) ≤ wSs xs := by
      obtain ⟨p1, p2, rfl⟩ := List.append_of_mem hmem
      rw [wSs_append, wSs]; omega
    simp only [wS] at hwm
    exact ⟨fun hc => t50 tf h1 g hto m a (by omega) (by omega) n h0 hc, fun hc => t50 tf h1 g hto m b (by omega) (by omega) n h0 hc⟩)
theorem t21 (n : Int) (x : St) : PCall Tryz.prog 21 [.int .i64 n, encS x] (· = .fs ([x].map encS)) := by
  rcases x with ⟨k, r, t, v, l, ⟨ek, en, es, eas⟩, a, b, p, ps⟩
  rw [encS_mk]
  refine PCall.intro c21 100 (by simp) 20 ?_
  simp (maxSteps := 1000000) -implicitDefEqProofs only [s21, go_sem, ↓reduceIte, Nat.reduceEqDiff, Nat.reduceBEq, Int.reduceToNat, Nat.reduceAdd, Nat.reduceLT, Nat.reduceLeDiff, reduceCtorEq, Nat.reduceSub]
  simp (maxSteps := 1000000) -implicitDefEqProofs only [r21, push_cast, ↓reduceIte, Nat.reduceEqDiff, reduceCtorEq, Nat.reduceAdd, Nat.reduceLT, Nat.reduceLeDiff]
  simp [encS_mk]
theorem tuL_id : ∀ (l : List St) (n : Int), tuL (fun _ x => [x]) l n = l
  | [], n => rfl
  | .mk k r t v l e a b p ps :: l', n => by
    rw [tuL, tu1, tuL_id a, tuL_id b, tuL_id l']; rfl
def tuP (tf : Int → St → List St) : List Pr → Int → List Pr
  | [], _ => []
  | q :: l, n => ⟨q.name, q.roles, tuL tf q.steps n⟩ :: tuP tf l (n + cnts q.steps)
theorem tuP_append (tf : Int → St → List St) : ∀ (a b : List Pr) (n : Int), tuP tf (a ++ b) n = tuP tf a n ++ tuP tf b (n + cntP a)
  | [], b, n => by simp [tuP, cntP]
  | x :: a, b, n => by
    rw [List.cons_append, tuP, tuP, tuP_append tf a b, cntP, List.cons_append]
    congr 3; omega
theorem tuP_id : ∀ (l : List Pr) (n : Int), tuP (fun _ x => [x]) l n = l
  | [], n => rfl
  | q :: l, n => by rw [tuP, tuL_id, tuP_id l]
theorem tuP_length (tf : Int → St → List St) : ∀ (l : List Pr) (n : Int), (tuP tf l n).length = l.length
  | [], n => rfl
  | q :: l, n => by simp [tuP, tuP_length tf l]
def tuPl (tf : Int → St → List St) (P : Pla) : Pla := ⟨tuP tf P.procs (cnts P.main), tuL tf P.main 0⟩
theorem tuPl_id (P : Pla) : tuPl (fun _ x => [x]) P = P := by rw [tuPl, tuP_id, tuL_id]
theorem three_cons {H : List Blk} {a b c : Blk} (h0 : H[0]? = some a) (h1 : H[1]? = some b) (h2 : H[2]? = some c) : ∃ J, H = a :: b :: c :: J := by
  match H, h0, h1, h2 with
  | x :: y :: z :: J, h0, h1, h2 => simp at h0 h1 h2; subst h0 h1 h2; exact ⟨J, rfl⟩
theorem OV.vone {H : List Blk} {kv : V} {acc : List V} (h : OV H kv acc) : V.one kv = true := by rcases h with ⟨_, rfl⟩ | ⟨_, id, rfl, _⟩ <;> rfl
set_option maxRecDepth 20000 in
theorem t20 (tf : Int → St → List St) (h1 : ∀ n x, (tf n x).length ≤ 1) (g : FuncId) (hto : ∀ n x, PCall Tryz.prog g [.int .i64 n, encS x] (· = .fs ((tf n x).map encS))) (P : Pla) (hw : wPl P ≤ 1000000) (hpn : P.procs.length ≤ 1000000) :
    PCall Tryz.prog 20 [encPl P, .clos g [] []] (· = encPl (tuPl tf P)) := by
  have htw := total_wPl P
  rcases P with ⟨xs, main⟩
  simp only [wPl, total] at hw htw
  have hm := t50 tf h1 g hto _ main (Nat.lt_succ_self _) (by omega) 0 (by omega) (by omega)
  refine PCall.intro c20 400 (by simp) 20 ?_
  simp (maxSteps := 1000000) -implicitDefEqProofs only [s20, encPl, go_sem, ↓reduceIte, Nat.reduceEqDiff, Nat.reduceBEq, Int.reduceToNat, Nat.reduceAdd, Nat.reduceLT, Nat.reduceLeDiff, reduceCtorEq, Nat.reduceSub]
  repeat' (first | ((with_reducible first | refine cgR hm ?_ ?_); (focus (simp [norefL, noref, norefL_app, norefL_str, norefL_int, norefL_encE, norefL_encS, norefL_encP, noref_encE, noref_encS, noref_encP, noref_encPl]; done)); simp (maxSteps := 1000000) -implicitDefEqProofs only [go_sem, ↓reduceIte, Nat.reduceEqDiff, Nat.reduceBEq, Int.reduceToNat, Nat.reduceAdd, Nat.reduceLT, Nat.reduceLeDiff, reduceCtorEq, Nat.reduceSub]) | ((with_reducible apply cgF); (focus ((simp (maxSteps := 1000000) -implicitDefEqProofs only [List.map_cons, List.map_nil, push_cast, ↓reduceIte, Nat.reduceEqDiff, reduceCtorEq, Nat.reduceAdd, Nat.reduceLT, Nat.reduceLeDiff] <;> rfl); done)); (with_reducible first | exact hm); (focus (rfl; done)); simp (maxSteps := 1000000) -implicitDefEqProofs only [go_sem, ↓reduceIte, Nat.reduceEqDiff, Nat.reduceBEq, Int.reduceToNat, Nat.reduceAdd, Nat.reduceLT, Nat.reduceLeDiff, reduceCtorEq, Nat.reduceSub]) | ((with_reducible show F _ _ (Cfg.code (SCode.qregion _) _ _ _)); refine F_q2 ?_; simp (maxSteps := 1000000) -implicitDefEqProofs only [go_sem, ↓reduceIte, Nat.reduceEqDiff, Nat.reduceBEq, Int.reduceToNat, Nat.reduceAdd, Nat.reduceLT, Nat.reduceLeDiff, reduceCtorEq, Nat.reduceSub]) | ((with_reducible show F _ _ (Cfg.code (SCode.pregion _ _ _ _ _) _ _ _)); refine F_p2 ?_; simp (maxSteps := 1000000) -implicitDefEqProofs only [go_sem, ↓reduceIte, Nat.reduceEqDiff, Nat.reduceBEq, Int.reduceToNat, Nat.reduceAdd, Nat.reduceLT, Nat.reduceLeDiff, reduceCtorEq, Nat.reduceSub]) | with_reducible refine Fork.mk (fun _ => ?_) (fun _ => ?_) | with_reducible refine And.intro ?_ ?_ | ((with_reducible show resP _ _ _ _ _); simp (maxSteps := 1000000) -implicitDefEqProofs only [r20, push_cast, ↓reduceIte, Nat.reduceEqDiff, reduceCtorEq, Nat.reduceAdd, Nat.reduceLT, Nat.reduceLeDiff]) | (intro _))
  rename_i hlen
  simp only [Int.zero_add] at *
  have hpl' : xs.length ≤ 1000000 := hpn
  generalize hmt : tuL tf main 0 = mt at *
  refine F_loop (fun m e H => ∃ pre post kv J, xs = pre ++ post ∧ m = post.length ∧ e 1 = .clos g [] [] ∧ e 4 = .ptr 1 0 0 ∧ e 5 = .ptr 2 0 0 ∧ e 6 = .int .i64 ((cnts main : Int) + cntP pre) ∧ e 18 = .fs (xs.map encP) ∧ e 19 = .int .i64 xs.length ∧ e 20 = .int .i64 pre.length ∧
    H = Blk.row [.agg [.fs (xs.map encP), .fs (main.map encS)]] :: Blk.row [.agg [.nils, .nils]] :: Blk.row [.agg [kv, .fs (mt.map encS)]] :: J ∧ OV H kv ((tuP tf pre (cnts main)).map encP) ∧ kvne kv 0 ∧ kvne kv 1 ∧ kvne kv 2) xs.length ⟨[], xs, .nils, [], by simp [upd, env0], rfl, by simp [upd, env0], by simp [upd, env0], by simp [upd, env0], by simp [upd, env0, cntP], by simp [upd, env0], by simp [upd, env0], by simp [upd, env0], rfl, .inl ⟨rfl, rfl⟩, (fun a b h => by cases h), (fun a b h => by cases h), (fun a b h => by cases h)⟩ ?_
  rintro m e H ⟨pre, post, kv, J, hxs, rfl, h1', h4, h5, h6, h18, h19, h20, rfl, hov, hk0, hk1, hk2⟩
  have hone : V.one kv = true := by rcases hov with ⟨_, rfl⟩ | ⟨_, id, rfl, _⟩ <;> rfl
  simp only [V.one] at hone
  have hc1 := hov.one
  cases post with
  | nil =>
    have hpx : pre = xs := by rw [hxs]; simp
    simp (maxSteps := 1000000) -implicitDefEqProofs only [h1', h4, h5, h6, h18, h19, h20, mid_not hxs, hone, hc1, go_sem, ↓reduceIte, Nat.reduceEqDiff, Nat.reduceBEq, Int.reduceToNat, Nat.reduceAdd, Nat.reduceLT, Nat.reduceLeDiff, reduceCtorEq, Nat.reduceSub]
    have hov2 : OV (Blk.row [.agg [.fs (xs.map encP), .fs (main.map encS)]] :: Blk.row [.agg [kv, .fs (mt.map encS)]] :: Blk.row [.agg [kv, .fs (mt.map encS)]] :: J) kv ((tuP tf pre (cnts main)).map encP) := hov.set (x := Blk.row [.agg [kv, .fs (mt.map encS)]]) hk1
    have hz : fz _ 19 kv = _ := fz_OV (f := encP) (n := 17) (fun H x => fz_encP H 16 x) hov2
    rw [hpx] at hz
    simp (maxSteps := 1000000) -implicitDefEqProofs only [r20, h4, hz, push_cast, ↓reduceIte, Nat.reduceEqDiff, reduceCtorEq, Nat.reduceAdd, Nat.reduceLT, Nat.reduceLeDiff]
    rw [tuPl, hmt]
  | cons q post =>
    have hg := mid_get encP hxs
    simp only [encP] at hg
    have hcq : cntP xs = cntP pre + (cnts q.steps + cntP post) := by rw [hxs, cntP_append, cntP]
    have hwq : wPs xs = wPs pre + (q.roles.length + wSs q.steps + wPs post) := by rw [hxs, wPs_append, wPs]
    have hpl : pre.length ≤ xs.length := by rw [hxs]; simp
    have hfy : tuP tf (pre ++ [q]) (cnts main) = tuP tf pre (cnts main) ++ [⟨q.name, q.roles, tuL tf q.steps ((cnts main : Int) + cntP pre)⟩] := by
      rw [tuP_append]; rfl
    have hq := t50 tf h1 g hto _ q.steps (Nat.lt_succ_self _) (by omega) ((cnts main : Int) + cntP pre) (by omega) (by omega)
    have h46 := t46 q.roles (by omega)
    generalize hqt : tuL tf q.steps ((cnts main : Int) + cntP pre) = qt at *
    simp (maxSteps := 1000000) -implicitDefEqProofs only [h1', h4, h5, h6, h18, h19, h20, mid_lt hxs, mid_wrap hxs hlen, hone, hc1, hg, go_sem, ↓reduceIte, Nat.reduceEqDiff, Nat.reduceBEq, Int.reduceToNat, Nat.reduceAdd, Nat.reduceLT, Nat.reduceLeDiff, reduceCtorEq, Nat.reduceSub]
    repeat' (first | ((with_reducible first | refine cgR h46 ?_ ?_ | refine cgR hq ?_ ?_); (focus (simp [norefL, noref, norefL_app, norefL_str, norefL_int, norefL_encE, norefL_encS, norefL_encP, noref_encE, noref_encS, noref_encP, noref_encPl]; done)); simp (maxSteps := 1000000) -implicitDefEqProofs only [h1', h4, h5, h6, h18, h19, h20, mid_lt hxs, mid_wrap hxs hlen, hone, hc1, hg, go_sem, ↓reduceIte, Nat.reduceEqDiff, Nat.reduceBEq, Int.reduceToNat, Nat.reduceAdd, Nat.reduceLT, Nat.reduceLeDiff, reduceCtorEq, Nat.reduceSub]) | ((with_reducible apply cgF); (focus ((simp (maxSteps := 1000000) -implicitDefEqProofs only [List.map_cons, List.map_nil, push_cast, ↓reduceIte, Nat.reduceEqDiff, reduceCtorEq, Nat.reduceAdd, Nat.reduceLT, Nat.reduceLeDiff] <;> rfl); done)); (with_reducible first | exact h46 | exact hq); (focus (rfl; done)); simp (maxSteps := 1000000) -implicitDefEqProofs only [h1', h4, h5, h6, h18, h19, h20, mid_lt hxs, mid_wrap hxs hlen, hone, hc1, hg, go_sem, ↓reduceIte, Nat.reduceEqDiff, Nat.reduceBEq, Int.reduceToNat, Nat.reduceAdd, Nat.reduceLT, Nat.reduceLeDiff, reduceCtorEq, Nat.reduceSub]) | ((with_reducible show F _ _ (Cfg.code (SCode.qregion _) _ _ _)); refine F_q2 ?_; simp (maxSteps := 1000000) -implicitDefEqProofs only [h1', h4, h5, h6, h18, h19, h20, mid_lt hxs, mid_wrap hxs hlen, hone, hc1, hg, go_sem, ↓reduceIte, Nat.reduceEqDiff, Nat.reduceBEq, Int.reduceToNat, Nat.reduceAdd, Nat.reduceLT, Nat.reduceLeDiff, reduceCtorEq, Nat.reduceSub]) | ((with_reducible show F _ _ (Cfg.code (SCode.pregion _ _ _ _ _) _ _ _)); refine F_p2 ?_; simp (maxSteps := 1000000) -implicitDefEqProofs only [h1', h4, h5, h6, h18, h19, h20, mid_lt hxs, mid_wrap hxs hlen, hone, hc1, hg, go_sem, ↓reduceIte, Nat.reduceEqDiff, Nat.reduceBEq, Int.reduceToNat, Nat.reduceAdd, Nat.reduceLT, Nat.reduceLeDiff, reduceCtorEq, Nat.reduceSub]) | with_reducible refine Fork.mk (fun _ => ?_) (fun _ => ?_) | with_reducible refine And.intro ?_ ?_ | ((with_reducible show resP _ _ _ _ _); simp (maxSteps := 1000000) -implicitDefEqProofs only [r20, push_cast, ↓reduceIte, Nat.reduceEqDiff, reduceCtorEq, Nat.reduceAdd, Nat.reduceLT, Nat.reduceLeDiff]) | (intro _))
    have hov2 : ∀ L : List Blk, OV (Blk.row [.agg [.fs (xs.map encP), .fs (main.map encS)]] :: Blk.row [.agg [.nils, .nils]] :: Blk.row [.agg [kv, .fs (mt.map encS)]] :: (J ++ L)) kv ((tuP tf pre (cnts main)).map encP) := fun L => hov.app L
    refine app_OV (hov2 _) (fun i o l h => by cases h) (headOk_P _) (by simp [tuP_length]; omega) ?_
    rintro kv' H' hov' hle hfr
    obtain ⟨hf0, hn0⟩ := hfr 0 (by simp) hk0
    obtain ⟨hf1, hn1⟩ := hfr 1 (by simp) hk1
    obtain ⟨hf2, hn2⟩ := hfr 2 (by simp) hk2
    simp only [List.getElem?_cons_zero, List.getElem?_cons_succ] at hf0 hf1 hf2
    obtain ⟨J', rfl⟩ := three_cons hf0 hf1 hf2
    have hone' : V.one kv' = true := hov'.vone
    simp only [V.one] at hone'
    have hc1' := hov'.one
    simp (maxSteps := 1000000) -implicitDefEqProofs only [h1', h4, h5, h6, h18, h19, h20, mid_lt hxs, mid_wrap hxs hlen, hone, hc1, hone', hc1', hg, go_sem, ↓reduceIte, Nat.reduceEqDiff, Nat.reduceBEq, Int.reduceToNat, Nat.reduceAdd, Nat.reduceLT, Nat.reduceLeDiff, reduceCtorEq, Nat.reduceSub]
    refine ⟨_, Nat.lt_succ_self _, pre ++ [q], post, kv', J', by simp [hxs], rfl, ?_, by simp, rfl, ?_, hn0, hn1, hn2⟩
    · rw [cntP_append]; simp only [cntP]; simp only [Int.natCast_add, Int.natCast_one]; congr 1; omega
    · rw [hfy]
      have := hov'.set (x := Blk.row [.agg [kv', .fs (mt.map encS)]]) hn2
      simpa [encP] using this
theorem t20i (P : Pla) (hw : wPl P ≤ 1000000) (hpn : P.procs.length ≤ 1000000) : PCall Tryz.prog 20 [encPl P, .clos 21 [] []] (· = encPl P) := by
  have := t20 (fun _ x => [x]) (by simp) 21 (fun n x => t21 n x) P hw hpn
  rwa [tuPl_id] at this
def fIx {σ : Type} (f : σ → Int → Int → St → σ) : σ → List Spo → Int → σ
  | st, [], _ => st
  | st, y :: l, n => fIx f (f st n y.2.1 y.1) l (n + 1)
theorem fIx_append {σ : Type} (f : σ → Int → Int → St → σ) : ∀ (a b : List Spo) (st : σ) (n : Int), fIx f st (a ++ b) n = fIx f (fIx f st a n) b (n + a.length)
  | [], b, st, n => by simp [fIx]
  | x :: a, b, st, n => by
    rw [List.cons_append, fIx, fIx, fIx_append f a b, List.length_cons]
    congr 1; omega
mutual
theorem fE1uix {σ : Type} (f : σ → Int → Int → St → σ) : ∀ (x : St) (pr : Int) (la : Bool) (st : σ) (n : Int), fE1 (fun st n x => f st n pr x) st x n = fIx f st (sp1 x pr la) n
  | .mk k r t v l e a b p ps, pr, la, st, n => by
    rw [fE1, fE_ix f a pr la, fE_ix f b pr la, sp1, fIx, fIx_append, spL_length]
theorem fE_ix {σ : Type} (f : σ → Int → Int → St → σ) : ∀ (l : List St) (pr : Int) (la : Bool) (st : σ) (n : Int), fE (fun st n x => f st n pr x) st l n = fIx f st (spL l pr la) n
  | [], _, _, _, _ => rfl
  | x :: l, pr, la, st, n => by
    rw [fE, fE1uix f x pr (la && l.isEmpty), fE_ix f l pr la, spL, fIx_append, sp1ulength]
end
theorem fP_ix {σ : Type} (f : σ → Int → Int → St → σ) : ∀ (l : List Pr) (i : Nat) (st : σ) (n : Int), fP f st l i n = fIx f st (spP l i) n
  | [], _, _, _ => rfl
  | q :: l, i, st, n => by
    rw [fP, fE_ix f q.steps i true, fP_ix f l (i + 1), spP, fIx_append, spL_length]
theorem fEP_ix {σ : Type} (f : σ → Int → Int → St → σ) (P : Pla) (st : σ) : fEP f st P = fIx f st (spots P) 0 := by
  rw [fEP, fE_ix f P.main (-1) true, fP_ix, spots, fIx_append, spL_length, Int.zero_add]
def stF7 (P : Pla) (n : Int) (st : Option St × ByteArray) (k pr : Int) (x : St) : Option St × ByteArray := if k = n then (some x, if pr < 0 then st.2 else keyOf P pr) else st
theorem fIx_skip (P : Pla) (n : Int) : ∀ (l : List Spo) (st : Option St × ByteArray) (m : Int), (n < m ∨ m + l.length ≤ n) → fIx (stF7 P n) st l m = st
  | [], st, m, _ => rfl
  | y :: l, st, m, h => by
    rw [fIx, stF7, if_neg (by simp at h; omega)]
    exact fIx_skip P n l st (m + 1) (by simp at h; omega)
theorem fEP7 (P : Pla) (pre post : List Spo) (y : Spo) (h : spots P = pre ++ y :: post) : fEP (stF7 P pre.length) (none, ⟨#[]⟩) P = (some y.1, keyOf P y.2.1) := by
  rw [fEP_ix, h, fIx_append, fIx_skip P _ pre _ 0 (by omega), fIx, fIx_skip P _ post _ _ (by omega), stF7, if_pos (by omega)]
  congr 1
  split
  · rename_i hl; simp [keyOf, hl]
  · rfl
def zV : V := .agg [.int .i64 0, .str ⟨#[]⟩, .str ⟨#[]⟩, .str ⟨#[]⟩, .str ⟨#[]⟩, .int .i64 0, .int .i64 0, .str ⟨#[]⟩, .nils, .nils, .nils, .str ⟨#[]⟩, .nils]
def oS : Option St → V
  | none => zV
  | some x => encS x
theorem noref_oS (o : Option St) : noref (oS o) = true := by cases o with
  | none => rfl
  | some x => exact noref_encS x
def T7 (P : Pla) (n : Int) (st : Option St × ByteArray) : List Blk := [.row [encPl P], .row [.int .i64 n], .row [zV], .row [oS st.1], .row [.str st.2], .row [encPl P]]
theorem T7uok (P : Pla) (n : Int) : TOK 6 (T7 P n) where
  len st := rfl
  row st st' i es hi := by
    right
    rcases i with _ | _ | _ | _ | _ | _ | i
    all_goals (simp [T7] at hi)
    all_goals (subst hi; simp [norefL, noref, noref_encPl, noref_oS, zV])
theorem oS_get (o : Option St) : ∃ c0 c1 c2 c3 c4 c5 c6 c7 c8 c9 c10 c11 c12, oS o = .agg [c0, c1, c2, c3, c4, c5, c6, c7, c8, c9, c10, c11, c12] := by
  cases o with
  | none => exact ⟨_, _, _, _, _, _, _, _, _, _, _, _, _, rfl⟩
  | some x => rcases x with ⟨k, r, t, v, l, ⟨ek, en, es, eas⟩, a, b, p, ps⟩; exact ⟨_, _, _, _, _, _, _, _, _, _, _, _, _, by rw [oS, encS_mk]⟩
set_option maxRecDepth 20000 in
theorem t23 (P : Pla) (n : Int) : CB3 23 [] [.ptr 1 0 0, .ptr 3 0 0, .ptr 0 0 0, .ptr 4 0 0] (T7 P n) (stF7 P n) (prOK P) := by
  intro st k pr x J hok
  have hrow := (T7uok P n).app J
  have hF : stF7 P n st k pr x = if k = n then (some x, if pr < 0 then st.2 else keyOf P pr) else st := rfl
  generalize stF7 P n st k pr x = s1 at *
  have hl : ∀ st, T7 P n st = [.row [encPl P], .row [.int .i64 n], .row [zV], .row [oS st.1], .row [.str st.2], .row [encPl P]] := fun st => rfl
  obtain ⟨c0, c1, c2, c3, c4, c5, c6, c7, c8, c9, c10, c11, c12, hcs⟩ := oS_get st.1
  rcases x with ⟨sk, r, t, v, l, ⟨ek, en, es, eas⟩, a, b, p, ps⟩
  refine ACall.trim ?_
  by_cases hkn : k = n
  · subst hkn
    rw [if_pos rfl] at hF
    have hrows := hrow.row st s1
    subst hF
    simp only [hl, hcs] at hrows ⊢
    rcases hok with rfl | ⟨pa, qa, pb, hA, rfl⟩
    · simp only [lt1, if_true, encPl, encS_mk, oS] at hrows ⊢
      refine ACall.intro c23 100 (by simp) ?_
      simp (maxSteps := 1000000) -implicitDefEqProofs only [s23, neg1, go_sem, ↓reduceIte, Nat.reduceEqDiff, Nat.reduceBEq, Int.reduceToNat, Nat.reduceAdd, Nat.reduceLT, Nat.reduceLeDiff, reduceCtorEq, Nat.reduceSub]
      repeat' (first | ((with_reducible show F _ _ (Cfg.code (SCode.qregion _) _ _ _)); refine F_q2 ?_; simp (maxSteps := 1000000) -implicitDefEqProofs only [neg1, go_sem, ↓reduceIte, Nat.reduceEqDiff, Nat.reduceBEq, Int.reduceToNat, Nat.reduceAdd, Nat.reduceLT, Nat.reduceLeDiff, reduceCtorEq, Nat.reduceSub]) | ((with_reducible show F _ _ (Cfg.code (SCode.pregion _ _ _ _ _) _ _ _)); refine F_p2 ?_; simp (maxSteps := 1000000) -implicitDefEqProofs only [neg1, go_sem, ↓reduceIte, Nat.reduceEqDiff, Nat.reduceBEq, Int.reduceToNat, Nat.reduceAdd, Nat.reduceLT, Nat.reduceLeDiff, reduceCtorEq, Nat.reduceSub]) | with_reducible refine Fork.mk (fun _ => ?_) (fun _ => ?_) | with_reducible refine And.intro ?_ ?_ | ((with_reducible show resP _ _ _ _ _); simp (maxSteps := 1000000) -implicitDefEqProofs only [r23, push_cast, ↓reduceIte, Nat.reduceEqDiff, reduceCtorEq, Nat.reduceAdd, Nat.reduceLT, Nat.reduceLeDiff]) | (intro _))
      exact ⟨_, _, by rfl, by simp, hrows, rfl⟩
    · have hgq := mid_get encP hA
      have hltq := mid_lt hA
      simp only [encP] at hgq
      have hge : (0 ≤ (pa.length : Int)) = True := by simp
      have hlt2 : ¬ ((pa.length : Int) < 0) := by omega
      rw [keyOf_at hA] at hrows ⊢
      simp only [if_neg hlt2, encPl, encS_mk, oS] at hrows ⊢
      refine ACall.intro c23 100 (by simp) ?_
      simp (maxSteps := 1000000) -implicitDefEqProofs only [s23, hgq, hltq, hge, go_sem, ↓reduceIte, Nat.reduceEqDiff, Nat.reduceBEq, Int.reduceToNat, Nat.reduceAdd, Nat.reduceLT, Nat.reduceLeDiff, reduceCtorEq, Nat.reduceSub]
      repeat' (first | ((with_reducible show F _ _ (Cfg.code (SCode.qregion _) _ _ _)); refine F_q2 ?_; simp (maxSteps := 1000000) -implicitDefEqProofs only [hgq, hltq, hge, go_sem, ↓reduceIte, Nat.reduceEqDiff, Nat.reduceBEq, Int.reduceToNat, Nat.reduceAdd, Nat.reduceLT, Nat.reduceLeDiff, reduceCtorEq, Nat.reduceSub]) | ((with_reducible show F _ _ (Cfg.code (SCode.pregion _ _ _ _ _) _ _ _)); refine F_p2 ?_; simp (maxSteps := 1000000) -implicitDefEqProofs only [hgq, hltq, hge, go_sem, ↓reduceIte, Nat.reduceEqDiff, Nat.reduceBEq, Int.reduceToNat, Nat.reduceAdd, Nat.reduceLT, Nat.reduceLeDiff, reduceCtorEq, Nat.reduceSub]) | with_reducible refine Fork.mk (fun _ => ?_) (fun _ => ?_) | with_reducible refine And.intro ?_ ?_ | ((with_reducible show resP _ _ _ _ _); simp (maxSteps := 1000000) -implicitDefEqProofs only [r23, push_cast, ↓reduceIte, Nat.reduceEqDiff, reduceCtorEq, Nat.reduceAdd, Nat.reduceLT, Nat.reduceLeDiff]) | (intro _))
      exact ⟨_, _, by rfl, by simp, hrows, rfl⟩
  · rw [if_neg hkn] at hF
    subst hF
    have hrows := hrow.row s1 s1
    simp only [hl, hcs] at hrows ⊢
    simp only [encPl, encS_mk] at hrows ⊢
    refine ACall.intro c23 100 (by simp) ?_
    simp (maxSteps := 1000000) -implicitDefEqProofs only [s23, hkn, go_sem, ↓reduceIte, Nat.reduceEqDiff, Nat.reduceBEq, Int.reduceToNat, Nat.reduceAdd, Nat.reduceLT, Nat.reduceLeDiff, reduceCtorEq, Nat.reduceSub]
    repeat' (first | ((with_reducible show F _ _ (Cfg.code (SCode.qregion _) _ _ _)); refine F_q2 ?_; simp (maxSteps := 1000000) -implicitDefEqProofs only [hkn, go_sem, ↓reduceIte, Nat.reduceEqDiff, Nat.reduceBEq, Int.reduceToNat, Nat.reduceAdd, Nat.reduceLT, Nat.reduceLeDiff, reduceCtorEq, Nat.reduceSub]) | ((with_reducible show F _ _ (Cfg.code (SCode.pregion _ _ _ _ _) _ _ _)); refine F_p2 ?_; simp (maxSteps := 1000000) -implicitDefEqProofs only [hkn, go_sem, ↓reduceIte, Nat.reduceEqDiff, Nat.reduceBEq, Int.reduceToNat, Nat.reduceAdd, Nat.reduceLT, Nat.reduceLeDiff, reduceCtorEq, Nat.reduceSub]) | with_reducible refine Fork.mk (fun _ => ?_) (fun _ => ?_) | with_reducible refine And.intro ?_ ?_ | ((with_reducible show resP _ _ _ _ _); simp (maxSteps := 1000000) -implicitDefEqProofs only [r23, push_cast, ↓reduceIte, Nat.reduceEqDiff, reduceCtorEq, Nat.reduceAdd, Nat.reduceLT, Nat.reduceLeDiff]) | (intro _))
    exact ⟨_, _, by rfl, by simp, hrows, rfl⟩
set_option maxRecDepth 20000 in
theorem t7e (P : Pla) (hc : total P ≤ 1000000) (n : Int) (he : ckF P ≠ 0) : PCall Tryz.prog 7 [encPl P, .int .i64 n] (· = .tup [encS stZ, .str ⟨#[]⟩, .int .i64 (ckF P)]) := by
  have h11 := t11 P hc
  generalize ckF P = c at *
  rw [encS_Z]
  simp only [encPl] at *
  refine PCall.intro c7 100 (by simp) 20 ?_
  simp (maxSteps := 1000000) -implicitDefEqProofs only [s7, go_sem, ↓reduceIte, Nat.reduceEqDiff, Nat.reduceBEq, Int.reduceToNat, Nat.reduceAdd, Nat.reduceLT, Nat.reduceLeDiff, reduceCtorEq, Nat.reduceSub]
  repeat' (first | ((with_reducible first | refine cgR h11 ?_ ?_); (focus (simp [norefL, noref, norefL_app, norefL_str, norefL_int, norefL_encE, norefL_encS, norefL_encP, noref_encE, noref_encS, noref_encP, noref_encPl]; done)); simp (maxSteps := 1000000) -implicitDefEqProofs only [go_sem, ↓reduceIte, Nat.reduceEqDiff, Nat.reduceBEq, Int.reduceToNat, Nat.reduceAdd, Nat.reduceLT, Nat.reduceLeDiff, reduceCtorEq, Nat.reduceSub]) | ((with_reducible apply cgF); (focus ((simp (maxSteps := 1000000) -implicitDefEqProofs only [List.map_cons, List.map_nil, push_cast, ↓reduceIte, Nat.reduceEqDiff, reduceCtorEq, Nat.reduceAdd, Nat.reduceLT, Nat.reduceLeDiff] <;> rfl); done)); (with_reducible first | exact h11); (focus (rfl; done)); simp (maxSteps := 1000000) -implicitDefEqProofs only [go_sem, ↓reduceIte, Nat.reduceEqDiff, Nat.reduceBEq, Int.reduceToNat, Nat.reduceAdd, Nat.reduceLT, Nat.reduceLeDiff, reduceCtorEq, Nat.reduceSub]) | ((with_reducible show F _ _ (Cfg.code (SCode.qregion _) _ _ _)); refine F_q2 ?_; simp (maxSteps := 1000000) -implicitDefEqProofs only [go_sem, ↓reduceIte, Nat.reduceEqDiff, Nat.reduceBEq, Int.reduceToNat, Nat.reduceAdd, Nat.reduceLT, Nat.reduceLeDiff, reduceCtorEq, Nat.reduceSub]) | ((with_reducible show F _ _ (Cfg.code (SCode.pregion _ _ _ _ _) _ _ _)); refine F_p2 ?_; simp (maxSteps := 1000000) -implicitDefEqProofs only [go_sem, ↓reduceIte, Nat.reduceEqDiff, Nat.reduceBEq, Int.reduceToNat, Nat.reduceAdd, Nat.reduceLT, Nat.reduceLeDiff, reduceCtorEq, Nat.reduceSub]) | with_reducible refine Fork.mk (fun _ => ?_) (fun _ => ?_) | with_reducible refine And.intro ?_ ?_ | ((with_reducible show resP _ _ _ _ _); simp (maxSteps := 1000000) -implicitDefEqProofs only [r7, push_cast, ↓reduceIte, Nat.reduceEqDiff, reduceCtorEq, Nat.reduceAdd, Nat.reduceLT, Nat.reduceLeDiff]) | (intro _))
  all_goals simp_all
set_option maxRecDepth 20000 in
theorem t7r (P : Pla) (hc : total P ≤ 1000000) (n : Int) (he : ckF P = 0) (hn : n < 0 ∨ (total P : Int) ≤ n) : PCall Tryz.prog 7 [encPl P, .int .i64 n] (· = .tup [encS stZ, .str ⟨#[]⟩, .int .i64 1]) := by
  have h11 := t11 P hc
  have h19 := t19 P hc
  rw [he] at h11
  rw [encS_Z]
  generalize total P = t at *
  simp only [encPl] at *
  refine PCall.intro c7 100 (by simp) 20 ?_
  simp (maxSteps := 1000000) -implicitDefEqProofs only [s7, go_sem, ↓reduceIte, Nat.reduceEqDiff, Nat.reduceBEq, Int.reduceToNat, Nat.reduceAdd, Nat.reduceLT, Nat.reduceLeDiff, reduceCtorEq, Nat.reduceSub]
  repeat' (first | ((with_reducible first | refine cgR h11 ?_ ?_ | refine cgR h19 ?_ ?_); (focus (simp [norefL, noref, norefL_app, norefL_str, norefL_int, norefL_encE, norefL_encS, norefL_encP, noref_encE, noref_encS, noref_encP, noref_encPl]; done)); simp (maxSteps := 1000000) -implicitDefEqProofs only [go_sem, ↓reduceIte, Nat.reduceEqDiff, Nat.reduceBEq, Int.reduceToNat, Nat.reduceAdd, Nat.reduceLT, Nat.reduceLeDiff, reduceCtorEq, Nat.reduceSub]) | ((with_reducible apply cgF); (focus ((simp (maxSteps := 1000000) -implicitDefEqProofs only [List.map_cons, List.map_nil, push_cast, ↓reduceIte, Nat.reduceEqDiff, reduceCtorEq, Nat.reduceAdd, Nat.reduceLT, Nat.reduceLeDiff] <;> rfl); done)); (with_reducible first | exact h11 | exact h19); (focus (rfl; done)); simp (maxSteps := 1000000) -implicitDefEqProofs only [go_sem, ↓reduceIte, Nat.reduceEqDiff, Nat.reduceBEq, Int.reduceToNat, Nat.reduceAdd, Nat.reduceLT, Nat.reduceLeDiff, reduceCtorEq, Nat.reduceSub]) | ((with_reducible show F _ _ (Cfg.code (SCode.qregion _) _ _ _)); refine F_q2 ?_; simp (maxSteps := 1000000) -implicitDefEqProofs only [go_sem, ↓reduceIte, Nat.reduceEqDiff, Nat.reduceBEq, Int.reduceToNat, Nat.reduceAdd, Nat.reduceLT, Nat.reduceLeDiff, reduceCtorEq, Nat.reduceSub]) | ((with_reducible show F _ _ (Cfg.code (SCode.pregion _ _ _ _ _) _ _ _)); refine F_p2 ?_; simp (maxSteps := 1000000) -implicitDefEqProofs only [go_sem, ↓reduceIte, Nat.reduceEqDiff, Nat.reduceBEq, Int.reduceToNat, Nat.reduceAdd, Nat.reduceLT, Nat.reduceLeDiff, reduceCtorEq, Nat.reduceSub]) | with_reducible refine Fork.mk (fun _ => ?_) (fun _ => ?_) | with_reducible refine And.intro ?_ ?_ | ((with_reducible show resP _ _ _ _ _); simp (maxSteps := 1000000) -implicitDefEqProofs only [r7, push_cast, ↓reduceIte, Nat.reduceEqDiff, reduceCtorEq, Nat.reduceAdd, Nat.reduceLT, Nat.reduceLeDiff]) | (intro _))
  all_goals (exfalso; rename_i h1 h2; simp at h1 h2; omega)
set_option maxRecDepth 20000 in
theorem t7s (P : Pla) (hw : wPl P ≤ 1000000) (hpn : P.procs.length ≤ 1000000) (he : ckF P = 0) (pre post : List Spo) (y : Spo) (hy : spots P = pre ++ y :: post) : PCall Tryz.prog 7 [encPl P, .int .i64 pre.length] (· = .tup [encS y.1, .str (keyOf P y.2.1), .int .i64 0]) := by
  have hc := total_wPl P
  have h11 := t11 P (by omega)
  have h19 := t19 P (by omega)
  have h20 := t20i P hw hpn
  have h22 := t22 (T7uok P pre.length) P (by omega) (.inl rfl) (fun pa qa pb h => .inr ⟨pa, qa, pb, h, rfl⟩) (t23 P pre.length) (none, ⟨#[]⟩)
  rw [fEP7 P pre post y hy] at h22
  have hl : ∀ st, T7 P pre.length st = [.row [encPl P], .row [.int .i64 pre.length], .row [zV], .row [oS st.1], .row [.str st.2], .row [encPl P]] := fun st => rfl
  have hsl := spots_length P
  have hlt : (pre.length : Int) < total P := by rw [← hsl, hy]; simp; omega
  have hn0 : ¬ ((pre.length : Int) < 0) := by omega
  have hn1 : ¬ ((total P : Int) ≤ (pre.length : Int)) := by omega
  rw [he] at h11
  generalize total P = t at *
  rcases y with ⟨⟨k, r, t, v, l, ⟨ek, en, es, eas⟩, a, b, p, ps⟩, pr, la⟩
  simp only [hl, oS, zV, encPl, encS_mk] at *
  generalize keyOf P pr = ky at *
  refine PCall.intro c7 100 (by simp) 20 ?_
  simp (maxSteps := 1000000) -implicitDefEqProofs only [s7, go_sem, ↓reduceIte, Nat.reduceEqDiff, Nat.reduceBEq, Int.reduceToNat, Nat.reduceAdd, Nat.reduceLT, Nat.reduceLeDiff, reduceCtorEq, Nat.reduceSub]
  repeat' (first | ((with_reducible first | refine cgA h22 ?_); simp (maxSteps := 1000000) -implicitDefEqProofs only [hn0, hn1, go_sem, ↓reduceIte, Nat.reduceEqDiff, Nat.reduceBEq, Int.reduceToNat, Nat.reduceAdd, Nat.reduceLT, Nat.reduceLeDiff, reduceCtorEq, Nat.reduceSub]) | ((with_reducible first | refine cgR h11 ?_ ?_ | refine cgR h19 ?_ ?_ | refine cgR h20 ?_ ?_); (focus (simp [norefL, noref, norefL_app, norefL_str, norefL_int, norefL_encE, norefL_encS, norefL_encP, noref_encE, noref_encS, noref_encP, noref_encPl]; done)); simp (maxSteps := 1000000) -implicitDefEqProofs only [hn0, hn1, go_sem, ↓reduceIte, Nat.reduceEqDiff, Nat.reduceBEq, Int.reduceToNat, Nat.reduceAdd, Nat.reduceLT, Nat.reduceLeDiff, reduceCtorEq, Nat.reduceSub]) | ((with_reducible apply cgF); (focus ((simp (maxSteps := 1000000) -implicitDefEqProofs only [List.map_cons, List.map_nil, push_cast, ↓reduceIte, Nat.reduceEqDiff, reduceCtorEq, Nat.reduceAdd, Nat.reduceLT, Nat.reduceLeDiff] <;> rfl); done)); (with_reducible first | exact h11 | exact h19 | exact h20); (focus (rfl; done)); simp (maxSteps := 1000000) -implicitDefEqProofs only [hn0, hn1, go_sem, ↓reduceIte, Nat.reduceEqDiff, Nat.reduceBEq, Int.reduceToNat, Nat.reduceAdd, Nat.reduceLT, Nat.reduceLeDiff, reduceCtorEq, Nat.reduceSub]) | ((with_reducible show F _ _ (Cfg.code (SCode.qregion _) _ _ _)); refine F_q2 ?_; simp (maxSteps := 1000000) -implicitDefEqProofs only [hn0, hn1, go_sem, ↓reduceIte, Nat.reduceEqDiff, Nat.reduceBEq, Int.reduceToNat, Nat.reduceAdd, Nat.reduceLT, Nat.reduceLeDiff, reduceCtorEq, Nat.reduceSub]) | ((with_reducible show F _ _ (Cfg.code (SCode.pregion _ _ _ _ _) _ _ _)); refine F_p2 ?_; simp (maxSteps := 1000000) -implicitDefEqProofs only [hn0, hn1, go_sem, ↓reduceIte, Nat.reduceEqDiff, Nat.reduceBEq, Int.reduceToNat, Nat.reduceAdd, Nat.reduceLT, Nat.reduceLeDiff, reduceCtorEq, Nat.reduceSub]) | with_reducible refine Fork.mk (fun _ => ?_) (fun _ => ?_) | with_reducible refine And.intro ?_ ?_ | ((with_reducible show resP _ _ _ _ _); simp (maxSteps := 1000000) -implicitDefEqProofs only [r7, push_cast, ↓reduceIte, Nat.reduceEqDiff, reduceCtorEq, Nat.reduceAdd, Nat.reduceLT, Nat.reduceLeDiff]) | (intro _))
def SB (L : List Int) (a : Nat) : Blk := .row [.agg [.fs (L.map (V.int .i64)), .int .i64 a]]
structure MS (L : List Int) (sid N : Nat) (T : Nat → List Blk) : Prop where
  tok : TOK N T
  get : ∀ a l, (T a ++ l)[sid]? = some (SB L a)
  set : ∀ a b l, (T a ++ l).set sid (SB L b) = T b ++ l
theorem MS.get0 {L : List Int} {sid N : Nat} {T : Nat → List Blk} (h : MS L sid N T) (a : Nat) : (T a)[sid]? = some (SB L a) := by have := h.get a []; simpa using this
theorem MS.set0 {L : List Int} {sid N : Nat} {T : Nat → List Blk} (h : MS L sid N T) (a b : Nat) : (T a).set sid (SB L b) = T b := by have := h.set a b []; simpa using this
theorem MS.app {L : List Int} {sid N : Nat} {T : Nat → List Blk} (h : MS L sid N T) (J : List Blk) : MS L sid (N + J.length) (fun a => T a ++ J) where
  tok := h.tok.app J
  get a l := by rw [List.append_assoc]; exact h.get a _
  set a b l := by rw [List.append_assoc, List.append_assoc]; exact h.set a b _
theorem MS.base (L : List Int) : MS L 0 1 (fun a => [SB L a]) where
  tok := ⟨fun _ => rfl, fun st st' i es hi => by
    right
    rcases i with _ | i
    · simp [SB] at hi; subst hi; simp [norefL, noref, norefL_int]
    · simp at hi⟩
  get a l := rfl
  set a b l := rfl
def MC (k : FuncId) (L : List Int) (a : Nat) (args : List V) (r : V) (a' : Nat) : Prop := ∀ sid N T, MS L sid N T → ACall Tryz.prog k (.ptr sid 0 0 :: args) (T a) (ret1 r (T a'))
theorem MC.at {k : FuncId} {L : List Int} {a a' sid N : Nat} {T : Nat → List Blk} {args : List V} {r : V} (h : MC k L a args r a') (hT : MS L sid N T) (J : List Blk) : ACall Tryz.prog k (.ptr sid 0 0 :: args) (T a ++ J) (ret1 r (T a' ++ J)) := h sid _ _ (hT.app J)
theorem MS.trim {L : List Int} {sid N : Nat} {T : Nat → List Blk} (hT : MS L sid N T) {g : FuncId} {vs : List V} {a a' : Nat} {r : V} (hr : noref r = true) (h : ACall Tryz.prog g vs (T a) (fun r' H' => r' = r ∧ ∃ X, H' = T a' ++ X)) : ACall Tryz.prog g vs (T a) (ret1 r (T a')) := by
  refine ACall.trim (h.mono ?_)
  rintro r' H' ⟨rfl, X, rfl⟩
  exact ⟨_, X, rfl, by rw [hT.tok.len, hT.tok.len], hT.tok.row _ _, hr, rfl, rfl⟩
theorem tmod_lt {x n : Int} (h : 1 ≤ n) : -n < x.tmod n ∧ x.tmod n < n := by
  have h1 := Int.tmod_lt_of_pos x (b := n) (by omega)
  have h2 := Int.tmod_lt_of_pos (-x) (b := n) (by omega)
  rw [Int.neg_tmod] at h2
  omega
def belF (x n : Int) : Int := if n < 1 then 0 else if x.tmod n < 0 then IntKind.i64.wrap (x.tmod n + n) else x.tmod n
theorem t44 (x n : Int) : PCall Tryz.prog 44 [.int .i64 x, .int .i64 n] (· = .int .i64 (belF x n)) := by
  by_cases hn : n < 1
  · refine PCall.intro c44 100 (by simp) 20 ?_
    simp (maxSteps := 1000000) -implicitDefEqProofs only [s44, hn, go_sem, ↓reduceIte, Nat.reduceEqDiff, Nat.reduceBEq, Int.reduceToNat, Nat.reduceAdd, Nat.reduceLT, Nat.reduceLeDiff, reduceCtorEq, Nat.reduceSub]
    repeat' (first | ((with_reducible show F _ _ (Cfg.code (SCode.qregion _) _ _ _)); refine F_q2 ?_; simp (maxSteps := 1000000) -implicitDefEqProofs only [hn, go_sem, ↓reduceIte, Nat.reduceEqDiff, Nat.reduceBEq, Int.reduceToNat, Nat.reduceAdd, Nat.reduceLT, Nat.reduceLeDiff, reduceCtorEq, Nat.reduceSub]) | ((with_reducible show F _ _ (Cfg.code (SCode.pregion _ _ _ _ _) _ _ _)); refine F_p2 ?_; simp (maxSteps := 1000000) -implicitDefEqProofs only [hn, go_sem, ↓reduceIte, Nat.reduceEqDiff, Nat.reduceBEq, Int.reduceToNat, Nat.reduceAdd, Nat.reduceLT, Nat.reduceLeDiff, reduceCtorEq, Nat.reduceSub]) | with_reducible refine Fork.mk (fun _ => ?_) (fun _ => ?_) | with_reducible refine And.intro ?_ ?_ | ((with_reducible show resP _ _ _ _ _); simp (maxSteps := 1000000) -implicitDefEqProofs only [r44, push_cast, ↓reduceIte, Nat.reduceEqDiff, reduceCtorEq, Nat.reduceAdd, Nat.reduceLT, Nat.reduceLeDiff]) | (intro _))
    all_goals simp [belF, hn]
  · have hn0 : ¬ n = 0 := by omega
    refine PCall.intro c44 100 (by simp) 20 ?_
    simp (maxSteps := 1000000) -implicitDefEqProofs only [s44, hn, hn0, ne_eq, not_false_eq_true, go_sem, ↓reduceIte, Nat.reduceEqDiff, Nat.reduceBEq, Int.reduceToNat, Nat.reduceAdd, Nat.reduceLT, Nat.reduceLeDiff, reduceCtorEq, Nat.reduceSub]
    repeat' (first | ((with_reducible show F _ _ (Cfg.code (SCode.qregion _) _ _ _)); refine F_q2 ?_; simp (maxSteps := 1000000) -implicitDefEqProofs only [hn, hn0, go_sem, ↓reduceIte, Nat.reduceEqDiff, Nat.reduceBEq, Int.reduceToNat, Nat.reduceAdd, Nat.reduceLT, Nat.reduceLeDiff, reduceCtorEq, Nat.reduceSub]) | ((with_reducible show F _ _ (Cfg.code (SCode.pregion _ _ _ _ _) _ _ _)); refine F_p2 ?_; simp (maxSteps := 1000000) -implicitDefEqProofs only [hn, hn0, go_sem, ↓reduceIte, Nat.reduceEqDiff, Nat.reduceBEq, Int.reduceToNat, Nat.reduceAdd, Nat.reduceLT, Nat.reduceLeDiff, reduceCtorEq, Nat.reduceSub]) | with_reducible refine Fork.mk (fun _ => ?_) (fun _ => ?_) | with_reducible refine And.intro ?_ ?_ | ((with_reducible show resP _ _ _ _ _); simp (maxSteps := 1000000) -implicitDefEqProofs only [r44, push_cast, ↓reduceIte, Nat.reduceEqDiff, reduceCtorEq, Nat.reduceAdd, Nat.reduceLT, Nat.reduceLeDiff]) | (intro _))
    · rename_i h
      have h : x.tmod n < 0 := by simpa using h
      rw [belF, if_neg hn, if_pos h]
    · rename_i h
      have h : ¬ x.tmod n < 0 := by simpa using h
      rw [belF, if_neg hn, if_neg h]
theorem belF_bound {x n : Int} (h1 : 1 ≤ n) (h2 : n ≤ 4611686018427387904) : 0 ≤ belF x n ∧ belF x n < n := by
  have := tmod_lt (x := x) h1
  rw [belF, if_neg (by omega)]
  split
  · have : IntKind.i64.wrap (x.tmod n + n) = x.tmod n + n := by simp [IntKind.wrap, IntKind.signed, IntKind.bits]; omega
    omega
  · omega
def nxF (L : List Int) (a : Nat) (n : Int) : Int :=
  if L.length = 0 then belF (IntKind.i64.wrap ((a + 1 : Nat) * 7919)) n
  else belF (IntKind.i64.wrap (belF (L.getD (a % L.length) 0) 1073741824 + IntKind.i64.wrap ((a / L.length : Nat) * IntKind.i64.wrap (7919 + (a % L.length : Nat))))) n
theorem nxF_bound {L : List Int} {a : Nat} {n : Int} (h1 : 1 ≤ n) (h2 : n ≤ 4611686018427387904) : 0 ≤ nxF L a n ∧ nxF L a n < n := by
  unfold nxF; split <;> exact belF_bound h1 h2
set_option maxRecDepth 20000 in
theorem t16 (L : List Int) (a : Nat) (n : Int) (ha : a ≤ 1000000) : MC 16 L a [.int .i64 n] (.int .i64 (nxF L a n)) (a + 1) := by
  intro sid N T hT
  have w1 : IntKind.i64.wrap ((a : Int) + 1) = ((a + 1 : Nat) : Int) := wrap_succ (by omega)
  have w2 : IntKind.i64.wrap (((a + 1 : Nat) : Int) - 1) = (a : Int) := by rw [wrap_int (by omega) (by omega)]; omega
  have hg := hT.get0
  have hs := hT.set0
  simp only [SB] at hg hs
  by_cases hL : L.length = 0
  · have hL0 : ((L.length : Int) = 0) = True := by simp [hL]
    have hR : nxF L a n = belF (IntKind.i64.wrap ((a + 1 : Nat) * 7919)) n := by rw [nxF, if_pos hL]
    rw [hR]
    refine ACall.intro c16 200 (by simp) ?_
    simp (maxSteps := 1000000) -implicitDefEqProofs only [s16, hg, hs, w1, hL0, go_sem, ↓reduceIte, Nat.reduceEqDiff, Nat.reduceBEq, Int.reduceToNat, Nat.reduceAdd, Nat.reduceLT, Nat.reduceLeDiff, reduceCtorEq, Nat.reduceSub]
    repeat' (first | ((with_reducible first | refine cgR (t44 _ _) ?_ ?_); (focus (simp [norefL, noref, norefL_app, norefL_str, norefL_int, norefL_encE, norefL_encS, norefL_encP, noref_encE, noref_encS, noref_encP, noref_encPl]; done)); simp (maxSteps := 1000000) -implicitDefEqProofs only [hg, hs, w1, hL0, go_sem, ↓reduceIte, Nat.reduceEqDiff, Nat.reduceBEq, Int.reduceToNat, Nat.reduceAdd, Nat.reduceLT, Nat.reduceLeDiff, reduceCtorEq, Nat.reduceSub]) | ((with_reducible apply cgF); (focus ((simp (maxSteps := 1000000) -implicitDefEqProofs only [List.map_cons, List.map_nil, push_cast, ↓reduceIte, Nat.reduceEqDiff, reduceCtorEq, Nat.reduceAdd, Nat.reduceLT, Nat.reduceLeDiff] <;> rfl); done)); (with_reducible first | exact (t44 _ _)); (focus (rfl; done)); simp (maxSteps := 1000000) -implicitDefEqProofs only [hg, hs, w1, hL0, go_sem, ↓reduceIte, Nat.reduceEqDiff, Nat.reduceBEq, Int.reduceToNat, Nat.reduceAdd, Nat.reduceLT, Nat.reduceLeDiff, reduceCtorEq, Nat.reduceSub]) | ((with_reducible show F _ _ (Cfg.code (SCode.qregion _) _ _ _)); refine F_q2 ?_; simp (maxSteps := 1000000) -implicitDefEqProofs only [hg, hs, w1, hL0, go_sem, ↓reduceIte, Nat.reduceEqDiff, Nat.reduceBEq, Int.reduceToNat, Nat.reduceAdd, Nat.reduceLT, Nat.reduceLeDiff, reduceCtorEq, Nat.reduceSub]) | ((with_reducible show F _ _ (Cfg.code (SCode.pregion _ _ _ _ _) _ _ _)); refine F_p2 ?_; simp (maxSteps := 1000000) -implicitDefEqProofs only [hg, hs, w1, hL0, go_sem, ↓reduceIte, Nat.reduceEqDiff, Nat.reduceBEq, Int.reduceToNat, Nat.reduceAdd, Nat.reduceLT, Nat.reduceLeDiff, reduceCtorEq, Nat.reduceSub]) | with_reducible refine Fork.mk (fun _ => ?_) (fun _ => ?_) | with_reducible refine And.intro ?_ ?_ | ((with_reducible show resP _ _ _ _ _); simp (maxSteps := 1000000) -implicitDefEqProofs only [r16, push_cast, ↓reduceIte, Nat.reduceEqDiff, reduceCtorEq, Nat.reduceAdd, Nat.reduceLT, Nat.reduceLeDiff]) | (intro _))
  · have hL0 : ((L.length : Int) = 0) = False := by simp; exact fun h => hL (by simp [h])
    have hR : nxF L a n = belF (IntKind.i64.wrap (belF (L.getD (a % L.length) 0) 1073741824 + IntKind.i64.wrap ((a / L.length : Nat) * IntKind.i64.wrap (7919 + (a % L.length : Nat))))) n := by rw [nxF, if_neg hL]
    have e1 : (a : Int).tmod (L.length : Int) = ((a % L.length : Nat) : Int) := rfl
    have e2 : (a : Int).tdiv (L.length : Int) = ((a / L.length : Nat) : Int) := rfl
    have hlt : a % L.length < L.length := Nat.mod_lt _ (by omega)
    have hget : (L.map (V.int .i64)).getD (a % L.length) .any = .int .i64 (L.getD (a % L.length) 0) := by simp [List.getD, hlt]
    have w3 : IntKind.i64.wrap ((a / L.length : Nat) : Int) = ((a / L.length : Nat) : Int) := (fun (q : Nat) (h : q ≤ 1000000) => wrap_int (x := (q : Int)) (by omega) (by omega)) _ (Nat.le_trans (Nat.div_le_self a L.length) ha)
    rw [hR]
    refine ACall.intro c16 200 (by simp) ?_
    simp (maxSteps := 1000000) -implicitDefEqProofs only [s16, hg, hs, w1, hL0, go_sem, ↓reduceIte, Nat.reduceEqDiff, Nat.reduceBEq, Int.reduceToNat, Nat.reduceAdd, Nat.reduceLT, Nat.reduceLeDiff, reduceCtorEq, Nat.reduceSub]
    repeat' (first | ((with_reducible first | refine cgR (t44 _ _) ?_ ?_); (focus (simp [norefL, noref, norefL_app, norefL_str, norefL_int, norefL_encE, norefL_encS, norefL_encP, noref_encE, noref_encS, noref_encP, noref_encPl]; done)); simp (maxSteps := 1000000) -implicitDefEqProofs only [hg, hs, w1, w2, w3, e1, e2, hL0, hlt, hget, go_sem, ↓reduceIte, Nat.reduceEqDiff, Nat.reduceBEq, Int.reduceToNat, Nat.reduceAdd, Nat.reduceLT, Nat.reduceLeDiff, reduceCtorEq, Nat.reduceSub]) | ((with_reducible apply cgF); (focus ((simp (maxSteps := 1000000) -implicitDefEqProofs only [List.map_cons, List.map_nil, push_cast, ↓reduceIte, Nat.reduceEqDiff, reduceCtorEq, Nat.reduceAdd, Nat.reduceLT, Nat.reduceLeDiff] <;> rfl); done)); (with_reducible first | exact (t44 _ _)); (focus (rfl; done)); simp (maxSteps := 1000000) -implicitDefEqProofs only [hg, hs, w1, w2, w3, e1, e2, hL0, hlt, hget, go_sem, ↓reduceIte, Nat.reduceEqDiff, Nat.reduceBEq, Int.reduceToNat, Nat.reduceAdd, Nat.reduceLT, Nat.reduceLeDiff, reduceCtorEq, Nat.reduceSub]) | ((with_reducible show F _ _ (Cfg.code (SCode.qregion _) _ _ _)); refine F_q2 ?_; simp (maxSteps := 1000000) -implicitDefEqProofs only [hg, hs, w1, w2, w3, e1, e2, hL0, hlt, hget, go_sem, ↓reduceIte, Nat.reduceEqDiff, Nat.reduceBEq, Int.reduceToNat, Nat.reduceAdd, Nat.reduceLT, Nat.reduceLeDiff, reduceCtorEq, Nat.reduceSub]) | ((with_reducible show F _ _ (Cfg.code (SCode.pregion _ _ _ _ _) _ _ _)); refine F_p2 ?_; simp (maxSteps := 1000000) -implicitDefEqProofs only [hg, hs, w1, w2, w3, e1, e2, hL0, hlt, hget, go_sem, ↓reduceIte, Nat.reduceEqDiff, Nat.reduceBEq, Int.reduceToNat, Nat.reduceAdd, Nat.reduceLT, Nat.reduceLeDiff, reduceCtorEq, Nat.reduceSub]) | with_reducible refine Fork.mk (fun _ => ?_) (fun _ => ?_) | with_reducible refine And.intro ?_ ?_ | ((with_reducible show resP _ _ _ _ _); simp (maxSteps := 1000000) -implicitDefEqProofs only [r16, push_cast, ↓reduceIte, Nat.reduceEqDiff, reduceCtorEq, Nat.reduceAdd, Nat.reduceLT, Nat.reduceLeDiff]) | (intro _))
    all_goals (rename_i h; exact absurd (by omega) hL)
theorem TOK.set0 {σ : Type} {N : Nat} {T : σ → List Blk} (h : TOK N T) (st : σ) (l : List Blk) (x : Blk) : (T st ++ l).set N x = T st ++ l.set 0 x := h.setS st l 0 x
theorem fz_mono (H : List Blk) : ∀ (n : Nat) {v v' : V}, fz [] n v = some v' → fz H n v = some v' := by
  intro n
  induction n with
  | zero => intro v v' h; simp [fz] at h
  | succ n ih =>
    have hl : ∀ {l l' : List V}, fzL (fz [] n) l = some l' → fzL (fz H n) l = some l' := by
      intro l
      induction l with
      | nil => intro l' h; exact h
      | cons x l ihl =>
        intro l' h
        simp only [fzL] at h ⊢
        split at h
        · rename_i y ys h1 h2
          rw [ih h1, ihl h2]; exact h
        · cases h
    intro v v' h
    cases v with
    | ptr id i c => simp [fz] at h
    | ms id i c => simp [fz] at h
    | agg cs =>
      simp only [fz] at h ⊢
      cases hq : fzL (fz [] n) cs with
      | none => rw [hq] at h; cases h
      | some l => rw [hq] at h; rw [hl hq]; exact h
    | tup cs =>
      simp only [fz] at h ⊢
      cases hq : fzL (fz [] n) cs with
      | none => rw [hq] at h; cases h
      | some l => rw [hq] at h; rw [hl hq]; exact h
    | clos g a b =>
      simp only [fz] at h ⊢
      split at h
      · rename_i a' b' ha hb
        rw [hl ha, hl hb]; exact h
      · cases h
    | _ => simpa only [fz] using h
theorem ACall.fzN {P : Program} {g : FuncId} {vs : List V} {H : List Blk} {K : V → List Blk → Prop} (h : ACall P g vs H (fun r H' => ∃ r', Av.fz [] 20 r = some r' ∧ K r' H')) : ACall P g vs H K := by
  refine ACall.fz (h.mono ?_)
  rintro r H' ⟨r', h1, h2⟩
  exact ⟨[], r', fz_mono _ _ h1, h2⟩
theorem MS.trimF {L : List Int} {sid N : Nat} {T : Nat → List Blk} (hT : MS L sid N T) {g : FuncId} {vs : List V} {a a' : Nat} {r : V} (hr : noref r = true) (h : ACall Tryz.prog g vs (T a) (fun r' H' => ∃ r2, fz [] 20 r' = some r2 ∧ r2 = r ∧ ∃ X, H' = T a' ++ X)) : ACall Tryz.prog g vs (T a) (ret1 r (T a')) :=
  hT.trim hr (ACall.fzN h)
theorem t14 (L : List Int) (a : Nat) (n : Int) (ha : a ≤ 1000000) : MC 14 L a [.int .i64 n] (.bool (decide (nxF L a n = 0))) (a + 1) := by
  intro sid N T hT
  have h16 := t16 L a n ha sid N T hT
  refine ACall.intro c14 100 (by simp) ?_
  simp (maxSteps := 1000000) -implicitDefEqProofs only [s14, go_sem, ↓reduceIte, Nat.reduceEqDiff, Nat.reduceBEq, Int.reduceToNat, Nat.reduceAdd, Nat.reduceLT, Nat.reduceLeDiff, reduceCtorEq, Nat.reduceSub]
  repeat' (first | ((with_reducible first | refine cgA h16 ?_); simp (maxSteps := 1000000) -implicitDefEqProofs only [go_sem, ↓reduceIte, Nat.reduceEqDiff, Nat.reduceBEq, Int.reduceToNat, Nat.reduceAdd, Nat.reduceLT, Nat.reduceLeDiff, reduceCtorEq, Nat.reduceSub]) | ((with_reducible show F _ _ (Cfg.code (SCode.qregion _) _ _ _)); refine F_q2 ?_; simp (maxSteps := 1000000) -implicitDefEqProofs only [go_sem, ↓reduceIte, Nat.reduceEqDiff, Nat.reduceBEq, Int.reduceToNat, Nat.reduceAdd, Nat.reduceLT, Nat.reduceLeDiff, reduceCtorEq, Nat.reduceSub]) | ((with_reducible show F _ _ (Cfg.code (SCode.pregion _ _ _ _ _) _ _ _)); refine F_p2 ?_; simp (maxSteps := 1000000) -implicitDefEqProofs only [go_sem, ↓reduceIte, Nat.reduceEqDiff, Nat.reduceBEq, Int.reduceToNat, Nat.reduceAdd, Nat.reduceLT, Nat.reduceLeDiff, reduceCtorEq, Nat.reduceSub]) | with_reducible refine Fork.mk (fun _ => ?_) (fun _ => ?_) | with_reducible refine And.intro ?_ ?_ | ((with_reducible show resP _ _ _ _ _); simp (maxSteps := 1000000) -implicitDefEqProofs only [r14, push_cast, ↓reduceIte, Nat.reduceEqDiff, reduceCtorEq, Nat.reduceAdd, Nat.reduceLT, Nat.reduceLeDiff]) | (intro _))
theorem t5 (L : List Int) (a : Nat) (l : List Int) (ha : a ≤ 1000000) (hl : 1 ≤ l.length) (hl2 : l.length ≤ 1000) : MC 5 L a [.fs (l.map (.int .i64))] (.int .i64 (l.getD (nxF L a l.length).toNat 0)) (a + 1) := by
  intro sid N T hT
  have hb := nxF_bound (L := L) (a := a) (n := l.length) (by omega) (by omega)
  have h16 := t16 L a l.length ha sid N T hT
  generalize nxF L a l.length = v at *
  have hix : ixP v l.length = True := by simp [ixP]; omega
  have hg : (l.map (V.int .i64)).getD v.toNat .any = .int .i64 (l.getD v.toNat 0) := by simp [List.getD, show v.toNat < l.length by omega]
  refine ACall.intro c5 100 (by simp) ?_
  simp (maxSteps := 1000000) -implicitDefEqProofs only [s5, hix, hg, go_sem, ↓reduceIte, Nat.reduceEqDiff, Nat.reduceBEq, Int.reduceToNat, Nat.reduceAdd, Nat.reduceLT, Nat.reduceLeDiff, reduceCtorEq, Nat.reduceSub]
  repeat' (first | ((with_reducible first | refine cgA h16 ?_); simp (maxSteps := 1000000) -implicitDefEqProofs only [hix, hg, go_sem, ↓reduceIte, Nat.reduceEqDiff, Nat.reduceBEq, Int.reduceToNat, Nat.reduceAdd, Nat.reduceLT, Nat.reduceLeDiff, reduceCtorEq, Nat.reduceSub]) | ((with_reducible show F _ _ (Cfg.code (SCode.qregion _) _ _ _)); refine F_q2 ?_; simp (maxSteps := 1000000) -implicitDefEqProofs only [hix, hg, go_sem, ↓reduceIte, Nat.reduceEqDiff, Nat.reduceBEq, Int.reduceToNat, Nat.reduceAdd, Nat.reduceLT, Nat.reduceLeDiff, reduceCtorEq, Nat.reduceSub]) | ((with_reducible show F _ _ (Cfg.code (SCode.pregion _ _ _ _ _) _ _ _)); refine F_p2 ?_; simp (maxSteps := 1000000) -implicitDefEqProofs only [hix, hg, go_sem, ↓reduceIte, Nat.reduceEqDiff, Nat.reduceBEq, Int.reduceToNat, Nat.reduceAdd, Nat.reduceLT, Nat.reduceLeDiff, reduceCtorEq, Nat.reduceSub]) | with_reducible refine Fork.mk (fun _ => ?_) (fun _ => ?_) | with_reducible refine And.intro ?_ ?_ | ((with_reducible show resP _ _ _ _ _); simp (maxSteps := 1000000) -implicitDefEqProofs only [r5, push_cast, ↓reduceIte, Nat.reduceEqDiff, reduceCtorEq, Nat.reduceAdd, Nat.reduceLT, Nat.reduceLeDiff]) | (intro _))
theorem t41 (L : List Int) (a : Nat) (l : List ByteArray) (ha : a ≤ 1000000) (hl : 1 ≤ l.length) (hl2 : l.length ≤ 1000) : MC 41 L a [.fs (l.map .str)] (.str (l.getD (nxF L a l.length).toNat ⟨#[]⟩)) (a + 1) := by
  intro sid N T hT
  have hb := nxF_bound (L := L) (a := a) (n := l.length) (by omega) (by omega)
  have h16 := t16 L a l.length ha sid N T hT
  generalize nxF L a l.length = v at *
  have hix : ixP v l.length = True := by simp [ixP]; omega
  have hg : (l.map V.str).getD v.toNat .any = .str (l.getD v.toNat ⟨#[]⟩) := by simp [List.getD, show v.toNat < l.length by omega]
  refine ACall.intro c41 100 (by simp) ?_
  simp (maxSteps := 1000000) -implicitDefEqProofs only [s41, hix, hg, go_sem, ↓reduceIte, Nat.reduceEqDiff, Nat.reduceBEq, Int.reduceToNat, Nat.reduceAdd, Nat.reduceLT, Nat.reduceLeDiff, reduceCtorEq, Nat.reduceSub]
  repeat' (first | ((with_reducible first | refine cgA h16 ?_); simp (maxSteps := 1000000) -implicitDefEqProofs only [hix, hg, go_sem, ↓reduceIte, Nat.reduceEqDiff, Nat.reduceBEq, Int.reduceToNat, Nat.reduceAdd, Nat.reduceLT, Nat.reduceLeDiff, reduceCtorEq, Nat.reduceSub]) | ((with_reducible show F _ _ (Cfg.code (SCode.qregion _) _ _ _)); refine F_q2 ?_; simp (maxSteps := 1000000) -implicitDefEqProofs only [hix, hg, go_sem, ↓reduceIte, Nat.reduceEqDiff, Nat.reduceBEq, Int.reduceToNat, Nat.reduceAdd, Nat.reduceLT, Nat.reduceLeDiff, reduceCtorEq, Nat.reduceSub]) | ((with_reducible show F _ _ (Cfg.code (SCode.pregion _ _ _ _ _) _ _ _)); refine F_p2 ?_; simp (maxSteps := 1000000) -implicitDefEqProofs only [hix, hg, go_sem, ↓reduceIte, Nat.reduceEqDiff, Nat.reduceBEq, Int.reduceToNat, Nat.reduceAdd, Nat.reduceLT, Nat.reduceLeDiff, reduceCtorEq, Nat.reduceSub]) | with_reducible refine Fork.mk (fun _ => ?_) (fun _ => ?_) | with_reducible refine And.intro ?_ ?_ | ((with_reducible show resP _ _ _ _ _); simp (maxSteps := 1000000) -implicitDefEqProofs only [r41, push_cast, ↓reduceIte, Nat.reduceEqDiff, reduceCtorEq, Nat.reduceAdd, Nat.reduceLT, Nat.reduceLeDiff]) | (intro _))
theorem t39 (L : List Int) (a : Nat) (lo hi : Int) (ha : a ≤ 1000000) (h : lo ≤ hi) (h1 : -1000000 ≤ lo) (h2 : hi ≤ 1000000) : MC 39 L a [.int .i64 lo, .int .i64 hi] (.int .i64 (lo + nxF L a (hi - lo + 1))) (a + 1) := by
  intro sid N T hT
  have hb := nxF_bound (L := L) (a := a) (n := hi - lo + 1) (by omega) (by omega)
  have h16 := t16 L a (hi - lo + 1) ha sid N T hT
  generalize nxF L a (hi - lo + 1) = v at *
  have w1 : IntKind.i64.wrap (hi - lo) = hi - lo := wrap_int (by omega) (by omega)
  have w2 : IntKind.i64.wrap (hi - lo + 1) = hi - lo + 1 := wrap_int (by omega) (by omega)
  have w3 : IntKind.i64.wrap (lo + v) = lo + v := wrap_int (by omega) (by omega)
  have hc : ¬ hi < lo := by omega
  refine ACall.intro c39 100 (by simp) ?_
  simp (maxSteps := 1000000) -implicitDefEqProofs only [s39, w1, w2, hc, go_sem, ↓reduceIte, Nat.reduceEqDiff, Nat.reduceBEq, Int.reduceToNat, Nat.reduceAdd, Nat.reduceLT, Nat.reduceLeDiff, reduceCtorEq, Nat.reduceSub]
  repeat' (first | ((with_reducible first | refine cgA h16 ?_); simp (maxSteps := 1000000) -implicitDefEqProofs only [w1, w2, w3, hc, go_sem, ↓reduceIte, Nat.reduceEqDiff, Nat.reduceBEq, Int.reduceToNat, Nat.reduceAdd, Nat.reduceLT, Nat.reduceLeDiff, reduceCtorEq, Nat.reduceSub]) | ((with_reducible show F _ _ (Cfg.code (SCode.qregion _) _ _ _)); refine F_q2 ?_; simp (maxSteps := 1000000) -implicitDefEqProofs only [w1, w2, w3, hc, go_sem, ↓reduceIte, Nat.reduceEqDiff, Nat.reduceBEq, Int.reduceToNat, Nat.reduceAdd, Nat.reduceLT, Nat.reduceLeDiff, reduceCtorEq, Nat.reduceSub]) | ((with_reducible show F _ _ (Cfg.code (SCode.pregion _ _ _ _ _) _ _ _)); refine F_p2 ?_; simp (maxSteps := 1000000) -implicitDefEqProofs only [w1, w2, w3, hc, go_sem, ↓reduceIte, Nat.reduceEqDiff, Nat.reduceBEq, Int.reduceToNat, Nat.reduceAdd, Nat.reduceLT, Nat.reduceLeDiff, reduceCtorEq, Nat.reduceSub]) | with_reducible refine Fork.mk (fun _ => ?_) (fun _ => ?_) | with_reducible refine And.intro ?_ ?_ | ((with_reducible show resP _ _ _ _ _); simp (maxSteps := 1000000) -implicitDefEqProofs only [r39, push_cast, ↓reduceIte, Nat.reduceEqDiff, reduceCtorEq, Nat.reduceAdd, Nat.reduceLT, Nat.reduceLeDiff]) | (intro _))
theorem t48 (L : List Int) (a : Nat) (lo hi : Int) (ha : a ≤ 900000) (h : lo ≤ hi) (h1 : -1000000 ≤ lo) (h2 : hi ≤ 1000000) : ∃ v, MC 48 L a [.int .i64 lo, .int .i64 hi] (.int .i64 v) (a + 2) := by
  have w1 : IntKind.i64.wrap (lo - 1) = lo - 1 := wrap_int (by omega) (by omega)
  have w2 : IntKind.i64.wrap (hi + 1) = hi + 1 := wrap_int (by omega) (by omega)
  by_cases h0 : nxF L a 12 = 0
  · refine ⟨[lo - 1, hi + 1, lo, hi, -1099511627776, 1099511627776].getD (nxF L (a + 1) 6).toNat 0, fun sid N T hT => ?_⟩
    have h14 := t14 L a 12 (by omega) sid N T hT
    rw [h0] at h14
    have h5 := t5 L (a + 1) [lo - 1, hi + 1, lo, hi, -1099511627776, 1099511627776] (by omega) (by simp) (by simp) sid N T hT
    simp only [List.map_cons, List.map_nil, List.length_cons, List.length_nil, Nat.zero_add, Nat.reduceAdd] at h5
    generalize nxF L (a + 1) _ = v at *
    refine ACall.intro c48 100 (by simp) ?_
    simp (maxSteps := 1000000) -implicitDefEqProofs only [s48, w1, w2, go_sem, ↓reduceIte, Nat.reduceEqDiff, Nat.reduceBEq, Int.reduceToNat, Nat.reduceAdd, Nat.reduceLT, Nat.reduceLeDiff, reduceCtorEq, Nat.reduceSub]
    repeat' (first | ((with_reducible first | refine cgA h14 ?_ | refine cgA h5 ?_); simp (maxSteps := 1000000) -implicitDefEqProofs only [w1, w2, go_sem, ↓reduceIte, Nat.reduceEqDiff, Nat.reduceBEq, Int.reduceToNat, Nat.reduceAdd, Nat.reduceLT, Nat.reduceLeDiff, reduceCtorEq, Nat.reduceSub]) | ((with_reducible show F _ _ (Cfg.code (SCode.qregion _) _ _ _)); refine F_q2 ?_; simp (maxSteps := 1000000) -implicitDefEqProofs only [w1, w2, go_sem, ↓reduceIte, Nat.reduceEqDiff, Nat.reduceBEq, Int.reduceToNat, Nat.reduceAdd, Nat.reduceLT, Nat.reduceLeDiff, reduceCtorEq, Nat.reduceSub]) | ((with_reducible show F _ _ (Cfg.code (SCode.pregion _ _ _ _ _) _ _ _)); refine F_p2 ?_; simp (maxSteps := 1000000) -implicitDefEqProofs only [w1, w2, go_sem, ↓reduceIte, Nat.reduceEqDiff, Nat.reduceBEq, Int.reduceToNat, Nat.reduceAdd, Nat.reduceLT, Nat.reduceLeDiff, reduceCtorEq, Nat.reduceSub]) | with_reducible refine Fork.mk (fun _ => ?_) (fun _ => ?_) | with_reducible refine And.intro ?_ ?_ | ((with_reducible show resP _ _ _ _ _); simp (maxSteps := 1000000) -implicitDefEqProofs only [r48, push_cast, ↓reduceIte, Nat.reduceEqDiff, reduceCtorEq, Nat.reduceAdd, Nat.reduceLT, Nat.reduceLeDiff]) | (intro _))
  · refine ⟨lo + nxF L (a + 1) (hi - lo + 1), fun sid N T hT => ?_⟩
    have h14 := t14 L a 12 (by omega) sid N T hT
    rw [decide_eq_false h0] at h14
    have h39 := t39 L (a + 1) lo hi (by omega) h h1 h2 sid N T hT
    refine ACall.intro c48 100 (by simp) ?_
    simp (maxSteps := 1000000) -implicitDefEqProofs only [s48, w1, w2, go_sem, ↓reduceIte, Nat.reduceEqDiff, Nat.reduceBEq, Int.reduceToNat, Nat.reduceAdd, Nat.reduceLT, Nat.reduceLeDiff, reduceCtorEq, Nat.reduceSub]
    repeat' (first | ((with_reducible first | refine cgA h14 ?_ | refine cgA h39 ?_); simp (maxSteps := 1000000) -implicitDefEqProofs only [w1, w2, go_sem, ↓reduceIte, Nat.reduceEqDiff, Nat.reduceBEq, Int.reduceToNat, Nat.reduceAdd, Nat.reduceLT, Nat.reduceLeDiff, reduceCtorEq, Nat.reduceSub]) | ((with_reducible show F _ _ (Cfg.code (SCode.qregion _) _ _ _)); refine F_q2 ?_; simp (maxSteps := 1000000) -implicitDefEqProofs only [w1, w2, go_sem, ↓reduceIte, Nat.reduceEqDiff, Nat.reduceBEq, Int.reduceToNat, Nat.reduceAdd, Nat.reduceLT, Nat.reduceLeDiff, reduceCtorEq, Nat.reduceSub]) | ((with_reducible show F _ _ (Cfg.code (SCode.pregion _ _ _ _ _) _ _ _)); refine F_p2 ?_; simp (maxSteps := 1000000) -implicitDefEqProofs only [w1, w2, go_sem, ↓reduceIte, Nat.reduceEqDiff, Nat.reduceBEq, Int.reduceToNat, Nat.reduceAdd, Nat.reduceLT, Nat.reduceLeDiff, reduceCtorEq, Nat.reduceSub]) | with_reducible refine Fork.mk (fun _ => ?_) (fun _ => ?_) | with_reducible refine And.intro ?_ ?_ | ((with_reducible show resP _ _ _ _ _); simp (maxSteps := 1000000) -implicitDefEqProofs only [r48, push_cast, ↓reduceIte, Nat.reduceEqDiff, reduceCtorEq, Nat.reduceAdd, Nat.reduceLT, Nat.reduceLeDiff]) | (intro _))
theorem t45 (L : List Int) (a : Nat) (ha : a ≤ 900000) : ∃ x, wE x = 1 ∧ MC 45 L a [] (encE x) (a + 2) := by
  by_cases h0 : nxF L a 2 = 0
  · refine ⟨.mk 1 ([0, 1, 2, 5, 999].getD (nxF L (a + 1) 5).toNat 0) ⟨#[]⟩ [], rfl, fun sid N T hT => hT.trimF (noref_encE _) ?_⟩
    have h14 := t14 L a 2 (by omega) sid _ _ (hT.app [.row [.agg [.int .i64 0, .int .i64 0, .str ⟨#[]⟩, .nils]]])
    rw [decide_eq_true h0] at h14
    have h5 := t5 L (a + 1) [0, 1, 2, 5, 999] (by omega) (by simp) (by simp) sid _ _ (hT.app [.row [.agg [.int .i64 0, .int .i64 0, .str ⟨#[]⟩, .nils]]])
    simp only [List.map_cons, List.map_nil, List.length_cons, List.length_nil, Nat.zero_add, Nat.reduceAdd] at h5
    rw [encE_mk]
    change ACall _ _ _ _ (ret1 (.int .i64 ([0, 1, 2, 5, 999].getD (nxF L (a + 1) 5).toNat 0)) _) at h5
    generalize [0, 1, 2, 5, 999].getD (nxF L (a + 1) 5).toNat 0 = v at *
    refine ACall.intro c45 100 (by simp) ?_
    simp (maxSteps := 1000000) -implicitDefEqProofs only [s45, hT.tok.len, hT.tok.at0, hT.tok.atS, hT.tok.set0, hT.tok.setS, hT.tok.get, go_sem, ↓reduceIte, Nat.reduceEqDiff, Nat.reduceBEq, Int.reduceToNat, Nat.reduceAdd, Nat.reduceLT, Nat.reduceLeDiff, reduceCtorEq, Nat.reduceSub]
    repeat' (first | ((with_reducible first | refine cgA h14 ?_ | refine cgA h5 ?_); simp (maxSteps := 1000000) -implicitDefEqProofs only [hT.tok.len, hT.tok.at0, hT.tok.atS, hT.tok.set0, hT.tok.setS, hT.tok.get, go_sem, ↓reduceIte, Nat.reduceEqDiff, Nat.reduceBEq, Int.reduceToNat, Nat.reduceAdd, Nat.reduceLT, Nat.reduceLeDiff, reduceCtorEq, Nat.reduceSub]) | ((with_reducible show F _ _ (Cfg.code (SCode.qregion _) _ _ _)); refine F_q2 ?_; simp (maxSteps := 1000000) -implicitDefEqProofs only [hT.tok.len, hT.tok.at0, hT.tok.atS, hT.tok.set0, hT.tok.setS, hT.tok.get, go_sem, ↓reduceIte, Nat.reduceEqDiff, Nat.reduceBEq, Int.reduceToNat, Nat.reduceAdd, Nat.reduceLT, Nat.reduceLeDiff, reduceCtorEq, Nat.reduceSub]) | ((with_reducible show F _ _ (Cfg.code (SCode.pregion _ _ _ _ _) _ _ _)); refine F_p2 ?_; simp (maxSteps := 1000000) -implicitDefEqProofs only [hT.tok.len, hT.tok.at0, hT.tok.atS, hT.tok.set0, hT.tok.setS, hT.tok.get, go_sem, ↓reduceIte, Nat.reduceEqDiff, Nat.reduceBEq, Int.reduceToNat, Nat.reduceAdd, Nat.reduceLT, Nat.reduceLeDiff, reduceCtorEq, Nat.reduceSub]) | with_reducible refine Fork.mk (fun _ => ?_) (fun _ => ?_) | with_reducible refine And.intro ?_ ?_ | ((with_reducible show resP _ _ _ _ _); simp (maxSteps := 1000000) -implicitDefEqProofs only [r45, hT.tok.len, hT.tok.at0, hT.tok.atS, hT.tok.set0, hT.tok.setS, hT.tok.get, push_cast, ↓reduceIte, Nat.reduceEqDiff, reduceCtorEq, Nat.reduceAdd, Nat.reduceLT, Nat.reduceLeDiff]) | (intro _))
    all_goals exact ⟨_, rfl⟩
  · refine ⟨.mk 2 0 ([⟨#[120]⟩, ⟨#[121]⟩, ⟨#[120]⟩, ⟨#[122]⟩].getD (nxF L (a + 1) 4).toNat ⟨#[]⟩) [], rfl, fun sid N T hT => hT.trimF (noref_encE _) ?_⟩
    have h14 := t14 L a 2 (by omega) sid _ _ (hT.app [.row [.agg [.int .i64 0, .int .i64 0, .str ⟨#[]⟩, .nils]]])
    rw [decide_eq_false h0] at h14
    have h5 := t41 L (a + 1) [⟨#[120]⟩, ⟨#[121]⟩, ⟨#[120]⟩, ⟨#[122]⟩] (by omega) (by simp) (by simp) sid _ _ (hT.app [.row [.agg [.int .i64 0, .int .i64 0, .str ⟨#[]⟩, .nils]]])
    simp only [List.map_cons, List.map_nil, List.length_cons, List.length_nil, Nat.zero_add, Nat.reduceAdd] at h5
    rw [encE_mk]
    change ACall _ _ _ _ (ret1 (.str ([⟨#[120]⟩, ⟨#[121]⟩, ⟨#[120]⟩, ⟨#[122]⟩].getD (nxF L (a + 1) 4).toNat ⟨#[]⟩)) _) at h5
    generalize [(⟨#[120]⟩ : ByteArray), ⟨#[121]⟩, ⟨#[120]⟩, ⟨#[122]⟩].getD (nxF L (a + 1) 4).toNat ⟨#[]⟩ = v at *
    refine ACall.intro c45 100 (by simp) ?_
    simp (maxSteps := 1000000) -implicitDefEqProofs only [s45, hT.tok.len, hT.tok.at0, hT.tok.atS, hT.tok.set0, hT.tok.setS, hT.tok.get, go_sem, ↓reduceIte, Nat.reduceEqDiff, Nat.reduceBEq, Int.reduceToNat, Nat.reduceAdd, Nat.reduceLT, Nat.reduceLeDiff, reduceCtorEq, Nat.reduceSub]
    repeat' (first | ((with_reducible first | refine cgA h14 ?_ | refine cgA h5 ?_); simp (maxSteps := 1000000) -implicitDefEqProofs only [hT.tok.len, hT.tok.at0, hT.tok.atS, hT.tok.set0, hT.tok.setS, hT.tok.get, go_sem, ↓reduceIte, Nat.reduceEqDiff, Nat.reduceBEq, Int.reduceToNat, Nat.reduceAdd, Nat.reduceLT, Nat.reduceLeDiff, reduceCtorEq, Nat.reduceSub]) | ((with_reducible show F _ _ (Cfg.code (SCode.qregion _) _ _ _)); refine F_q2 ?_; simp (maxSteps := 1000000) -implicitDefEqProofs only [hT.tok.len, hT.tok.at0, hT.tok.atS, hT.tok.set0, hT.tok.setS, hT.tok.get, go_sem, ↓reduceIte, Nat.reduceEqDiff, Nat.reduceBEq, Int.reduceToNat, Nat.reduceAdd, Nat.reduceLT, Nat.reduceLeDiff, reduceCtorEq, Nat.reduceSub]) | ((with_reducible show F _ _ (Cfg.code (SCode.pregion _ _ _ _ _) _ _ _)); refine F_p2 ?_; simp (maxSteps := 1000000) -implicitDefEqProofs only [hT.tok.len, hT.tok.at0, hT.tok.atS, hT.tok.set0, hT.tok.setS, hT.tok.get, go_sem, ↓reduceIte, Nat.reduceEqDiff, Nat.reduceBEq, Int.reduceToNat, Nat.reduceAdd, Nat.reduceLT, Nat.reduceLeDiff, reduceCtorEq, Nat.reduceSub]) | with_reducible refine Fork.mk (fun _ => ?_) (fun _ => ?_) | with_reducible refine And.intro ?_ ?_ | ((with_reducible show resP _ _ _ _ _); simp (maxSteps := 1000000) -implicitDefEqProofs only [r45, hT.tok.len, hT.tok.at0, hT.tok.atS, hT.tok.set0, hT.tok.setS, hT.tok.get, push_cast, ↓reduceIte, Nat.reduceEqDiff, reduceCtorEq, Nat.reduceAdd, Nat.reduceLT, Nat.reduceLeDiff]) | (intro _))
    all_goals exact ⟨_, rfl⟩
end Go.Proofs.YteoboibjepokoaaGreatDoor.Av
