/- Proved: for every list of numbers the law WaysFollowed answers true and leaves its argument as it was (the tied card); no condition beyond the row's own. Text 7 of 15. -/
import Derived.Test.YtdgoeblpcnjlbaaGreatDoorW6
set_option linter.unusedVariables false
set_option linter.unusedSimpArgs false
set_option linter.unusedSectionVars false
set_option linter.all false
namespace Go.Proofs.YtdgoeblpcnjlbaaGreatDoor.Av
open Go.RowKit
set_option maxRecDepth 20000 in
theorem t70k3 (r t v l : ByteArray) (ek en : Int) (es : ByteArray) (eas : List Ex) (a b : List St) (p : ByteArray) (ps : List ByteArray) (d : Int) :
  PCall Tryz.prog 181 [encS (.mk 3 r t v l (.mk ek en es eas) a b p ps), .int .i64 d] (·= .int .i64 (stF 3 r t v l (.mk ek en es eas) (isNone ek en es eas) a.length b.length p ps d)) := by
 have qA : PCall Tryz.prog 236 [.fs [.int .i64 1, .int .i64 2, .int .i64 3, .int .i64 4], .rptr [.int .i64 3]] (·= .bool true) := t78 [1, 2, 3, 4] 3
 have qB : PCall Tryz.prog 236 [.fs [.int .i64 1, .int .i64 2], .rptr [.int .i64 3]] (·= .bool false) := t78 [1, 2] 3
 have qC : PCall Tryz.prog 236 [.fs [.int .i64 1, .int .i64 3], .rptr [.int .i64 3]] (·= .bool true) := t78 [1, 3] 3
 have qD : PCall Tryz.prog 236 [.fs [.int .i64 2], .rptr [.int .i64 3]] (·= .bool false) := t78 [2] 3
 have qE : PCall Tryz.prog 236 [.fs [.int .i64 5], .rptr [.int .i64 3]] (·= .bool false) := t78 [5] 3
 have qG : PCall Tryz.prog 236 [.fs [.int .i64 1, .int .i64 3, .int .i64 4], .rptr [.int .i64 3]] (·= .bool true) := t78 [1, 3, 4] 3
 have q31 : PCall Tryz.prog 158 [.int .i64 3, .int .i64 1, .int .i64 5] (·= .bool true) := t31 3 1 5
 have h81 : PCall Tryz.prog 239 [encE (.mk ek en es eas)] (·= .bool (isNone ek en es eas)) := t81 ek en es eas
 have h83 := t83 (.mk ek en es eas)
 have h82 := t82 ps
 have h82n := t82 [r, v]
 simp only [List.map_cons, List.map_nil] at h82n
 rw [encE_mk] at h81 h83
 refine PCall.intro c70 700 (by simp) 20 ?_
 simp -implicitDefEqProofs only [s70, encS_mk, go_sem]
 repeat' (first | ((first | (with_reducible first | refine cgA (t80f (by with_unfolding_all rfl)) ?_ | refine cgA (t80n (by with_unfolding_all rfl)) ?_ | refine cgA (t80m (ns := [.str r]) (by with_unfolding_all rfl) (by with_unfolding_all rfl) (by simp) (by simp) (by simp) headOk1) ?_) | ((with_reducible first | refine cgR q31 ?_ ?_ | refine cgR qA ?_ ?_ | refine cgR qB ?_ ?_ | refine cgR qC ?_ ?_ | refine cgR qD ?_ ?_ | refine cgR qE ?_ ?_ | refine cgR qG ?_ ?_ | refine cgR h81 ?_ ?_ | refine cgR h83 ?_ ?_ | refine cgR h82n ?_ ?_ | refine cgR h82 ?_ ?_); (·simp [norefL, noref, nrb])) | ((with_reducible apply cgF); (·simp -implicitDefEqProofs only [List.map_cons, List.map_nil, push_cast, go_sem_proc] <;> rfl); (with_reducible first | exact q31 | exact qA | exact qB | exact qC | exact qD | exact qE | exact qG | exact h81 | exact h83 | exact h82n | exact h82); (·rfl)) | (with_reducible refine F_q2 ?_)); simp -implicitDefEqProofs only [Bool.and_true, Bool.true_and, Bool.false_and, Bool.and_false, headOk1, go_sem]) | (with_reducible refine Fork.mk ?_ ?_) | (with_reducible refine And.intro ?_ ?_) | ((with_reducible refine rpI ?_); simp -implicitDefEqProofs only [r70, push_cast, go_sem_proc]) | intro _)
 all_goals clear qA qB qC qD qE qG q31 h81 h83 h82 h82n
 all_goals (generalize isNone ek en es eas = Z at *)
 all_goals simp only [stF, foF, naF]
 all_goals (generalize exF _ _ = X at *; generalize (ps.any fun s => !isNm s) = B at *; generalize ps.length = q at *; generalize a.length = m at *; generalize b.length = n at *)
 all_goals (first | (simp_all [nE]; done) | (simp_all [nE]; omega))
set_option maxRecDepth 20000 in
theorem t70k4 (r t v l : ByteArray) (ek en : Int) (es : ByteArray) (eas : List Ex) (a b : List St) (p : ByteArray) (ps : List ByteArray) (d : Int) :
  PCall Tryz.prog 181 [encS (.mk 4 r t v l (.mk ek en es eas) a b p ps), .int .i64 d] (·= .int .i64 (stF 4 r t v l (.mk ek en es eas) (isNone ek en es eas) a.length b.length p ps d)) := by
 have qA : PCall Tryz.prog 236 [.fs [.int .i64 1, .int .i64 2, .int .i64 3, .int .i64 4], .rptr [.int .i64 4]] (·= .bool true) := t78 [1, 2, 3, 4] 4
 have qB : PCall Tryz.prog 236 [.fs [.int .i64 1, .int .i64 2], .rptr [.int .i64 4]] (·= .bool false) := t78 [1, 2] 4
 have qC : PCall Tryz.prog 236 [.fs [.int .i64 1, .int .i64 3], .rptr [.int .i64 4]] (·= .bool false) := t78 [1, 3] 4
 have qD : PCall Tryz.prog 236 [.fs [.int .i64 2], .rptr [.int .i64 4]] (·= .bool false) := t78 [2] 4
 have qE : PCall Tryz.prog 236 [.fs [.int .i64 5], .rptr [.int .i64 4]] (·= .bool false) := t78 [5] 4
 have qG : PCall Tryz.prog 236 [.fs [.int .i64 1, .int .i64 3, .int .i64 4], .rptr [.int .i64 4]] (·= .bool true) := t78 [1, 3, 4] 4
 have q31 : PCall Tryz.prog 158 [.int .i64 4, .int .i64 1, .int .i64 5] (·= .bool true) := t31 4 1 5
 have h81 : PCall Tryz.prog 239 [encE (.mk ek en es eas)] (·= .bool (isNone ek en es eas)) := t81 ek en es eas
 have h83 := t83 (.mk ek en es eas)
 have h82 := t82 ps
 have h82n := t82 [r]
 simp only [List.map_cons, List.map_nil] at h82n
 rw [encE_mk] at h81 h83
 refine PCall.intro c70 700 (by simp) 20 ?_
 simp -implicitDefEqProofs only [s70, encS_mk, go_sem]
 repeat' (first | ((first | (with_reducible first | refine cgA (t80f (by with_unfolding_all rfl)) ?_ | refine cgA (t80n (by with_unfolding_all rfl)) ?_) | ((with_reducible first | refine cgR q31 ?_ ?_ | refine cgR qA ?_ ?_ | refine cgR qB ?_ ?_ | refine cgR qC ?_ ?_ | refine cgR qD ?_ ?_ | refine cgR qE ?_ ?_ | refine cgR qG ?_ ?_ | refine cgR h81 ?_ ?_ | refine cgR h83 ?_ ?_ | refine cgR h82n ?_ ?_ | refine cgR h82 ?_ ?_); (·simp [norefL, noref, nrb])) | ((with_reducible apply cgF); (·simp -implicitDefEqProofs only [List.map_cons, List.map_nil, push_cast, go_sem_proc] <;> rfl); (with_reducible first | exact q31 | exact qA | exact qB | exact qC | exact qD | exact qE | exact qG | exact h81 | exact h83 | exact h82n | exact h82); (·rfl)) | (with_reducible refine F_q2 ?_)); simp -implicitDefEqProofs only [Bool.and_true, Bool.true_and, Bool.false_and, Bool.and_false, headOk1, go_sem]) | (with_reducible refine Fork.mk ?_ ?_) | (with_reducible refine And.intro ?_ ?_) | ((with_reducible refine rpI ?_); simp -implicitDefEqProofs only [r70, push_cast, go_sem_proc]) | intro _)
 all_goals clear qA qB qC qD qE qG q31 h81 h83 h82 h82n
 all_goals (generalize isNone ek en es eas = Z at *)
 all_goals simp only [stF, foF, naF]
 all_goals (generalize exF _ _ = X at *; generalize (ps.any fun s => !isNm s) = B at *; generalize ps.length = q at *; generalize a.length = m at *; generalize b.length = n at *)
 all_goals (first | (simp_all [nE]; done) | (simp_all [nE]; omega))
set_option maxRecDepth 20000 in
theorem t70k5 (r t v l : ByteArray) (ek en : Int) (es : ByteArray) (eas : List Ex) (a b : List St) (p : ByteArray) (ps : List ByteArray) (d : Int) :
  PCall Tryz.prog 181 [encS (.mk 5 r t v l (.mk ek en es eas) a b p ps), .int .i64 d] (·= .int .i64 (stF 5 r t v l (.mk ek en es eas) (isNone ek en es eas) a.length b.length p ps d)) := by
 have qA : PCall Tryz.prog 236 [.fs [.int .i64 1, .int .i64 2, .int .i64 3, .int .i64 4], .rptr [.int .i64 5]] (·= .bool false) := t78 [1, 2, 3, 4] 5
 have qB : PCall Tryz.prog 236 [.fs [.int .i64 1, .int .i64 2], .rptr [.int .i64 5]] (·= .bool false) := t78 [1, 2] 5
 have qC : PCall Tryz.prog 236 [.fs [.int .i64 1, .int .i64 3], .rptr [.int .i64 5]] (·= .bool false) := t78 [1, 3] 5
 have qD : PCall Tryz.prog 236 [.fs [.int .i64 2], .rptr [.int .i64 5]] (·= .bool false) := t78 [2] 5
 have qE : PCall Tryz.prog 236 [.fs [.int .i64 5], .rptr [.int .i64 5]] (·= .bool true) := t78 [5] 5
 have qG : PCall Tryz.prog 236 [.fs [.int .i64 1, .int .i64 3, .int .i64 4], .rptr [.int .i64 5]] (·= .bool false) := t78 [1, 3, 4] 5
 have q31 : PCall Tryz.prog 158 [.int .i64 5, .int .i64 1, .int .i64 5] (·= .bool true) := t31 5 1 5
 have h81 : PCall Tryz.prog 239 [encE (.mk ek en es eas)] (·= .bool (isNone ek en es eas)) := t81 ek en es eas
 have h83 := t83 (.mk ek en es eas)
 have h82 := t82 ps
 have h82n := t82 [p]
 simp only [List.map_cons, List.map_nil] at h82n
 rw [encE_mk] at h81 h83
 refine PCall.intro c70 700 (by simp) 20 ?_
 simp -implicitDefEqProofs only [s70, encS_mk, go_sem]
 repeat' (first | ((first | (with_reducible first | refine cgA (t80f (by with_unfolding_all rfl)) ?_ | refine cgA (t80n (by with_unfolding_all rfl)) ?_) | ((with_reducible first | refine cgR q31 ?_ ?_ | refine cgR qA ?_ ?_ | refine cgR qB ?_ ?_ | refine cgR qC ?_ ?_ | refine cgR qD ?_ ?_ | refine cgR qE ?_ ?_ | refine cgR qG ?_ ?_ | refine cgR h81 ?_ ?_ | refine cgR h83 ?_ ?_ | refine cgR h82n ?_ ?_ | refine cgR h82 ?_ ?_); (·simp [norefL, noref, nrb])) | ((with_reducible apply cgF); (·simp -implicitDefEqProofs only [List.map_cons, List.map_nil, push_cast, go_sem_proc] <;> rfl); (with_reducible first | exact q31 | exact qA | exact qB | exact qC | exact qD | exact qE | exact qG | exact h81 | exact h83 | exact h82n | exact h82); (·rfl)) | (with_reducible refine F_q2 ?_)); simp -implicitDefEqProofs only [Bool.and_true, Bool.true_and, Bool.false_and, Bool.and_false, headOk1, go_sem]) | (with_reducible refine Fork.mk ?_ ?_) | (with_reducible refine And.intro ?_ ?_) | ((with_reducible refine rpI ?_); simp -implicitDefEqProofs only [r70, push_cast, go_sem_proc]) | intro _)
 all_goals clear qA qB qC qD qE qG q31 h81 h83 h82 h82n
 all_goals (generalize isNone ek en es eas = Z at *)
 all_goals simp only [stF, foF, naF]
 all_goals (generalize exF _ _ = X at *; generalize (ps.any fun s => !isNm s) = B at *; generalize ps.length = q at *; generalize a.length = m at *; generalize b.length = n at *)
 all_goals (first | (simp_all [nE]; done) | (simp_all [nE]; omega))
end Go.Proofs.YtdgoeblpcnjlbaaGreatDoor.Av

namespace Go.Proofs.YtdgoeblpcnjlbaaGreatDoor.Av
open Go.RowKit
set_option maxRecDepth 20000 in
theorem t70e (k : Int) (hk : k < 1 ∨ 5 < k) (r t v l : ByteArray) (ek en : Int) (es : ByteArray) (eas : List Ex) (a b : List St) (p : ByteArray) (ps : List ByteArray) (d : Int) :
  PCall Tryz.prog 181 [encS (.mk k r t v l (.mk ek en es eas) a b p ps), .int .i64 d] (·= .int .i64 (stF k r t v l (.mk ek en es eas) (isNone ek en es eas) a.length b.length p ps d)) := by
 have q31 : PCall Tryz.prog 158 [.int .i64 k, .int .i64 1, .int .i64 5] (·= .bool false) := by
  have := t31 k 1 5
  rwa [show (decide (1 ≤ k) && decide (k ≤ 5)) = false by simp; omega] at this
 refine PCall.intro c70 700 (by simp) 20 ?_
 simp -implicitDefEqProofs only [s70, encS_mk, go_sem]
 repeat' (first | ((first | ((with_reducible refine cgR q31 ?_ ?_); (·simp [norefL, noref, nrb])) | ((with_reducible apply cgF); (·simp -implicitDefEqProofs only [List.map_cons, List.map_nil, push_cast, go_sem_proc] <;> rfl); (with_reducible exact q31); (·rfl)) | (with_reducible refine F_q2 ?_)); simp -implicitDefEqProofs only [go_sem]) | (with_reducible refine Fork.mk ?_ ?_) | (with_reducible refine And.intro ?_ ?_) | ((with_reducible refine rpI ?_); simp -implicitDefEqProofs only [r70, push_cast, go_sem_proc]) | intro _)
 ·rename_i h; simp [stF, of_decide_eq_true h]
 ·rename_i h; simp [stF, of_decide_eq_false h, hk]
theorem t70 (k : Int) (r t v l : ByteArray) (ek en : Int) (es : ByteArray) (eas : List Ex) (a b : List St) (p : ByteArray) (ps : List ByteArray) (d : Int) :
  PCall Tryz.prog 181 [encS (.mk k r t v l (.mk ek en es eas) a b p ps), .int .i64 d] (·= .int .i64 (stF k r t v l (.mk ek en es eas) (isNone ek en es eas) a.length b.length p ps d)) := by
 by_cases hk : k < 1 ∨ 5 < k
 ·exact t70e k hk r t v l ek en es eas a b p ps d
 ·have : k = 1 ∨ k = 2 ∨ k = 3 ∨ k = 4 ∨ k = 5 := by omega
  rcases this with rfl | rfl | rfl | rfl | rfl
  ·exact t70k1 r t v l ek en es eas a b p ps d
  ·exact t70k2 r t v l ek en es eas a b p ps d
  ·exact t70k3 r t v l ek en es eas a b p ps d
  ·exact t70k4 r t v l ek en es eas a b p ps d
  ·exact t70k5 r t v l ek en es eas a b p ps d
theorem t71 (x : Int) : PCall Tryz.prog 182 [.fs [.int .i64 x, .int .i64 0]] (·= .int .i64 x) := by
 refine PCall.intro c71 300 (by simp) 20 ?_
 simp -implicitDefEqProofs only [s71, go_sem]
 intro _
 refine F_loop (fun m e H => (m = 2 ∧ e 5 = .fs [.int .i64 x, .int .i64 0] ∧ e 6 = .int .i64 2 ∧ e 7 = .int .i64 0) ∨ (x = 0 ∧ m = 1 ∧ e 5 = .fs [.int .i64 x, .int .i64 0] ∧ e 6 = .int .i64 2 ∧ e 7 = .int .i64 1) ∨ (x = 0 ∧ m = 0 ∧ e 5 = .fs [.int .i64 x, .int .i64 0] ∧ e 6 = .int .i64 2 ∧ e 7 = .int .i64 2)) 2 (by simp [upd, env0]) ?_
 rintro m e H (⟨rfl, h5, h6, h7⟩ | ⟨hx, rfl, h5, h6, h7⟩ | ⟨hx, rfl, h5, h6, h7⟩)
 ·simp -implicitDefEqProofs only [h5, h6, h7, Int.reduceLT, Int.reduceAdd, go_sem]
  repeat' (first | ((with_reducible refine F_q2 ?_); simp -implicitDefEqProofs only [go_sem]) | (with_reducible refine Fork.mk ?_ ?_) | (with_reducible refine And.intro ?_ ?_) | ((with_reducible refine rpI ?_); simp -implicitDefEqProofs only [r71, push_cast, go_sem_proc]) | intro _)
  ·rename_i h; refine ⟨1, by omega, .inr (.inl ⟨by simpa using h, rfl, ?_⟩)⟩
   simp [upd, h5, h6]; decide
 ·simp -implicitDefEqProofs only [h5, h6, h7, Int.reduceLT, Int.reduceAdd, go_sem]
  refine ⟨by simp [ixP], ?_⟩
  repeat' (first | ((with_reducible refine F_q2 ?_); simp -implicitDefEqProofs only [go_sem]) | (with_reducible refine Fork.mk ?_ ?_) | (with_reducible refine And.intro ?_ ?_) | ((with_reducible refine rpI ?_); simp -implicitDefEqProofs only [r71, push_cast, go_sem_proc]) | intro _)
  ·rename_i h; refine ⟨0, by omega, .inr (.inr ⟨hx, rfl, ?_⟩)⟩
   simp [upd, h5, h6]; decide
 ·simp -implicitDefEqProofs only [h5, h6, h7, Int.reduceLT, go_sem]
  simp -implicitDefEqProofs only [r71, push_cast, go_sem_proc]
  exact hx.symm
theorem set_same {α : Type} {l : List α} {i : Nat} {a : α} (h : l[i]? = some a) : l.set i a = l := by
 apply List.ext_getElem?
 intro j
 rw [List.getElem?_set]
 split
 ·rename_i e; subst e; rw [if_pos (List.getElem?_eq_some_iff.1 h).1, h]
 ·rfl
theorem get_set_app {H J : List Blk} {m : Nat} {x : Blk} (h : m < H.length) : (H.set m x ++ J)[m]? = some x := by
 rw [List.getElem?_append_left (by simpa using h), List.getElem?_set_self h]
theorem rows_set {H : List Blk} {m : Nat} {es : List V} (h : norefL es = true) : ∀ (i : Nat) b', (H.set m (.row es))[i]? = some b' → H[i]? = some b' ∨ b'.nr = true := by
 intro i es' hi
 rw [List.getElem?_set] at hi
 split at hi
 ·split at hi
  ·cases hi; exact .inr h
  ·cases hi
 ·exact .inl hi
theorem t55s (xs : List St) (d : Int) (hd0 : 0 ≤ d) (hd : d ≤ 21) {H : List Blk} {m : Nat} {c : Int} (hm : H[m]? = some (.row [.int .i64 c])) (hc0 : 0 ≤ c) (hc : c + cnts xs ≤ 1000000)
  (h : ∀ k r t v l e a b p ps, St.mk k r t v l e a b p ps ∈ xs → ∀ d', 0 ≤ d' → d' ≤ 21 → ∀ (H : List Blk) (m : Nat) (c : Int), H[m]? = some (.row [.int .i64 c]) → 0 ≤ c →
   (c + cnts a ≤ 1000000 → ACall Tryz.prog 126 [.fs (a.map encS), .int .i64 d', .ptr m 0 0] H (fun r H' => r = .int .i64 (sFs a d') ∧ ∃ c', H' = H.set m (.row [.int .i64 c']) ∧ (sFs a d' = 0 → c' = c + cnts a))) ∧
   (c + cnts b ≤ 1000000 → ACall Tryz.prog 126 [.fs (b.map encS), .int .i64 d', .ptr m 0 0] H (fun r H' => r = .int .i64 (sFs b d') ∧ ∃ c', H' = H.set m (.row [.int .i64 c']) ∧ (sFs b d' = 0 → c' = c + cnts b)))) :
  ACall Tryz.prog 126 [.fs (xs.map encS), .int .i64 d, .ptr m 0 0] H (fun r H' => r = .int .i64 (sFs xs d) ∧ ∃ c', H' = H.set m (.row [.int .i64 c']) ∧ (sFs xs d = 0 → c' = c + cnts xs)) := by
 have hml : m < H.length := (List.getElem?_eq_some_iff.1 hm).1
 refine ACall.trim ?_
 refine ACall.intro c55 400 (by simp) ?_
 simp -implicitDefEqProofs only [hml, s55, ne_eq, not_false_eq_true, hls, hln, Nat.reduceMul, go_sem]
 intro hlen
 refine F_loop (fun m' e H1 => ∃ pre post, xs = pre ++ post ∧ m' = post.length ∧ (∀ y ∈ pre, sF y d = 0) ∧ e 1 = .int .i64 d ∧ e 2 = .ptr m 0 0 ∧ e 12 = .fs (xs.map encS) ∧ e 13 = .int .i64 xs.length ∧ e 14 = .int .i64 pre.length ∧
  ∃ J, H1 = H.set m (.row [.int .i64 (c + cnts pre)]) ++ J) xs.length ⟨[], xs, by simp [upd, env0], rfl, by simp, by simp [upd, env0], by simp [upd, env0], by simp [upd, env0], by simp [upd, env0], by simp [upd, env0], [], by
   simp [cnts]; exact (set_same hm).symm⟩ ?_
 rintro m' e H1 ⟨pre, post, hxs, rfl, hp, h1, h2, h12, h13, h14, J, rfl⟩
 cases post with
 | nil =>
  simp -implicitDefEqProofs only [hml, h1, h2, h12, h13, h14, mid_not hxs, ne_eq, not_false_eq_true, hls, hln, Nat.reduceMul, go_sem]
  simp -implicitDefEqProofs only [r55, hml, ne_eq, not_false_eq_true, hls, hln, Nat.reduceMul, push_cast, go_sem_proc]
  refine ⟨_, J, rfl, by simp, rows_set (by simp [norefL, noref]), ?_, c + cnts pre, rfl, fun _ => ?_⟩
  ·rw [hxs, sFs_append pre [] _ hp]; rfl
  ·rw [hxs]; simp
 | cons y post =>
  have hg := mid_get encS hxs
  have hE : sFs (pre ++ y :: post) d = if sF y d ≠ 0 then sF y d else sFs post d := by rw [sFs_append pre _ _ hp, sFs]
  have hcy : cnts xs = cnts pre + (cnt y + cnts post) := by rw [hxs, cnts_append, cnts]
  generalize hyR : sF y d = yr at *
  generalize hyS : stF' y d = ys
  have hbig : 20 < d → ys = 2 := fun hh => by rw [← hyS]; exact stF_big hh
  rcases y with ⟨k, r, t, v, l, ⟨ek, en, es, eas⟩, a, b, p, ps⟩
  simp only [cnt] at hcy
  have h70 := t70 k r t v l ek en es eas a b p ps d
  rw [show stF k r t v l (.mk ek en es eas) (isNone ek en es eas) a.length b.length p ps d = ys from hyS] at h70
  rw [encS_mk] at hg h70
  have hsF : yr = if ys ≠ 0 then ys else if sFs a (d + 1) ≠ 0 then sFs a (d + 1) else sFs b (d + 1) := by rw [← hyR, sF, hyS]
  have hw1 := wrap_int (x := c + cnts pre + 1) (by omega) (by omega)
  simp -implicitDefEqProofs only [hml, h1, h2, h12, h13, h14, hg, mid_lt hxs, mid_wrap hxs hlen, hw1, ne_eq, not_false_eq_true, hls, hln, Nat.reduceMul, go_sem]
  repeat' (first | ((first | ((with_reducible refine cgR h70 ?_ ?_); (·simp [norefL, noref, nrb])) | ((with_reducible apply cgF); (·simp -implicitDefEqProofs only [List.map_cons, List.map_nil, ne_eq, not_false_eq_true, hls, hln, Nat.reduceMul, push_cast, go_sem_proc] <;> rfl); (with_reducible exact h70); (·rfl)) | (with_reducible refine F_q2 ?_)); simp -implicitDefEqProofs only [hml, h1, h2, h12, h13, h14, hg, mid_lt hxs, mid_wrap hxs hlen, hw1, ne_eq, not_false_eq_true, hls, hln, Nat.reduceMul, go_sem]) | (with_reducible refine Fork.mk ?_ ?_) | (with_reducible refine And.intro ?_ ?_) | ((with_reducible refine rpI ?_); simp -implicitDefEqProofs only [r55, ne_eq, not_false_eq_true, hls, hln, Nat.reduceMul, push_cast, go_sem_proc]) | intro _)
  ·rename_i hy0
   have hy0 : ys ≠ 0 := by simpa using hy0
   refine ⟨_, _, rfl, by simp, rows_set (by simp [norefL, noref]), ?_, _, rfl, fun h0 => ?_⟩
   ·rw [hxs, hE, hsF, if_pos hy0, if_pos hy0]
   ·rw [hxs, hE, hsF, if_pos hy0, if_pos hy0] at h0; exact absurd h0 hy0
  ·rename_i hy0
   have hy0 : ys = 0 := by simpa using hy0
   have hd20 : d ≤ 20 := by
    refine Classical.byContradiction fun hh => ?_
    have := hbig (by omega)
    omega
   have hw := wrap_small (d := d) (by omega) (by omega)
   have hh := h k r t v l (.mk ek en es eas) a b p ps (by rw [hxs]; simp) (d + 1) (by omega) (by omega)
   generalize sFs a (d + 1) = fa at *
   generalize sFs b (d + 1) = fb at *
   rw [hw]
   refine ACall.mono ((hh _ m _ (get_set_app hml) (by omega)).1 (by omega)) ?_
   rintro _ _ ⟨rfl, c', rfl, hc'⟩
   simp -implicitDefEqProofs only [hml, h1, h2, h12, h13, h14, hg, mid_lt hxs, mid_wrap hxs hlen, hw1, hw, ne_eq, not_false_eq_true, hls, hln, Nat.reduceMul, go_sem]
   repeat' (first | ((first | ((with_reducible refine cgR (t71 fa) ?_ ?_); (·simp [norefL, noref, nrb])) | ((with_reducible apply cgF); (·simp -implicitDefEqProofs only [List.map_cons, List.map_nil, ne_eq, not_false_eq_true, hls, hln, Nat.reduceMul, push_cast, go_sem_proc] <;> rfl); (with_reducible exact (t71 fa)); (·rfl)) | (with_reducible refine F_q2 ?_)); simp -implicitDefEqProofs only [hml, h1, h2, h12, h13, h14, hg, mid_lt hxs, mid_wrap hxs hlen, hw1, hw, ne_eq, not_false_eq_true, hls, hln, Nat.reduceMul, go_sem]) | (with_reducible refine Fork.mk ?_ ?_) | (with_reducible refine And.intro ?_ ?_) | ((with_reducible refine rpI ?_); simp -implicitDefEqProofs only [r55, ne_eq, not_false_eq_true, hls, hln, Nat.reduceMul, push_cast, go_sem_proc]) | intro _)
   ·rename_i hf
    have hf : fa ≠ 0 := by simpa using hf
    refine ⟨_, _, rfl, by simp, rows_set (by simp [norefL, noref]), ?_, _, rfl, fun h0 => ?_⟩
    ·rw [hxs, hE, hsF, hy0]; simp [hf]
    ·rw [hxs, hE, hsF, hy0] at h0; simp [hf] at h0
   ·rename_i hf
    have hf : fa = 0 := by simpa using hf
    have hc' := hc' hf
    refine ACall.mono ((hh _ m _ (get_set_app hml) (by omega)).2 (by omega)) ?_
    rintro _ _ ⟨rfl, c2, rfl, hc2⟩
    simp -implicitDefEqProofs only [hml, h1, h2, h12, h13, h14, hg, mid_lt hxs, mid_wrap hxs hlen, hw1, hw, ne_eq, not_false_eq_true, hls, hln, Nat.reduceMul, go_sem]
    repeat' (first | ((with_reducible refine F_q2 ?_); simp -implicitDefEqProofs only [hml, h1, h2, h12, h13, h14, hg, mid_lt hxs, mid_wrap hxs hlen, hw1, hw, ne_eq, not_false_eq_true, hls, hln, Nat.reduceMul, go_sem]) | (with_reducible refine Fork.mk ?_ ?_) | (with_reducible refine And.intro ?_ ?_) | ((with_reducible refine rpI ?_); simp -implicitDefEqProofs only [r55, ne_eq, not_false_eq_true, hls, hln, Nat.reduceMul, push_cast, go_sem_proc]) | intro _)
    ·rename_i hf2
     have hf2 : fb ≠ 0 := by simpa using hf2
     refine ⟨_, _, rfl, by simp, rows_set (by simp [norefL, noref]), ?_, _, rfl, fun h0 => ?_⟩
     ·rw [hxs, hE, hsF, hy0, hf]; simp [hf2]
     ·rw [hxs, hE, hsF, hy0, hf] at h0; simp [hf2] at h0
    ·rename_i hf2
     have hf2 : fb = 0 := by simpa using hf2
     have hc2 := hc2 hf2
     refine ⟨_, Nat.lt_succ_self _, pre ++ [_], post, by simp [hxs]; rfl, rfl, fun z hz => ?_, by simp, ?_⟩
     ·rcases List.mem_append.1 hz with hz | hz
      ·exact hp z hz
      ·simp at hz; subst hz; rw [hyR, hsF, hy0, hf, hf2]; simp
     ·have hq : c2 = c + ((cnts (pre ++ [.mk k r t v l (.mk ek en es eas) a b p ps]) : Nat) : Int) := by
       rw [hc2, hc', cnts_append]
       simp only [cnts, cnt]
       omega
      rw [← hq]
      exact ⟨_, rfl⟩
theorem t55 : ∀ (n : Nat) (xs : List St), SizeOf.sizeOf xs < n → ∀ d : Int, 0 ≤ d → d ≤ 21 → ∀ (H : List Blk) (m : Nat) (c : Int), H[m]? = some (.row [.int .i64 c]) → 0 ≤ c → c + cnts xs ≤ 1000000 →
  ACall Tryz.prog 126 [.fs (xs.map encS), .int .i64 d, .ptr m 0 0] H (fun r H' => r = .int .i64 (sFs xs d) ∧ ∃ c', H' = H.set m (.row [.int .i64 c']) ∧ (sFs xs d = 0 → c' = c + cnts xs))
 | 0, xs, h, _, _, _, _, _, _, _, _, _ => absurd h (Nat.not_lt_zero _)
 | n + 1, xs, hn, d, h1, h2, H, m, c, hm, hc0, hc => t55s xs d h1 h2 hm hc0 hc (fun k r t v l e a b p ps hmem d' h3 h4 H m c hm hc0 => by
  have hs := List.sizeOf_lt_of_mem hmem
  simp only [St.mk.sizeOf_spec] at hs
  exact ⟨fun hc => t55 n a (by omega) d' h3 h4 H m c hm hc0 hc, fun hc => t55 n b (by omega) d' h3 h4 H m c hm hc0 hc⟩)
theorem fz_msS {H : List Blk} {id : Nat} {l : List ByteArray} {n : Nat} (h : H[id]? = some (.row (l.map V.str))) : fz H (n + 2) (.ms id 0 l.length) = some (.fs (l.map V.str)) := by
 rw [fz_ms, h, fzM_row, if_pos (by simp), List.drop_zero, List.take_of_length_le (by simp), fzL_map _ _ (fun x => fz_str _ _ x)]
 rfl
theorem contE {H : List Blk} {K : V → List Blk → Prop} {id : Nat} {l : List ByteArray} {x : ByteArray} (h : H[id]? = some (.row (l.map V.str))) (hk : K (.bool (l.any fun y => decide (x = y))) H) :
  ACall Tryz.prog 51 [.ms id 0 l.length, .str x] H K :=
 call_eq 20 (by rw [fzL_cons, fzL_cons, fzL_nil, fz_msS h, fz_str, fzC_some, fzC_some]) (t29 l x) rfl hk
theorem contN {H : List Blk} {K : V → List Blk → Prop} {x : ByteArray} (hk : K (.bool false) H) :
  ACall Tryz.prog 51 [.nils, .str x] H K :=
 call_eq 20 (by rw [fzL_cons, fzL_cons, fzL_nil, fz_nils, fz_str, fzC_some, fzC_some]; rfl) (t29 [] x) rfl hk
def KV (pre : List Pr) (kv : V) (J : List Blk) : Prop := (pre = [] ∧ kv = .nils) ∨ (pre ≠ [] ∧ ∃ id, kv = .ms (id + 2) 0 (pre.map (·.name)).length ∧ J[id]? = some (.row ((pre.map (·.name)).map .str)))
theorem KV.cont {pre : List Pr} {kv : V} {J J2 : List Blk} {A B : Blk} {x : ByteArray} {K : V → List Blk → Prop} (h : KV pre kv J) (hk : K (.bool (pre.any fun z => decide (z.name = x))) (A :: B :: (J ++ J2))) :
  ACall Tryz.prog 51 [kv, .str x] (A :: B :: (J ++ J2)) K := by
 rcases h with ⟨rfl, rfl⟩ | ⟨hn, id, rfl, hJ⟩
 ·exact contN hk
 ·refine contE (l := pre.map (·.name)) ?_ ?_
  ·rw [List.getElem?_cons_succ, List.getElem?_cons_succ, List.getElem?_append_left (List.getElem?_eq_some_iff.1 hJ).1]; exact hJ
  ·rw [List.any_map]
   have : ((fun y => decide (x = y)) ∘ fun z : Pr => z.name) = fun z => decide (z.name = x) := by funext z; simp [eq_comm]
   rw [this]; exact hk
theorem psF_pos {pre : List Pr} {q : Pr} {post : List Pr} (h : pF pre q ≠ 0) : psF pre (q :: post) = pF pre q := by rw [psF, if_pos h]
set_option maxRecDepth 20000 in
theorem t24 (P : Pla) (hc : total P ≤ 1000000) : PCall Tryz.prog 46 [encPl P] (·= .int .i64 (cpF P)) := by
 rcases P with ⟨xs, main⟩
 have hT : total ⟨xs, main⟩ = cnts main + cntP xs := rfl
 rw [hT] at hc
 refine PCall.intro c24 300 (by simp) 20 ?_
 simp -implicitDefEqProofs only [s24, encPl, go_sem]
 repeat' (first | ((with_reducible refine F_q2 ?_); simp -implicitDefEqProofs only [go_sem]) | (with_reducible refine Fork.mk ?_ ?_) | (with_reducible refine And.intro ?_ ?_) | ((with_reducible refine rpI ?_); simp -implicitDefEqProofs only [r24, push_cast, go_sem_proc]) | intro _)
 ·rename_i h50
  have h50 : xs.length > 50 := by simp at h50; omega
  simp only [cpF, if_pos h50]
 ·rename_i hlen h50 _
  have h50 : ¬ xs.length > 50 := by simp at h50; omega
  have hcp : ∀ pre post, xs = pre ++ post → psF [] xs = psF pre post → psF pre post ≠ 0 → cpF ⟨xs, main⟩ = psF pre post := by
   intro pre post hx hp hn
   rw [cpF, if_neg h50]
   simp only [hp, if_pos hn]
  have h55m := t55 _ main (Nat.lt_succ_self _) 1 (by omega) (by omega)
  refine F_loop (fun m e H => ∃ pre post J kv, xs = pre ++ post ∧ m = post.length ∧ psF [] xs = psF pre post ∧ H = [Blk.row [.agg [.fs (xs.map encP), .fs (main.map encS)]], Blk.row [.int .i64 (cntP pre)]] ++ J ∧ e 1 = .ptr 0 0 0 ∧ e 3 = .ptr 1 0 0 ∧ e 16 = .fs (xs.map encP) ∧ e 17 = .int .i64 xs.length ∧ e 18 = .int .i64 pre.length ∧
   e 4 = kv ∧ KV pre kv J) xs.length ⟨[], xs, [], .nils, by simp [upd, env0, cntP, KV]⟩ ?_
  rintro m e H ⟨pre, post, J, kv, hxs, rfl, hps, rfl, h1, h3, h16, h17, h18, h4, hkv⟩
  cases post with
  | nil =>
   have hpx : pre = xs := by rw [hxs]; simp
   simp -implicitDefEqProofs only [h1, h3, h16, h17, h18, mid_not hxs, go_sem]
   refine ACall.mono (h55m _ 1 (cntP pre) rfl (by omega) (by rw [hpx]; omega)) ?_
   rintro _ _ ⟨rfl, c', rfl, hc'⟩
   simp -implicitDefEqProofs only [h1, h3, h16, h17, h18, mid_not hxs, go_sem]
   repeat' (first | ((with_reducible refine F_q2 ?_); simp -implicitDefEqProofs only [h1, h3, h16, h17, h18, mid_not hxs, go_sem]) | (with_reducible refine Fork.mk ?_ ?_) | (with_reducible refine And.intro ?_ ?_) | ((with_reducible refine rpI ?_); simp -implicitDefEqProofs only [r24, push_cast, go_sem_proc]) | intro _)
   all_goals (simp only [cpF, if_neg h50, hps, psF, hT])
   all_goals (generalize sFs main 1 = S at *)
   ·rename_i hS
    have hS : S ≠ 0 := by simpa using hS
    simp [hS]
   ·rename_i hT2 hS
    have hS : S = 0 := by simp at hS; exact hS
    have hc2 := hc' hS
    have hT3 : cnts main + cntP xs > 2000 := by simp at hT2; rw [← hpx]; omega
    simp [hS, hT3]
   ·rename_i hT2 hS
    have hS : S = 0 := by simp at hS; exact hS
    have hc2 := hc' hS
    have hT3 : ¬ cnts main + cntP xs > 2000 := by simp at hT2; rw [← hpx]; omega
    simp [hS, hT3]
  | cons q post =>
   have hg := mid_get encP hxs
   simp only [encP] at hg
   have hcq : cntP xs = cntP pre + (cnts q.steps + cntP post) := by rw [hxs, cntP_append, cntP]
   have hP := hcp pre (q :: post) hxs hps
   simp -implicitDefEqProofs only [h1, h3, h16, h17, h18, h4, mid_lt hxs, mid_wrap hxs hlen, hg, go_sem]
   repeat' (first | ((first | ((with_reducible refine cgR (t54 _) ?_ ?_); (·simp [norefL, noref, nrb])) | ((with_reducible apply cgF); (·simp -implicitDefEqProofs only [List.map_cons, List.map_nil, push_cast, go_sem_proc] <;> rfl); (with_reducible exact (t54 _)); (·rfl)) | (with_reducible refine F_q2 ?_)); simp -implicitDefEqProofs only [h1, h3, h16, h17, h18, h4, mid_lt hxs, mid_wrap hxs hlen, hg, go_sem]) | (with_reducible refine Fork.mk ?_ ?_) | (with_reducible refine And.intro ?_ ?_) | ((with_reducible refine rpI ?_); simp -implicitDefEqProofs only [r24, push_cast, go_sem_proc]) | intro _)
   ·rename_i hn
    have hn : isNm q.name = false := by simpa using hn
    have hp5 : pF pre q = 5 := by simp [pF, hn]
    rw [hP (by rw [psF_pos (by rw [hp5]; decide), hp5]; decide), psF_pos (by rw [hp5]; decide), hp5]
   ·rename_i hn
    have hn : isNm q.name = true := by simpa using hn
    refine hkv.cont ?_
    simp -implicitDefEqProofs only [h1, h3, h16, h17, h18, h4, mid_lt hxs, mid_wrap hxs hlen, hg, go_sem]
    repeat' (first | ((with_reducible refine F_q2 ?_); simp -implicitDefEqProofs only [h1, h3, h16, h17, h18, h4, mid_lt hxs, mid_wrap hxs hlen, hg, go_sem]) | (with_reducible refine Fork.mk ?_ ?_) | (with_reducible refine And.intro ?_ ?_) | ((with_reducible refine rpI ?_); simp -implicitDefEqProofs only [r24, push_cast, go_sem_proc]) | intro _)
    ·rename_i hB
     have hp5 : pF pre q = 6 := by rw [pF]; simp only [hn, hB]; simp
     rw [hP (by rw [psF_pos (by rw [hp5]; decide), hp5]; decide), psF_pos (by rw [hp5]; decide), hp5]
    ·rename_i hB
     rename_i h8
     have hp5 : pF pre q = 8 := by rw [pF]; simp only [hn]; generalize (pre.any fun z => decide (z.name = q.name)) = B at *; simp_all
     rw [hP (by rw [psF_pos (by rw [hp5]; decide), hp5]; decide), psF_pos (by rw [hp5]; decide), hp5]
    ·rename_i h8
     have hp5 : pF pre q = 2 := by
      rw [pF]; simp only [hn]; generalize (pre.any fun z => decide (z.name = q.name)) = B at *; generalize q.roles.length = n at *; clear hg hkv hP hcp h55m; simp_all; try omega
     rw [hP (by rw [psF_pos (by rw [hp5]; decide), hp5]; decide), psF_pos (by rw [hp5]; decide), hp5]
    ·have hp0 : pF pre q = if roF [] q.roles ≠ 0 then roF [] q.roles else sFs q.steps 1 := by
      clear hg hkv hP hcp h55m
      simp only [pF]
      generalize q.roles.length = n at *
      generalize roF [] q.roles = R
      generalize (pre.any fun z => decide (z.name = q.name)) = B at *
      simp_all
      try (intro h; exfalso; omega)
     have hlen2 : q.roles.length ≤ 9223372036854775807 := by assumption
     have h55 := t55 _ q.steps (Nat.lt_succ_self _) 1 (by omega) (by omega)
     refine F_loop (fun m e H => ∃ p2 q2, q.roles = p2 ++ q2 ∧ m = q2.length ∧ roF [] q.roles = roF p2 q2 ∧ H = Blk.row [.agg [.fs (xs.map encP), .fs (main.map encS)]] :: Blk.row [.int .i64 (cntP pre)] :: (J ++ [Blk.row [.agg [.str q.name, .fs (q.roles.map .str), .fs (q.steps.map encS)]]]) ∧
      e 1 = .ptr 0 0 0 ∧ e 3 = .ptr 1 0 0 ∧ e 16 = .fs (xs.map encP) ∧ e 17 = .int .i64 xs.length ∧ e 18 = .int .i64 pre.length ∧ e 4 = kv ∧ e 6 = .ptr (J.length + 2) 0 0 ∧ e 43 = .fs (q.roles.map .str) ∧ e 44 = .int .i64 q.roles.length ∧ e 45 = .int .i64 p2.length) q.roles.length
      ⟨[], q.roles, by simp [upd, env0, h1, h3, h16, h17, h18, h4]⟩ ?_
     rintro m e H ⟨p2, q2, hq, rfl, hro, rfl, h1, h3, h16, h17, h18, h4, h6, h43, h44, h45⟩
     cases q2 with
     | nil =>
      simp -implicitDefEqProofs only [h1, h3, h16, h17, h18, h4, h6, h43, h44, h45, mid_not hq, go_sem]
      refine ACall.mono (h55 _ 1 (cntP pre) rfl (by omega) (by omega)) ?_
      rintro _ _ ⟨rfl, c', rfl, hc'⟩
      have hro : roF [] q.roles = 0 := by rw [hro]; simp [roF]
      have hp0 : pF pre q = sFs q.steps 1 := by rw [hp0, hro]; simp
      generalize sFs q.steps 1 = S at *
      simp -implicitDefEqProofs only [h1, h3, h16, h17, h18, h4, h6, h43, h44, h45, mid_not hq, go_sem]
      repeat' (first | ((with_reducible refine F_q2 ?_); simp -implicitDefEqProofs only [h1, h3, h16, h17, h18, h4, h6, h43, h44, h45, mid_not hq, go_sem]) | (with_reducible refine Fork.mk ?_ ?_) | (with_reducible refine And.intro ?_ ?_) | ((with_reducible refine rpI ?_); simp -implicitDefEqProofs only [r24, push_cast, go_sem_proc]) | intro _)
      ·rename_i hS
       have hS : S ≠ 0 := by simpa using hS
       rw [hP (by rw [psF_pos (by rw [hp0]; exact hS), hp0]; exact hS), psF_pos (by rw [hp0]; exact hS), hp0]
      ·rename_i hS
       have hS : S = 0 := by simpa using hS
       have hc2 := hc' hS
       have hps2 : psF [] xs = psF (pre ++ [q]) post := by rw [hps, psF, hp0, hS]; simp
       obtain rfl : c' = ((cntP (pre ++ [q]) : Nat) : Int) := by rw [hc2, cntP_append]; simp [cntP]
       rcases hkv with ⟨rfl, hk⟩ | ⟨hn1, id, hk, hJ⟩
       ·simp -implicitDefEqProofs only [hk, h1, h3, h16, h17, h18, h6, h43, h44, h45, mid_lt hxs, mid_wrap hxs hlen, go_sem]
        refine ⟨fun h => h.elim, fun _ => ⟨by omega, _, Nat.lt_succ_self _, [q], post, _, _, by simp [hxs], rfl, hps2, rfl, ?_, rfl, .inr ⟨by simp, J.length + 1, rfl, ?_⟩⟩⟩
        ·rfl
        ·simp
       ·have hidl := (List.getElem?_eq_some_iff.1 hJ).1
        have hJl : ∀ l, (J ++ l)[id]? = some (.row ((pre.map (·.name)).map .str)) := fun l => by rw [List.getElem?_append_left hidl]; exact hJ
        have hJs : ∀ l x, (J ++ l).set id x = J.set id x ++ l := fun l x => List.set_append_left _ _ hidl
        simp -implicitDefEqProofs only [hk, hJl, hJs, headOk_str, h1, h3, h16, h17, h18, h6, h43, h44, h45, mid_lt hxs, mid_wrap hxs hlen, go_sem]
        refine ⟨⟨by simp [hn1], fun _ _ _ h => h.elim, ?_⟩, _, Nat.lt_succ_self _, pre ++ [q], post, _, _, by simp [hxs], rfl, hps2, rfl, by simp, rfl, .inr ⟨by simp, J.length + 1, by simp, ?_⟩⟩
        ·have : pre.length ≤ xs.length := by rw [hxs]; simp
         omega
        ·simp
     | cons y q2 =>
      have hg2 := mid_get V.str hq
      have ht2 := mid_take V.str hq
      have hl2 : (p2.length : Int) ≤ q.roles.length := by rw [hq]; simp; omega
      simp -implicitDefEqProofs only [h1, h3, h16, h17, h18, h4, h6, h43, h44, h45, hg2, mid_lt hq, mid_wrap hq hlen2, headOk_str, hl2, ht2, Int.le_refl, Int.natCast_nonneg, go_sem]
      repeat' (first | ((first | ((with_reducible first | refine cgR (t54 y) ?_ ?_ | refine cgR (t29 p2 y) ?_ ?_); (·simp [norefL, noref, nrb])) | ((with_reducible apply cgF); (·simp -implicitDefEqProofs only [List.map_cons, List.map_nil, push_cast, go_sem_proc] <;> rfl); (with_reducible first | exact (t54 y) | exact (t29 p2 y)); (·rfl)) | (with_reducible refine F_q2 ?_)); simp -implicitDefEqProofs only [h1, h3, h16, h17, h18, h4, h6, h43, h44, h45, hg2, mid_lt hq, mid_wrap hq hlen2, headOk_str, hl2, ht2, Int.le_refl, Int.natCast_nonneg, go_sem]) | (with_reducible refine Fork.mk ?_ ?_) | (with_reducible refine And.intro ?_ ?_) | ((with_reducible refine rpI ?_); simp -implicitDefEqProofs only [r24, push_cast, go_sem_proc]) | intro _)
      ·rename_i hy
       have hy : isNm y = false := by simpa using hy
       have hr5 : roF [] q.roles = 5 := by rw [hro]; simp [roF, hy]
       have hp5 : pF pre q = 5 := by rw [hp0, hr5]; simp
       rw [hP (by rw [psF_pos (by rw [hp5]; decide), hp5]; decide), psF_pos (by rw [hp5]; decide), hp5]
      ·rename_i hy hm
       have hy : isNm y = true := by simpa using hy
       have hr5 : roF [] q.roles = 6 := by rw [hro]; simp only [roF, hy, hm]; simp
       have hp5 : pF pre q = 6 := by rw [hp0, hr5]; simp
       rw [hP (by rw [psF_pos (by rw [hp5]; decide), hp5]; decide), psF_pos (by rw [hp5]; decide), hp5]
      ·rename_i hy hm
       have hy : isNm y = true := by simpa using hy
       refine ⟨_, Nat.lt_succ_self _, p2 ++ [y], q2, by simp [hq], rfl, ?_, by simp [h1, h3, h16, h17, h18, h4, h6, h43, h44]⟩
       rw [hro]; simp only [roF, hy, hm]; simp
abbrev Spo := St × Int × Bool
def cellsS : V → List V
 | .agg cs => cs
 | _ => []
def encSp (x : Spo) : V := .agg (cellsS (encS x.1) ++ [.int .i64 x.2.1, .bool x.2.2])
theorem encSp_mk (k : Int) (r t v l : ByteArray) (ek en : Int) (es : ByteArray) (eas : List Ex) (a b : List St) (p : ByteArray) (ps : List ByteArray) (pr : Int) (la : Bool) :
  encSp (.mk k r t v l (.mk ek en es eas) a b p ps, pr, la) = .agg [.int .i64 k, .str r, .str t, .str v, .str l, .int .i64 ek, .int .i64 en, .str es, .fs (eas.map encE), .fs (a.map encS), .fs (b.map encS), .str p, .fs (ps.map .str), .int .i64 pr, .bool la] := by
 rw [encSp, encS_mk]; rfl
mutual
def sp1 : St → Int → Bool → List Spo
 | .mk k r t v l e a b p ps, pr, la => (.mk k r t v l e a b p ps, pr, la) :: (spL a pr la ++ spL b pr la)
def spL : List St → Int → Bool → List Spo
 | [], _, _ => []
 | x :: l, pr, la => sp1 x pr (la && l.isEmpty) ++ spL l pr la
end
def OPost (H : List Blk) (o : Nat) (kv : V) (acc' : List V) (H' : List Blk) : Prop :=
 H.length ≤ H'.length ∧ ∃ kv', H'[o]? = some (.row [kv']) ∧ OV H' kv' acc' ∧ ∀ j, j < H.length → j ≠ o → kvne kv j → H'[j]? = H[j]? ∧ kvne kv' j
theorem mid_end {α : Type} {xs pre post : List α} {y : α} (h : xs = pre ++ y :: post) (hl : xs.length ≤ 9223372036854775807) : IntKind.i64.wrap ((xs.length : Int) - 1) = (xs.length : Int) - 1 := by
 subst h; simp [IntKind.wrap, IntKind.signed, IntKind.bits]; simp at hl; omega
theorem mid_last {α : Type} {xs pre post : List α} {y : α} (h : xs = pre ++ y :: post) : decide ((pre.length : Int) = (xs.length : Int) - 1) = post.isEmpty := by
 subst h; cases post with
 | nil => simp
 | cons z l => simp; omega
theorem OV.ne {H : List Blk} {kv : V} {acc : List Spo} {o : Nat} (h : OV H kv (acc.map encSp)) (ho : H[o]? = some (.row [kv])) : kvne kv o := by
 rintro a b rfl
 rcases h with ⟨_, h⟩ | ⟨_, id, h, hid⟩
 ·cases h
 ·cases h
  rw [ho] at hid
  cases acc with
  | nil => simp at hid
  | cons x l => simp [encSp] at hid
mutual
theorem sp1ulength : ∀ (x : St) (pr : Int) (la : Bool), (sp1 x pr la).length = cnt x
 | .mk k r t v l e a b p ps, pr, la => by simp [sp1, cnt, spL_length a, spL_length b]; omega
theorem spL_length : ∀ (l : List St) (pr : Int) (la : Bool), (spL l pr la).length = cnts l
 | [], _, _ => rfl
 | x :: l, pr, la => by simp [spL, cnts, sp1ulength x, spL_length l]
end
theorem headOk_Sp (l : List Spo) : headOk 15 (l.map encSp) := headOk_map _ _ (fun x => by
 rcases x with ⟨⟨k, r, t, v, l, ⟨ek, en, es, eas⟩, a, b, p, ps⟩, pr, la⟩; rw [encSp_mk]; rfl) l
set_option maxRecDepth 20000 in
theorem t56s (xs : List St) (pr : Int) (la : Bool) (o q : Nat) (acc : List Spo) (H : List Blk) (kv : V) (ho : H[o]? = some (.row [kv])) (hq : H[q]? = some (.row [.clos 127 [] [.ptr o 0 0, .ptr q 0 0]])) (hoq : q ≠ o) (hkq : kvne kv q)
  (hov : OV H kv (acc.map encSp)) (hsz : acc.length + cnts xs ≤ 1000000)
  (h : ∀ k r t v l e a b p ps, St.mk k r t v l e a b p ps ∈ xs → ∀ (la : Bool) (acc : List Spo) (H : List Blk) (kv : V), H[o]? = some (.row [kv]) → H[q]? = some (.row [.clos 127 [] [.ptr o 0 0, .ptr q 0 0]]) → kvne kv q → OV H kv (acc.map encSp) →
   (acc.length + cnts a ≤ 1000000 → ACall Tryz.prog 127 [.fs (a.map encS), .int .i64 pr, .bool la, .ptr o 0 0, .ptr q 0 0] H (fun r H' => r = .tup [] ∧ OPost H o kv ((acc ++ spL a pr la).map encSp) H')) ∧
   (acc.length + cnts b ≤ 1000000 → ACall Tryz.prog 127 [.fs (b.map encS), .int .i64 pr, .bool la, .ptr o 0 0, .ptr q 0 0] H (fun r H' => r = .tup [] ∧ OPost H o kv ((acc ++ spL b pr la).map encSp) H'))) :
  ACall Tryz.prog 127 [.fs (xs.map encS), .int .i64 pr, .bool la, .ptr o 0 0, .ptr q 0 0] H (fun r H' => r = .tup [] ∧ OPost H o kv ((acc ++ spL xs pr la).map encSp) H') := by
 refine ACall.intro c56 400 (by simp) ?_
 simp -implicitDefEqProofs only [s56, go_sem]
 intro hlen
 refine F_loop (fun m e H1 => ∃ pre post got, xs = pre ++ post ∧ m = post.length ∧ spL xs pr la = got ++ spL post pr la ∧ got.length ≤ cnts pre ∧ e 0 = .fs (xs.map encS) ∧ e 1 = .int .i64 pr ∧ e 2 = .bool la ∧ e 3 = .ptr o 0 0 ∧ e 4 = .ptr q 0 0 ∧ e 11 = .fs (xs.map encS) ∧ e 12 = .int .i64 xs.length ∧ e 13 = .int .i64 pre.length ∧
  OPost H o kv ((acc ++ got).map encSp) H1) xs.length ⟨[], xs, [], by simp [upd, env0, cnts], rfl, by simp, by simp, by simp [upd, env0], by simp [upd, env0], by simp [upd, env0], by simp [upd, env0], by simp [upd, env0], by simp [upd, env0], by simp [upd, env0], by simp [upd, env0], Nat.le_refl _, kv, ho, by simpa using hov, fun j _ _ h => ⟨rfl, h⟩⟩ ?_
 rintro m e H1 ⟨pre, post, got, hxs, rfl, hsp, hgl, h0, h1, h2, h3, h4, h11, h12, h13, hle, kv1, ho1, hov1, hfr⟩
 cases post with
 | nil =>
  simp -implicitDefEqProofs only [h0, h1, h2, h3, h4, h11, h12, h13, mid_not hxs, go_sem]
  simp -implicitDefEqProofs only [r56, push_cast, go_sem_proc]
  rw [hsp]; simp only [spL, List.append_nil]
  exact ⟨hle, kv1, ho1, hov1, hfr⟩
 | cons y post =>
  have hg := mid_get encS hxs
  have hcy : cnts xs = cnts pre + (cnt y + cnts post) := by rw [hxs, cnts_append, cnts]
  have hql : q < H.length := (List.getElem?_eq_some_iff.1 hq).1
  have hol1 : o < H1.length := (List.getElem?_eq_some_iff.1 ho1).1
  have hql1 : q < H1.length := Nat.lt_of_lt_of_le hql hle
  obtain ⟨hq1, hkq1⟩ := hfr q hql hoq hkq
  rw [hq] at hq1
  have hoq' : o ≠ q := fun h => hoq h.symm
  rcases y with ⟨k, r, t, v, l, ⟨ek, en, es, eas⟩, a, b, p, ps⟩
  simp only [cnt] at hcy
  rw [encS_mk] at hg
  have hh := h k r t v l (.mk ek en es eas) a b p ps (by rw [hxs]; simp)
  have hAg : (acc ++ got).length ≤ acc.length + cnts pre := by simp; exact hgl
  have hko1 := OV.ne hov1 ho1
  generalize hF : encSp (.mk k r t v l (.mk ek en es eas) a b p ps, pr, la && post.isEmpty) = SP
  have hSP := hF
  rw [encSp_mk] at hF
  have hne : ∀ {e : Bool}, encSp (.mk k r t v l (.mk ek en es eas) a b p ps, pr, e) = .agg [.int .i64 k, .str r, .str t, .str v, .str l, .int .i64 ek, .int .i64 en, .str es, .fs (eas.map encE), .fs (a.map encS), .fs (b.map encS), .str p, .fs (ps.map .str), .int .i64 pr, .bool e] := fun {e} => encSp_mk ..
  have hol1' : ∀ (l : List Blk) x, (H1.set o x ++ l)[o]? = some x := fun l x => by rw [List.getElem?_append_left (by simpa using hol1), List.getElem?_set_self hol1]
  have hqs : ∀ (l : List Blk) x, (H1.set o x ++ l)[q]? = H1[q]? := fun l x => by rw [List.getElem?_append_left (by simpa using hql1), List.getElem?_set_ne hoq']
  have hys : ∀ (l : List Blk) (z : Blk) x, (H1.set o x ++ z :: l)[H1.length]? = some z := fun l z x => by rw [List.getElem?_append_right (by simp)]; simp
  have hjs : ∀ (l : List Blk) x j, j < H1.length → j ≠ o → (H1.set o x ++ l)[j]? = H1[j]? := fun l x j h1 h2 => by rw [List.getElem?_append_left (by simpa using h1), List.getElem?_set_ne (fun h => h2 h.symm)]
  rcases hov1 with ⟨hnil, hkv1⟩ | ⟨hnn, id, hkv1, hid⟩
  ·have hag : acc ++ got = [] := by simpa using hnil
   cases la
   ·simp -implicitDefEqProofs only [hkv1, h0, h1, h2, h3, h4, h11, h12, h13, mid_lt hxs, mid_wrap hxs hlen, hg, ho1, hq1, hol1, hql1, hoq, hoq', mid_end hxs hlen, mid_last hxs, Bool.false_and, Bool.true_and, ne_eq, not_false_eq_true, hls, hln, Nat.reduceMul, go_sem]
    try intro _
    refine ACall.mono ((hh false (acc ++ got ++ [(.mk k r t v l (.mk ek en es eas) a b p ps, pr, false)]) _ (.ms (H1.length + 1) 0 1) ?hoG0 ?hqG0 ?hkG0 ?hovG0).1 ?hszG0) ?_
    case hoG0 => exact hol1' _ _
    case hqG0 => exact (hqs _ _).trans hq1
    case hkG0 => intro a b h; injection h; omega
    case hovG0 => exact .inr ⟨by simp, _, by rw [hag]; rfl, by rw [hag]; simp [List.getElem?_append_right, hne]⟩
    case hszG0 => rw [List.length_append]; simp only [List.length_cons, List.length_nil]; omega
    rintro _ H2 ⟨rfl, hle2, kv2, ho2, hov2, hfr2⟩
    obtain ⟨hq2, hkq2⟩ := hfr2 q (by simp; omega) hoq (fun a b h => by injection h; omega)
    obtain ⟨hy2, hky2⟩ := hfr2 H1.length (by simp) (by omega) (fun a b h => by injection h; omega)
    rw [(hqs _ _).trans hq1] at hq2
    rw [hys] at hy2
    simp -implicitDefEqProofs only [h0, h1, h2, h3, h4, h11, h12, h13, mid_lt hxs, mid_wrap hxs hlen, hg, ho1, hq1, hol1, hql1, hoq, hoq', mid_end hxs hlen, mid_last hxs, Bool.false_and, Bool.true_and, hq2, hy2, go_sem]
    refine ACall.mono ((hh _ _ _ _ ho2 hq2 hkq2 hov2).2 (by rw [List.length_append, List.length_append, spL_length]; simp only [List.length_cons, List.length_nil]; omega)) ?_
    rintro _ H3 ⟨rfl, hle3, kv3, ho3, hov3, hfr3⟩
    simp -implicitDefEqProofs only [h0, h1, h2, h3, h4, h11, h12, h13, mid_lt hxs, mid_wrap hxs hlen, hg, ho1, hq1, hol1, hql1, hoq, hoq', mid_end hxs hlen, mid_last hxs, Bool.false_and, Bool.true_and, go_sem]
    simp only [List.length_append, List.length_set, List.length_cons, List.length_nil] at hle2 hfr2
    refine ⟨_, Nat.lt_succ_self _, pre ++ [.mk k r t v l (.mk ek en es eas) a b p ps], post, got ++ sp1 (.mk k r t v l (.mk ek en es eas) a b p ps) pr false, by rw [hxs]; simp, rfl, ?_, ?_, ?_, by omega, kv3, ho3, ?_, ?_⟩
    ·rw [hsp, spL]; simp
    ·rw [List.length_append, sp1ulength, cnts_append]; simp only [cnts, cnt]; omega
    ·simp
    ·simpa [sp1] using hov3
    ·intro j hj hjo hkj
     obtain ⟨hj1, hj2⟩ := hfr j hj hjo hkj
     obtain ⟨hj3, hj4⟩ := hfr2 j (by omega) hjo (fun a b h => by injection h; omega)
     obtain ⟨hj5, hj6⟩ := hfr3 j (by omega) hjo hj4
     refine ⟨?_, hj6⟩
     rw [hj5, hj3, hjs _ _ j (by omega) hjo, hj1]
   ·simp -implicitDefEqProofs only [hkv1, h0, h1, h2, h3, h4, h11, h12, h13, mid_lt hxs, mid_wrap hxs hlen, hg, ho1, hq1, hol1, hql1, hoq, hoq', mid_end hxs hlen, mid_last hxs, Bool.false_and, Bool.true_and, ne_eq, not_false_eq_true, hls, hln, Nat.reduceMul, go_sem]
    try intro _
    refine ACall.mono ((hh post.isEmpty (acc ++ got ++ [(.mk k r t v l (.mk ek en es eas) a b p ps, pr, post.isEmpty)]) _ (.ms (H1.length + 1) 0 1) ?hoG1 ?hqG1 ?hkG1 ?hovG1).1 ?hszG1) ?_
    case hoG1 => exact hol1' _ _
    case hqG1 => exact (hqs _ _).trans hq1
    case hkG1 => intro a b h; injection h; omega
    case hovG1 => exact .inr ⟨by simp, _, by rw [hag]; rfl, by rw [hag]; simp [List.getElem?_append_right, hne]⟩
    case hszG1 => rw [List.length_append]; simp only [List.length_cons, List.length_nil]; omega
    rintro _ H2 ⟨rfl, hle2, kv2, ho2, hov2, hfr2⟩
    obtain ⟨hq2, hkq2⟩ := hfr2 q (by simp; omega) hoq (fun a b h => by injection h; omega)
    obtain ⟨hy2, hky2⟩ := hfr2 H1.length (by simp) (by omega) (fun a b h => by injection h; omega)
    rw [(hqs _ _).trans hq1] at hq2
    rw [hys] at hy2
    simp -implicitDefEqProofs only [h0, h1, h2, h3, h4, h11, h12, h13, mid_lt hxs, mid_wrap hxs hlen, hg, ho1, hq1, hol1, hql1, hoq, hoq', mid_end hxs hlen, mid_last hxs, Bool.false_and, Bool.true_and, hq2, hy2, go_sem]
    refine ACall.mono ((hh _ _ _ _ ho2 hq2 hkq2 hov2).2 (by rw [List.length_append, List.length_append, spL_length]; simp only [List.length_cons, List.length_nil]; omega)) ?_
    rintro _ H3 ⟨rfl, hle3, kv3, ho3, hov3, hfr3⟩
    simp -implicitDefEqProofs only [h0, h1, h2, h3, h4, h11, h12, h13, mid_lt hxs, mid_wrap hxs hlen, hg, ho1, hq1, hol1, hql1, hoq, hoq', mid_end hxs hlen, mid_last hxs, Bool.false_and, Bool.true_and, go_sem]
    simp only [List.length_append, List.length_set, List.length_cons, List.length_nil] at hle2 hfr2
    refine ⟨_, Nat.lt_succ_self _, pre ++ [.mk k r t v l (.mk ek en es eas) a b p ps], post, got ++ sp1 (.mk k r t v l (.mk ek en es eas) a b p ps) pr post.isEmpty, by rw [hxs]; simp, rfl, ?_, ?_, ?_, by omega, kv3, ho3, ?_, ?_⟩
    ·rw [hsp, spL]; simp
    ·rw [List.length_append, sp1ulength, cnts_append]; simp only [cnts, cnt]; omega
    ·simp
    ·simpa [sp1] using hov3
    ·intro j hj hjo hkj
     obtain ⟨hj1, hj2⟩ := hfr j hj hjo hkj
     obtain ⟨hj3, hj4⟩ := hfr2 j (by omega) hjo (fun a b h => by injection h; omega)
     obtain ⟨hj5, hj6⟩ := hfr3 j (by omega) hjo hj4
     refine ⟨?_, hj6⟩
     rw [hj5, hj3, hjs _ _ j (by omega) hjo, hj1]
  ·subst hkv1
   have hidl := (List.getElem?_eq_some_iff.1 hid).1
   have hido : id ≠ o := fun h => hko1 0 ((acc ++ got).map encSp).length (by rw [h])
   have hidq : id ≠ q := fun h => hkq1 0 ((acc ++ got).map encSp).length (by rw [h])
   have hid1 : ∀ l : List Blk, (H1 ++ l)[id]? = some (.row ((acc ++ got).map encSp)) := fun l => by rw [List.getElem?_append_left hidl]; exact hid
   have hids : ∀ (l : List Blk) x, (H1 ++ l).set id x = H1.set id x ++ l := fun l x => List.set_append_left _ _ hidl
   have hods : ∀ (l : List Blk) x y, ((H1.set id x) ++ l).set o y = (H1.set id x).set o y ++ l := fun l x y => List.set_append_left _ _ (by simpa using hol1)
   have hol2 : ∀ (l : List Blk) y x, ((H1.set id y).set o x ++ l)[o]? = some x := fun l y x => by rw [List.getElem?_append_left (by simpa using hol1), List.getElem?_set_self (by simpa using hol1)]
   have hol3 : ∀ (l : List Blk) y, (H1.set id y ++ l)[o]? = H1[o]? := fun l y => by rw [List.getElem?_append_left (by simpa using hol1), List.getElem?_set_ne hido]
   have hq2s : ∀ (l : List Blk) y x, ((H1.set id y).set o x ++ l)[q]? = H1[q]? := fun l y x => by rw [List.getElem?_append_left (by simpa using hql1), List.getElem?_set_ne hoq', List.getElem?_set_ne hidq]
   have hy2s : ∀ (l : List Blk) (z : Blk) y x, ((H1.set id y).set o x ++ z :: l)[H1.length]? = some z := fun l z y x => by rw [List.getElem?_append_right (by simp)]; simp
   have hj2s : ∀ (l : List Blk) y x j, j < H1.length → j ≠ o → j ≠ id → ((H1.set id y).set o x ++ l)[j]? = H1[j]? := fun l y x j h1 h2 h3 => by rw [List.getElem?_append_left (by simpa using h1), List.getElem?_set_ne (fun h => h2 h.symm), List.getElem?_set_ne (fun h => h3 h.symm)]
   have hnn' : ¬ ((acc ++ got).map encSp = []) := hnn
   have hok := headOk_Sp (acc ++ got)
   generalize hAG : (acc ++ got).map encSp = AG at *
   have hAGl : AG.length = (acc ++ got).length := by rw [← hAG]; simp
   cases la
   ·simp -implicitDefEqProofs only [hid1, hids, hods, hol3, hnn', hok, hidq, hido, h0, h1, h2, h3, h4, h11, h12, h13, mid_lt hxs, mid_wrap hxs hlen, hg, ho1, hq1, hol1, hql1, hoq, hoq', mid_end hxs hlen, mid_last hxs, Bool.false_and, Bool.true_and, ne_eq, not_false_eq_true, hls, hln, Nat.reduceMul, go_sem]
    try intro _
    refine ⟨⟨fun _ _ _ => trivial, by omega⟩, ?_⟩
    refine ACall.mono ((hh false (acc ++ got ++ [(.mk k r t v l (.mk ek en es eas) a b p ps, pr, false)]) _ (.ms (H1.length + 1) 0 (AG.length + 1)) ?hoG2 ?hqG2 ?hkG2 ?hovG2).1 ?hszG2) ?_
    case hoG2 => exact hol2 _ _ _
    case hqG2 => exact (hq2s _ _ _).trans hq1
    case hkG2 => intro a b h; injection h; omega
    case hovG2 => exact .inr ⟨by simp, H1.length + 1, by rw [List.map_append, hAG]; simp, by rw [List.map_append, hAG]; simp [List.getElem?_append_right, hne]⟩
    case hszG2 => rw [List.length_append]; simp only [List.length_cons, List.length_nil]; omega
    rintro _ H2 ⟨rfl, hle2, kv2, ho2, hov2, hfr2⟩
    obtain ⟨hq2, hkq2⟩ := hfr2 q (by simp; omega) hoq (fun a b h => by injection h; omega)
    obtain ⟨hy2, hky2⟩ := hfr2 H1.length (by simp) (by omega) (fun a b h => by injection h; omega)
    rw [(hq2s _ _ _).trans hq1] at hq2
    rw [hy2s] at hy2
    simp -implicitDefEqProofs only [h0, h1, h2, h3, h4, h11, h12, h13, mid_lt hxs, mid_wrap hxs hlen, hg, ho1, hq1, hol1, hql1, hoq, hoq', mid_end hxs hlen, mid_last hxs, Bool.false_and, Bool.true_and, hq2, hy2, go_sem]
    refine ACall.mono ((hh _ _ _ _ ho2 hq2 hkq2 hov2).2 (by rw [List.length_append, List.length_append, spL_length]; simp only [List.length_cons, List.length_nil]; omega)) ?_
    rintro _ H3 ⟨rfl, hle3, kv3, ho3, hov3, hfr3⟩
    simp -implicitDefEqProofs only [h0, h1, h2, h3, h4, h11, h12, h13, mid_lt hxs, mid_wrap hxs hlen, hg, ho1, hq1, hol1, hql1, hoq, hoq', mid_end hxs hlen, mid_last hxs, Bool.false_and, Bool.true_and, go_sem]
    simp only [List.length_append, List.length_set, List.length_cons, List.length_nil] at hle2 hfr2
    refine ⟨_, Nat.lt_succ_self _, pre ++ [.mk k r t v l (.mk ek en es eas) a b p ps], post, got ++ sp1 (.mk k r t v l (.mk ek en es eas) a b p ps) pr false, by rw [hxs]; simp, rfl, ?_, ?_, ?_, by omega, kv3, ho3, ?_, ?_⟩
    ·rw [hsp, spL]; simp
    ·rw [List.length_append, sp1ulength, cnts_append]; simp only [cnts, cnt]; omega
    ·simp
    ·simpa [sp1] using hov3
    ·intro j hj hjo hkj
     obtain ⟨hj1, hj2⟩ := hfr j hj hjo hkj
     obtain ⟨hj3, hj4⟩ := hfr2 j (by omega) hjo (fun a b h => by injection h; omega)
     obtain ⟨hj5, hj6⟩ := hfr3 j (by omega) hjo hj4
     refine ⟨?_, hj6⟩
     rw [hj5, hj3, hj2s _ _ _ j (by omega) hjo (fun h => hj2 0 AG.length (by rw [h])), hj1]
   ·simp -implicitDefEqProofs only [hid1, hids, hods, hol3, hnn', hok, hidq, hido, h0, h1, h2, h3, h4, h11, h12, h13, mid_lt hxs, mid_wrap hxs hlen, hg, ho1, hq1, hol1, hql1, hoq, hoq', mid_end hxs hlen, mid_last hxs, Bool.false_and, Bool.true_and, ne_eq, not_false_eq_true, hls, hln, Nat.reduceMul, go_sem]
    try intro _
    refine ⟨⟨fun _ _ _ => trivial, by omega⟩, ?_⟩
    refine ACall.mono ((hh post.isEmpty (acc ++ got ++ [(.mk k r t v l (.mk ek en es eas) a b p ps, pr, post.isEmpty)]) _ (.ms (H1.length + 1) 0 (AG.length + 1)) ?hoG3 ?hqG3 ?hkG3 ?hovG3).1 ?hszG3) ?_
    case hoG3 => exact hol2 _ _ _
    case hqG3 => exact (hq2s _ _ _).trans hq1
    case hkG3 => intro a b h; injection h; omega
    case hovG3 => exact .inr ⟨by simp, H1.length + 1, by rw [List.map_append, hAG]; simp, by rw [List.map_append, hAG]; simp [List.getElem?_append_right, hne]⟩
    case hszG3 => rw [List.length_append]; simp only [List.length_cons, List.length_nil]; omega
    rintro _ H2 ⟨rfl, hle2, kv2, ho2, hov2, hfr2⟩
    obtain ⟨hq2, hkq2⟩ := hfr2 q (by simp; omega) hoq (fun a b h => by injection h; omega)
    obtain ⟨hy2, hky2⟩ := hfr2 H1.length (by simp) (by omega) (fun a b h => by injection h; omega)
    rw [(hq2s _ _ _).trans hq1] at hq2
    rw [hy2s] at hy2
    simp -implicitDefEqProofs only [h0, h1, h2, h3, h4, h11, h12, h13, mid_lt hxs, mid_wrap hxs hlen, hg, ho1, hq1, hol1, hql1, hoq, hoq', mid_end hxs hlen, mid_last hxs, Bool.false_and, Bool.true_and, hq2, hy2, go_sem]
    refine ACall.mono ((hh _ _ _ _ ho2 hq2 hkq2 hov2).2 (by rw [List.length_append, List.length_append, spL_length]; simp only [List.length_cons, List.length_nil]; omega)) ?_
    rintro _ H3 ⟨rfl, hle3, kv3, ho3, hov3, hfr3⟩
    simp -implicitDefEqProofs only [h0, h1, h2, h3, h4, h11, h12, h13, mid_lt hxs, mid_wrap hxs hlen, hg, ho1, hq1, hol1, hql1, hoq, hoq', mid_end hxs hlen, mid_last hxs, Bool.false_and, Bool.true_and, go_sem]
    simp only [List.length_append, List.length_set, List.length_cons, List.length_nil] at hle2 hfr2
    refine ⟨_, Nat.lt_succ_self _, pre ++ [.mk k r t v l (.mk ek en es eas) a b p ps], post, got ++ sp1 (.mk k r t v l (.mk ek en es eas) a b p ps) pr post.isEmpty, by rw [hxs]; simp, rfl, ?_, ?_, ?_, by omega, kv3, ho3, ?_, ?_⟩
    ·rw [hsp, spL]; simp
    ·rw [List.length_append, sp1ulength, cnts_append]; simp only [cnts, cnt]; omega
    ·simp
    ·simpa [sp1] using hov3
    ·intro j hj hjo hkj
     obtain ⟨hj1, hj2⟩ := hfr j hj hjo hkj
     obtain ⟨hj3, hj4⟩ := hfr2 j (by omega) hjo (fun a b h => by injection h; omega)
     obtain ⟨hj5, hj6⟩ := hfr3 j (by omega) hjo hj4
     refine ⟨?_, hj6⟩
     rw [hj5, hj3, hj2s _ _ _ j (by omega) hjo (fun h => hj2 0 AG.length (by rw [h])), hj1]
theorem t56 (pr : Int) (o q : Nat) (hoq : q ≠ o) : ∀ (n : Nat) (xs : List St), SizeOf.sizeOf xs < n → ∀ (la : Bool) (acc : List Spo) (H : List Blk) (kv : V), H[o]? = some (.row [kv]) → H[q]? = some (.row [.clos 127 [] [.ptr o 0 0, .ptr q 0 0]]) → kvne kv q → OV H kv (acc.map encSp) →
  acc.length + cnts xs ≤ 1000000 → ACall Tryz.prog 127 [.fs (xs.map encS), .int .i64 pr, .bool la, .ptr o 0 0, .ptr q 0 0] H (fun r H' => r = .tup [] ∧ OPost H o kv ((acc ++ spL xs pr la).map encSp) H')
 | 0, xs, h => absurd h (Nat.not_lt_zero _)
 | n + 1, xs, hn => fun la acc H kv h1 h2 h3 h4 h5 => t56s xs pr la o q acc H kv h1 h2 hoq h3 h4 h5 (fun k r t v l e a b p ps hmem la acc H kv h1 h2 h3 h4 => by
  have hs := List.sizeOf_lt_of_mem hmem
  simp only [St.mk.sizeOf_spec] at hs
  exact ⟨fun hc => t56 pr o q hoq n a (by omega) la acc H kv h1 h2 h3 h4 hc, fun hc => t56 pr o q hoq n b (by omega) la acc H kv h1 h2 h3 h4 hc⟩)
def spP : List Pr → Nat → List Spo
 | [], _ => []
 | q :: l, i => spL q.steps i true ++ spP l (i + 1)
def spots (P : Pla) : List Spo := spL P.main (-1) true ++ spP P.procs 0
theorem spP_append : ∀ (a b : List Pr) (i : Nat), spP (a ++ b) i = spP a i ++ spP b (i + a.length)
 | [], b, i => by simp [spP]
 | q :: a, b, i => by simp [spP, spP_append a b (i + 1), Nat.add_comm, Nat.add_left_comm]
theorem spP_length : ∀ (l : List Pr) (i : Nat), (spP l i).length = cntP l
 | [], _ => rfl
 | q :: l, i => by simp [spP, cntP, spL_length, spP_length l]
theorem fz_encSp (H : List Blk) (n : Nat) (x : Spo) : fz H (n + 2) (encSp x) = some (encSp x) := by
 rcases x with ⟨⟨k, r, t, v, l, ⟨ek, en, es, eas⟩, a, b, p, ps⟩, pr, la⟩
 simp [encSp_mk, fz_agg, fzL_cons, fzL_nil, fz_int, fz_str, fz_fs, fz_bool, norefL_encE, norefL_encS, norefL_str, fzC_some]
theorem OV.fz {H : List Blk} {kv : V} {l : List Spo} (h : OV H kv (l.map encSp)) (n : Nat) : fz H (n + 3) kv = some (.fs (l.map encSp)) := by
 rcases h with ⟨h1, rfl⟩ | ⟨_, id, rfl, hid⟩
 ·rw [fz_nils, h1]
 ·rw [fz_ms, hid, fzM_row, if_pos (by simp), List.drop_zero, List.take_of_length_le (by simp), fzL_map _ _ (fun x => fz_encSp _ n x)]
  rfl
theorem OV.one {H : List Blk} {kv : V} {l : List V} (h : OV H kv l) : cellsV kv = [kv] := by
 rcases h with ⟨_, rfl⟩ | ⟨_, id, rfl, _⟩ <;> rfl
set_option maxRecDepth 20000 in
theorem t25 (P : Pla) (hc : total P ≤ 1000000) : PCall Tryz.prog 47 [encPl P] (·= .fs ((spots P).map encSp)) := by
 rcases P with ⟨xs, main⟩
 have hT : total ⟨xs, main⟩ = cnts main + cntP xs := rfl
 rw [hT] at hc
 refine PCall.intro c25 300 (by simp) 20 ?_
 simp -implicitDefEqProofs only [s25, encPl, go_sem]
 refine ACall.mono (t56 (-1) 1 2 (by decide) _ main (Nat.lt_succ_self _) true [] _ .nils rfl rfl (fun a b h => by cases h) (.inl ⟨rfl, rfl⟩) (by simp; omega)) ?_
 rintro _ H1 ⟨rfl, hle, kv, ho, hov, hfr⟩
 obtain ⟨hp1, hk0⟩ := hfr 0 (by simp) (by decide) (fun a b h => by cases h)
 obtain ⟨hq1, hk2⟩ := hfr 2 (by simp) (by decide) (fun a b h => by cases h)
 simp only [List.length_cons, List.length_nil, List.getElem?_cons_zero, List.getElem?_cons_succ] at hle hp1 hq1
 simp -implicitDefEqProofs only [hp1, hq1, go_sem]
 intro hlen
 refine F_loop (fun m e H => ∃ pre post kv, xs = pre ++ post ∧ m = post.length ∧ e 3 = .ptr 1 0 0 ∧ e 4 = .ptr 2 0 0 ∧ e 13 = .fs (xs.map encP) ∧ e 14 = .int .i64 xs.length ∧ e 15 = .int .i64 pre.length ∧ 3 ≤ H.length ∧
  H[1]? = some (.row [kv]) ∧ OV H kv ((spL main (-1) true ++ spP pre 0).map encSp) ∧ H[2]? = some (.row [.clos 127 [] [.ptr 1 0 0, .ptr 2 0 0]]) ∧ kvne kv 2) xs.length ⟨[], xs, kv, by simp [upd, env0], rfl, by simp [upd, env0], by simp [upd, env0], by simp [upd, env0], by simp [upd, env0], by simp [upd, env0], hle, ho, by simpa [spP] using hov, hq1, hk2⟩ ?_
 clear hfr hov ho hk0 hk2 hle hp1 hq1
 rintro m e H ⟨pre, post, kv, hxs, rfl, h3, h4, h13, h14, h15, hle, ho, hov, hq, hkq⟩
 cases post with
 | nil =>
  have hpx : pre = xs := by rw [hxs]; simp
  have hc1 := hov.one
  simp -implicitDefEqProofs only [h3, h4, h13, h14, h15, mid_not hxs, ho, hc1, go_sem]
  simp -implicitDefEqProofs only [r25, hc1, hov.fz 17, push_cast, go_sem_proc]
  rw [hpx]; rfl
 | cons q post =>
  have hg := mid_get encP hxs
  simp only [encP] at hg
  have hcq : cntP xs = cntP pre + (cnts q.steps + cntP post) := by rw [hxs, cntP_append, cntP]
  have hq' : ∀ l : List Blk, (H ++ l)[2]? = some (.row [.clos 127 [] [.ptr 1 0 0, .ptr 2 0 0]]) := fun l => by rw [List.getElem?_append_left (by omega)]; exact hq
  simp -implicitDefEqProofs only [h3, h4, h13, h14, h15, mid_lt hxs, mid_wrap hxs hlen, hg, hq', go_sem]
  refine ACall.mono (t56 pre.length 1 2 (by decide) _ q.steps (Nat.lt_succ_self _) true (spL main (-1) true ++ spP pre 0) _ kv ?_ ?_ hkq ?_ ?_) ?_
  ·rw [List.getElem?_append_left (by omega)]; exact ho
  ·rw [List.getElem?_append_left (by omega)]; exact hq
  ·rcases hov with h | ⟨h1, id, h2, h3⟩
   ·exact .inl h
   ·exact .inr ⟨h1, id, h2, by rw [List.getElem?_append_left (List.getElem?_eq_some_iff.1 h3).1]; exact h3⟩
  ·simp [spL_length, spP_length]; omega
  ·rintro _ H1 ⟨rfl, hle1, kv1, ho1, hov1, hfr⟩
   simp only [List.length_append, List.length_cons, List.length_nil] at hle1 hfr
   obtain ⟨hq1, hk2⟩ := hfr 2 (by omega) (by decide) hkq
   rw [hq'] at hq1
   simp -implicitDefEqProofs only [h3, h4, h13, h14, h15, mid_lt hxs, mid_wrap hxs hlen, hg, hq1, go_sem]
   exact ⟨_, Nat.lt_succ_self _, pre ++ [q], post, kv1, by simp [hxs], rfl, by simp, by omega, ho1, by simpa [spP_append, spP] using hov1, hk2⟩
theorem spots_length (P : Pla) : (spots P).length = total P := by simp [spots, spL_length, spP_length, total]
def procRs (P : Pla) (pr : Int) : Option (List ByteArray) := if pr < 0 then none else (P.procs[pr.toNat]?).map (·.roles)
def oF (P : Pla) (rs : Option (List ByteArray)) (k : Int) (r t p : ByteArray) (ps : List ByteArray) : Int :=
  if (match rs with | none => false | some rs => (rolesS k r t ps).any fun z => !rs.any fun y => decide (z = y)) then 5
  else if k ≠ 5 then (if t = r then 6 else 0)
  else match P.procs.find? (fun z => decide (z.name = p)) with
    | none => 8
    | some q => if q.roles.length ≠ ps.length then 3 else if dupF [] ps then 6 else 0
def oFS (P : Pla) : Spo → Int
  | (.mk k r t v l e a b p ps, pr, _) => oF P (procRs P pr) k r t p ps
def oFL (P : Pla) : List Spo → Int
  | [] => 0
  | x :: l => if oFS P x ≠ 0 then oFS P x else oFL P l
def plF (P : Pla) : Int := if cpF P ≠ 0 then cpF P else oFL P (spots P)
def SPok (P : Pla) (x : Spo) : Prop := x.2.1 = -1 ∨ ∃ pa qa pb, P.procs = pa ++ qa :: pb ∧ x.2.1 = pa.length
mutual
theorem sp1uproc : ∀ (x : St) (pr : Int) (la : Bool), ∀ y ∈ sp1 x pr la, y.2.1 = pr
  | .mk k r t v l e a b p ps, pr, la => by
    intro y hy
    simp only [sp1, List.mem_cons, List.mem_append] at hy
    rcases hy with rfl | hy | hy
    · rfl
    · exact spL_proc a pr la y hy
    · exact spL_proc b pr la y hy
theorem spL_proc : ∀ (l : List St) (pr : Int) (la : Bool), ∀ y ∈ spL l pr la, y.2.1 = pr
  | [], _, _ => by intro y hy; simp [spL] at hy
  | x :: l, pr, la => by
    intro y hy
    simp only [spL, List.mem_append] at hy
    rcases hy with hy | hy
    · exact sp1uproc x pr _ y hy
    · exact spL_proc l pr la y hy
end
theorem spP_proc : ∀ (l pre : List Pr), ∀ y ∈ spP l pre.length, ∃ pa qa pb, pre ++ l = pa ++ qa :: pb ∧ y.2.1 = pa.length
  | [], pre => by intro y hy; simp [spP] at hy
  | q :: l, pre => by
    intro y hy
    simp only [spP, List.mem_append] at hy
    rcases hy with hy | hy
    · exact ⟨pre, q, l, rfl, spL_proc _ _ _ y hy⟩
    · obtain ⟨pa, qa, pb, h1, h2⟩ := spP_proc l (pre ++ [q]) y (by simpa using hy)
      exact ⟨pa, qa, pb, by simpa using h1, h2⟩
theorem spots_ok (P : Pla) : ∀ y ∈ spots P, SPok P y := by
  intro y hy
  simp only [spots, List.mem_append] at hy
  rcases hy with hy | hy
  · exact .inl (spL_proc _ _ _ y hy)
  · obtain ⟨pa, qa, pb, h1, h2⟩ := spP_proc P.procs [] y (by simpa using hy)
    exact .inr ⟨pa, qa, pb, by simpa using h1, h2⟩
theorem oFL_append (P : Pla) : ∀ (pre post : List Spo), (∀ y ∈ pre, oFS P y = 0) → oFL P (pre ++ post) = oFL P post
  | [], post, _ => rfl
  | x :: pre, post, h => by
    rw [List.cons_append, oFL, h x (by simp)]
    simp only [ne_eq, not_true_eq_false, if_false]
    exact oFL_append P pre post (fun y hy => h y (by simp [hy]))
theorem procRs_neg (P : Pla) : procRs P (-1) = none := by simp [procRs]
theorem procRs_at {P : Pla} {pa pb : List Pr} {qa : Pr} (h : P.procs = pa ++ qa :: pb) : procRs P pa.length = some qa.roles := by
  rw [procRs, if_neg (by omega)]; simp [h]
set_option maxRecDepth 20000 in
theorem t8 (P : Pla) (hc : total P ≤ 1000000) : PCall Tryz.prog 11 [encPl P] (· = .int .i64 (plF P)) := by
  have h24 := t24 P hc
  have h25 := t25 P hc
  have h30 := fun nm => t30 P nm
  have hok := spots_ok P
  rcases P with ⟨xs, main⟩
  have hP : plF ⟨xs, main⟩ = if cpF ⟨xs, main⟩ ≠ 0 then cpF ⟨xs, main⟩ else oFL ⟨xs, main⟩ (spots ⟨xs, main⟩) := rfl
  generalize plF ⟨xs, main⟩ = R at *
  generalize spots ⟨xs, main⟩ = S at *
  generalize cpF ⟨xs, main⟩ = C at *
  simp only [encPl] at h24 h25 h30
  refine PCall.intro c8 300 (by simp) 20 ?_
  simp -implicitDefEqProofs only [s8, encPl, go_sem]
  repeat' (first | ((first | ((with_reducible first | refine cgR h24 ?_ ?_ | refine cgR h25 ?_ ?_); (· simp [norefL, noref, nrb])) | ((with_reducible apply cgF); (· simp -implicitDefEqProofs only [List.map_cons, List.map_nil, push_cast, go_sem_proc] <;> rfl); (with_reducible first | exact h24 | exact h25); (· rfl)) | (with_reducible refine F_q2 ?_)); simp -implicitDefEqProofs only [go_sem]) | (with_reducible refine Fork.mk ?_ ?_) | (with_reducible refine And.intro ?_ ?_) | ((with_reducible refine rpI ?_); simp -implicitDefEqProofs only [r8, push_cast, go_sem_proc]) | intro _)
  · rename_i hC
    have hC : C ≠ 0 := by simpa using hC
    rw [hP, if_pos hC]
  · rename_i hC hlen
    have hC : C = 0 := by simpa using hC
    rw [if_neg (by simpa using hC)] at hP
    refine F_loop (fun m e H => ∃ pre post J, S = pre ++ post ∧ m = post.length ∧ (∀ y ∈ pre, oFS ⟨xs, main⟩ y = 0) ∧ H = Blk.row [.agg [.fs (xs.map encP), .fs (main.map encS)]] :: J ∧ e 1 = .ptr 0 0 0 ∧ e 16 = .fs (S.map encSp) ∧ e 17 = .int .i64 S.length ∧ e 18 = .int .i64 pre.length) S.length ⟨[], S, [], by simp [upd, env0]⟩ ?_
    rintro m e H ⟨pre, post, J, hS, rfl, hz, rfl, h1, h16, h17, h18⟩
    cases post with
    | nil =>
      simp -implicitDefEqProofs only [h1, h16, h17, h18, mid_not hS, go_sem]
      simp -implicitDefEqProofs only [r8, push_cast, go_sem_proc]
      rw [hP, hS, oFL_append _ _ _ hz]; rfl
    | cons y post =>
      have hg := mid_get encSp hS
      have hy := hok y (by rw [hS]; simp)
      have hR : R = if oFS ⟨xs, main⟩ y ≠ 0 then oFS ⟨xs, main⟩ y else oFL ⟨xs, main⟩ post := by rw [hP, hS, oFL_append _ _ _ hz, oFL]
      have hnext : oFS ⟨xs, main⟩ y = 0 → ∀ z ∈ pre ++ [y], oFS ⟨xs, main⟩ z = 0 := fun h z hz' => by
        rcases List.mem_append.1 hz' with hz' | hz'
        · exact hz z hz'
        · simp at hz'; subst hz'; exact h
      rcases y with ⟨⟨k, r, t, v, l, ⟨ek, en, es, eas⟩, a, b, p, ps⟩, pr, la⟩
      rw [encSp_mk] at hg
      simp only [SPok] at hy
      have h27 := t27 k r t v l ek en es eas a b p ps
      rw [encS_mk] at h27
      have h30 := h30 p
      rcases hy with rfl | ⟨pa, qa, pb, hA, rfl⟩
      · skip
        rw [show oFS ⟨xs, main⟩ (.mk k r t v l (.mk ek en es eas) a b p ps, ((-1) : Int), la) = oF ⟨xs, main⟩ none k r t p ps by rw [oFS, procRs_neg]] at hR hnext
        rcases ixF_zip (fun z : Pr => decide (z.name = p)) xs 0 (by omega) with ⟨hI, hF⟩ | ⟨pre2, q2, post2, hxs, hI, hQ⟩
        · rw [procI, hI] at h30
          simp -implicitDefEqProofs only [h1, h16, h17, h18, mid_lt hS, mid_wrap hS hlen, hg, neg1, lt1, go_sem]
          repeat' (first | ((first | ((with_reducible refine cgR h30 ?_ ?_); (· simp [norefL, noref, nrb])) | ((with_reducible apply cgF); (· simp -implicitDefEqProofs only [List.map_cons, List.map_nil, push_cast, go_sem_proc] <;> rfl); (with_reducible exact h30); (· rfl)) | (with_reducible refine F_q2 ?_)); simp -implicitDefEqProofs only [h1, h16, h17, h18, mid_lt hS, mid_wrap hS hlen, hg, neg1, lt1, go_sem]) | (with_reducible refine Fork.mk ?_ ?_) | (with_reducible refine And.intro ?_ ?_) | ((with_reducible refine rpI ?_); simp -implicitDefEqProofs only [r8, push_cast, go_sem_proc]) | intro _)
          all_goals clear h27 h30 hok h24 h25
          all_goals first
            | ((with_reducible show F _ _ _)
               have hlen2 : ps.length ≤ 9223372036854775807 := by assumption
               have hO : oF ⟨xs, main⟩ none k r t p ps = if dupF [] ps then 6 else 0 := by
                 clear hg hR hnext hI hP hz
                 simp only [oF, hF]
                 generalize dupF [] ps = D at *
                 generalize ps.length = n at *
                 simp_all <;> omega
               rw [hO] at hR hnext
               refine F_loop (fun m e H => ∃ p2 q2, ps = p2 ++ q2 ∧ m = q2.length ∧ dupF [] ps = dupF p2 q2 ∧ (∃ J2, H = Blk.row [.agg [.fs (xs.map encP), .fs (main.map encS)]] :: (J ++ J2) ∧ J2[1]? = some (Blk.row [.agg [.int .i64 k, .str r, .str t, .str v, .str l, .int .i64 ek, .int .i64 en, .str es, .fs (eas.map encE), .fs (a.map encS), .fs (b.map encS), .str p, .fs (ps.map .str)]])) ∧
                 e 1 = .ptr 0 0 0 ∧ e 16 = .fs (S.map encSp) ∧ e 17 = .int .i64 S.length ∧ e 18 = .int .i64 pre.length ∧ e 6 = .ptr (J.length + 2) 0 0 ∧ e 61 = .fs (ps.map .str) ∧ e 62 = .int .i64 ps.length ∧ e 63 = .int .i64 p2.length) ps.length ⟨[], ps, by simp [upd, env0, h1, h16, h17, h18]⟩ ?_
               rintro m e H ⟨p2, q2, hq, rfl, hd, ⟨J2, rfl, hJ2⟩, h1, h16, h17, h18, h6, h61, h62, h63⟩
               cases q2 with
               | nil =>
                 simp -implicitDefEqProofs only [h1, h16, h17, h18, h6, h61, h62, h63, mid_not hq, mid_lt hS, mid_wrap hS hlen, go_sem]
                 refine ⟨_, Nat.lt_succ_self _, pre ++ [(.mk k r t v l (.mk ek en es eas) a b p ps, -1, la)], post, _, by simp [hS], rfl, hnext ?_, rfl, by simp⟩
                 rw [hd]; simp [dupF]
               | cons y q2 =>
                 have hg2 := mid_get V.str hq
                 have ht2 := mid_take V.str hq
                 have hl2 : (p2.length : Int) ≤ ps.length := by rw [hq]; simp; omega
                 have hJ3 : (J ++ J2)[J.length + 1]? = J2[1]? := get_appS _ _ _
                 simp -implicitDefEqProofs only [h1, h16, h17, h18, h6, h61, h62, h63, hJ3, hJ2, hg2, mid_lt hq, mid_wrap hq hlen2, headOk_str, hl2, ht2, Int.le_refl, Int.natCast_nonneg, go_sem]
                 repeat' (first | ((first | ((with_reducible refine cgR (t29 p2 y) ?_ ?_); (· simp [norefL, noref, nrb])) | ((with_reducible apply cgF); (· simp -implicitDefEqProofs only [List.map_cons, List.map_nil, push_cast, go_sem_proc] <;> rfl); (with_reducible exact (t29 p2 y)); (· rfl)) | (with_reducible refine F_q2 ?_)); simp -implicitDefEqProofs only [h1, h16, h17, h18, h6, h61, h62, h63, hJ3, hJ2, hg2, mid_lt hq, mid_wrap hq hlen2, headOk_str, hl2, ht2, Int.le_refl, Int.natCast_nonneg, go_sem]) | (with_reducible refine Fork.mk ?_ ?_) | (with_reducible refine And.intro ?_ ?_) | ((with_reducible refine rpI ?_); simp -implicitDefEqProofs only [r8, push_cast, go_sem_proc]) | intro _)
                 · rename_i hm
                   rw [hR, hd]; simp only [dupF, hm]; simp
                 · rename_i hm
                   refine ⟨_, Nat.lt_succ_self _, p2 ++ [y], q2, by simp [hq], rfl, ?_, ⟨J2, rfl, hJ2⟩, by simp [h1, h16, h17, h18, h6, h61, h62]⟩
                   rw [hd]; simp only [dupF, hm]; simp)
            | (refine ⟨_, Nat.lt_succ_self _, pre ++ [(.mk k r t v l (.mk ek en es eas) a b p ps, -1, la)], post, _, by simp [hS], rfl, hnext ?_, rfl, by simp⟩
               clear hg hR hnext hI hP hz
               simp only [oF, hF]; generalize dupF [] ps = D at *; generalize ps.length = n at *; simp_all; done)
            | (rw [hR]; clear hg hR hnext hI hP hz; simp only [oF, hF]; generalize dupF [] ps = D at *; generalize ps.length = n at *; simp_all; done)
            | (rw [hR]; clear hg hR hnext hI hP hz; simp only [oF, hF]; generalize dupF [] ps = D at *; generalize ps.length = n at *; simp_all; omega)
        · rw [procI, hI, Int.zero_add] at h30
          have hgq := mid_get encP hxs
          have hltq := mid_lt hxs
          simp only [encP] at hgq
          have hneg : ¬ ((pre2.length : Int) < 0) := by omega
          simp -implicitDefEqProofs only [h1, h16, h17, h18, mid_lt hS, mid_wrap hS hlen, hg, neg1, lt1, hgq, hltq, hneg, go_sem]
          repeat' (first | ((first | ((with_reducible refine cgR h30 ?_ ?_); (· simp [norefL, noref, nrb])) | ((with_reducible apply cgF); (· simp -implicitDefEqProofs only [List.map_cons, List.map_nil, push_cast, go_sem_proc] <;> rfl); (with_reducible exact h30); (· rfl)) | (with_reducible refine F_q2 ?_)); simp -implicitDefEqProofs only [h1, h16, h17, h18, mid_lt hS, mid_wrap hS hlen, hg, neg1, lt1, hgq, hltq, hneg, go_sem]) | (with_reducible refine Fork.mk ?_ ?_) | (with_reducible refine And.intro ?_ ?_) | ((with_reducible refine rpI ?_); simp -implicitDefEqProofs only [r8, push_cast, go_sem_proc]) | intro _)
          all_goals clear h27 h30 hok h24 h25
          all_goals first
            | ((with_reducible show F _ _ _)
               have hlen2 : ps.length ≤ 9223372036854775807 := by assumption
               have hO : oF ⟨xs, main⟩ none k r t p ps = if dupF [] ps then 6 else 0 := by
                 clear hg hR hnext hI hP hz
                 simp only [oF, hQ]
                 generalize dupF [] ps = D at *
                 generalize ps.length = n at *
                 simp_all <;> omega
               rw [hO] at hR hnext
               refine F_loop (fun m e H => ∃ p2 q2, ps = p2 ++ q2 ∧ m = q2.length ∧ dupF [] ps = dupF p2 q2 ∧ (∃ J2, H = Blk.row [.agg [.fs (xs.map encP), .fs (main.map encS)]] :: (J ++ J2) ∧ J2[1]? = some (Blk.row [.agg [.int .i64 k, .str r, .str t, .str v, .str l, .int .i64 ek, .int .i64 en, .str es, .fs (eas.map encE), .fs (a.map encS), .fs (b.map encS), .str p, .fs (ps.map .str)]])) ∧
                 e 1 = .ptr 0 0 0 ∧ e 16 = .fs (S.map encSp) ∧ e 17 = .int .i64 S.length ∧ e 18 = .int .i64 pre.length ∧ e 6 = .ptr (J.length + 2) 0 0 ∧ e 61 = .fs (ps.map .str) ∧ e 62 = .int .i64 ps.length ∧ e 63 = .int .i64 p2.length) ps.length ⟨[], ps, by simp [upd, env0, h1, h16, h17, h18]⟩ ?_
               rintro m e H ⟨p2, q2, hq, rfl, hd, ⟨J2, rfl, hJ2⟩, h1, h16, h17, h18, h6, h61, h62, h63⟩
               cases q2 with
               | nil =>
                 simp -implicitDefEqProofs only [h1, h16, h17, h18, h6, h61, h62, h63, mid_not hq, mid_lt hS, mid_wrap hS hlen, go_sem]
                 refine ⟨_, Nat.lt_succ_self _, pre ++ [(.mk k r t v l (.mk ek en es eas) a b p ps, -1, la)], post, _, by simp [hS], rfl, hnext ?_, rfl, by simp⟩
                 rw [hd]; simp [dupF]
               | cons y q2 =>
                 have hg2 := mid_get V.str hq
                 have ht2 := mid_take V.str hq
                 have hl2 : (p2.length : Int) ≤ ps.length := by rw [hq]; simp; omega
                 have hJ3 : (J ++ J2)[J.length + 1]? = J2[1]? := get_appS _ _ _
                 simp -implicitDefEqProofs only [h1, h16, h17, h18, h6, h61, h62, h63, hJ3, hJ2, hg2, mid_lt hq, mid_wrap hq hlen2, headOk_str, hl2, ht2, Int.le_refl, Int.natCast_nonneg, go_sem]
                 repeat' (first | ((first | ((with_reducible refine cgR (t29 p2 y) ?_ ?_); (· simp [norefL, noref, nrb])) | ((with_reducible apply cgF); (· simp -implicitDefEqProofs only [List.map_cons, List.map_nil, push_cast, go_sem_proc] <;> rfl); (with_reducible exact (t29 p2 y)); (· rfl)) | (with_reducible refine F_q2 ?_)); simp -implicitDefEqProofs only [h1, h16, h17, h18, h6, h61, h62, h63, hJ3, hJ2, hg2, mid_lt hq, mid_wrap hq hlen2, headOk_str, hl2, ht2, Int.le_refl, Int.natCast_nonneg, go_sem]) | (with_reducible refine Fork.mk ?_ ?_) | (with_reducible refine And.intro ?_ ?_) | ((with_reducible refine rpI ?_); simp -implicitDefEqProofs only [r8, push_cast, go_sem_proc]) | intro _)
                 · rename_i hm
                   rw [hR, hd]; simp only [dupF, hm]; simp
                 · rename_i hm
                   refine ⟨_, Nat.lt_succ_self _, p2 ++ [y], q2, by simp [hq], rfl, ?_, ⟨J2, rfl, hJ2⟩, by simp [h1, h16, h17, h18, h6, h61, h62]⟩
                   rw [hd]; simp only [dupF, hm]; simp)
            | (refine ⟨_, Nat.lt_succ_self _, pre ++ [(.mk k r t v l (.mk ek en es eas) a b p ps, -1, la)], post, _, by simp [hS], rfl, hnext ?_, rfl, by simp⟩
               clear hg hR hnext hI hP hz
               simp only [oF, hQ]; generalize dupF [] ps = D at *; generalize ps.length = n at *; simp_all; done)
            | (rw [hR]; clear hg hR hnext hI hP hz; simp only [oF, hQ]; generalize dupF [] ps = D at *; generalize ps.length = n at *; simp_all; done)
            | (rw [hR]; clear hg hR hnext hI hP hz; simp only [oF, hQ]; generalize dupF [] ps = D at *; generalize ps.length = n at *; simp_all; omega)
      · skip
        try simp only at hA
        have h28 : ∀ z ∈ rolesS k r t ps, PCall Tryz.prog 50 ([] ++ [V.str z] ++ [.rptr [.fs (xs.map encP), .fs (main.map encS)], .rptr [.int .i64 k, .str r, .str t, .str v, .str l, .int .i64 ek, .int .i64 en, .str es, .fs (eas.map encE), .fs (a.map encS), .fs (b.map encS), .str p, .fs (ps.map .str), .int .i64 pa.length, .bool la]]) (· = .bool (!qa.roles.any fun y => decide (z = y))) := by
          intro z _; rw [hA]; exact t28 pa pb qa main z _ _ _ _ _ _ _ _ _ _ _ _ _ _
        have h26 := t26 (rolesS k r t ps) 50 [] [.rptr [.fs (xs.map encP), .fs (main.map encS)], .rptr [.int .i64 k, .str r, .str t, .str v, .str l, .int .i64 ek, .int .i64 en, .str es, .fs (eas.map encE), .fs (a.map encS), .fs (b.map encS), .str p, .fs (ps.map .str), .int .i64 pa.length, .bool la]] (fun z => !qa.roles.any fun y => decide (z = y)) rfl (by simp [norefL, noref, norefL_encP, norefL_encS, norefL_encE, norefL_str]) h28
        clear h28
        generalize hB : (rolesS k r t ps).any (fun z => !qa.roles.any fun y => decide (z = y)) = Bad at h26
        have hge : (0 ≤ (pa.length : Int)) = True := by simp
        rw [show oFS ⟨xs, main⟩ (.mk k r t v l (.mk ek en es eas) a b p ps, (pa.length : Int), la) = oF ⟨xs, main⟩ (some qa.roles) k r t p ps by rw [oFS, procRs_at hA]] at hR hnext
        rcases ixF_zip (fun z : Pr => decide (z.name = p)) xs 0 (by omega) with ⟨hI, hF⟩ | ⟨pre2, q2, post2, hxs, hI, hQ⟩
        · rw [procI, hI] at h30
          simp -implicitDefEqProofs only [h1, h16, h17, h18, mid_lt hS, mid_wrap hS hlen, hg, neg1, hge, lt1, go_sem]
          repeat' (first | ((first | ((with_reducible first | refine cgR h30 ?_ ?_ | refine cgR h27 ?_ ?_ | refine cgR h26 ?_ ?_); (· simp [norefL, noref, nrb])) | ((with_reducible apply cgF); (· simp -implicitDefEqProofs only [List.map_cons, List.map_nil, push_cast, go_sem_proc] <;> rfl); (with_reducible first | exact h30 | exact h27 | exact h26); (· rfl)) | (with_reducible refine F_q2 ?_)); simp -implicitDefEqProofs only [h1, h16, h17, h18, mid_lt hS, mid_wrap hS hlen, hg, neg1, hge, lt1, go_sem]) | (with_reducible refine Fork.mk ?_ ?_) | (with_reducible refine And.intro ?_ ?_) | ((with_reducible refine rpI ?_); simp -implicitDefEqProofs only [r8, push_cast, go_sem_proc]) | intro _)
          all_goals clear h27 h26 h30 hok h24 h25
          all_goals first
            | ((with_reducible show F _ _ _)
               have hlen2 : ps.length ≤ 9223372036854775807 := by assumption
               have hO : oF ⟨xs, main⟩ (some qa.roles) k r t p ps = if dupF [] ps then 6 else 0 := by
                 clear hg hR hnext hI hP hz
                 simp only [oF, hF, hB]
                 generalize dupF [] ps = D at *
                 generalize ps.length = n at *
                 simp_all <;> omega
               rw [hO] at hR hnext
               refine F_loop (fun m e H => ∃ p2 q2, ps = p2 ++ q2 ∧ m = q2.length ∧ dupF [] ps = dupF p2 q2 ∧ (∃ J2, H = Blk.row [.agg [.fs (xs.map encP), .fs (main.map encS)]] :: (J ++ J2) ∧ J2[1]? = some (Blk.row [.agg [.int .i64 k, .str r, .str t, .str v, .str l, .int .i64 ek, .int .i64 en, .str es, .fs (eas.map encE), .fs (a.map encS), .fs (b.map encS), .str p, .fs (ps.map .str)]])) ∧
                 e 1 = .ptr 0 0 0 ∧ e 16 = .fs (S.map encSp) ∧ e 17 = .int .i64 S.length ∧ e 18 = .int .i64 pre.length ∧ e 6 = .ptr (J.length + 2) 0 0 ∧ e 61 = .fs (ps.map .str) ∧ e 62 = .int .i64 ps.length ∧ e 63 = .int .i64 p2.length) ps.length ⟨[], ps, by simp [upd, env0, h1, h16, h17, h18]⟩ ?_
               rintro m e H ⟨p2, q2, hq, rfl, hd, ⟨J2, rfl, hJ2⟩, h1, h16, h17, h18, h6, h61, h62, h63⟩
               cases q2 with
               | nil =>
                 simp -implicitDefEqProofs only [h1, h16, h17, h18, h6, h61, h62, h63, mid_not hq, mid_lt hS, mid_wrap hS hlen, go_sem]
                 refine ⟨_, Nat.lt_succ_self _, pre ++ [(.mk k r t v l (.mk ek en es eas) a b p ps, (pa.length : Int), la)], post, _, by simp [hS], rfl, hnext ?_, rfl, by simp⟩
                 rw [hd]; simp [dupF]
               | cons y q2 =>
                 have hg2 := mid_get V.str hq
                 have ht2 := mid_take V.str hq
                 have hl2 : (p2.length : Int) ≤ ps.length := by rw [hq]; simp; omega
                 have hJ3 : (J ++ J2)[J.length + 1]? = J2[1]? := get_appS _ _ _
                 simp -implicitDefEqProofs only [h1, h16, h17, h18, h6, h61, h62, h63, hJ3, hJ2, hg2, mid_lt hq, mid_wrap hq hlen2, headOk_str, hl2, ht2, Int.le_refl, Int.natCast_nonneg, go_sem]
                 repeat' (first | ((first | ((with_reducible refine cgR (t29 p2 y) ?_ ?_); (· simp [norefL, noref, nrb])) | ((with_reducible apply cgF); (· simp -implicitDefEqProofs only [List.map_cons, List.map_nil, push_cast, go_sem_proc] <;> rfl); (with_reducible exact (t29 p2 y)); (· rfl)) | (with_reducible refine F_q2 ?_)); simp -implicitDefEqProofs only [h1, h16, h17, h18, h6, h61, h62, h63, hJ3, hJ2, hg2, mid_lt hq, mid_wrap hq hlen2, headOk_str, hl2, ht2, Int.le_refl, Int.natCast_nonneg, go_sem]) | (with_reducible refine Fork.mk ?_ ?_) | (with_reducible refine And.intro ?_ ?_) | ((with_reducible refine rpI ?_); simp -implicitDefEqProofs only [r8, push_cast, go_sem_proc]) | intro _)
                 · rename_i hm
                   rw [hR, hd]; simp only [dupF, hm]; simp
                 · rename_i hm
                   refine ⟨_, Nat.lt_succ_self _, p2 ++ [y], q2, by simp [hq], rfl, ?_, ⟨J2, rfl, hJ2⟩, by simp [h1, h16, h17, h18, h6, h61, h62]⟩
                   rw [hd]; simp only [dupF, hm]; simp)
            | (refine ⟨_, Nat.lt_succ_self _, pre ++ [(.mk k r t v l (.mk ek en es eas) a b p ps, (pa.length : Int), la)], post, _, by simp [hS], rfl, hnext ?_, rfl, by simp⟩
               clear hg hR hnext hI hP hz
               simp only [oF, hF, hB]; generalize dupF [] ps = D at *; generalize ps.length = n at *; simp_all; done)
            | (rw [hR]; clear hg hR hnext hI hP hz; simp only [oF, hF, hB]; generalize dupF [] ps = D at *; generalize ps.length = n at *; simp_all; done)
            | (rw [hR]; clear hg hR hnext hI hP hz; simp only [oF, hF, hB]; generalize dupF [] ps = D at *; generalize ps.length = n at *; simp_all; omega)
        · rw [procI, hI, Int.zero_add] at h30
          have hgq := mid_get encP hxs
          have hltq := mid_lt hxs
          simp only [encP] at hgq
          have hneg : ¬ ((pre2.length : Int) < 0) := by omega
          simp -implicitDefEqProofs only [h1, h16, h17, h18, mid_lt hS, mid_wrap hS hlen, hg, neg1, hge, lt1, hgq, hltq, hneg, go_sem]
          repeat' (first | ((first | ((with_reducible first | refine cgR h30 ?_ ?_ | refine cgR h27 ?_ ?_ | refine cgR h26 ?_ ?_); (· simp [norefL, noref, nrb])) | ((with_reducible apply cgF); (· simp -implicitDefEqProofs only [List.map_cons, List.map_nil, push_cast, go_sem_proc] <;> rfl); (with_reducible first | exact h30 | exact h27 | exact h26); (· rfl)) | (with_reducible refine F_q2 ?_)); simp -implicitDefEqProofs only [h1, h16, h17, h18, mid_lt hS, mid_wrap hS hlen, hg, neg1, hge, lt1, hgq, hltq, hneg, go_sem]) | (with_reducible refine Fork.mk ?_ ?_) | (with_reducible refine And.intro ?_ ?_) | ((with_reducible refine rpI ?_); simp -implicitDefEqProofs only [r8, push_cast, go_sem_proc]) | intro _)
          all_goals clear h27 h26 h30 hok h24 h25
          all_goals first
            | ((with_reducible show F _ _ _)
               have hlen2 : ps.length ≤ 9223372036854775807 := by assumption
               have hO : oF ⟨xs, main⟩ (some qa.roles) k r t p ps = if dupF [] ps then 6 else 0 := by
                 clear hg hR hnext hI hP hz
                 simp only [oF, hQ, hB]
                 generalize dupF [] ps = D at *
                 generalize ps.length = n at *
                 simp_all <;> omega
               rw [hO] at hR hnext
               refine F_loop (fun m e H => ∃ p2 q2, ps = p2 ++ q2 ∧ m = q2.length ∧ dupF [] ps = dupF p2 q2 ∧ (∃ J2, H = Blk.row [.agg [.fs (xs.map encP), .fs (main.map encS)]] :: (J ++ J2) ∧ J2[1]? = some (Blk.row [.agg [.int .i64 k, .str r, .str t, .str v, .str l, .int .i64 ek, .int .i64 en, .str es, .fs (eas.map encE), .fs (a.map encS), .fs (b.map encS), .str p, .fs (ps.map .str)]])) ∧
                 e 1 = .ptr 0 0 0 ∧ e 16 = .fs (S.map encSp) ∧ e 17 = .int .i64 S.length ∧ e 18 = .int .i64 pre.length ∧ e 6 = .ptr (J.length + 2) 0 0 ∧ e 61 = .fs (ps.map .str) ∧ e 62 = .int .i64 ps.length ∧ e 63 = .int .i64 p2.length) ps.length ⟨[], ps, by simp [upd, env0, h1, h16, h17, h18]⟩ ?_
               rintro m e H ⟨p2, q2, hq, rfl, hd, ⟨J2, rfl, hJ2⟩, h1, h16, h17, h18, h6, h61, h62, h63⟩
               cases q2 with
               | nil =>
                 simp -implicitDefEqProofs only [h1, h16, h17, h18, h6, h61, h62, h63, mid_not hq, mid_lt hS, mid_wrap hS hlen, go_sem]
                 refine ⟨_, Nat.lt_succ_self _, pre ++ [(.mk k r t v l (.mk ek en es eas) a b p ps, (pa.length : Int), la)], post, _, by simp [hS], rfl, hnext ?_, rfl, by simp⟩
                 rw [hd]; simp [dupF]
               | cons y q2 =>
                 have hg2 := mid_get V.str hq
                 have ht2 := mid_take V.str hq
                 have hl2 : (p2.length : Int) ≤ ps.length := by rw [hq]; simp; omega
                 have hJ3 : (J ++ J2)[J.length + 1]? = J2[1]? := get_appS _ _ _
                 simp -implicitDefEqProofs only [h1, h16, h17, h18, h6, h61, h62, h63, hJ3, hJ2, hg2, mid_lt hq, mid_wrap hq hlen2, headOk_str, hl2, ht2, Int.le_refl, Int.natCast_nonneg, go_sem]
                 repeat' (first | ((first | ((with_reducible refine cgR (t29 p2 y) ?_ ?_); (· simp [norefL, noref, nrb])) | ((with_reducible apply cgF); (· simp -implicitDefEqProofs only [List.map_cons, List.map_nil, push_cast, go_sem_proc] <;> rfl); (with_reducible exact (t29 p2 y)); (· rfl)) | (with_reducible refine F_q2 ?_)); simp -implicitDefEqProofs only [h1, h16, h17, h18, h6, h61, h62, h63, hJ3, hJ2, hg2, mid_lt hq, mid_wrap hq hlen2, headOk_str, hl2, ht2, Int.le_refl, Int.natCast_nonneg, go_sem]) | (with_reducible refine Fork.mk ?_ ?_) | (with_reducible refine And.intro ?_ ?_) | ((with_reducible refine rpI ?_); simp -implicitDefEqProofs only [r8, push_cast, go_sem_proc]) | intro _)
                 · rename_i hm
                   rw [hR, hd]; simp only [dupF, hm]; simp
                 · rename_i hm
                   refine ⟨_, Nat.lt_succ_self _, p2 ++ [y], q2, by simp [hq], rfl, ?_, ⟨J2, rfl, hJ2⟩, by simp [h1, h16, h17, h18, h6, h61, h62]⟩
                   rw [hd]; simp only [dupF, hm]; simp)
            | (refine ⟨_, Nat.lt_succ_self _, pre ++ [(.mk k r t v l (.mk ek en es eas) a b p ps, (pa.length : Int), la)], post, _, by simp [hS], rfl, hnext ?_, rfl, by simp⟩
               clear hg hR hnext hI hP hz
               simp only [oF, hQ, hB]; generalize dupF [] ps = D at *; generalize ps.length = n at *; simp_all; done)
            | (rw [hR]; clear hg hR hnext hI hP hz; simp only [oF, hQ, hB]; generalize dupF [] ps = D at *; generalize ps.length = n at *; simp_all; done)
            | (rw [hR]; clear hg hR hnext hI hP hz; simp only [oF, hQ, hB]; generalize dupF [] ps = D at *; generalize ps.length = n at *; simp_all; omega)
mutual
def fE1 {σ : Type} (f : σ → Int → St → σ) : σ → St → Int → σ
 | st, .mk k r t v l e a b p ps, n => fE f (fE f (f st n (.mk k r t v l e a b p ps)) a (n + 1)) b (n + 1 + cnts a)
def fE {σ : Type} (f : σ → Int → St → σ) : σ → List St → Int → σ
 | st, [], _ => st
 | st, x :: l, n => fE f (fE1 f st x n) l (n + cnt x)
end
theorem fE_append {σ : Type} (f : σ → Int → St → σ) : ∀ (a b : List St) (st : σ) (n : Int), fE f st (a ++ b) n = fE f (fE f st a n) b (n + cnts a)
 | [], b, st, n => by simp [fE, cnts]
 | x :: a, b, st, n => by
  rw [List.cons_append, fE, fE, fE_append f a b, cnts]
  congr 1; omega
structure TOK {σ : Type} (N : Nat) (T : σ → List Blk) : Prop where
 len : ∀ st, (T st).length = N
 row : ∀ st st' (i : Nat) b, (T st')[i]? = some b → (T st)[i]? = some b ∨ b.nr = true
theorem TOK.app {σ : Type} {N : Nat} {T : σ → List Blk} (h : TOK N T) (L : List Blk) : TOK (N + L.length) (fun st => T st ++ L) where
 len st := by simp [h.len]
 row st st' i es hi := by
  show (T st ++ L)[i]? = _ ∨ _
  have hi : (T st' ++ L)[i]? = some es := hi
  by_cases hl : i < N
  ·rw [List.getElem?_append_left (by rw [h.len]; exact hl)] at hi ⊢; exact h.row st st' i es hi
  ·rw [List.getElem?_append_right (by rw [h.len]; omega), h.len] at hi ⊢; exact .inl hi
theorem TOK.get {σ : Type} {N : Nat} {T : σ → List Blk} (h : TOK N T) (st : σ) (J l : List Blk) : (T st ++ (J ++ l))[N + J.length]? = l[0]? := by
 rw [List.getElem?_append_right (by rw [h.len]; omega), h.len, Nat.add_sub_cancel_left, get_app0]
theorem TOK.set {σ : Type} {N : Nat} {T : σ → List Blk} (h : TOK N T) (st : σ) (J l : List Blk) (x : Blk) : (T st ++ (J ++ l)).set (N + J.length) x = T st ++ (J ++ l.set 0 x) := by
 rw [List.set_append_right _ _ (by rw [h.len]; omega), h.len, Nat.add_sub_cancel_left, set_app0]
def CB {σ : Type} (g : FuncId) (first caps : List V) (T : σ → List Blk) (f : σ → Int → St → σ) : Prop :=
 ∀ st n x J, ACall Tryz.prog g (first ++ (.int .i64 n :: encS x :: caps)) (T st ++ J) (ret1 (.tup []) (T (f st n x) ++ J))
theorem CB.app {σ : Type} {g : FuncId} {first caps : List V} {T : σ → List Blk} {f : σ → Int → St → σ} (h : CB g first caps T f) (L : List Blk) : CB g first caps (fun st => T st ++ L) f := by
 intro st n x J
 have := h st n x (L ++ J)
 simpa only [List.append_assoc] using this
set_option maxRecDepth 20000 in
theorem t51s {σ : Type} (f : σ → Int → St → σ) (g : FuncId) (first caps : List V) (xs : List St) {N : Nat} {T : σ → List Blk} (hT : TOK N T) (hcb : CB g first caps T f) (st : σ) (n : Int) (hn0 : 0 ≤ n) (hn : n + cnts xs ≤ 1000000)
  (h : ∀ k r t v l e a b p ps, St.mk k r t v l e a b p ps ∈ xs → ∀ (N : Nat) (T : σ → List Blk), TOK N T → CB g first caps T f → ∀ (st : σ) (n : Int), 0 ≤ n →
   (n + cnts a ≤ 1000000 → ACall Tryz.prog 149 [.fs (a.map encS), .int .i64 n, .clos g first caps] (T st) (ret1 (.int .i64 (n + cnts a)) (T (fE f st a n)))) ∧
   (n + cnts b ≤ 1000000 → ACall Tryz.prog 149 [.fs (b.map encS), .int .i64 n, .clos g first caps] (T st) (ret1 (.int .i64 (n + cnts b)) (T (fE f st b n))))) :
  ACall Tryz.prog 149 [.fs (xs.map encS), .int .i64 n, .clos g first caps] (T st) (ret1 (.int .i64 (n + cnts xs)) (T (fE f st xs n))) := by
 refine ACall.trim ?_
 refine ACall.intro c51 400 (by simp) ?_
 simp -implicitDefEqProofs only [s51, go_sem]
 intro hlen
 refine F_loop (fun m e H => ∃ pre post J, xs = pre ++ post ∧ m = post.length ∧ e 1 = .int .i64 (n + cnts pre) ∧ e 2 = .clos g first caps ∧ e 9 = .fs (xs.map encS) ∧ e 10 = .int .i64 xs.length ∧ e 11 = .int .i64 pre.length ∧ H = T (fE f st pre n) ++ J) xs.length ⟨[], xs, [], by simp [upd, env0, cnts, fE]⟩ ?_
 rintro m e H ⟨pre, post, J, hxs, rfl, h1, h2, h9, h10, h11, rfl⟩
 cases post with
 | nil =>
  have hpx : pre = xs := by rw [hxs]; simp
  simp -implicitDefEqProofs only [h1, h2, h9, h10, h11, mid_not hxs, go_sem]
  simp -implicitDefEqProofs only [r51, push_cast, go_sem_proc]
  exact ⟨_, _, rfl, by rw [hT.len, hT.len], hT.row _ _, by rw [hpx], by rw [hpx]⟩
 | cons y post =>
  have hg := mid_get encS hxs
  have hcy : cnts xs = cnts pre + (cnt y + cnts post) := by rw [hxs, cnts_append, cnts]
  have hcb1 := fun J => hcb (fE f st pre n) (n + cnts pre) y J
  have hfy : fE f st (pre ++ [y]) n = fE1 f (fE f st pre n) y (n + cnts pre) := by rw [fE_append]; rfl
  have hcc : cnts (pre ++ [y]) = cnts pre + cnt y := by rw [cnts_append]; simp [cnts]
  generalize fE f st pre n = s0 at *
  rcases y with ⟨k, r, t, v, l, ⟨ek, en, es, eas⟩, a, b, p, ps⟩
  rw [fE1] at hfy
  generalize f s0 (n + cnts pre) (.mk k r t v l (.mk ek en es eas) a b p ps) = s1 at *
  simp only [cnt] at hcy hcc
  rw [encS_mk] at hg
  simp only [encS_mk] at hcb1
  have w1 := wrap_int (x := n + cnts pre + 1) (by omega) (by omega)
  have hlT := hT.len
  simp -implicitDefEqProofs only [h1, h2, h9, h10, h11, mid_lt hxs, mid_wrap hxs hlen, hg, hlT, hT.get, hT.set, go_sem]
  refine ACall.of1 (hcb1 _) ?_
  simp -implicitDefEqProofs only [h1, h2, h9, h10, h11, mid_lt hxs, mid_wrap hxs hlen, hg, hlT, hT.get, hT.set, w1, go_sem]
  have hh := h k r t v l (.mk ek en es eas) a b p ps (by rw [hxs]; simp) _ _ (hT.app (J ++ [Blk.row [.agg [.int .i64 k, .str r, .str t, .str v, .str l, .int .i64 ek, .int .i64 en, .str es, .fs (eas.map encE), .fs (a.map encS), .fs (b.map encS), .str p, .fs (ps.map .str)]]])) (hcb.app _)
  refine ACall.of1 ((hh s1 (n + cnts pre + 1) (by omega)).1 (by omega)) ?_
  simp -implicitDefEqProofs only [h1, h2, h9, h10, h11, mid_lt hxs, mid_wrap hxs hlen, hg, hlT, hT.get, hT.set, w1, go_sem]
  refine ACall.of1 ((hh _ (n + cnts pre + 1 + cnts a) (by omega)).2 (by omega)) ?_
  simp -implicitDefEqProofs only [h1, h2, h9, h10, h11, mid_lt hxs, mid_wrap hxs hlen, hg, hlT, hT.get, hT.set, w1, go_sem]
  rw [← hfy]
  refine ⟨_, Nat.lt_succ_self _, pre ++ [.mk k r t v l (.mk ek en es eas) a b p ps], post, _, by simp [hxs], rfl, ?_, by simp, rfl⟩
  rw [hcc]; simp only [Int.natCast_add, Int.natCast_one]; congr 1; omega
theorem t51 {σ : Type} (f : σ → Int → St → σ) (g : FuncId) (first caps : List V) : ∀ (m : Nat) (xs : List St), SizeOf.sizeOf xs < m → ∀ (N : Nat) (T : σ → List Blk), TOK N T → CB g first caps T f → ∀ (st : σ) (n : Int), 0 ≤ n → n + cnts xs ≤ 1000000 →
  ACall Tryz.prog 149 [.fs (xs.map encS), .int .i64 n, .clos g first caps] (T st) (ret1 (.int .i64 (n + cnts xs)) (T (fE f st xs n)))
 | 0, xs, h => absurd h (Nat.not_lt_zero _)
 | m + 1, xs, hm => fun N T hT hcb st n h0 h1 => t51s f g first caps xs hT hcb st n h0 h1 (fun k r t v l e a b p ps hmem N T hT hcb st n h0 => by
  have hs := List.sizeOf_lt_of_mem hmem
  simp only [St.mk.sizeOf_spec] at hs
  exact ⟨fun hc => t51 f g first caps m a (by omega) N T hT hcb st n h0 hc, fun hc => t51 f g first caps m b (by omega) N T hT hcb st n h0 hc⟩)
def CB3 {σ : Type} (g : FuncId) (first caps : List V) (T : σ → List Blk) (f : σ → Int → Int → St → σ) (ok : Int → Prop) : Prop :=
 ∀ st n pr x J, ok pr → ACall Tryz.prog g (first ++ (.int .i64 n :: .int .i64 pr :: encS x :: caps)) (T st ++ J) (ret1 (.tup []) (T (f st n pr x) ++ J))
theorem TOK.getL {σ : Type} {N : Nat} {T : σ → List Blk} (h : TOK N T) (st : σ) {L : List Blk} {j : Nat} {b : Blk} (hL : L[j]? = some b) (l : List Blk) : (T st ++ (L ++ l))[N + j]? = some b := by
 rw [List.getElem?_append_right (by rw [h.len]; omega), h.len, Nat.add_sub_cancel_left, List.getElem?_append_left (List.getElem?_eq_some_iff.1 hL).1, hL]
theorem TOK.get2 {σ : Type} {N : Nat} {T : σ → List Blk} (h : TOK N T) (st : σ) (L J l : List Blk) : (T st ++ (L ++ (J ++ l)))[N + (L.length + J.length)]? = l[0]? := by
 rw [← List.append_assoc L J l, ← List.length_append]; exact h.get st _ _
theorem TOK.at0 {σ : Type} {N : Nat} {T : σ → List Blk} (h : TOK N T) (st : σ) (l : List Blk) : (T st ++ l)[N]? = l[0]? := by
 have := h.get st [] l
 simpa using this
theorem TOK.atS {σ : Type} {N : Nat} {T : σ → List Blk} (h : TOK N T) (st : σ) (l : List Blk) (k : Nat) : (T st ++ l)[N + k]? = l[k]? := by
 rw [List.getElem?_append_right (by rw [h.len]; omega), h.len, Nat.add_sub_cancel_left]
theorem TOK.setS {σ : Type} {N : Nat} {T : σ → List Blk} (h : TOK N T) (st : σ) (l : List Blk) (k : Nat) (x : Blk) : (T st ++ l).set (N + k) x = T st ++ l.set k x := by
 rw [List.set_append_right _ _ (by rw [h.len]; omega), h.len, Nat.add_sub_cancel_left]
theorem cb52 {σ : Type} {N : Nat} {T : σ → List Blk} (hT : TOK N T) {g : FuncId} {first caps : List V} {f : σ → Int → Int → St → σ} {ok : Int → Prop} (hok : ok (-1)) (hcb : CB3 g first caps T f ok) {L : List Blk} {j : Nat} (hL : L[j]? = some (.row [.clos g first caps])) :
  CB 162 [] [.ptr (N + j) 0 0] (fun st => T st ++ L) (fun st n x => f st n (-1) x) := by
 intro st n x J
 have hlT := hT.len
 have hg := fun st l => hT.getL st hL l
 have hc := fun J => hcb st n (-1) x J hok
 show ACall Tryz.prog 162 ([] ++ (.int .i64 n :: encS x :: [.ptr (N + j) 0 0])) ((T st ++ L) ++ J) (ret1 (.tup []) ((T (f st n (-1) x) ++ L) ++ J))
 generalize f st n (-1) x = s1 at *
 rcases x with ⟨k, r, t, v, l, ⟨ek, en, es, eas⟩, a, b, p, ps⟩
 rw [encS_mk] at *
 refine ACall.trim ?_
 refine ACall.intro c52 100 (by simp) ?_
 simp -implicitDefEqProofs only [s52, hlT, hg, hT.get2, go_sem]
 refine ACall.of1 (hc _) ?_
 simp -implicitDefEqProofs only [hlT, hg, hT.get2, go_sem]
 simp -implicitDefEqProofs only [r52, push_cast, go_sem_proc]
 refine ⟨T s1 ++ (L ++ J), _, by simp; rfl, by simp [hlT], fun i es hi => ?_, rfl⟩
 have := (hT.app (L ++ J)).row st s1 i es
 simpa using this (by simpa using hi)
theorem cb53 {σ : Type} {N : Nat} {T : σ → List Blk} (hT : TOK N T) {g : FuncId} {first caps : List V} {f : σ → Int → Int → St → σ} {ok : Int → Prop} {pr : Int} (hok : ok pr) (hcb : CB3 g first caps T f ok) {L : List Blk} {j i : Nat} (hL : L[j]? = some (.row [.clos g first caps]))
  (hi : L[i]? = some (.row [.int .i64 pr])) : CB 163 [] [.ptr (N + j) 0 0, .ptr (N + i) 0 0] (fun st => T st ++ L) (fun st n x => f st n pr x) := by
 intro st n x J
 have hlT := hT.len
 have hg := fun st l => hT.getL st hL l
 have hg2 := fun st l => hT.getL st hi l
 have hc := fun J => hcb st n pr x J hok
 show ACall Tryz.prog 163 ([] ++ (.int .i64 n :: encS x :: [.ptr (N + j) 0 0, .ptr (N + i) 0 0])) ((T st ++ L) ++ J) (ret1 (.tup []) ((T (f st n pr x) ++ L) ++ J))
 generalize f st n pr x = s1 at *
 rcases x with ⟨k, r, t, v, l, ⟨ek, en, es, eas⟩, a, b, p, ps⟩
 rw [encS_mk] at *
 refine ACall.trim ?_
 refine ACall.intro c53 100 (by simp) ?_
 simp -implicitDefEqProofs only [s53, hlT, hg, hg2, hT.get2, go_sem]
 refine ACall.of1 (hc _) ?_
 simp -implicitDefEqProofs only [hlT, hg, hg2, hT.get2, go_sem]
 simp -implicitDefEqProofs only [r53, push_cast, go_sem_proc]
 refine ⟨T s1 ++ (L ++ J), _, by simp; rfl, by simp [hlT], fun i es hi => ?_, rfl⟩
 have := (hT.app (L ++ J)).row st s1 i es
 simpa using this (by simpa using hi)
def fP {σ : Type} (f : σ → Int → Int → St → σ) : σ → List Pr → Nat → Int → σ
 | st, [], _, _ => st
 | st, q :: l, i, n => fP f (fE (fun st n x => f st n i x) st q.steps n) l (i + 1) (n + cnts q.steps)
theorem fP_append {σ : Type} (f : σ → Int → Int → St → σ) : ∀ (a b : List Pr) (st : σ) (i : Nat) (n : Int), fP f st (a ++ b) i n = fP f (fP f st a i n) b (i + a.length) (n + cntP a)
 | [], b, st, i, n => by simp [fP, cntP]
 | x :: a, b, st, i, n => by
  rw [List.cons_append, fP, fP, fP_append f a b, cntP, List.length_cons]
  congr 1
  ·omega
  ·omega
def fEP {σ : Type} (f : σ → Int → Int → St → σ) (st : σ) (P : Pla) : σ := fP f (fE (fun st n x => f st n (-1) x) st P.main 0) P.procs 0 (cnts P.main)
set_option maxRecDepth 20000 in
theorem t22 {σ : Type} {N : Nat} {T : σ → List Blk} (hT : TOK N T) {g : FuncId} {first caps : List V} {f : σ → Int → Int → St → σ} {ok : Int → Prop} (P : Pla) (hc : total P ≤ 1000000) (hok : ok (-1)) (hok2 : ∀ pa qa pb, P.procs = pa ++ qa :: pb → ok pa.length) (hcb : CB3 g first caps T f ok) (st : σ) :
  ACall Tryz.prog 88 [encPl P, .clos g first caps] (T st) (ret1 (.tup []) (T (fEP f st P))) := by
 rcases P with ⟨xs, main⟩
 simp only [total] at hc
 have hlT := hT.len
 refine ACall.trim ?_
 refine ACall.intro c22 100 (by simp) ?_
 simp -implicitDefEqProofs only [s22, encPl, hlT, hT.at0, hT.atS, go_sem]
 refine ACall.of1 (t51 (fun st n x => f st n (-1) x) 162 [] [.ptr (N + 1) 0 0] _ main (Nat.lt_succ_self _) (N + 2) _ (hT.app [_, _]) (cb52 hT hok hcb (L := [_, _]) (j := 1) rfl) st 0 (by omega) (by omega)) ?_
 simp -implicitDefEqProofs only [hlT, hT.at0, hT.atS, go_sem]
 intro hlen
 generalize hs0 : fE (fun st n x => f st n (-1) x) st main 0 = s0
 refine F_loop (fun m e H => ∃ pre post J, xs = pre ++ post ∧ m = post.length ∧ e 3 = .ptr (N + 1) 0 0 ∧ e 4 = .int .i64 ((cnts main : Int) + cntP pre) ∧ e 12 = .fs (xs.map encP) ∧ e 13 = .int .i64 xs.length ∧ e 14 = .int .i64 pre.length ∧
  H = T (fP f s0 pre 0 (cnts main)) ++ (Blk.row [.agg [.fs (xs.map encP), .fs (main.map encS)]] :: Blk.row [.clos g first caps] :: J)) xs.length ⟨[], xs, [], by simp [upd, env0, cntP, fP]⟩ ?_
 rintro m e H ⟨pre, post, J, hxs, rfl, h3, h4, h12, h13, h14, rfl⟩
 cases post with
 | nil =>
  have hpx : pre = xs := by rw [hxs]; simp
  simp -implicitDefEqProofs only [h3, h4, h12, h13, h14, mid_not hxs, go_sem]
  simp -implicitDefEqProofs only [r22, push_cast, go_sem_proc]
  refine ⟨_, _, rfl, by simp [hT.len], hT.row _ _, ?_⟩
  rw [hpx, fEP, hs0]
 | cons q post =>
  have hg := mid_get encP hxs
  simp only [encP] at hg
  have hcq : cntP xs = cntP pre + (cnts q.steps + cntP post) := by rw [hxs, cntP_append, cntP]
  have hfq : fP f s0 (pre ++ [q]) 0 (cnts main) = fE (fun st n x => f st n pre.length x) (fP f s0 pre 0 (cnts main)) q.steps ((cnts main : Int) + cntP pre) := by
   rw [fP_append, fP, fP, Nat.zero_add]
  generalize fP f s0 pre 0 (cnts main) = s1 at *
  simp -implicitDefEqProofs only [h3, h4, h12, h13, h14, mid_lt hxs, mid_wrap hxs hlen, hg, hlT, hT.at0, hT.atS, hT.setS, go_sem]
  have hi : (Blk.row [.agg [.fs (xs.map encP), .fs (main.map encS)]] :: Blk.row [.clos g first caps] :: (J ++ [Blk.row [.int .i64 pre.length], Blk.row [.agg [.str q.name, .fs (q.roles.map .str), .fs (q.steps.map encS)]]]))[J.length + 2]? = some (Blk.row [.int .i64 pre.length]) := by simp
  refine ACall.of1 (t51 (fun st n x => f st n pre.length x) 163 [] [.ptr (N + 1) 0 0, .ptr (N + (J.length + 2)) 0 0] _ q.steps (Nat.lt_succ_self _) _ _ (hT.app _) (cb53 hT (hok2 pre q post hxs) hcb (j := 1) rfl hi) s1 ((cnts main : Int) + cntP pre) (by omega) (by omega)) ?_
  simp -implicitDefEqProofs only [h3, h4, h12, h13, h14, mid_lt hxs, mid_wrap hxs hlen, hg, hlT, hT.at0, hT.atS, hT.setS, go_sem]
  rw [← hfq]
  refine ⟨_, Nat.lt_succ_self _, pre ++ [q], post, _, by simp [hxs], rfl, ?_, by simp, rfl⟩
  rw [cntP_append]; simp only [cntP]; simp only [Int.natCast_add, Int.natCast_one]; congr 1; omega
def cFS (P : Pla) (pr : Int) : St → Int
 | .mk k r t v l e a b p ps => cF P (procRs P pr) k r t p ps
def ckS (P : Pla) (st : Int) (n pr : Int) (x : St) : Int := if st = 0 then cFS P pr x else st
def ckF (P : Pla) : Int := if cpF P ≠ 0 then cpF P else fEP (ckS P) 0 P
def prOK (P : Pla) (pr : Int) : Prop := pr = -1 ∨ ∃ pa qa pb, P.procs = pa ++ qa :: pb ∧ pr = pa.length
theorem t34 (P : Pla) (pr : Int) (h : prOK P pr) (k : Int) (r t v l : ByteArray) (ek en : Int) (es : ByteArray) (eas : List Ex) (a b : List St) (p : ByteArray) (ps : List ByteArray) :
  PCall Tryz.prog 144 [encPl P, .int .i64 pr, encS (.mk k r t v l (.mk ek en es eas) a b p ps)] (·= .int .i64 (cF P (procRs P pr) k r t p ps)) := by
 rcases h with rfl | ⟨pa, qa, pb, hA, rfl⟩
 ·rw [procRs_neg]; exact t34n P k r t v l ek en es eas a b p ps
 ·rw [procRs_at hA]; exact t34p P pa pb qa hA k r t v l ek en es eas a b p ps
def TCk (P : Pla) (st : Int) : List Blk := [.row [encPl P], .row [.int .i64 st]]
theorem TCk_ok (P : Pla) : TOK 2 (TCk P) where
 len st := rfl
 row st st' i es hi := by
  right
  rcases i with _ | _ | i
  ·simp [TCk] at hi; subst hi; simp [Blk.nr, norefL, noref_encPl]
  ·simp [TCk] at hi; subst hi; simp [Blk.nr, norefL, noref]
  ·simp [TCk] at hi
theorem t33 (P : Pla) : CB3 143 [] [.ptr 1 0 0, .ptr 0 0 0] (TCk P) (ckS P) (prOK P) := by
 intro st n pr x J hok
 rcases x with ⟨k, r, t, v, l, ⟨ek, en, es, eas⟩, a, b, p, ps⟩
 have h34 := t34 P pr hok k r t v l ek en es eas a b p ps
 have hS : ckS P st n pr (.mk k r t v l (.mk ek en es eas) a b p ps) = if st = 0 then cF P (procRs P pr) k r t p ps else st := rfl
 generalize hc : cF P (procRs P pr) k r t p ps = c at *
 generalize ckS P st n pr (.mk k r t v l (.mk ek en es eas) a b p ps) = s1 at *
 subst hS
 have hrow := (TCk_ok P).app J
 rcases P with ⟨xs, main⟩
 have hl : ∀ st, TCk ⟨xs, main⟩ st = [.row [.agg [.fs (xs.map encP), .fs (main.map encS)]], .row [.int .i64 st]] := fun st => rfl
 simp only [encPl, encS_mk] at h34
 rw [encS_mk]
 refine ACall.trim ?_
 rw [hl, hl]
 refine ACall.intro c33 100 (by simp) ?_
 simp -implicitDefEqProofs only [s33, go_sem]
 repeat' (first | ((first | ((with_reducible refine cgR h34 ?_ ?_); (·simp [norefL, noref, nrb])) | ((with_reducible apply cgF); (·simp -implicitDefEqProofs only [List.map_cons, List.map_nil, push_cast, go_sem_proc] <;> rfl); (with_reducible exact h34); (·rfl)) | (with_reducible refine F_q2 ?_)); simp -implicitDefEqProofs only [go_sem]) | (with_reducible refine Fork.mk ?_ ?_) | (with_reducible refine And.intro ?_ ?_) | ((with_reducible refine rpI ?_); simp -implicitDefEqProofs only [r33, push_cast, go_sem_proc]) | intro _)
 ·rename_i h0
  have h0 : st = 0 := by simpa using h0
  refine ⟨[.row [.agg [.fs (xs.map encP), .fs (main.map encS)]], .row [.int .i64 c]] ++ J, _, by simp; rfl, by simp, fun i es hi => ?_, by simp [h0]⟩
  have := hrow.row st c i es
  simp only [hl] at this
  simpa using this (by simpa using hi)
 ·rename_i h0
  have h0 : ¬ st = 0 := by simpa using h0
  refine ⟨[.row [.agg [.fs (xs.map encP), .fs (main.map encS)]], .row [.int .i64 st]] ++ J, _, by simp; rfl, by simp, fun i es hi => ?_, by simp [h0]⟩
  have := hrow.row st st i es
  simp only [hl] at this
  simpa using this (by simpa using hi)
theorem t11 (P : Pla) (hc : total P ≤ 1000000) : PCall Tryz.prog 71 [encPl P] (·= .int .i64 (ckF P)) := by
 have h32 := t32 P hc
 have h22 := t22 (TCk_ok P) P hc (.inl rfl) (fun pa qa pb h => .inr ⟨pa, qa, pb, h, rfl⟩) (t33 P) 0
 have hl : ∀ st, TCk P st = [.row [encPl P], .row [.int .i64 st]] := fun st => rfl
 rw [hl, hl] at h22
 have hF : ckF P = if cpF P ≠ 0 then cpF P else fEP (ckS P) 0 P := rfl
 generalize ckF P = R at *
 generalize fEP (ckS P) 0 P = f at *
 generalize cpF P = c at *
 simp only [encPl] at *
 refine PCall.intro c11 100 (by simp) 20 ?_
 simp -implicitDefEqProofs only [s11, go_sem]
 repeat' (first | ((first | (with_reducible refine cgA h22 ?_) | ((with_reducible refine cgR h32 ?_ ?_); (·simp [norefL, noref, nrb])) | ((with_reducible apply cgF); (·simp -implicitDefEqProofs only [List.map_cons, List.map_nil, push_cast, go_sem_proc] <;> rfl); (with_reducible exact h32); (·rfl)) | (with_reducible refine F_q2 ?_)); simp -implicitDefEqProofs only [go_sem]) | (with_reducible refine Fork.mk ?_ ?_) | (with_reducible refine And.intro ?_ ?_) | ((with_reducible refine rpI ?_); simp -implicitDefEqProofs only [r11, push_cast, go_sem_proc]) | intro _)
 all_goals simp_all
theorem t6 (P : Pla) (hc : total P ≤ 1000000) : PCall Tryz.prog 61 [encPl P] (·= .tup [.int .i64 (if ckF P = 0 then total P else 0), .int .i64 (ckF P)]) := by
 have h11 := t11 P hc
 have h19 := t19 P hc
 generalize ckF P = c at *
 simp only [encPl] at *
 refine PCall.intro c6 100 (by simp) 20 ?_
 simp -implicitDefEqProofs only [s6, go_sem]
 repeat' (first | ((first | ((with_reducible first | refine cgR h11 ?_ ?_ | refine cgR h19 ?_ ?_); (·simp [norefL, noref, nrb])) | ((with_reducible apply cgF); (·simp -implicitDefEqProofs only [List.map_cons, List.map_nil, push_cast, go_sem_proc] <;> rfl); (with_reducible first | exact h11 | exact h19); (·rfl)) | (with_reducible refine F_q2 ?_)); simp -implicitDefEqProofs only [go_sem]) | (with_reducible refine Fork.mk ?_ ?_) | (with_reducible refine And.intro ?_ ?_) | ((with_reducible refine rpI ?_); simp -implicitDefEqProofs only [r6, push_cast, go_sem_proc]) | intro _)
 all_goals simp_all
end Go.Proofs.YtdgoeblpcnjlbaaGreatDoor.Av
