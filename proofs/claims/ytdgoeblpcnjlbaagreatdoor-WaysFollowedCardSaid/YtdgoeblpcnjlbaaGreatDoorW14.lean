/- Proved: for every list of numbers the law WaysFollowed answers true and leaves its argument as it was (the tied card); no condition beyond the row's own. Text 14 of 15. -/
import Derived.Shelf.SlIterI.Nil
import Derived.Shelf.SortM.Plain
import Derived.Shelf.SortM.SortNone
import Derived.Ground.GgzProg
import Derived.Ground.SlgmProg
import Derived.Test.YtdgoeblpcnjlbaaGreatDoorProg
import Derived.Test.YtdgoeblpcnjlbaaGreatDoorW13
set_option linter.unusedVariables false
set_option linter.unusedSimpArgs false
set_option linter.unusedSectionVars false
set_option linter.all false
namespace Go.Proofs.YtdgoeblpcnjlbaaGreatDoor.Av
open Go.RowKit
theorem ix_cases (xs : List Int) (x : Int) : (x ∉ xs ∧ ixF (fun y => decide (x = y)) xs 0 = -1) ∨ ∃ pre post, xs = pre ++ x :: post ∧ ixF (fun y => decide (x = y)) xs 0 = pre.length := by
 by_cases hm : x ∈ xs
 ·obtain ⟨pre, post, h1, h2⟩ := List.eq_append_cons_of_mem hm
  refine .inr ⟨pre, post, h1, ?_⟩
  rw [h1, ixF_append _ pre _ 0 (fun y hy => by simp; intro e; subst e; exact h2 hy), ixF]
  simp
 ·refine .inl ⟨hm, ?_⟩
  have := ixF_append (fun y => decide (x = y)) xs [] 0 (fun y hy => by simp; intro e; subst e; exact hm hy)
  rw [List.append_nil] at this
  rw [this]; rfl
noncomputable def uwQ (ec : ByteArray → Bool) (D : List Int) : List Pr → Nat → Int → List Int
 | [], _, _ => []
 | q :: l, i, n => uwL q.steps (if (i : Int) ∈ D then keL ec q.steps else []) n ++ uwQ ec D l (i + 1) (n + cnts q.steps)
noncomputable def unR (P : Pla) (D : List Int) : List Int := uwL P.main (keL (ecE P.procs (endsOf P.procs)) P.main) 0 ++ uwQ (ecE P.procs (endsOf P.procs)) D P.procs 0 (cnts P.main)
theorem asc_iff {n : Nat} {D : List Int} {j : Nat} (h : j < n) : (j : Int) ∈ asc n D ↔ (j : Int) ∈ D := by
 constructor
 ·intro hm
  obtain ⟨j', e, _, h3⟩ := asc_mem hm
  rw [e]; exact h3
 ·intro hm
  simp only [asc, List.mem_map, List.mem_filter, List.mem_range, decide_eq_true_eq]
  exact ⟨j, ⟨h, hm⟩, rfl⟩
set_option maxRecDepth 20000 in
set_option maxHeartbeats 4000000 in
theorem t208 (P : Pla) (hc : total P ≤ 1000000) (hpn : P.procs.length ≤ 1000000) (h237 : C237 P) : PCall Tryz.prog 13 [encPl P] (fun r => ∃ D, SetP P.procs.length D ∧ toE P.procs.length D = (reW P).procs ∧ r = .fs ((unR P D).map (.int .i64))) := by
 have hT : total P = cnts P.main + cntP P.procs := rfl
 unfold C237 at h237
 simp only [encPl] at h237 ⊢
 refine PCall.intro c208 400 (by simp) 20 ?_
 simp -implicitDefEqProofs only [s208, go_sem]
 refine call_pureR (by simp [norefL, noref, norefL_encP, norefL_encS]) h237 ?_
 rintro _ ⟨D, hD, hDE, rfl⟩
 unfold unR
 have hrm : (rePl P D).main = keL (ecE P.procs (endsOf P.procs)) P.main := rfl
 have hrp : (rePl P D).procs = (asc P.procs.length D).map (prK P (ecE P.procs (endsOf P.procs))) := rfl
 rw [hrm, hrp]
 generalize hec : ecE P.procs (endsOf P.procs) = ec at *
 have hal := asc_len P.procs.length D
 generalize hb0 : Blk.row [V.agg [.fs (P.procs.map encP), .fs (P.main.map encS)]] = b0 at *
 generalize hb1 : Blk.row [V.agg [.fs (((asc P.procs.length D).map (prK P ec)).map encP), .fs ((keL ec P.main).map encS)]] = b1 at *
 have hi0 : WInv [b0, b1, .row [.nils], .row [.int .i64 0], .row [wkC]] .nils [] 0 := ⟨rfl, rfl, rfl, .inl ⟨rfl, rfl⟩, (fun a b h => by cases h), (fun a b h => by cases h), (fun a b h => by cases h)⟩
 have hl0 := uwL_len P.main (keL ec P.main) 0
 obtain ⟨HW, kvW, hm, hw⟩ : ∃ HW kvW, ACall Tryz.prog 58 [.fs (P.main.map encS), .fs ((keL ec P.main).map encS), .ptr 2 0 0, .ptr 3 0 0, .ptr 4 0 0] [b0, b1, .row [.nils], .row [.int .i64 0], .row [wkC]] (ret1 (.tup []) HW) ∧ WR [b0, b1, .row [.nils], .row [.int .i64 0], .row [wkC]] .nils [] HW kvW (uwL P.main (keL ec P.main) 0) (cnts P.main) := by
  have hm := t238 _ P.main (Nat.lt_succ_self _) (by omega) (keL ec P.main) _ _ _ _ _ (.inr rfl) hi0 (by simp) (by omega)
  have hw := WH.wr (a1 := [] ++ uwL P.main (keL ec P.main) 0) (n1 := 0 + cnts P.main) hi0 WH_how
  simp only [List.nil_append, Int.zero_add] at hm hw
  exact ⟨_, _, hm, hw⟩
 subst hb0 hb1
 unfold wkC at hm
 simp -implicitDefEqProofs only [go_sem]
 obtain ⟨w0, kz0⟩ := hw.get (j := 0) (by simp) (by omega) (by omega) (fun a b h => by cases h)
 obtain ⟨w1, kz1⟩ := hw.get (j := 1) (by simp) (by omega) (by omega) (fun a b h => by cases h)
 simp only [List.getElem?_cons_zero, List.getElem?_cons_succ] at w0 w1
 have hwi := hw.inv
 refine cgA hm ?_
 simp -implicitDefEqProofs only [w0, w1, go_sem]
 intro hlen
 refine F_loop (fun mm e H => ∃ pre post kv acc n, P.procs = pre ++ post ∧ mm = post.length ∧ e 1 = .ptr 0 0 0 ∧ e 3 = .ptr 1 0 0 ∧ e 4 = .fs ((asc P.procs.length D).map (.int .i64)) ∧ e 5 = .ptr 2 0 0 ∧ e 7 = .ptr 4 0 0 ∧ e 25 = .fs (P.procs.map encP) ∧ e 26 = .int .i64 P.procs.length ∧ e 27 = .int .i64 pre.length ∧
  uwL P.main (keL ec P.main) 0 ++ uwQ ec D P.procs 0 (cnts P.main) = acc ++ uwQ ec D post pre.length n ∧ (cnts P.main : Int) + cntP P.procs = n + cntP post ∧ (acc.length : Int) ≤ n ∧ WInv H kv acc n ∧ H[0]? = some (Blk.row [.agg [.fs (P.procs.map encP), .fs (P.main.map encS)]]) ∧
  H[1]? = some (Blk.row [V.agg [.fs (((asc P.procs.length D).map (prK P ec)).map encP), .fs ((keL ec P.main).map encS)]]) ∧ kvne kv 0 ∧ kvne kv 1) P.procs.length
  ⟨[], P.procs, kvW, uwL P.main (keL ec P.main) 0, (cnts P.main : Int), rfl, rfl, by simp [upd, env0], by simp [upd, env0], by simp [upd, env0], by simp [upd, env0], by simp [upd, env0], by simp [upd, env0], by simp [upd, env0], by simp [upd, env0], rfl, rfl, by omega, hwi, w0, w1, kz0, kz1⟩ ?_
 clear hw hwi hm hi0 w0 w1 kz0 kz1
 rintro mm e H ⟨pre, post, kv, acc, n, hxs, rfl, h1, h3, h4, h5, h7, h25, h26, h27, hu, hcn, hacc, hi, g0, g1, k0, k1⟩
 have g2 := hi.out
 have g3 := hi.cnt
 have g4 := hi.clo
 unfold wkC at g4
 have hc1 : cellsV kv = [kv] := hi.ov.one
 cases post with
 | nil =>
  simp only [uwQ, List.append_nil] at hu
  simp -implicitDefEqProofs only [h1, h3, h4, h5, h7, h25, h26, h27, mid_not hxs, g2, hc1, go_sem]
  have hz : fz H 20 kv = _ := fz_OV (f := V.int .i64) (n := 18) (fun H x => fz_int H _ _ x) hi.ov
  simp -implicitDefEqProofs only [r208, push_cast, go_sem_proc]
  exact ⟨_, hz, D, hD, hDE, by rw [hu]⟩
 | cons q post =>
  have hg := mid_get encP hxs
  simp only [encP] at hg
  have hpl : pre.length < P.procs.length := by rw [hxs]; simp
  have hbq : P.procs[pre.length] = q := by simp [hxs]
  simp only [uwQ, cntP] at hu hcn
  have hl4 := (List.getElem?_eq_some_iff.1 g4).1
  have hA0 : ∀ l : List Blk, (H ++ l)[0]? = _ := fun l => (List.getElem?_append_left (by omega)).trans g0
  have hA1 : ∀ l : List Blk, (H ++ l)[1]? = _ := fun l => (List.getElem?_append_left (by omega)).trans g1
  have hA4 : ∀ l : List Blk, (H ++ l)[4]? = _ := fun l => (List.getElem?_append_left (by omega)).trans g4
  have h93 := t93 (asc P.procs.length D) (pre.length : Int)
  have hiA : WInv (H ++ [Blk.row [.agg [.str q.name, .fs (q.roles.map .str), .fs (q.steps.map encS)]]]) kv acc n := hi.grow (fun j hj => by rw [List.getElem?_append_left hj])
  have fA : (H ++ [Blk.row [.agg [.str q.name, .fs (q.roles.map .str), .fs (q.steps.map encS)]]])[H.length]? = some (Blk.row [.agg [.str q.name, .fs (q.roles.map .str), .fs (q.steps.map encS)]]) := by rw [List.getElem?_append_right (Nat.le_refl _), Nat.sub_self]; rfl
  have hkL : ∀ j, H.length ≤ j → kvne kv j := fun j hj => hi.ov.ne_of hj
  have hcall : ∀ (m : List St) (mv : V), (mv = .nils ∧ m = [] ∨ mv = .fs (m.map encS)) → ∃ H2 kv2, ACall Tryz.prog 58 [.fs (q.steps.map encS), mv, .ptr 2 0 0, .ptr 3 0 0, .ptr 4 0 0] (H ++ [Blk.row [.agg [.str q.name, .fs (q.roles.map .str), .fs (q.steps.map encS)]]]) (ret1 (.tup []) H2) ∧
    WInv H2 kv2 (acc ++ uwL q.steps m n) (n + cnts q.steps) ∧ ((acc ++ uwL q.steps m n).length : Int) ≤ n + cnts q.steps ∧ H2[0]? = H[0]? ∧ H2[1]? = H[1]? ∧ kvne kv2 0 ∧ kvne kv2 1 := by
   intro m mv hm
   have hb := t238 _ q.steps (Nat.lt_succ_self _) (by omega) m mv _ kv acc n hm hiA hacc (by omega)
   have hw := WH.wr (a1 := acc ++ uwL q.steps m n) (n1 := n + cnts q.steps) hiA WH_how
   have hlu := uwL_len q.steps m n
   obtain ⟨a0, b0⟩ := hw.get (j := 0) (by simp) (by omega) (by omega) k0
   obtain ⟨a1, b1⟩ := hw.get (j := 1) (by simp; omega) (by omega) (by omega) k1
   refine ⟨_, _, hb, hw.inv, by simp; omega, ?_, ?_, b0, b1⟩
   ·rw [a0, hA0, g0]
   ·rw [a1, hA1, g1]
  simp -implicitDefEqProofs only [h1, h3, h4, h5, h7, h25, h26, h27, mid_lt hxs, mid_wrap hxs hlen, hg, go_sem]
  rcases ix_cases (asc P.procs.length D) (pre.length : Int) with ⟨hno, hk⟩ | ⟨kp, kq, hks, hk⟩
  ·rw [hk] at h93
   have hnD : ¬ ((pre.length : Int) ∈ D) := fun h => hno ((asc_iff hpl).2 h)
   rw [if_neg hnD] at hu
   obtain ⟨H2, kv2, hcl, hi2, hl2, a0, a1, b0, b1⟩ := hcall [] .nils (.inl ⟨rfl, rfl⟩)
   repeat' (first | ((first | (with_reducible refine cgA hcl ?_) | ((with_reducible refine cgR h93 ?_ ?_); (·simp [norefL, noref, nrb])) | ((with_reducible apply cgF); (·simp -implicitDefEqProofs only [List.map_cons, List.map_nil, push_cast, go_sem_proc] <;> rfl); (with_reducible exact h93); (·rfl)) | (with_reducible refine F_q2 ?_)); simp -implicitDefEqProofs only [h1, h3, h4, h5, h7, h25, h26, h27, mid_wrap hxs hlen, hA0, hA1, hA4, fA, Int.reduceLE, Int.reduceNeg, decide_false, go_sem]) | (with_reducible refine Fork.mk ?_ ?_) | (with_reducible refine And.intro ?_ ?_) | ((with_reducible refine rpI ?_); simp -implicitDefEqProofs only [r208, push_cast, go_sem_proc]) | intro _)
   refine ⟨post.length, Nat.lt_succ_self _, pre ++ [q], post, kv2, _, _, by simp [hxs], rfl, by simp, ?_, by omega, hl2, hi2, by rw [a0]; exact g0, by rw [a1]; exact g1, b0, b1⟩
   rw [hu]; simp
  ·rw [hk] at h93
   have hyD : (pre.length : Int) ∈ D := (asc_iff hpl).1 (by rw [hks]; simp)
   rw [if_pos hyD] at hu
   have hpr : encP (prK P ec (pre.length : Int)) = .agg [.str q.name, .fs (q.roles.map .str), .fs ((keL ec q.steps).map encS)] := by
    simp [prK, hpl, hbq, encP]
   have hgk : (((asc P.procs.length D).map (prK P ec)).map encP).getD kp.length .any = .agg [.str q.name, .fs (q.roles.map .str), .fs ((keL ec q.steps).map encS)] := by
    rw [← hpr, hks]; simp [List.getD]
   have hkl : kp.length < (asc P.procs.length D).length := by rw [hks]; simp
   have hixk : ixP (kp.length : Int) (asc P.procs.length D).length := ⟨by omega, by simp; omega⟩
   obtain ⟨H2, kv2, hcl, hi2, hl2, a0, a1, b0, b1⟩ := hcall (keL ec q.steps) _ (.inr rfl)
   repeat' (first | ((first | (with_reducible refine cgA hcl ?_) | ((with_reducible refine cgR h93 ?_ ?_); (·simp [norefL, noref, nrb])) | ((with_reducible apply cgF); (·simp -implicitDefEqProofs only [List.map_cons, List.map_nil, push_cast, go_sem_proc] <;> rfl); (with_reducible exact h93); (·rfl)) | (with_reducible refine F_q2 ?_)); simp -implicitDefEqProofs only [h1, h3, h4, h5, h7, h25, h26, h27, mid_wrap hxs hlen, hA0, hA1, hA4, fA, hgk, hixk, hkl, Int.natCast_nonneg, decide_true, go_sem]) | (with_reducible refine Fork.mk ?_ ?_) | (with_reducible refine And.intro ?_ ?_) | ((with_reducible refine rpI ?_); simp -implicitDefEqProofs only [r208, push_cast, go_sem_proc]) | intro _)
   refine ⟨post.length, Nat.lt_succ_self _, pre ++ [q], post, kv2, _, _, by simp [hxs], rfl, by simp, ?_, by omega, hl2, hi2, by rw [a0]; exact g0, by rw [a1]; exact g1, b0, b1⟩
   rw [hu]; simp
def frN (V : List Int) (n : Int) : Nat → List Int
 | 0 => []
 | k + 1 => (if n ∈ V then [] else [n]) ++ frN V (n + 1) k
theorem frN_add (V : List Int) : ∀ (a b : Nat) (n : Int), frN V n (a + b) = frN V n a ++ frN V (n + a) b
 | 0, b, n => by simp [frN]
 | a + 1, b, n => by
  have h : a + 1 + b = (a + b) + 1 := by omega
  have h2 : n + 1 + (a : Int) = n + ((a + 1 : Nat) : Int) := by omega
  rw [h, frN, frN_add V a b (n + 1), frN, h2, List.append_assoc]
theorem frN_congr {V W : List Int} : ∀ (k : Nat) (n : Int), (∀ x, n ≤ x → x < n + k → (x ∈ V ↔ x ∈ W)) → frN V n k = frN W n k
 | 0, n, h => rfl
 | k + 1, n, h => by
  have h1 := h n (by omega) (by omega)
  have ih := frN_congr (V := V) (W := W) k (n + 1) (fun x a b => h x (by omega) (by omega))
  simp only [frN, ih]
  by_cases hn : n ∈ W
  ·simp [hn, h1.2 hn]
  ·have : ¬ n ∈ V := fun e => hn (h1.1 e)
   simp [hn, this]
theorem notIn_frN (V : List Int) : ∀ k : Nat, notIn V k = frN V 0 k
 | 0 => rfl
 | k + 1 => by
  rw [notIn, notIn_frN V k, frN_add V k 1 0]
  simp [frN]
mutual
theorem uwS_none : ∀ (s : St) (n : Int), uwS s none n = frN [] n (cnt s)
 | .mk k r t v l e a b p ps, n => by
  have h : cnt (.mk k r t v l e a b p ps) = cnts a + cnts b + 1 := by simp only [cnt]; omega
  rw [h, frN, frN_add, uwS, thenO, elseO, uwL_nil a, uwL_nil b]
  simp
theorem uwL_nil : ∀ (l : List St) (n : Int), uwL l [] n = frN [] n (cnts l)
 | [], n => rfl
 | s :: l, n => by
  rw [cnts, frN_add, uwL, List.head?_nil, List.tail_nil, uwS_none s, uwL_nil l]
end
theorem frN_out {V : List Int} (k : Nat) (n : Int) (h : ∀ x ∈ V, x < n ∨ n + k ≤ x) : frN V n k = frN [] n k :=
 frN_congr k n (fun x a b => ⟨fun hx => by rcases h x hx with h | h <;> omega, fun hx => by simp at hx⟩)
mutual
theorem uwS_keS (ec : ByteArray → Bool) : ∀ (s : St) (n : Int), uwS s (some (keS ec s)) n = frN (viS ec s n) n (cnt s)
 | .mk k r t v l e a b p ps, n => by
  have h : cnt (.mk k r t v l e a b p ps) = cnts a + cnts b + 1 := by simp only [cnt]; omega
  rw [h, frN, frN_add, uwS, keS, thenO, elseO, uwL_keL ec a, uwL_keL ec b, viS]
  have h1 : frN (n :: (viL ec a (n + 1) ++ viL ec b (n + 1 + cnts a))) (n + 1) (cnts a) = frN (viL ec a (n + 1)) (n + 1) (cnts a) :=
   frN_congr _ _ (fun x p q => ⟨fun hx => by
    simp only [List.mem_cons, List.mem_append] at hx
    rcases hx with rfl | hx | hx
    ·omega
    ·exact hx
    ·have := viL_in b _ _ hx; omega, fun hx => by simp [hx]⟩)
  have h2 : frN (n :: (viL ec a (n + 1) ++ viL ec b (n + 1 + cnts a))) (n + 1 + cnts a) (cnts b) = frN (viL ec b (n + 1 + cnts a)) (n + 1 + cnts a) (cnts b) :=
   frN_congr _ _ (fun x p q => ⟨fun hx => by
    simp only [List.mem_cons, List.mem_append] at hx
    rcases hx with rfl | hx | hx
    ·omega
    ·have := viL_in a _ _ hx; omega
    ·exact hx, fun hx => by simp [hx]⟩)
  rw [h1, h2]
  simp
theorem uwL_keL (ec : ByteArray → Bool) : ∀ (l : List St) (n : Int), uwL l (keL ec l) n = frN (viL ec l n) n (cnts l)
 | [], n => rfl
 | s :: l, n => by
  rw [cnts, frN_add, uwL, keL, List.head?_cons, List.tail_cons, uwS_keS ec s, viL]
  have h1 : frN (viS ec s n ++ if thS ec s then viL ec l (n + cnt s) else []) n (cnt s) = frN (viS ec s n) n (cnt s) :=
   frN_congr _ _ (fun x p q => ⟨fun hx => by
    rcases List.mem_append.1 hx with hx | hx
    ·exact hx
    ·split at hx
     ·have := viL_in l _ _ hx; omega
     ·simp at hx, fun hx => by simp [hx]⟩)
  rw [h1]
  congr 1
  cases ht : thS ec s
  ·simp only [Bool.false_eq_true, if_false, List.append_nil]
   rw [uwL_nil]
   exact (frN_out _ _ (fun x hx => by have := viS_in s _ _ hx; omega)).symm
  ·simp only [if_true]
   rw [uwL_keL ec l]
   exact (frN_congr _ _ (fun x p q => ⟨fun hx => by
    rcases List.mem_append.1 hx with hx | hx
    ·have := viS_in s _ _ hx; omega
    ·exact hx, fun hx => by simp [hx]⟩)).symm
end
theorem bodyAt_get {P : Pla} {i : Nat} (h : i < P.procs.length) : bodyAt P.procs i = P.procs[i].steps := by simp [bodyAt, h]
theorem offAt_succ {P : Pla} {i : Nat} (h : i < P.procs.length) : offAt P (i + 1) = offAt P i + cnts (bodyAt P.procs i) := by
 have ht : P.procs.take (i + 1) = P.procs.take i ++ [P.procs[i]] := by rw [List.take_succ_eq_append_getElem h]
 have hc : cntP [P.procs[i]] = cnts P.procs[i].steps := by simp [cntP]
 simp only [offAt, ht, cntP_append, hc, bodyAt_get h]
 omega
theorem offAt_mono {P : Pla} {i : Nat} : ∀ d : Nat, offAt P i ≤ offAt P (i + d)
 | 0 => Int.le_refl _
 | d + 1 => by
  have ih := offAt_mono (P := P) (i := i) d
  by_cases h : i + d < P.procs.length
  ·have := offAt_succ h
   have e : i + (d + 1) = i + d + 1 := rfl
   rw [e]; omega
  ·have h1 : P.procs.take (i + (d + 1)) = P.procs.take (i + d) := by
    rw [List.take_of_length_le (by omega), List.take_of_length_le (by omega)]
   have : offAt P (i + (d + 1)) = offAt P (i + d) := by simp only [offAt, h1]
   omega
theorem offAt_zero (P : Pla) : offAt P 0 = (cnts P.main : Int) := by simp [offAt, cntP]
theorem uwQ_law {P : Pla} {ec : ByteArray → Bool} {D W : List Int} (hW : ∀ i, i < P.procs.length → ∀ x, offAt P i ≤ x → x < offAt P i + cnts (bodyAt P.procs i) → (x ∈ W ↔ (i : Int) ∈ D ∧ x ∈ viL ec (bodyAt P.procs i) (offAt P i))) :
  ∀ (l : List Pr) (i : Nat), P.procs.drop i = l → uwQ ec D l i (offAt P i) = frN W (offAt P i) (cntP l)
 | [], i, h => rfl
 | q :: l, i, h => by
  have hi : i < P.procs.length := by
   refine Classical.byContradiction fun hn => ?_
   rw [List.drop_eq_nil_of_le (by omega)] at h; cases h
  have hd := List.drop_eq_getElem_cons hi
  rw [h] at hd
  injection hd with hq hl
  have hb : bodyAt P.procs i = q.steps := by rw [bodyAt_get hi, ← hq]
  have ih := uwQ_law hW l (i + 1) hl.symm
  have ho := offAt_succ hi
  have hw := hW i hi
  rw [hb] at ho hw
  rw [uwQ, cntP, frN_add, ← ho, ih]
  congr 1
  by_cases hD : (i : Int) ∈ D
  ·rw [if_pos hD, uwL_keL]
   exact frN_congr _ _ (fun x a b => by rw [hw x a b]; simp [hD])
  ·rw [if_neg hD, uwL_nil]
   exact frN_congr _ _ (fun x a b => by rw [hw x a b]; simp [hD])
theorem unR_law (P : Pla) (hok : okP P) {D : List Int} (hD : toE P.procs.length D = (reW P).procs) : unR P D = notIn (reW P).steps (total P) := by
 have hT : total P = cnts P.main + cntP P.procs := rfl
 have hst := reW_steps P
 unfold unR
 generalize hec : ecE P.procs (endsOf P.procs) = ec at *
 have hoff : ∀ i x, i < P.procs.length → x ∈ viL ec (bodyAt P.procs i) (offAt P i) → (cnts P.main : Int) ≤ x ∧ offAt P i ≤ x ∧ x < offAt P (i + 1) := by
  intro i x hi hx
  have h1 := viL_in _ _ _ hx
  have h2 := offAt_mono (P := P) (i := 0) i
  rw [Nat.zero_add, offAt_zero] at h2
  have h3 := offAt_succ hi
  omega
 have hDi : ∀ i : Nat, (reW P).procs[i]? = some true ↔ i < P.procs.length ∧ (i : Int) ∈ D := by
  intro i
  rw [← hD]
  by_cases hi : i < P.procs.length
  ·rw [toE_get _ _ _ hi]; simp [hi]
  ·rw [List.getElem?_eq_none (by rw [toE_len]; omega)]; simp [hi]
 rw [notIn_frN, hT, frN_add, uwL_keL]
 congr 1
 ·refine frN_congr _ _ (fun x a b => ?_)
  rw [hst x]
  constructor
  ·exact fun h => .inl h
  ·rintro (h | ⟨i, hi, hx⟩)
   ·exact h
   ·have := hoff i x ((hDi i).1 hi).1 hx; omega
 ·have hq := uwQ_law (P := P) (ec := ec) (D := D) (W := (reW P).steps) (fun i hi x a b => by
   rw [hst x]
   constructor
   ·rintro (h | ⟨j, hj, hx⟩)
    ·have h1 := viL_in _ _ _ h
     have h2 := offAt_mono (P := P) (i := 0) i
     rw [Nat.zero_add, offAt_zero] at h2
     omega
    ·obtain ⟨hjl, hjD⟩ := (hDi j).1 hj
     have hij : j = i := by
      have h1 := hoff j x hjl hx
      have h3 := offAt_succ hi
      rcases Nat.lt_trichotomy i j with h | h | h
      ·have := offAt_mono (P := P) (i := i + 1) (j - (i + 1))
       have e : i + 1 + (j - (i + 1)) = j := by omega
       rw [e] at this; omega
      ·exact h.symm
      ·have := offAt_mono (P := P) (i := j + 1) (i - (j + 1))
       have e : j + 1 + (i - (j + 1)) = i := by omega
       rw [e] at this; omega
     subst hij
     exact ⟨hjD, hx⟩
   ·rintro ⟨h1, h2⟩
    exact .inr ⟨i, (hDi i).2 ⟨hi, h1⟩, h2⟩) P.procs 0 rfl
  rw [offAt_zero] at hq
  rw [hq]
  congr 1
  omega
theorem t208f (P : Pla) (hok : okP P) (hc : total P ≤ 1000000) (hpn : P.procs.length ≤ 1000000) (h237 : C237 P) : PCall Tryz.prog 13 [encPl P] (·= .fs ((notIn (reW P).steps (total P)).map (.int .i64))) := by
 refine (t208 P hc hpn h237).mono ?_
 rintro r ⟨D, _, hD, rfl⟩
 rw [unR_law P hok hD]
theorem t211r (xs : List Int) : PCall Tryz.prog 17 [.fs (xs.map (.int .i64)), .fs (xs.map (.int .i64))] (·= .bool true) := by
 refine PCall.intro c211 200 (by simp) 20 ?_
 simp -implicitDefEqProofs only [s211, decide_true, go_sem]
 intro hlen _ _
 refine F_loop (fun m e H => ∃ pre post, xs = pre ++ post ∧ m = post.length ∧ e 0 = .fs (xs.map (.int .i64)) ∧ e 1 = .fs (xs.map (.int .i64)) ∧ e 12 = .int .i64 xs.length ∧ e 13 = .int .i64 pre.length) xs.length ⟨[], xs, by simp [upd, env0]⟩ ?_
 rintro m e H ⟨pre, post, hxs, rfl, h1, h2, h16, h17⟩
 cases post with
 | nil =>
  simp -implicitDefEqProofs only [h1, h2, h16, h17, mid_not hxs, decide_false, go_sem]
  simp -implicitDefEqProofs only [r211, push_cast, go_sem_proc]
 | cons y post =>
  have hg := mid_get (V.int .i64) hxs
  simp -implicitDefEqProofs only [h1, h2, h16, h17, hg, mid_lt hxs, mid_wrap hxs hlen, decide_true, go_sem]
  repeat' (first | ((with_reducible refine F_q2 ?_); simp -implicitDefEqProofs only [h1, h2, h16, h17, hg, mid_lt hxs, mid_wrap hxs hlen, go_sem]) | (with_reducible refine Fork.mk ?_ ?_) | (with_reducible refine And.intro ?_ ?_) | ((with_reducible refine rpI ?_); simp -implicitDefEqProofs only [r211, push_cast, go_sem_proc]) | intro _)
  exact ⟨_, Nat.lt_succ_self _, pre ++ [y], post, by simp [hxs], rfl, by simp⟩
def encIs (l : List Int) : V := .fs (l.map (.int .i64))
theorem t212r (xs : List (List Int)) : PCall Tryz.prog 18 [.fs (xs.map encIs), .fs (xs.map encIs), .clos 17 [] []] (·= .bool true) := by
 refine PCall.intro c212 200 (by simp) 20 ?_
 simp -implicitDefEqProofs only [s212, decide_true, go_sem]
 intro hlen _ _
 refine F_loop (fun m e H => ∃ pre post, xs = pre ++ post ∧ m = post.length ∧ e 0 = .fs (xs.map encIs) ∧ e 1 = .fs (xs.map encIs) ∧ e 2 = .clos 17 [] [] ∧ e 15 = .fs (xs.map encIs) ∧ e 16 = .int .i64 xs.length ∧ e 17 = .int .i64 pre.length) xs.length ⟨[], xs, by simp [upd, env0]⟩ ?_
 rintro m e H ⟨pre, post, hxs, rfl, h0, h1, h2, h15, h16, h17⟩
 cases post with
 | nil =>
  simp -implicitDefEqProofs only [h0, h1, h2, h15, h16, h17, mid_not hxs, decide_false, go_sem]
  simp -implicitDefEqProofs only [r212, push_cast, go_sem_proc]
 | cons y post =>
  have hg := mid_get encIs hxs
  rw [encIs] at hg
  have hy := t211r y
  simp -implicitDefEqProofs only [h0, h1, h2, h15, h16, h17, hg, mid_lt hxs, mid_wrap hxs hlen, decide_true, go_sem]
  repeat' (first | ((first | ((with_reducible refine cgR hy ?_ ?_); (·simp [norefL, noref, nrb, norefL_int])) | ((with_reducible apply cgF); (·simp -implicitDefEqProofs only [List.map_cons, List.map_nil, norefL_int, push_cast, go_sem_proc] <;> rfl); (with_reducible exact hy); (·rfl)) | (with_reducible refine F_q2 ?_)); simp -implicitDefEqProofs only [h0, h1, h2, h15, h16, h17, hg, mid_lt hxs, mid_wrap hxs hlen, go_sem]) | (with_reducible refine Fork.mk ?_ ?_) | (with_reducible refine And.intro ?_ ?_) | ((with_reducible refine rpI ?_); simp -implicitDefEqProofs only [r212, push_cast, go_sem_proc]) | intro _)
  exact ⟨_, Nat.lt_succ_self _, pre ++ [y], post, by simp [hxs], rfl, by simp⟩
theorem asc_sorted (D : List Int) : ∀ n, (asc n D).Pairwise (·≤ ·)
 | 0 => by simp [asc]
 | n + 1 => by
  have ih := asc_sorted D n
  have hA : asc (n + 1) D = asc n D ++ if (n : Int) ∈ D then [(n : Int)] else [] := by
   simp only [asc, List.range_succ, List.filter_append, List.map_append]
   congr 1
   by_cases h : (n : Int) ∈ D <;> simp [h]
  rw [hA, List.pairwise_append]
  refine ⟨ih, by split <;> simp, fun a ha b hb => ?_⟩
  obtain ⟨j, rfl, hj, _⟩ := asc_mem ha
  split at hb
  ·simp at hb; omega
  ·simp at hb
theorem asc_nodup (D : List Int) (n : Nat) : (asc n D).Nodup := by
 unfold asc
 refine List.Pairwise.map _ (fun a b (h : a ≠ b) => ?_) (List.Pairwise.filter _ List.nodup_range)
 intro e; exact h (by omega)
theorem asc_perm {n : Nat} {D : List Int} (h : SetP n D) : D.Perm (asc n D) := by
 refine (List.perm_ext_iff_of_nodup h.nodup (asc_nodup D n)).2 (fun k => ?_)
 constructor
 ·intro hk
  have h0 := h.lo k hk
  have h1 := h.hi k hk
  obtain ⟨j, rfl⟩ : ∃ j : Nat, k = j := ⟨k.toNat, by omega⟩
  exact (asc_iff (by omega)).2 hk
 ·intro hk
  obtain ⟨j, rfl, _, hj⟩ := asc_mem hk
  exact hj
theorem sorted_asc {n : Nat} {D ss : List Int} (h : SetP n D) (hp : ss.Perm D) : ss.mergeSort (fun x y => decide (x ≤ y)) = asc n D := by
 have h1 : (ss.mergeSort (fun x y => decide (x ≤ y))).Perm (asc n D) := ((List.mergeSort_perm _ _).trans hp).trans (asc_perm h)
 have h2 : (ss.mergeSort (fun x y => decide (x ≤ y))).Pairwise (·≤ ·) := by
  have := List.pairwise_mergeSort (le := fun (x y : Int) => decide (x ≤ y)) (fun a b c hab hbc => by simp at *; omega) (fun a b => by simp; omega) ss
  exact this.imp (fun hab => by simpa using hab)
 exact h1.eq_of_pairwise (fun a b _ _ hab hba => by omega) h2 (asc_sorted D n)
end Go.Proofs.YtdgoeblpcnjlbaaGreatDoor.Av
namespace Go.Proofs
open Go.Shelf
def Tryz.keysA_ren : Go.Shelf.Ren := ⟨fun | 7 => 137 | 10 => 186 | n => n, fun | 23 => 147 | 26 => 3 | 3 => 27 | 28 => 208 | 0 => 0 | 27 => 207 | 33 => 75 | 4 => 4 | n => n, fun | n => n⟩
theorem Tryz.keysA : Go.Proofs.SlLaysZI.n7 Tryz.prog Tryz.keysA_ren := {
 mixed := by kernel_rfl
 f7 := ⟨Tryz.f137.name, by decide, Tryz.func137.trans (congrArg some (by kernel_rfl))⟩
 f10 := ⟨Tryz.f186.name, by decide, Tryz.func186.trans (congrArg some (by kernel_rfl))⟩
 t0 := Tryz.underlying0
 a0 := Tryz.isAgg0
 z0 := Tryz.sizeOf0
 v0 := Tryz.zeroValue0
 t4 := Tryz.underlying4
 a4 := Tryz.isAgg4
 z4 := Tryz.sizeOf4
 v4 := Tryz.zeroValue4
 t23 := Tryz.underlying147
 a23 := Tryz.isAgg147
 z23 := Tryz.sizeOf147
 v23 := Tryz.zeroValue147
 t26 := Tryz.underlying3
 a26 := Tryz.isAgg3
 z26 := Tryz.sizeOf3
 v26 := Tryz.zeroValue3
 t27 := Tryz.underlying207
 a27 := Tryz.isAgg207
 z27 := Tryz.sizeOf207
 v27 := Tryz.zeroValue207
 t28 := Tryz.underlying208
 a28 := Tryz.isAgg208
 z28 := Tryz.sizeOf208
 v28 := Tryz.zeroValue208
 t33 := Tryz.underlying75
 a33 := Tryz.isAgg75
 z33 := Tryz.sizeOf75
 v33 := Tryz.zeroValue75 }
def Tryz.sortedA_ren : Go.Shelf.Ren := ⟨fun | 6 => 136 | 8 => 185 | 9 => 99 | 11 => 242 | 13 => 168 | 12 => 171 | 23 => 211 | 24 => 212 | 14 => 214 | 15 => 215 | 16 => 216 | 17 => 217 | 18 => 218 | 19 => 219 | 20 => 220 | 21 => 221 | 22 => 222 | 25 => 264 | 26 => 260 | 27 => 261 | 28 => 265 | 29 => 266 | 30 => 169 | 31 => 282 | n => n, fun | 26 => 3 | 28 => 208 | 24 => 22 | 0 => 0 | 3 => 3 | 37 => 233 | 48 => 266 | 50 => 268 | 4 => 4 | 40 => 259 | 39 => 258 | 45 => 263 | 5 => 5 | 9 => 9 | 51 => 303 | 55 => 198 | 57 => 318 | 58 => 319 | 33 => 75 | n => n, fun | n => n⟩
theorem Tryz.sortedA : Go.Proofs.SlLaysZI.n6 Tryz.prog Tryz.sortedA_ren := {
 mixed := by kernel_rfl
 f6 := ⟨Tryz.f136.name, by decide, Tryz.func136.trans (congrArg some (by kernel_rfl))⟩
 f8 := ⟨Tryz.f185.name, by decide, Tryz.func185.trans (congrArg some (by kernel_rfl))⟩
 f11 := ⟨Tryz.f242.name, by decide, Tryz.func242.trans (congrArg some (by kernel_rfl))⟩
 t0 := Tryz.underlying0
 a0 := Tryz.isAgg0
 z0 := Tryz.sizeOf0
 v0 := Tryz.zeroValue0
 t24 := Tryz.underlying22
 a24 := Tryz.isAgg22
 z24 := Tryz.sizeOf22
 v24 := Tryz.zeroValue22
 t26 := Tryz.underlying3
 a26 := Tryz.isAgg3
 z26 := Tryz.sizeOf3
 v26 := Tryz.zeroValue3
 t28 := Tryz.underlying208
 a28 := Tryz.isAgg208
 z28 := Tryz.sizeOf208
 v28 := Tryz.zeroValue208
 i26 := by kernel_rfl }
def Tryz.sortA_ren : Go.Shelf.Ren := ⟨fun | 5 => 99 | 8 => 168 | 7 => 171 | 19 => 211 | 20 => 212 | 10 => 214 | 11 => 215 | 12 => 216 | 13 => 217 | 14 => 218 | 15 => 219 | 16 => 220 | 17 => 221 | 18 => 222 | 30 => 264 | 31 => 260 | 32 => 261 | 33 => 265 | 34 => 266 | 35 => 169 | 40 => 282 | n => n, fun | 23 => 22 | 25 => 3 | 3 => 3 | 32 => 233 | 22 => 22 | 0 => 0 | 44 => 266 | 46 => 268 | 4 => 4 | 36 => 259 | 35 => 258 | 41 => 263 | 5 => 5 | 9 => 9 | 53 => 303 | 57 => 198 | 63 => 318 | 64 => 319 | n => n, fun | n => n⟩
theorem Tryz.sortA : Go.Proofs.SlLaysM.n5 Tryz.prog Tryz.sortA_ren := {
 mixed := by kernel_rfl
 f5 := ⟨Tryz.f99.name, by decide, Tryz.func99.trans (congrArg some (by kernel_rfl))⟩
 f7 := ⟨Tryz.f171.name, by decide, Tryz.func171.trans (congrArg some (by kernel_rfl))⟩
 f8 := Tryz.func168.trans (congrArg some (by kernel_rfl))
 f10 := ⟨Tryz.f214.name, by decide, Tryz.func214.trans (congrArg some (by kernel_rfl))⟩
 f11 := ⟨Tryz.f215.name, by decide, Tryz.func215.trans (congrArg some (by kernel_rfl))⟩
 f12 := ⟨Tryz.f216.name, by decide, Tryz.func216.trans (congrArg some (by kernel_rfl))⟩
 f13 := ⟨Tryz.f217.name, by decide, Tryz.func217.trans (congrArg some (by kernel_rfl))⟩
 f14 := ⟨Tryz.f218.name, by decide, Tryz.func218.trans (congrArg some (by kernel_rfl))⟩
 f15 := ⟨Tryz.f219.name, by decide, Tryz.func219.trans (congrArg some (by kernel_rfl))⟩
 f16 := ⟨Tryz.f220.name, by decide, Tryz.func220.trans (congrArg some (by kernel_rfl))⟩
 f17 := ⟨Tryz.f221.name, by decide, Tryz.func221.trans (congrArg some (by kernel_rfl))⟩
 f18 := ⟨Tryz.f222.name, by decide, Tryz.func222.trans (congrArg some (by kernel_rfl))⟩
 f19 := Tryz.func211.trans (congrArg some (by kernel_rfl))
 f20 := Tryz.func212.trans (congrArg some (by kernel_rfl))
 f30 := ⟨Tryz.f264.name, by decide, Tryz.func264.trans (congrArg some (by kernel_rfl))⟩
 f31 := Tryz.func260.trans (congrArg some (by kernel_rfl))
 f32 := Tryz.func261.trans (congrArg some (by kernel_rfl))
 f33 := ⟨Tryz.f265.name, by decide, Tryz.func265.trans (congrArg some (by kernel_rfl))⟩
 f34 := ⟨Tryz.f266.name, by decide, Tryz.func266.trans (congrArg some (by kernel_rfl))⟩
 f35 := ⟨Tryz.f169.name, by decide, Tryz.func169.trans (congrArg some (by kernel_rfl))⟩
 f40 := ⟨Tryz.f282.name, by decide, Tryz.func282.trans (congrArg some (by kernel_rfl))⟩
 t0 := Tryz.underlying0
 a0 := Tryz.isAgg0
 z0 := Tryz.sizeOf0
 v0 := Tryz.zeroValue0
 t3 := Tryz.underlying3
 a3 := Tryz.isAgg3
 z3 := Tryz.sizeOf3
 v3 := Tryz.zeroValue3
 t4 := Tryz.underlying4
 a4 := Tryz.isAgg4
 z4 := Tryz.sizeOf4
 v4 := Tryz.zeroValue4
 t5 := Tryz.underlying5
 a5 := Tryz.isAgg5
 z5 := Tryz.sizeOf5
 v5 := Tryz.zeroValue5
 t9 := Tryz.underlying9
 a9 := Tryz.isAgg9
 z9 := Tryz.sizeOf9
 v9 := Tryz.zeroValue9
 t22 := Tryz.underlying22
 a22 := Tryz.isAgg22
 z22 := Tryz.sizeOf22
 v22 := Tryz.zeroValue22
 t23 := Tryz.underlying22
 a23 := Tryz.isAgg22
 z23 := Tryz.sizeOf22
 v23 := Tryz.zeroValue22
 t25 := Tryz.underlying3
 a25 := Tryz.isAgg3
 z25 := Tryz.sizeOf3
 v25 := Tryz.zeroValue3
 t32 := Tryz.underlying233
 a32 := Tryz.isAgg233
 z32 := Tryz.sizeOf233
 v32 := Tryz.zeroValue233
 t35 := Tryz.underlying258
 a35 := Tryz.isAgg258
 z35 := Tryz.sizeOf258
 v35 := Tryz.zeroValue258
 t36 := Tryz.underlying259
 a36 := Tryz.isAgg259
 z36 := Tryz.sizeOf259
 v36 := Tryz.zeroValue259
 t41 := Tryz.underlying263
 a41 := Tryz.isAgg263
 z41 := Tryz.sizeOf263
 v41 := Tryz.zeroValue263
 t44 := Tryz.underlying266
 a44 := Tryz.isAgg266
 z44 := Tryz.sizeOf266
 v44 := Tryz.zeroValue266
 t46 := Tryz.underlying268
 a46 := Tryz.isAgg268
 z46 := Tryz.sizeOf268
 v46 := Tryz.zeroValue268
 t53 := Tryz.underlying303
 a53 := Tryz.isAgg303
 z53 := Tryz.sizeOf303
 v53 := Tryz.zeroValue303
 t57 := Tryz.underlying198
 a57 := Tryz.isAgg198
 z57 := Tryz.sizeOf198
 v57 := Tryz.zeroValue198
 t63 := Tryz.underlying318
 a63 := Tryz.isAgg318
 z63 := Tryz.sizeOf318
 v63 := Tryz.zeroValue318
 t64 := Tryz.underlying319
 a64 := Tryz.isAgg319
 z64 := Tryz.sizeOf319
 v64 := Tryz.zeroValue319 }
end Go.Proofs
set_option maxRecDepth 100000
namespace Go.Proofs
open Go.RowKit Go.Maps Go.Sort Go.Shelf
theorem Tryz.sortsA (m : Nat) : AnyZI.SortsIn Tryz.prog Tryz.sortedA_ren Fence.wide m :=
  ⟨fun blk off cap ss W hH hblk hsz => callsIn_wide.2 (AnyM.slices_Sort_int Tryz.sortA blk off cap ss W hH hblk hsz),
   fun p cap W => callsIn_wide.2 (AnyM.slices_Sort_int_none Tryz.sortA p cap W)⟩
theorem Tryz.sorted288 (lb : Array Value) (S : List Int → Prop) (N : Nat) (hN : N ≤ maxLen) (hNb : N * 8 ≤ 140737488355328) (w : World) (hseq : SeqGives Fence.wide 2 Tryz.prog 186 lb encZ S N w) :
    Calls Tryz.prog 136 #[.func (.func 186) #[] lb] w fun e w' => ∃ (v : Value) (ss : List Int), e = .returned v ∧ S ss ∧
      w'.ownsRow w.heap.size (Tryz.sortedA_ren.t 26) 1 v ss.length ((ss.mergeSort (fun x y => decide (x ≤ y))).map encZ) ∧ (v = .slice none 0 0 ↔ ss = []) ∧ Below w.heap.size w w' := by
  refine (callsIn_wide (n := 5)).1 ?_
  exact AnyZI.sorted_in Tryz.sortedA Fence.wide 5 trivial trivial trivial trivial rfl (by omega) (Tryz.sortsA _) (enters_of Tryz.func99 (by kernel_rfl) rfl) 186 lb trivial (enters_of Tryz.func186 (by kernel_rfl) rfl) S N hN hNb w hseq
end Go.Proofs
namespace Go.Proofs.YtdgoeblpcnjlbaaGreatDoor.Av
open Go.RowKit
mutual
def paS (X : List Pr) (M : Nat → Nat → Bool) (r : ByteArray) : St → Bool
 | .mk k r0 t v l e a b p ps => if 0 ≤ kI X k p then (decide (0 ≤ ixF (fun y => decide (r = y)) ps 0) && M (kI X k p).toNat (ixF (fun y => decide (r = y)) ps 0).toNat)
  else (((rolesS k r0 t ps).any (fun y => decide (r = y)) || paL X M r a) || paL X M r b)
def paL (X : List Pr) (M : Nat → Nat → Bool) (r : ByteArray) : List St → Bool
 | [] => false
 | s :: l => paS X M r s || paL X M r l
end
def paH (X : List Pr) (M : Nat → Nat → Bool) (r : ByteArray) : St → Bool
 | .mk k r0 t _ _ _ _ _ p ps => if 0 ≤ kI X k p then (decide (0 ≤ ixF (fun y => decide (r = y)) ps 0) && M (kI X k p).toNat (ixF (fun y => decide (r = y)) ps 0).toNat)
  else (rolesS k r0 t ps).any (fun y => decide (r = y))
def leaf : St → Bool
 | .mk k _ _ _ _ _ a b _ _ => k != 5 || (a.isEmpty && b.isEmpty)
theorem paL_any0 (X : List Pr) (M : Nat → Nat → Bool) (r : ByteArray) : ∀ l, paL X M r l = l.any (paS X M r)
 | [] => by simp [paL]
 | s :: l => by simp [paL, paL_any0 X M r l]
mutual
theorem paS_any (X : List Pr) (M : Nat → Nat → Bool) (r : ByteArray) : ∀ (s : St) (pr : Int) (la : Bool), (∀ y ∈ sp1 s pr la, leaf y.1 = true) → paS X M r s = (sp1 s pr la).any (fun y => paH X M r y.1)
 | .mk k r0 t v l e a b p ps, pr, la, h => by
  have h0 := h _ (by simp only [sp1]; exact List.mem_cons_self)
  have ha := paL_any X M r a pr la (fun y hy => h y (by simp only [sp1]; exact List.mem_cons_of_mem _ (List.mem_append_left _ hy)))
  have hb := paL_any X M r b pr la (fun y hy => h y (by simp only [sp1]; exact List.mem_cons_of_mem _ (List.mem_append_right _ hy)))
  rw [paS, sp1, List.any_cons, List.any_append, ← ha, ← hb]
  by_cases hk : 0 ≤ kI X k p
  ·have h5 : k = 5 := by
    by_cases h5 : k = 5
    ·exact h5
    ·simp [kI, h5] at hk
   subst h5
   have : a = [] ∧ b = [] := by simpa [leaf] using h0
   obtain ⟨rfl, rfl⟩ := this
   simp only [paH, if_pos hk, paL, Bool.or_false]
  ·simp only [paH, if_neg hk]
   rw [Bool.or_assoc]
theorem paL_any (X : List Pr) (M : Nat → Nat → Bool) (r : ByteArray) : ∀ (l : List St) (pr : Int) (la : Bool), (∀ y ∈ spL l pr la, leaf y.1 = true) → paL X M r l = (spL l pr la).any (fun y => paH X M r y.1)
 | [], pr, la, h => by simp [paL, spL]
 | s :: l, pr, la, h => by
  rw [paL, spL, List.any_append, paS_any X M r s pr _ (fun y hy => h y (by rw [spL]; exact List.mem_append_left _ hy)), paL_any X M r l pr la (fun y hy => h y (by rw [spL]; exact List.mem_append_right _ hy))]
end
mutual
theorem paS_mono {X : List Pr} {M C : Nat → Nat → Bool} (h : ∀ i k, M i k = true → C i k = true) (r : ByteArray) : ∀ s, paS X M r s = true → paS X C r s = true
 | .mk k r0 t v l e a b p ps, hs => by
  simp only [paS] at hs ⊢
  split at hs
  ·rename_i hk
   rw [if_pos hk]
   simp only [Bool.and_eq_true] at hs ⊢
   exact ⟨hs.1, h _ _ hs.2⟩
  ·rename_i hk
   rw [if_neg hk]
   simp only [Bool.or_eq_true] at hs ⊢
   exact hs.imp (fun x => x.imp id (paL_mono h r a)) (paL_mono h r b)
theorem paL_mono {X : List Pr} {M C : Nat → Nat → Bool} (h : ∀ i k, M i k = true → C i k = true) (r : ByteArray) : ∀ l, paL X M r l = true → paL X C r l = true
 | [], hs => by simp [paL] at hs
 | s :: l, hs => by
  simp only [paL, Bool.or_eq_true] at hs ⊢
  exact hs.imp (paS_mono h r s) (paL_mono h r l)
end
def PCl (X : List Pr) (M : Nat → Nat → Bool) : Prop := ∀ i q k r, X[i]? = some q → q.roles[k]? = some r → paL X M r q.steps = true → M i k = true
def PLo (X : List Pr) (M : Nat → Nat → Bool) : Prop := ∀ C, PCl X C → ∀ i k, M i k = true → C i k = true
open Classical in
noncomputable def parOf (X : List Pr) (i k : Nat) : Bool := decide (∀ C, PCl X C → C i k = true)
theorem parOf_iff {X : List Pr} {i k : Nat} : parOf X i k = true ↔ ∀ C, PCl X C → C i k = true := by simp [parOf]
theorem par_eq {X : List Pr} {M : Nat → Nat → Bool} (h1 : PCl X M) (h2 : PLo X M) : M = parOf X := by
 funext i k
 cases h : parOf X i k
 ·cases hM : M i k
  ·rfl
  ·have : parOf X i k = true := parOf_iff.2 (fun C hC => h2 C hC i k hM)
   rw [h] at this; cases this
 ·exact parOf_iff.1 h M h1
def selI (f : Nat → Bool) (n : Nat) : List Int := ((List.range n).filter f).map (fun (i : Nat) => (i : Int))
theorem selI_succ (f : Nat → Bool) (n : Nat) : selI f (n + 1) = selI f n ++ if f n then [(n : Int)] else [] := by
 simp only [selI, List.range_succ, List.filter_append, List.map_append]
 congr 1
 by_cases h : f n = true <;> simp [h]
theorem selI_len (f : Nat → Bool) (n : Nat) : (selI f n).length ≤ n := by
 simp only [selI, List.length_map]
 exact Nat.le_trans (List.length_filter_le _ _) (by simp)
def parR (M : Nat → Nat → Bool) : List Pr → Nat → List (List Int)
 | [], _ => []
 | q :: l, i => selI (M i) q.roles.length :: parR M l (i + 1)
theorem parR_append (M : Nat → Nat → Bool) : ∀ (a b : List Pr) (i : Nat), parR M (a ++ b) i = parR M a i ++ parR M b (i + a.length)
 | [], b, i => by simp [parR]
 | q :: a, b, i => by simp [parR, parR_append M a b (i + 1), Nat.add_comm, Nat.add_left_comm]
theorem parR_len (M : Nat → Nat → Bool) : ∀ (a : List Pr) (i : Nat), (parR M a i).length = a.length
 | [], i => rfl
 | q :: a, i => by simp [parR, parR_len M a]
theorem parR_get (M : Nat → Nat → Bool) : ∀ (X : List Pr) (i j : Nat) (q : Pr), X[j]? = some q → (parR M X i)[j]? = some (selI (M (i + j)) q.roles.length)
 | [], i, j, q, h => by simp at h
 | x :: X, i, 0, q, h => by simp at h; subst h; simp [parR]
 | x :: X, i, j + 1, q, h => by
  have := parR_get M X (i + 1) j q (by simpa using h)
  simp only [parR, List.getElem?_cons_succ, this]
  congr 3; omega
theorem PLo.empty (X : List Pr) : PLo X (fun _ _ => false) := fun C _ i k h => by cases h
structure WfY (P : Pla) (y : Spo) : Prop where
 leaf : leaf y.1 = true
 roles : ∀ i : Nat, y.2.1 = i → ∃ q, P.procs[i]? = some q ∧ (match y.1 with | .mk k r t _ _ _ _ _ _ ps => ∀ z ∈ rolesS k r t ps, z ∈ q.roles)
 call : match y.1 with | .mk k _ _ _ _ _ _ _ p ps => k = 5 → 0 ≤ procI P.procs p ∧ ps.Nodup ∧ ∃ q, P.procs[(procI P.procs p).toNat]? = some q ∧ q.roles.length = ps.length
theorem dupF_nodup : ∀ {l seen : List ByteArray}, dupF seen l = false → l.Nodup ∧ ∀ x ∈ l, x ∉ seen
 | [], seen, _ => by simp
 | x :: l, seen, h => by
  simp only [dupF, Bool.or_eq_false_iff] at h
  obtain ⟨h1, h2⟩ := dupF_nodup h.2
  have h0 : x ∉ seen := fun hx => by
   have := List.any_eq_false.1 h.1 x hx
   simp at this
  refine ⟨List.nodup_cons.2 ⟨fun hx => h2 x hx (by simp), h1⟩, fun y hy => ?_⟩
  rcases List.mem_cons.1 hy with rfl | hy
  ·exact h0
  ·exact fun hs => h2 y hy (by simp [hs])
theorem roF_nodup : ∀ {l seen : List ByteArray}, roF seen l = 0 → l.Nodup ∧ ∀ x ∈ l, x ∉ seen
 | [], seen, _ => by simp
 | x :: l, seen, h => by
  simp only [roF] at h
  split at h
  ·cases h
  split at h
  ·cases h
  rename_i hn
  obtain ⟨h1, h2⟩ := roF_nodup h
  have h0 : x ∉ seen := fun hx => hn (List.any_eq_true.2 ⟨x, hx, by simp⟩)
  refine ⟨List.nodup_cons.2 ⟨fun hx => h2 x hx (by simp), h1⟩, fun y hy => ?_⟩
  rcases List.mem_cons.1 hy with rfl | hy
  ·exact h0
  ·exact fun hs => h2 y hy (by simp [hs])
theorem ixF_get {α : Type} (p : α → Bool) (xs : List α) (h : 0 ≤ ixF p xs 0) : ∃ x, xs[(ixF p xs 0).toNat]? = some x ∧ p x = true := by
 rcases ixF_zip p xs 0 (by omega) with ⟨hI, _⟩ | ⟨pre, q, post, hxs, hI, hF⟩
 ·rw [hI] at h; omega
 ·refine ⟨q, ?_, ?_⟩
  ·rw [hI, hxs]; simp
  ·exact List.find?_some hF
theorem ixF_nodup {xs : List ByteArray} {j : Nat} {r : ByteArray} (hn : xs.Nodup) (hj : xs[j]? = some r) : ixF (fun y => decide (r = y)) xs 0 = (j : Int) := by
 have hmem : r ∈ xs := List.mem_of_getElem? hj
 rcases ixF_zip (fun y => decide (r = y)) xs 0 (by omega) with ⟨_, hF⟩ | ⟨pre, q, post, hxs, hI, hF⟩
 ·have := List.find?_eq_none.1 hF r hmem; simp at this
 ·have hq : r = q := by have := List.find?_some hF; simpa using this
  subst hq
  rw [hI]
  have h1 : xs[pre.length]? = some r := by rw [hxs]; simp
  have hl1 := (List.getElem?_eq_some_iff.1 h1)
  have hl2 := (List.getElem?_eq_some_iff.1 hj)
  have := (List.getElem_inj (h₀ := hl1.1) (h₁ := hl2.1) hn).1 (by rw [hl1.2, hl2.2])
  omega
mutual
theorem leaf_sF : ∀ (s : St) (d : Int) (pr : Int) (la : Bool), sF s d = 0 → ∀ y ∈ sp1 s pr la, leaf y.1 = true
 | .mk k r t v l e a b p ps, d, pr, la, h => by
  intro y hy
  simp only [sF] at h
  split at h
  ·rename_i h1; exact absurd h h1
  rename_i h1
  split at h
  ·rename_i h2; exact absurd h h2
  rename_i h2
  simp only [sp1, List.mem_cons, List.mem_append] at hy
  rcases hy with rfl | hy | hy
  ·simp only [ne_eq, Decidable.not_not] at h1
   rcases e with ⟨ek, en, es, eas⟩
   simp only [stF', stF] at h1
   simp only [leaf, Bool.or_eq_true, bne_iff_ne, ne_eq]
   by_cases h5 : k = 5
   ·right
    subst h5
    split at h1; ·cases h1
    split at h1; ·cases h1
    split at h1; ·cases h1
    rename_i hf
    simp only [foF] at hf
    have hab : ¬ (a.length + b.length > 0) := fun hc => hf (by rw [if_pos]; decide; right; right; right; right; right; left; exact ⟨by decide, hc⟩)
    have ha : a = [] := List.eq_nil_of_length_eq_zero (by omega)
    have hb : b = [] := List.eq_nil_of_length_eq_zero (by omega)
    simp [ha, hb]
   ·exact .inl h5
  ·exact leaf_sFs a (d + 1) pr la (by simpa using h2) y hy
  ·exact leaf_sFs b (d + 1) pr la h y hy
theorem leaf_sFs : ∀ (l : List St) (d : Int) (pr : Int) (la : Bool), sFs l d = 0 → ∀ y ∈ spL l pr la, leaf y.1 = true
 | [], d, pr, la, h => by intro y hy; simp [spL] at hy
 | s :: l, d, pr, la, h => by
  intro y hy
  simp only [sFs] at h
  split at h
  ·rename_i h1; exact absurd h h1
  rename_i h1
  simp only [spL, List.mem_append] at hy
  rcases hy with hy | hy
  ·exact leaf_sF s d pr _ (by simpa using h1) y hy
  ·exact leaf_sFs l d pr la h y hy
end
theorem psF_each : ∀ {post pre : List Pr}, psF pre post = 0 → ∀ q ∈ post, ∃ pre', pF pre' q = 0
 | [], pre, _, q, h => by simp at h
 | x :: post, pre, h, q, hq => by
  simp only [psF] at h
  split at h
  ·rename_i h1; exact absurd h h1
  rename_i h1
  rcases List.mem_cons.1 hq with rfl | hq
  ·exact ⟨pre, by simpa using h1⟩
  ·exact psF_each h q hq
theorem cp_parts {P : Pla} (h : cpF P = 0) : psF [] P.procs = 0 ∧ sFs P.main 1 = 0 ∧ P.procs.length ≤ 50 := by
 rw [cpF] at h
 split at h; ·cases h
 rename_i h0
 split at h
 ·rename_i h1; exact absurd h h1
 rename_i h1
 split at h
 ·rename_i h2; exact absurd h h2
 rename_i h2
 exact ⟨by simpa using h1, by simpa using h2, by omega⟩
theorem pF_parts {pre : List Pr} {q : Pr} (h : pF pre q = 0) : q.roles.Nodup ∧ sFs q.steps 1 = 0 ∧ 0 < q.roles.length ∧ q.roles.length ≤ 12 := by
 rw [pF] at h
 split at h; ·cases h
 split at h; ·cases h
 split at h; ·cases h
 rename_i h3
 split at h; ·cases h
 rename_i h4
 split at h
 ·rename_i h5; exact absurd h h5
 rename_i h5
 exact ⟨(roF_nodup (by simpa using h5)).1, h, by omega, by omega⟩
theorem pl_cp {P : Pla} (h : plF P = 0) : cpF P = 0 := by
 rw [plF] at h
 split at h
 ·rename_i h1; exact absurd h h1
 ·rename_i h1; simpa using h1
theorem pl_proc {P : Pla} (h : plF P = 0) : ∀ q ∈ P.procs, q.roles.Nodup ∧ sFs q.steps 1 = 0 ∧ 0 < q.roles.length ∧ q.roles.length ≤ 12 := by
 intro q hq
 obtain ⟨pre, h1⟩ := psF_each (cp_parts (pl_cp h)).1 q hq
 exact pF_parts h1
theorem spP_leaf {l : List Pr} : ∀ {i : Nat}, (∀ q ∈ l, sFs q.steps 1 = 0) → ∀ y ∈ spP l i, leaf y.1 = true := by
 induction l with
 | nil => intro i _ y h; simp [spP] at h
 | cons q l ih =>
  intro i h y hy
  simp only [spP, List.mem_append] at hy
  rcases hy with hy | hy
  ·exact leaf_sFs _ 1 _ _ (h q (by simp)) y hy
  ·exact ih (fun x hx => h x (by simp [hx])) y hy
theorem oF5 {P : Pla} {rs : Option (List ByteArray)} {r t p : ByteArray} {ps : List ByteArray} (h : oF P rs 5 r t p ps = 0) : ∃ q, P.procs.find? (fun z => decide (z.name = p)) = some q ∧ q.roles.length = ps.length ∧ dupF [] ps = false := by
 unfold oF at h
 cases hf : P.procs.find? (fun z => decide (z.name = p)) with
 | none =>
  rw [hf] at h
  cases rs with
  | none => simp at h
  | some rs =>
   by_cases hc : ((rolesS 5 r t ps).any fun z => !rs.any fun y => decide (z = y)) = true
   ·simp only [hc, if_true] at h; cases h
   ·simp only [hc, if_false, ne_eq, not_true_eq_false] at h; cases h
 | some q =>
  rw [hf] at h
  refine ⟨q, rfl, ?_⟩
  have h2 : (if q.roles.length ≠ ps.length then (3 : Int) else if dupF [] ps = true then 6 else 0) = 0 := by
   cases rs with
   | none => simpa using h
   | some rs =>
    by_cases hc : ((rolesS 5 r t ps).any fun z => !rs.any fun y => decide (z = y)) = true
    ·simp only [hc, if_true] at h; cases h
    ·simp only [hc, if_false, ne_eq, not_true_eq_false] at h; exact h
  by_cases hlen : q.roles.length = ps.length
  ·by_cases hd : dupF [] ps = true
   ·simp [hlen, hd] at h2
   ·exact ⟨hlen, by simpa using hd⟩
  ·simp [hlen] at h2
theorem wfY {P : Pla} (h : plF P = 0) : ∀ y ∈ spots P, WfY P y := by
 intro y hy
 have hF := pl_spots h y hy
 have hok := spots_ok P y hy
 have hlf : leaf y.1 = true := by
  have hc := cp_parts (pl_cp h)
  simp only [spots, List.mem_append] at hy
  rcases hy with hy | hy
  ·exact leaf_sFs _ 1 _ _ hc.2.1 y hy
  ·exact spP_leaf (fun q hq => (pl_proc h q hq).2.1) y hy
 obtain ⟨⟨k, r, t, v, l, e, a, b, p, ps⟩, pr, la⟩ := y
 simp only [oFS, oF] at hF
 refine ⟨hlf, fun i hi => ?_, fun h5 => ?_⟩
 ·have hi : pr = (i : Int) := hi
  subst hi
  rcases hok with hok | ⟨pa, qa, pb, h1, h2⟩
  ·simp only at hok; omega
  ·simp only at h2
   have hpa : i = pa.length := by omega
   have hq : P.procs[i]? = some qa := by rw [hpa, h1]; simp
   refine ⟨qa, hq, ?_⟩
   have hrs : procRs P (i : Int) = some qa.roles := by
    simp only [procRs, show ¬ ((i : Int) < 0) by omega, if_false, Int.toNat_natCast, hq, Option.map_some]
   rw [hrs] at hF
   simp only at hF
   split at hF
   ·cases hF
   ·rename_i hn
    intro z hz
    refine Classical.byContradiction fun hc => hn (List.any_eq_true.2 ⟨z, hz, ?_⟩)
    simp only [Bool.not_eq_true']
    rw [List.any_eq_false]
    intro x hx
    simp only [decide_eq_true_eq]
    rintro rfl
    exact hc hx
 ·have h5 : k = 5 := h5
  subst h5
  obtain ⟨q, hf, hlen, hd⟩ := oF5 (show oF P (procRs P pr) 5 r t p ps = 0 from hF)
  rcases ixF_zip (fun z : Pr => decide (z.name = p)) P.procs 0 (by omega) with ⟨hI, hf'⟩ | ⟨pre, q', post, hxs, hI, hf'⟩
  ·rw [hf] at hf'; cases hf'
  ·rw [hf] at hf'; cases hf'
   have hpI : procI P.procs p = (pre.length : Int) := by rw [procI, hI]; omega
   exact ⟨by omega, (dupF_nodup hd).1, q, by rw [hpI, hxs]; simp, hlen⟩
theorem spP_mem : ∀ {l : List Pr} {i j : Nat} {q : Pr}, l[j]? = some q → ∀ y ∈ spL q.steps ((i + j : Nat) : Int) true, y ∈ spP l i
 | [], i, j, q, h, y, hy => by simp at h
 | x :: l, i, 0, q, h, y, hy => by simp at h; subst h; simp only [spP, List.mem_append]; exact .inl (by simpa using hy)
 | x :: l, i, j + 1, q, h, y, hy => by
  simp only [spP, List.mem_append]
  exact .inr (spP_mem (i := i + 1) (j := j) (by simpa using h) y (by rw [show i + 1 + j = i + (j + 1) by omega]; exact hy))
theorem spP_of : ∀ {l : List Pr} {i : Nat} {y : Spo}, y ∈ spP l i → ∃ j q, l[j]? = some q ∧ y ∈ spL q.steps ((i + j : Nat) : Int) true
 | [], i, y, h => by simp [spP] at h
 | x :: l, i, y, h => by
  simp only [spP, List.mem_append] at h
  rcases h with h | h
  ·exact ⟨0, x, by simp, by simpa using h⟩
  ·obtain ⟨j, q, h1, h2⟩ := spP_of h
   exact ⟨j + 1, q, by simpa using h1, by rw [show i + (j + 1) = i + 1 + j by omega]; exact h2⟩
theorem spots_in {P : Pla} {y : Spo} (hy : y ∈ spots P) {i : Nat} (hi : y.2.1 = i) {q : Pr} (hq : P.procs[i]? = some q) : y ∈ spL q.steps (i : Int) true := by
 simp only [spots, List.mem_append] at hy
 rcases hy with hy | hy
 ·have := spL_proc _ _ _ y hy; omega
 ·obtain ⟨j, q', h1, h2⟩ := spP_of hy
  have := spL_proc _ _ _ y h2
  have hij : i = j := by omega
  subst hij
  rw [hq] at h1; cases h1
  simpa using h2
theorem pa_proc {P : Pla} (h : plF P = 0) {i : Nat} {q : Pr} (hq : P.procs[i]? = some q) (M : Nat → Nat → Bool) (r : ByteArray) : paL P.procs M r q.steps = (spL q.steps (i : Int) true).any (fun y => paH P.procs M r y.1) :=
 paL_any _ _ _ _ _ _ (leaf_sFs _ 1 _ _ (pl_proc h q (List.mem_of_getElem? hq)).2.1)
theorem PLo.spot {P : Pla} (h : plF P = 0) {M : Nat → Nat → Bool} (hM : PLo P.procs M) {y : Spo} (hy : y ∈ spots P) {i : Nat} (hi : y.2.1 = i) {q : Pr} (hq : P.procs[i]? = some q) {j : Nat} {r : ByteArray}
  (hr : match y.1 with | .mk k r0 t _ _ _ _ _ p ps => (rolesS k r0 t ps)[j]? = some r ∧ (k = 5 → M (procI P.procs p).toNat j = true)) :
  0 ≤ ixF (fun z => decide (r = z)) q.roles 0 ∧ ∀ C, PCl P.procs C → C i (ixF (fun z => decide (r = z)) q.roles 0).toNat = true := by
 have hw := wfY h y hy
 have hin := spots_in hy hi hq
 obtain ⟨q', hq', hrs⟩ := hw.roles i hi
 rw [hq] at hq'; cases hq'
 have hcall := hw.call
 have hnd := (pl_proc h q (List.mem_of_getElem? hq)).1
 obtain ⟨⟨k, r0, t, v, l, e, a, b, p, ps⟩, pr, la⟩ := y
 simp only at hr hrs hcall hi
 subst hi
 have hmem : r ∈ q.roles := hrs r (List.mem_of_getElem? hr.1)
 obtain ⟨n, hn⟩ := List.getElem?_of_mem hmem
 have hix := ixF_nodup hnd hn
 refine ⟨by omega, fun C hC => ?_⟩
 rw [hix, Int.toNat_natCast]
 refine hC i q n r hq hn ?_
 rw [pa_proc h hq]
 refine List.any_eq_true.2 ⟨_, hin, ?_⟩
 simp only [paH]
 by_cases hk : 0 ≤ kI P.procs k p
 ·rw [if_pos hk]
  have h5 : k = 5 := by
   by_cases h5 : k = 5
   ·exact h5
   ·simp [kI, h5] at hk
  subst h5
  obtain ⟨_, hps, _⟩ := hcall rfl
  have hr1 := hr.1
  simp only [rolesS, if_true] at hr1
  have hj := ixF_nodup hps hr1
  have hkp : kI P.procs 5 p = procI P.procs p := by simp [kI]
  rw [hj, hkp, Int.toNat_natCast]
  simp [hM C hC _ _ (hr.2 rfl)]
 ·rw [if_neg hk]
  exact List.any_eq_true.2 ⟨r, List.mem_of_getElem? hr.1, by simp⟩
theorem PCl.of_spots {P : Pla} (h : plF P = 0) {M : Nat → Nat → Bool}
  (hM : ∀ y ∈ spots P, ∀ (i : Nat) q, y.2.1 = i → P.procs[i]? = some q → match y.1 with | .mk k r0 t _ _ _ _ _ p ps => ∀ (j : Nat) r, (rolesS k r0 t ps)[j]? = some r → (k = 5 → M (procI P.procs p).toNat j = true) → M i (ixF (fun z => decide (r = z)) q.roles 0).toNat = true) : PCl P.procs M := by
 intro i q n r hq hn hpa
 rw [pa_proc h hq] at hpa
 obtain ⟨y, hy, hpy⟩ := List.any_eq_true.1 hpa
 have hi := spL_proc _ _ _ y hy
 have hys : y ∈ spots P := by
  simp only [spots, List.mem_append]
  exact .inr (spP_mem (i := 0) (j := i) hq y (by simpa using hy))
 have hm := hM y hys i q hi hq
 have hw := wfY h y hys
 have hcall := hw.call
 have hnd := (pl_proc h q (List.mem_of_getElem? hq)).1
 have hix := ixF_nodup hnd hn
 obtain ⟨⟨k, r0, t, v, l, e, a, b, p, ps⟩, pr, la⟩ := y
 simp only [paH] at hpy hm hcall
 by_cases hk : 0 ≤ kI P.procs k p
 ·rw [if_pos hk] at hpy
  have h5 : k = 5 := by
   by_cases h5 : k = 5
   ·exact h5
   ·simp [kI, h5] at hk
  subst h5
  have hkp : kI P.procs 5 p = procI P.procs p := by simp [kI]
  simp only [Bool.and_eq_true, decide_eq_true_eq, hkp] at hpy
  obtain ⟨x, hx, hxr⟩ := ixF_get _ _ hpy.1
  simp only [decide_eq_true_eq] at hxr
  subst hxr
  have := hm (ixF (fun y => decide (r = y)) ps 0).toNat r (by simpa [rolesS] using hx) (fun _ => hpy.2)
  rw [hix] at this
  simpa using this
 ·rw [if_neg hk] at hpy
  obtain ⟨x, hx, hxr⟩ := List.any_eq_true.1 hpy
  simp only [decide_eq_true_eq] at hxr
  subst hxr
  obtain ⟨j, hj⟩ := List.getElem?_of_mem hx
  have := hm j r hj (fun h5 => by
   subst h5
   have := (hcall rfl).1
   simp [kI] at hk; omega)
  rw [hix] at this
  simpa using this
end Go.Proofs.YtdgoeblpcnjlbaaGreatDoor.Av
namespace Go.Proofs
open Go.RowKit Go.Maps Go.Sort Go.Shelf
section
variable {P : Program} {ρ : Ren}
set_option maxRecDepth 100000 in
set_option maxHeartbeats 1000000 in
theorem keys1o_in (L : SlLaysZI.n10 P ρ) {H : Type} (F : Fence) (n : Nat) (h10 : F.fn (ρ.f 10)) (hro : F.round = none) (hn : 1 ≤ n) (l Bm o b nn : Nat) (D0 : DataW H) {R : Value → Option (DataW H × List MemPlace)} (J : List Int → World → Prop)
  (hY : ∀ pre x W, J pre W → pre.length < Maps.size D0 → YieldAt F (n - 1) P l #[encZ x] W fun e W' => e = .returned (.bool true) ∧ J (pre ++ [x]) W' ∧ KeepsWalks W W')
  (W : World) (hJ : AbidesFrom W.heap.size J) (hm : W.cell? ⟨Bm, o, none⟩ = some (.map (some b))) (hown : W.ownsMap P (ρ.t 26) R b nn D0) (h0 : J [] W) :
  CallsIn F n P (ρ.f 10) #[.func (.yield l) #[] #[], .pointer (some ⟨Bm, o, none⟩)] W fun e W' => (∃ v, e = .returned v) ∧ ∃ ss : List Int, ss.Perm (intKeys D0) ∧ J ss W' := by
 have mixed := L.mixed; have t0 := L.t0; have a0 := L.a0; have z0 := L.z0; have v0 := L.v0; have t4 := L.t4; have a4 := L.a4; have z4 := L.z4; have v4 := L.v4; have t23 := L.t23; have a23 := L.a23; have z23 := L.z23; have v23 := L.v23; have t26 := L.t26; have a26 := L.a26; have z26 := L.z26; have v26 := L.v26; have t33 := L.t33; have a33 := L.a33; have z33 := L.z33; have v33 := L.v33
 have u0 := run_underlying L.t0; have u4 := run_underlying L.t4; have u23 := run_underlying L.t23; have u26 := run_underlying L.t26; have u33 := run_underlying L.t33
 obtain ⟨_, _, FG⟩ := L.f10
 refine callsIn_of_wp FG rfl h10 ?_ hro
 simp only [SlBodyZ.n10_ntmps ρ, List.size_toArray, List.length_cons, List.length_nil, Nat.reduceAdd, Nat.reduceSub, Array.replicate_succ, Array.replicate_zero, List.push_toArray, List.append_toArray, List.nil_append, List.cons_append]
 gi_wp2_with (first
  | (gi_at_range; refine wpListIn_range_own _ rfl _ (ρ.t 23) rfl (ρ.t 26) (ρ.t 3) (int_keyed L.t26) L.t23 _ b nn _ rfl hown ?_; intro w0 hrg0 hg0 hs0)
  | gi_in)
 go_frame
 gi_loopw [3] (fun _ wr => ∃ (left : Lit → Bool) (cnt : Nat) (ss : List Int), wr.ranges P (ρ.t 26) R b W.heap.size nn D0 left cnt ∧ ss.length + cnt ≤ Maps.size D0 ∧ CollectedI D0 left ss ∧ J ss wr)
  (fun _ wr => wr.rangeLeft b W.heap.size)
 case atStart =>
  exact ⟨_, _, [], hrg0, by simp, CollectedI.start D0, hJ [] W w0 none h0 hg0 (fun r e => by cases e)⟩
 case round =>
  obtain ⟨left, cnt, ss, hrg, hcs, hC, hJs⟩ := hrel
  gi_wp2_with (first
   | (gi_at_next; refine wpListIn_next_ranges _ rfl _ rfl (ρ.t 26) (int_keyed L.t26) R encZ id (fun key kl hk => by obtain ⟨x, hx, _⟩ := Maps.keyOf_i64 L.t26 hk; exact ⟨x, hx⟩) (fun v _ _ => ⟨v, rfl⟩) b W.heap.size nn _ _ _ rfl hrg ?_ ?_)
   | gi_in)
  ·intro hc0 hl0
   gi_wp2
   go_end0
   exact ⟨⟨_, rfl⟩, ss, hC.perm hown (int_keyed L.t26) L.t26 hl0, hJs⟩
  ·intro x c kl yd yp w2 cnt2 hkey hlk hv hat hrg2 hlt hg2 hs2 hen
   obtain ⟨x', ex, rfl, _⟩ := Maps.keyOf_i64 L.t26 hkey
   obtain rfl : x = x' := encZ_inj ex
   have hJ2 : J ss w2 := hJ ss wr w2 (some W.heap.size) hJs hg2 (fun r e => by cases e; exact ⟨Nat.le_refl _, hrg.iter_walk⟩)
   obtain ⟨fn, tmps, assign, body, hy, hR⟩ := hY ss x w2 hJ2 (by omega)
   clear hs2
   gi_wp2
   refine hR.mono ?_
   rintro e W3 ⟨rfl, hJ3, hk3⟩
   gi_wp2
   have hrg3 := hrg2.of_walks hk3
   go_roundw
   case rel => exact ⟨_, cnt2, ss ++ [x], hrg3, by simp; omega, hC.step hlk hat, hJ3⟩
   case measure => rw [hrg3.left_eq, hrg.left_eq]; exact hlt
theorem keyso_gives (L : SlLaysZI.n10 P ρ) {H : Type} (F : Fence) (n : Nat) (h10 : F.fn (ρ.f 10)) (hro : F.round = none) (hn : 1 ≤ n) (Bm o b nn : Nat) (D0 : DataW H) {R : Value → Option (DataW H × List MemPlace)} (w : World) (hBm : Bm < w.heap.size)
  (hm : w.cell? ⟨Bm, o, none⟩ = some (.map (some b))) (hown : w.ownsMap P (ρ.t 26) R b nn D0) :
  SeqGives F n P (ρ.f 10) #[.pointer (some ⟨Bm, o, none⟩)] encZ (fun ss => ss.Perm (intKeys D0)) (Maps.size D0) w := fun l J W hW hJ hY h0 => by
 have hown' : W.ownsMap P (ρ.t 26) R b nn D0 := by
  have hbl := hown.lt
  obtain ⟨es, clock, hb, Ft, hs, hD⟩ := hown
  exact ⟨es, clock, (hW.block b hbl).trans hb, Ft, hs, hD⟩
 exact keys1o_in { L with } F n h10 hro hn l Bm o b nn D0 J hY W hJ ((hW.cell (p := ⟨Bm, o, none⟩) hBm).trans hm) hown' h0
end
end Go.Proofs
namespace Go.Proofs.YtdgoeblpcnjlbaaGreatDoor.Av
open Go.RowKit Go.Maps
theorem repL_ints {B : List Pl} {I : IM} : ∀ {D : List Int} {l : List Value}, RepL B I (D.map (.int .i64)) l → l = D.map encZ
 | [], l, h => by simpa [RepL] using h
 | x :: D, l, h => by
  simp only [List.map_cons, RepL, Rep] at h
  obtain ⟨v, vs, rfl, rfl, h⟩ := h
  rw [repL_ints h]; rfl
theorem fs_of_row {I : IM} {w w' : World} {e : TypeId} {v : Value} {L : List Int} (himm : ∀ b o, I b = some o → w.heap[b]? = some o) (hb : Below w.heap.size w w') (h : w'.ownsRow w.heap.size e 1 v L.length (L.map encZ)) :
  ∃ I', ILe I I' ∧ (∀ b o, I' b = some o → w'.heap[b]? = some o) ∧ (∀ b, I b = none → I' b ≠ none → w.heap.size ≤ b) ∧ Rep [] I' (.fs (L.map (.int .i64))) v := by
 have himm' : ∀ b o, I b = some o → w'.heap[b]? = some o := fun b o h => by
  have h1 := himm b o h
  rw [hb.block b (Array.getElem?_eq_some_iff.1 h1).1]; exact h1
 rcases h.2 with ⟨rfl, hz⟩ | ⟨g, cap, cur, rfl, h1, h2, h3, h4, h5, h6⟩
 ·have : L = [] := List.eq_nil_of_length_eq_zero hz
  subst this
  exact ⟨I, ILe.refl I, himm', fun b h1 h2 => absurd h1 h2, by simp only [Rep]; exact ⟨none, 0, rfl, by simp, by simp, .inl rfl⟩⟩
 ·have hI0 : I g = none := by
   cases hI : I g with
   | none => rfl
   | some o => have := (Array.getElem?_eq_some_iff.1 (himm g o hI)).1; omega
  refine ⟨fun b => if b = g then some (.cells cur e (0, 0)) else I b, fun b o hbo => ?_, fun b o hbo => ?_, fun b hb1 hb2 => ?_, ?_⟩
  ·show (if b = g then _ else _) = _
   rw [if_neg (by rintro rfl; rw [hI0] at hbo; cases hbo)]; exact hbo
  ·simp only at hbo
   split at hbo
   ·rename_i hbg; subst hbg; cases hbo; exact h2
   ·exact himm' b o hbo
  ·simp only at hb2
   split at hb2
   ·omega
   ·exact absurd hb1 hb2
  ·simp only [Rep]
   refine ⟨_, cap, by rw [List.length_map], by simpa using h3, h4, .inr ⟨g, 0, 1, rfl, ?_⟩⟩
   rw [elemsG_iff]
   intro i x hx
   rw [List.getElem?_map] at hx
   cases hL : L[i]? with
   | none => rw [hL] at hx; cases hx
   | some n =>
    rw [hL] at hx
    cases hx
    refine ⟨rfl, fun j c hj => ?_⟩
    simp only [cellsV] at hj
    have hj0 : j = 0 := by have := (List.getElem?_eq_some_iff.1 hj).1; simp at this; exact this
    subst hj0
    simp at hj; subst hj
    refine ⟨.int .i64 n, ?_, rfl⟩
    have hi := (List.getElem?_eq_some_iff.1 hL).1
    have : (cur.toList.take (L.length * 1))[i]? = (L.map encZ)[i]? := by rw [h6]
    rw [List.getElem?_take_of_lt (by omega), List.getElem?_map, hL] at this
    simp only [icell, if_pos, Nat.zero_add, Nat.mul_one, Nat.add_zero]
    rw [← Array.getElem?_toList]; exact this
theorem h288 {n : Nat} (hn : n ≤ 1000000) (D : List Int) (f : Int → V) (hD : SetP n D) (hnv : norefL (D.map f) = true) :
  PCall Tryz.prog 136 [.clos 186 [] [.rptr [.fmap (D.map (.int .i64)) (D.map f)]]] (·= .fs ((asc n D).map (.int .i64))) := by
 refine ⟨by kernel_rfl, fun I w args himm hr => ?_⟩
 simp only [RepL, Rep, CellsG] at hr
 obtain ⟨v0, l, hargs, ⟨fs, cs, rfl, hfs, v1, l1, hcs, ⟨bb, oo, rfl, ⟨v2, hv2, b, es, clock, rfl, hIb, hbn, hk, hv⟩, _⟩, rfl⟩, rfl⟩ := hr
 have hfs' : fs = #[] := by cases fs; simp_all
 have hcs' : cs = #[.pointer (some ⟨bb, oo, none⟩)] := by cases cs; simp_all
 have hargs' : args = #[.func (.func 186) fs cs] := by cases args; simp_all
 subst hargs' hfs' hcs'
 have hbl : bb < w.heap.size ∧ w.cell? ⟨bb, oo, none⟩ = some (.map (some b)) := by
  unfold icell at hv2
  split at hv2
  ·rename_i c e fz hI
   have h1 := himm _ _ hI
   refine ⟨(Array.getElem?_eq_some_iff.1 h1).1, ?_⟩
   simp [World.cell?, h1, hv2]
  ·cases hv2
 have hkeys := repL_ints hk
 have hlen : es.size = D.length := by have := congrArg List.length hkeys; simpa using this
 have hDn : D.length ≤ n := hD.len
 have ht26 : Tryz.prog.underlying (Tryz.sortedA_ren.t 26) = some (.int .i64) := Tryz.sortedA.t26
 let R : Value → Option (DataW Unit × List MemPlace) := fun _ => some (.lit (.bool false), [])
 have hread : ∀ x ∈ es.toList, ∃ m : Int, m ∈ D ∧ x.key = encZ m ∧ Go.WideElems.rd Tryz.prog (Tryz.sortedA_ren.t 26) R x = some (.int .i64 m, .lit (.bool false)) := by
  intro x hx
  have hxk : x.key ∈ es.toList.map (·.key) := List.mem_map.2 ⟨x, hx, rfl⟩
  rw [hkeys] at hxk
  obtain ⟨m, hm, hmx⟩ := List.mem_map.1 hxk
  refine ⟨m, hm, hmx.symm, ?_⟩
  have h1 := hD.lo m hm
  have h2 := hD.hi m hm
  obtain ⟨xk, xv, xb⟩ := x
  simp only at hmx
  subst hmx
  have hw : (Lit.int .i64 m).wf = true := by
   simp [Lit.wf, IntKind.min, IntKind.max, IntKind.signed, IntKind.bits]; omega
  exact Go.WideElems.rd_mk (yv := (.lit (.bool false), [])) (Go.Maps.keyOf_int_mk ht26 hw) (by rfl)
 have hown : w.ownsMap Tryz.prog (Tryz.sortedA_ren.t 26) R b es.size (.map ((es.toList.map (Go.WideElems.rg Tryz.prog (Tryz.sortedA_ren.t 26) R)).foldr DataW.insert [])) := by
  refine ⟨es, clock, himm _ _ hIb, ⟨?_, ⟨hbn.1, hbn.2, ?_⟩, fun x hx => ?_⟩, Nat.le_refl _, rfl⟩
  ·have : maxLen = 9223372036854775807 := rfl
   omega
  ·rw [hkeys]
   exact List.pairwise_map.2 (hD.nodup.imp fun {a b} hab e => hab (encZ_inj e))
  ·obtain ⟨m, _, _, h⟩ := hread x hx; exact ⟨_, h⟩
 have hik : (intKeys (.map ((es.toList.map (Go.WideElems.rg Tryz.prog (Tryz.sortedA_ren.t 26) R)).foldr DataW.insert []))).Perm D := by
  have h1 : (intKeys (.map ((es.toList.map (Go.WideElems.rg Tryz.prog (Tryz.sortedA_ren.t 26) R)).foldr DataW.insert []))).Perm ((es.toList.map (Go.WideElems.rg Tryz.prog (Tryz.sortedA_ren.t 26) R)).map fun p => Go.intOf p.1) := (Go.WideShapes.sorted_perm _).map _
  have h2 : ((es.toList.map (Go.WideElems.rg Tryz.prog (Tryz.sortedA_ren.t 26) R)).map fun p => Go.intOf p.1) = D := by
   have hinj : ((es.toList.map (Go.WideElems.rg Tryz.prog (Tryz.sortedA_ren.t 26) R)).map fun p => Go.intOf p.1).map encZ = D.map encZ := by
    rw [← hkeys, List.map_map, List.map_map]
    refine List.map_congr_left fun x hx => ?_
    obtain ⟨m, _, h3, h4⟩ := hread x hx
    simp only [Function.comp, Go.WideElems.rg_of h4, Go.intOf, h3]
   exact (List.map_inj_right (fun a b h => encZ_inj h)).1 hinj
  rw [h2] at h1; exact h1
 have hsz : Maps.size (.map ((es.toList.map (Go.WideElems.rg Tryz.prog (Tryz.sortedA_ren.t 26) R)).foldr DataW.insert []) : DataW Unit) = es.size := by
  simp [Maps.size, Go.DataW.length_sorted]
 have hseq : SeqGives Fence.wide 2 Tryz.prog 186 #[.pointer (some ⟨bb, oo, none⟩)] encZ _ _ w :=
  keyso_gives (ρ := Tryz.keysA_ren) { Tryz.keysA with } Fence.wide 2 trivial rfl (by omega) bb oo b es.size _ w hbl.1 hbl.2 hown
 refine (Tryz.sorted288 _ _ _ (by rw [hsz]; have : maxLen = 9223372036854775807 := rfl; omega) (by rw [hsz]; omega) w hseq).mono ?_
 rintro e w' ⟨v, ss, rfl, hS, hrow, _, hbel⟩
 have hss := sorted_asc hD (hS.trans hik)
 rw [hss] at hrow
 have hl : ss.length = (asc n D).length := by rw [← hss]; simp
 rw [hl] at hrow
 obtain ⟨I', h1, h2, h3, h4⟩ := fs_of_row himm hbel hrow
 exact ⟨_, v, I', rfl, rfl, h1, h2, h3, h4, hbel⟩
def encB (l : List Bool) : V := .fs (l.map .bool)
def MK (K : List (List Bool)) (i k : Nat) : Bool := (K.getD i []).getD k false
theorem norefL_encB (K : List (List Bool)) : norefL (K.map encB) = true := norefL_mapf (fun x => by simp [encB, noref]) K
def KS (X : List Pr) (K : List (List Bool)) : Prop := K.length = X.length ∧ ∀ (i : Nat) q, X[i]? = some q → (K.getD i []).length = q.roles.length
mutual
def okS2 (X : List Pr) : St → Bool
 | .mk k _ _ _ _ _ a b p ps => (k != 5 || (decide (0 ≤ procI X p) && decide ((X[(procI X p).toNat]?).map (·.roles.length) = some ps.length))) && (okL2 X a && okL2 X b)
def okL2 (X : List Pr) : List St → Bool
 | [] => true
 | s :: l => okS2 X s && okL2 X l
end
theorem okL2umem {X : List Pr} : ∀ {l : List St}, okL2 X l = true → ∀ s ∈ l, okS2 X s = true
 | [], _, s, h => by simp at h
 | x :: l, h, s, hs => by
  simp only [okL2, Bool.and_eq_true] at h
  rcases List.mem_cons.1 hs with rfl | hs
  ·exact h.1
  ·exact okL2umem h.2 s hs
def kok2 (X : List Pr) : St → Bool
 | .mk k _ _ _ _ _ _ _ p ps => k != 5 || (decide (0 ≤ procI X p) && decide ((X[(procI X p).toNat]?).map (·.roles.length) = some ps.length))
mutual
theorem okS2uof {X : List Pr} : ∀ (s : St) (pr : Int) (la : Bool), (∀ y ∈ sp1 s pr la, kok2 X y.1 = true) → okS2 X s = true
 | .mk k r t v l e a b p ps, pr, la, h => by
  simp only [sp1, List.mem_cons, List.mem_append] at h
  have h0 := h _ (.inl rfl)
  simp only [kok2] at h0
  simp only [okS2, h0, okL2uof a pr la (fun y hy => h y (.inr (.inl hy))), okL2uof b pr la (fun y hy => h y (.inr (.inr hy))), Bool.and_self]
theorem okL2uof {X : List Pr} : ∀ (l : List St) (pr : Int) (la : Bool), (∀ y ∈ spL l pr la, kok2 X y.1 = true) → okL2 X l = true
 | [], pr, la, h => rfl
 | s :: l, pr, la, h => by
  simp only [spL, List.mem_append] at h
  simp only [okL2, okS2uof s pr _ (fun y hy => h y (.inl hy)), okL2uof l pr la (fun y hy => h y (.inr hy)), Bool.and_self]
end
theorem okP2uof {P : Pla} (h : plF P = 0) : okL2 P.procs P.main = true ∧ ∀ q ∈ P.procs, okL2 P.procs q.steps = true := by
 have hs : ∀ y ∈ spots P, kok2 P.procs y.1 = true := fun y hy => by
  have hw := (wfY h y hy).call
  obtain ⟨⟨k, r, t, v, l, e, a, b, p, ps⟩, pr, la⟩ := y
  simp only at hw
  simp only [kok2, Bool.or_eq_true, bne_iff_ne, ne_eq, Bool.and_eq_true, decide_eq_true_eq]
  by_cases h5 : k = 5
  ·obtain ⟨h1, _, q, h2, h3⟩ := hw h5
   exact .inr ⟨h1, by rw [h2]; simp [h3]⟩
  ·exact .inl h5
 refine ⟨okL2uof _ (-1) true (fun y hy => hs y (by simp only [spots, List.mem_append]; exact .inl hy)), fun q hq => ?_⟩
 obtain ⟨j, hj⟩ := List.getElem?_of_mem hq
 exact okL2uof _ (j : Int) true (fun y hy => hs y (by simp only [spots, List.mem_append]; exact .inr (spP_mem (i := 0) (j := j) hj y (by simpa using hy))))
set_option maxRecDepth 20000 in
theorem t282s (X : List Pr) (K : List (List Bool)) (hS : KS X K) (ro : ByteArray) (k : Int) (r t v l : ByteArray) (ek en : Int) (es : ByteArray) (eas : List Ex) (a b : List St) (p : ByteArray) (ps : List ByteArray) (n : Int) (hok : okS2 X (.mk k r t v l (.mk ek en es eas) a b p ps) = true)
  (ha : PCall Tryz.prog 45 [.fs ((num a (n + 1)).map (encN X)), .str ro, .fs (K.map encB)] (·= .bool (paL X (MK K) ro a)))
  (hb : PCall Tryz.prog 45 [.fs ((num b (n + 1 + cnts a)).map (encN X)), .str ro, .fs (K.map encB)] (·= .bool (paL X (MK K) ro b))) :
  PCall Tryz.prog 123 [encN X (.mk k r t v l (.mk ek en es eas) a b p ps, n), .rptr [.str ro], .rptr [.fs (K.map encB)]] (·= .bool (paS X (MK K) ro (.mk k r t v l (.mk ek en es eas) a b p ps))) := by
 have h63 := t63 k r t v l ek en es eas a b p ps
 have h29 := t29 (rolesS k r t ps) ro
 have h58 := t58 ps ro
 rw [encS_mk] at h63
 rw [encN_mk]
 simp only [okS2, Bool.and_eq_true, Bool.or_eq_true, bne_iff_ne, ne_eq, decide_eq_true_eq] at hok
 have hnb := norefL_encB K
 by_cases hk : 0 ≤ kI X k p
 ·have h5 : k = 5 := by
   by_cases h5 : k = 5
   ·exact h5
   ·simp [kI, h5] at hk
  obtain ⟨_, hq⟩ := hok.1.resolve_left (fun h => h h5)
  have hkp : kI X k p = procI X p := by simp [kI, h5]
  rw [← hkp] at hq
  obtain ⟨q, hq1, hq2⟩ : ∃ q, X[(kI X k p).toNat]? = some q ∧ q.roles.length = ps.length := by
   cases h : X[(kI X k p).toNat]? with
   | none => rw [h] at hq; cases hq
   | some q => rw [h] at hq; exact ⟨q, rfl, by simpa using hq⟩
  have hlen := hS.2 _ _ hq1
  have hilt : (kI X k p).toNat < K.length := by rw [hS.1]; exact (List.getElem?_eq_some_iff.1 hq1).1
  have hx1 : ixP (kI X k p) K.length := ⟨hk, hilt⟩
  have hg1 : (K.map encB).getD (kI X k p).toNat .any = .fs ((K.getD (kI X k p).toNat []).map .bool) := by
   simp [List.getD, List.getElem?_map, List.getElem?_eq_getElem hilt, encB]
  simp only [paS, if_pos hk]
  have hMK : MK K (kI X k p).toNat (ixF (fun y => decide (ro = y)) ps 0).toNat = (K.getD (kI X k p).toNat []).getD (ixF (fun y => decide (ro = y)) ps 0).toNat false := rfl
  rw [hMK]
  have hix : ixF (fun y => decide (ro = y)) ps 0 < ps.length := by
   rcases ixF_zip (fun y => decide (ro = y)) ps 0 (by omega) with ⟨hI, _⟩ | ⟨pre, q, post, hxs, hI, hF⟩
   ·rw [hI]; omega
   ·rw [hI, hxs]; simp; omega
  generalize K.getD (kI X k p).toNat [] = L at *
  generalize kI X k p = I at *
  generalize hJ : ixF (fun y => decide (ro = y)) ps 0 = J at *
  refine PCall.intro c282 400 (by simp) 20 ?_
  by_cases hj : 0 ≤ J
  ·have hx2 : ixP J L.length := ⟨hj, by omega⟩
   have hg2 : (L.map V.bool).getD J.toNat .any = .bool (L.getD J.toNat false) := by
    simp [List.getD, List.getElem?_map, List.getElem?_eq_getElem (show J.toNat < L.length by omega)]
   simp -implicitDefEqProofs only [s282, hk, hg1, hx1, hg2, hx2, decide_true, go_sem]
   repeat' (first | ((first | ((with_reducible refine cgR h58 ?_ ?_); (·simp [norefL, noref, nrb, hnb])) | ((with_reducible apply cgF); (·simp -implicitDefEqProofs only [List.map_cons, List.map_nil, hnb, push_cast, go_sem_proc] <;> rfl); (with_reducible exact h58); (·rfl)) | (with_reducible refine F_q2 ?_)); simp -implicitDefEqProofs only [hk, hj, hg1, hx1, hg2, hx2, decide_true, go_sem]) | (with_reducible refine Fork.mk ?_ ?_) | (with_reducible refine And.intro ?_ ?_) | ((with_reducible refine rpI ?_); simp -implicitDefEqProofs only [r282, push_cast, go_sem_proc]) | intro _)
  ·simp -implicitDefEqProofs only [s282, hk, hg1, hx1, hj, decide_true, decide_false, go_sem]
   repeat' (first | ((first | ((with_reducible refine cgR h58 ?_ ?_); (·simp [norefL, noref, nrb, hnb])) | ((with_reducible apply cgF); (·simp -implicitDefEqProofs only [List.map_cons, List.map_nil, hnb, push_cast, go_sem_proc] <;> rfl); (with_reducible exact h58); (·rfl)) | (with_reducible refine F_q2 ?_)); simp -implicitDefEqProofs only [hk, hj, hg1, hx1, decide_true, decide_false, go_sem]) | (with_reducible refine Fork.mk ?_ ?_) | (with_reducible refine And.intro ?_ ?_) | ((with_reducible refine rpI ?_); simp -implicitDefEqProofs only [r282, push_cast, go_sem_proc]) | intro _)
   all_goals simp
 ·simp only [paS, if_neg hk]
  refine PCall.intro c282 400 (by simp) 20 ?_
  simp -implicitDefEqProofs only [s282, hk, decide_false, go_sem]
  repeat' (first | ((first | ((with_reducible first | refine cgR h63 ?_ ?_ | refine cgR h29 ?_ ?_ | refine cgR ha ?_ ?_ | refine cgR hb ?_ ?_); (·simp [norefL, noref, nrb, hnb])) | ((with_reducible apply cgF); (·simp -implicitDefEqProofs only [List.map_cons, List.map_nil, hnb, push_cast, go_sem_proc] <;> rfl); (with_reducible first | exact h63 | exact h29 | exact ha | exact hb); (·rfl)) | (with_reducible refine F_q2 ?_)); simp -implicitDefEqProofs only [hk, decide_false, go_sem]) | (with_reducible refine Fork.mk ?_ ?_) | (with_reducible refine And.intro ?_ ?_) | ((with_reducible refine rpI ?_); simp -implicitDefEqProofs only [r282, push_cast, go_sem_proc]) | intro _)
  all_goals (try (generalize paL X (MK K) ro a = A at *; generalize paL X (MK K) ro b = B at *; generalize ((rolesS k r t ps).any fun y => decide (ro = y)) = C at *; simp_all))
theorem t232s (X : List Pr) (K : List (List Bool)) (ro : ByteArray) (l : List St) (n : Int)
  (h : ∀ x ∈ num l n, PCall Tryz.prog 123 [encN X x, .rptr [.str ro], .rptr [.fs (K.map encB)]] (·= .bool (paS X (MK K) ro x.1))) :
  PCall Tryz.prog 45 [.fs ((num l n).map (encN X)), .str ro, .fs (K.map encB)] (·= .bool (paL X (MK K) ro l)) := by
 have hnb := norefL_encB K
 have h278 := t278 X (num l n) 123 [] [.rptr [.str ro], .rptr [.fs (K.map encB)]] (fun x => paS X (MK K) ro x.1) rfl (by simp [norefL, noref, hnb]) (fun x hx => h x hx)
 have hall : (num l n).any (fun x => paS X (MK K) ro x.1) = paL X (MK K) ro l := by
  rw [paL_any0]
  clear h h278
  induction l generalizing n with
  | nil => rfl
  | cons s l ih => simp only [num, List.any_cons, ih]
 rw [hall] at h278
 refine PCall.intro c232 100 (by simp) 20 ?_
 simp -implicitDefEqProofs only [s232, go_sem]
 repeat' (first | ((first | ((with_reducible refine cgR h278 ?_ ?_); (·simp [norefL, noref, nrb, hnb])) | ((with_reducible apply cgF); (·simp -implicitDefEqProofs only [List.map_cons, List.map_nil, hnb, push_cast, go_sem_proc] <;> rfl); (with_reducible exact h278); (·rfl)) | (with_reducible refine F_q2 ?_)); simp -implicitDefEqProofs only [go_sem]) | (with_reducible refine Fork.mk ?_ ?_) | (with_reducible refine And.intro ?_ ?_) | ((with_reducible refine rpI ?_); simp -implicitDefEqProofs only [r232, push_cast, go_sem_proc]) | intro _)
theorem t232 (X : List Pr) (K : List (List Bool)) (hS : KS X K) (ro : ByteArray) : ∀ (m : Nat) (l : List St), SizeOf.sizeOf l < m → okL2 X l = true → ∀ n : Int,
  PCall Tryz.prog 45 [.fs ((num l n).map (encN X)), .str ro, .fs (K.map encB)] (·= .bool (paL X (MK K) ro l))
 | 0, l, h => absurd h (Nat.not_lt_zero _)
 | m + 1, l, hm => fun hok n => t232s X K ro l n (fun x hx => by
  have hmem := num_mem hx
  have hos := okL2umem hok _ hmem
  have hs := List.sizeOf_lt_of_mem hmem
  obtain ⟨s, i⟩ := x
  rcases s with ⟨k, r, t, v, lb, ⟨ek, en, es, eas⟩, a, b, p, ps⟩
  simp only [St.mk.sizeOf_spec] at hs
  have hos' := hos
  simp only [okS2, Bool.and_eq_true] at hos'
  exact t282s X K hS ro k r t v lb ek en es eas a b p ps i hos (t232 X K hS ro m a (by omega) hos'.2.1 _) (t232 X K hS ro m b (by omega) hos'.2.2 _))
def ksE (js : List Nat) (K : List (List Bool)) : List V := List.zipWith (fun j (l : List Bool) => V.ms j 0 l.length) js K
theorem ksE_len {js : List Nat} {K : List (List Bool)} (h : js.length = K.length) : (ksE js K).length = K.length := by simp [ksE, h]
theorem ksE_get {js : List Nat} {K : List (List Bool)} {i j : Nat} {l : List Bool} (h1 : js[i]? = some j) (h2 : K[i]? = some l) : (ksE js K)[i]? = some (.ms j 0 l.length) := by
 simp [ksE, List.getElem?_zipWith, h1, h2]
theorem ksE_set {js : List Nat} {K : List (List Bool)} {i : Nat} {l l' : List Bool} (h : K[i]? = some l) (hl : l'.length = l.length) : ksE js (K.set i l') = ksE js K := by
 apply List.ext_getElem?
 intro m
 simp only [ksE, List.getElem?_zipWith, List.getElem?_set]
 by_cases hm : i = m
 ·subst hm
  have := (List.getElem?_eq_some_iff.1 h).1
  simp only [if_true, this, h]
  cases js[i]? <;> simp [hl]
 ·simp [hm]
structure KQ (X : List Pr) (b0 : Blk) (H : List Blk) (js : List Nat) (kv : V) (K : List (List Bool)) : Prop where
 len : js.length = K.length
 nd : js.Nodup
 row : ∀ (i : Nat) j l, js[i]? = some j → K[i]? = some l → H[j]? = some (.row (l.map .bool))
 ov : OV H kv (ksE js K)
 ne : ∀ j ∈ js, kvne kv j ∧ j ≠ 0
 k0 : kvne kv 0
 h0 : H[0]? = some b0
theorem KQ.app {X : List Pr} {b0 : Blk} {H : List Blk} {js : List Nat} {kv : V} {K : List (List Bool)} (h : KQ X b0 H js kv K) (J : List Blk) : KQ X b0 (H ++ J) js kv K where
 len := h.len
 nd := h.nd
 row i j l h1 h2 := by
  have := h.row i j l h1 h2
  rw [List.getElem?_append_left (List.getElem?_eq_some_iff.1 this).1]; exact this
 ov := h.ov.app J
 ne := h.ne
 k0 := h.k0
 h0 := by rw [List.getElem?_append_left (List.getElem?_eq_some_iff.1 h.h0).1]; exact h.h0
theorem KQ.put {X : List Pr} {b0 : Blk} {H : List Blk} {js : List Nat} {kv : V} {K : List (List Bool)} (h : KQ X b0 H js kv K) {i j : Nat} {l l' : List Bool} (hj : js[i]? = some j) (hl : K[i]? = some l) (hll : l'.length = l.length) :
  KQ X b0 (H.set j (.row (l'.map .bool))) js kv (K.set i l') where
 len := by simp [h.len]
 nd := h.nd
 row i2 j2 l2 h1 h2 := by
  have hjl := (List.getElem?_eq_some_iff.1 (h.row i j l hj hl)).1
  rw [List.getElem?_set] at h2 ⊢
  by_cases hi : i = i2
  ·subst hi
   rw [hj] at h1; cases h1
   have := (List.getElem?_eq_some_iff.1 hl).1
   simp only [if_true, this] at h2
   cases h2
   simp [hjl]
  ·rw [if_neg hi] at h2
   have hne : j ≠ j2 := by
    rintro rfl
    have e1 := List.getElem?_eq_some_iff.1 hj
    have e2 := List.getElem?_eq_some_iff.1 h1
    exact hi ((List.getElem_inj (h₀ := e1.1) (h₁ := e2.1) h.nd).1 (by rw [e1.2, e2.2]))
   rw [if_neg hne]; exact h.row i2 j2 l2 h1 h2
 ov := by rw [ksE_set hl hll]; exact h.ov.set (h.ne j (List.mem_of_getElem? hj)).1
 ne := h.ne
 k0 := h.k0
 h0 := by rw [List.getElem?_set_ne (h.ne j (List.mem_of_getElem? hj)).2]; exact h.h0
theorem KQ.get {X : List Pr} {b0 : Blk} {H : List Blk} {js : List Nat} {kv : V} {K : List (List Bool)} (h : KQ X b0 H js kv K) {i : Nat} (hi : i < K.length) :
  ∃ id j l, kv = .ms id 0 K.length ∧ H[id]? = some (.row (ksE js K)) ∧ js[i]? = some j ∧ K[i]? = some l ∧ (ksE js K).getD i .any = .ms j 0 l.length ∧ H[j]? = some (.row (l.map .bool)) := by
 have hl : K[i]? = some K[i] := List.getElem?_eq_getElem hi
 have hj : js[i]? = some (js[i]'(by rw [h.len]; exact hi)) := List.getElem?_eq_getElem _
 have hne : ksE js K ≠ [] := fun he => by have := ksE_len h.len; rw [he] at this; simp at this; omega
 rcases h.ov with ⟨h1, _⟩ | ⟨_, id, h1, h2⟩
 ·exact absurd h1 hne
 ·refine ⟨id, _, _, by rw [h1, ksE_len h.len], h2, hj, hl, ?_, h.row i _ _ hj hl⟩
  rw [List.getD_eq_getElem?_getD, ksE_get hj hl]; rfl
theorem fz_ksE {H : List Blk} (n : Nat) : ∀ {js : List Nat} {K : List (List Bool)}, js.length = K.length → (∀ (i : Nat) j l, js[i]? = some j → K[i]? = some l → H[j]? = some (.row (l.map .bool))) → fzL (fz H (n + 2)) (ksE js K) = some (K.map encB)
 | [], [], _, _ => by simp [ksE, fzL]
 | j :: js, l :: K, h, hr => by
  have ih := fz_ksE n (js := js) (K := K) (by simpa using h) (fun i j' l' h1 h2 => hr (i + 1) j' l' (by simpa using h1) (by simpa using h2))
  simp only [ksE] at ih
  simp only [ksE, List.zipWith_cons_cons, fzL_cons, ih, List.map_cons]
  rw [fz_ms, hr 0 j l rfl rfl, fzM_row, if_pos (by simp), List.drop_zero, List.take_of_length_le (by simp), fz_bools]
  simp [fzC_some, encB]
 | [], l :: K, h, _ => by simp at h
 | j :: js, [], h, _ => by simp at h
theorem KQ.fz {X : List Pr} {b0 : Blk} {H : List Blk} {js : List Nat} {kv : V} {K : List (List Bool)} (h : KQ X b0 H js kv K) (n : Nat) : Av.fz H (n + 3) kv = some (.fs (K.map encB)) := by
 have hz := fz_ksE (H := H) n h.len h.row
 rcases h.ov with ⟨h1, rfl⟩ | ⟨_, id, rfl, h2⟩
 ·rw [fz_nils]
  have := ksE_len h.len
  rw [h1] at this
  have : K = [] := List.eq_nil_of_length_eq_zero (by simpa using this.symm)
  simp [this]
 ·rw [fz_ms, h2, fzM_row, if_pos (by simp), List.drop_zero, List.take_of_length_le (by simp), hz]
  rfl
theorem KQ.freeze {X : List Pr} {b0 : Blk} {H : List Blk} {js : List Nat} {kv : V} {K : List (List Bool)} (h : KQ X b0 H js kv K) (J : List Blk) : ∃ D, Av.fz (keepL D (H ++ J)) 20 kv = some (.fs (K.map encB)) ∧ (∀ i, H.length ≤ i → (killL D (H ++ J))[i]? = (H ++ J)[i]?) ∧ (killL D (H ++ J))[0]? = some b0 := by
 have hA := h.app J
 rcases h.ov with ⟨h1, rfl⟩ | ⟨_, id, rfl, h2⟩
 ·refine ⟨[], ?_, fun i _ => rfl, hA.h0⟩
  rw [fz_nils]
  have := ksE_len h.len
  rw [h1] at this
  have : K = [] := List.eq_nil_of_length_eq_zero (by simpa using this.symm)
  simp [this]
 ·have hid := (List.getElem?_eq_some_iff.1 h2).1
  have hjl : ∀ j ∈ js, j < H.length := fun j hj => by
   obtain ⟨i, hi⟩ := List.getElem?_of_mem hj
   have hil := (List.getElem?_eq_some_iff.1 hi).1
   have := h.row i j _ hi (List.getElem?_eq_getElem (by rw [← h.len]; exact hil))
   exact (List.getElem?_eq_some_iff.1 this).1
  have hid0 : id ≠ 0 := fun e => h.k0 0 (ksE js K).length (by rw [e])
  refine ⟨id :: js, ?_, fun i hi => ?_, ?_⟩
  ·have hk : ∀ j, j ∈ id :: js → (keepL (id :: js) (H ++ J))[j]? = (H ++ J)[j]? := fun j hj => by
    rw [keepL_get]
    have : (id :: js).contains j = true := by simpa using hj
    rw [this]
    cases hx : (H ++ J)[j]? <;> simp
   have h2' : (H ++ J)[id]? = some (.row (ksE js K)) := by rw [List.getElem?_append_left hid]; exact h2
   have hz := fz_ksE (H := keepL (id :: js) (H ++ J)) 17 h.len (fun i j l hi hl => by rw [hk j (List.mem_cons_of_mem _ (List.mem_of_getElem? hi))]; exact hA.row i j l hi hl)
   rw [fz_ms, hk id (by simp), h2', fzM_row, if_pos (by simp), List.drop_zero, List.take_of_length_le (by simp), hz]
   rfl
  ·rw [killL_get, if_neg]
   rintro ⟨hc, _⟩
   have : i ∈ id :: js := by simpa using hc
   rcases List.mem_cons.1 this with rfl | hm
   ·omega
   ·have := hjl i hm; omega
  ·rw [killL_get, if_neg]
   ·exact hA.h0
   ·rintro ⟨hc, _⟩
    have : 0 ∈ id :: js := by simpa using hc
    rcases List.mem_cons.1 this with h' | hm
    ·exact hid0 h'.symm
    ·exact (h.ne 0 hm).2 rfl
structure GV (H : List Blk) (o : Nat) (vs : List V) (R : List (List Int)) : Prop where
 row : H[o]? = some (.row vs)
 len : vs.length = R.length
 ov : ∀ (i : Nat) v l, vs[i]? = some v → R[i]? = some l → OV H v (l.map (.int .i64))
 ne : ∀ (i : Nat) v, vs[i]? = some v → kvne v o
 dj : ∀ (i j : Nat) v v', i ≠ j → vs[i]? = some v → vs[j]? = some v' → Av.dj v v'
theorem GV.init {H : List Blk} {o n : Nat} (h : H[o]? = some (.row (List.replicate n .nils))) : GV H o (List.replicate n .nils) (List.replicate n []) where
 row := h
 len := by simp
 ov i v l h1 h2 := by
  rw [List.getElem?_replicate] at h1 h2
  split at h1 <;> simp_all
  cases h1; cases h2; exact .inl ⟨rfl, rfl⟩
 ne i v h1 := by
  rw [List.getElem?_replicate] at h1
  split at h1
  ·cases h1; intro a b h; cases h
  ·cases h1
 dj i j v v' _ h1 _ := by
  rw [List.getElem?_replicate] at h1
  split at h1
  ·cases h1; intro id; left; intro a b h; cases h
  ·cases h1
theorem GV.app {H : List Blk} {o : Nat} {vs : List V} {R : List (List Int)} (h : GV H o vs R) (J : List Blk) : GV (H ++ J) o vs R where
 row := by rw [List.getElem?_append_left (List.getElem?_eq_some_iff.1 h.row).1]; exact h.row
 len := h.len
 ov i v l h1 h2 := (h.ov i v l h1 h2).app J
 ne := h.ne
 dj := h.dj
theorem GV.put {H H' : List Blk} {o : Nat} {vs : List V} {R : List (List Int)} (h : GV H o vs R) {i : Nat} {v kv' : V} {l l' : List Int} (hv : vs[i]? = some v) (hl : R[i]? = some l) (hov : OV H' kv' (l'.map (.int .i64))) (hle : H.length ≤ H'.length)
  (hfr : ∀ j, j < H.length → kvne v j → H'[j]? = H[j]? ∧ kvne kv' j) : GV (H'.set o (.row (vs.set i kv'))) o (vs.set i kv') (R.set i l') := by
 have hol := (List.getElem?_eq_some_iff.1 h.row).1
 have hil := (List.getElem?_eq_some_iff.1 hv).1
 have hio := h.ne i v hv
 obtain ⟨ho1, ho2⟩ := hfr o hol hio
 have hoth : ∀ (j : Nat) w m, j ≠ i → vs[j]? = some w → R[j]? = some m → OV H' w (m.map (.int .i64)) ∧ Av.dj w kv' := fun j w m hj hw hm => by
  have hd := h.dj i j v w (Ne.symm hj) hv hw
  have hovw := h.ov j w m hw hm
  refine ⟨hovw.frame (fun id o' n hwid hid => ?_), fun id => ?_⟩
  ·rcases hd id with hd | hd
   ·exact (hfr id hid hd).1
   ·exact absurd hwid (hd o' n)
  ·rcases hd id with hd | hd
   ·by_cases hid : id < H.length
    ·exact .inr (hfr id hid hd).2
    ·exact .inl (hovw.lt (by omega))
   ·exact .inl hd
 constructor
 ·rw [List.getElem?_set]; simp; try omega
 ·simp [h.len]
 ·intro j w m h1 h2
  rw [List.getElem?_set] at h1 h2
  by_cases hj : i = j
  ·subst hj
   have hrl := (List.getElem?_eq_some_iff.1 hl).1
   simp only [if_true, hil, hrl] at h1 h2
   cases h1; cases h2
   exact hov.set ho2
  ·rw [if_neg hj] at h1 h2
   exact (hoth j w m (Ne.symm hj) h1 h2).1.set (h.ne j w h1)
 ·intro j w h1
  rw [List.getElem?_set] at h1
  by_cases hj : i = j
  ·subst hj
   simp only [if_true, hil] at h1
   cases h1; exact ho2
  ·rw [if_neg hj] at h1; exact h.ne j w h1
 ·intro j j' w w' hjj h1 h2
  rw [List.getElem?_set] at h1 h2
  have hget : ∀ (m : Nat) x, vs[m]? = some x → ∃ r, R[m]? = some r := fun m x hx => ⟨R[m]'(by rw [← h.len]; exact (List.getElem?_eq_some_iff.1 hx).1), List.getElem?_eq_getElem _⟩
  by_cases hj : i = j
  ·subst hj
   rw [if_neg hjj] at h2
   simp only [if_true, hil] at h1
   cases h1
   obtain ⟨r, hr⟩ := hget j' w' h2
   have := (hoth j' w' r (Ne.symm hjj) h2 hr).2
   exact fun id => (this id).symm
  ·rw [if_neg hj] at h1
   by_cases hj' : i = j'
   ·subst hj'
    simp only [if_true, hil] at h2
    cases h2
    obtain ⟨r, hr⟩ := hget j w h1
    exact (hoth j w r hjj h1 hr).2
   ·rw [if_neg hj'] at h2
    exact h.dj j j' w w' hjj h1 h2
def encI (l : List Int) : V := .fs (l.map (.int .i64))
theorem GV.fz {H : List Blk} {o : Nat} {vs : List V} {R : List (List Int)} (h : GV H o vs R) (n : Nat) : Av.fz H (n + 3) (.ms o 0 R.length) = some (.fs (R.map encI)) := by
 have hz : ∀ (vs : List V) (R : List (List Int)), vs.length = R.length → (∀ (i : Nat) v l, vs[i]? = some v → R[i]? = some l → OV H v (l.map (.int .i64))) → fzL (Av.fz H (n + 2)) vs = some (R.map encI) := by
  intro vs
  induction vs with
  | nil => intro R hl _; cases R with | nil => simp [fzL] | cons => simp at hl
  | cons v vs ih =>
   intro R hl ho
   cases R with
   | nil => simp at hl
   | cons l R =>
    have h1 := ih R (by simpa using hl) (fun i v' l' h1 h2 => ho (i + 1) v' l' (by simpa using h1) (by simpa using h2))
    have h2 : Av.fz H (n + 2) v = _ := fz_OV (f := V.int .i64) (n := n) (fun H x => fz_int _ _ _ x) (ho 0 v l rfl rfl)
    simp only [fzL_cons, h1, h2, List.map_cons, fzC_some, encI]
 rw [fz_ms, h.row, fzM_row, if_pos (by rw [h.len]; omega), List.drop_zero, List.take_of_length_le (by rw [h.len]; omega), hz vs R h.len h.ov]
 rfl
def flsK (K : List (List Bool)) : Nat := (K.map fls).sum
theorem flsK_set : ∀ {K : List (List Bool)} {i k : Nat} {l : List Bool}, K[i]? = some l → l[k]? = some false → flsK (K.set i (l.set k true)) + 1 = flsK K
 | [], i, k, l, h, _ => by simp at h
 | x :: K, 0, k, l, h, hk => by
  simp at h; subst h
  have := fls_set hk
  simp only [flsK, List.set_cons_zero, List.map_cons, List.sum_cons]; omega
 | x :: K, i + 1, k, l, h, hk => by
  have := flsK_set (K := K) (i := i) (by simpa using h) hk
  simp only [flsK, List.set_cons_succ, List.map_cons, List.sum_cons] at this ⊢; omega
def K0 (X : List Pr) : List (List Bool) := X.map fun q => List.replicate q.roles.length false
theorem K0uS (X : List Pr) : KS X (K0 X) := ⟨by simp [K0], fun i q h => by simp [K0, List.getD, List.getElem?_map, h]⟩
theorem K0uM (X : List Pr) : MK (K0 X) = fun _ _ => false := by
 funext i k
 simp only [MK, K0, List.getD, List.getElem?_map]
 cases X[i]? with
 | none => simp
 | some q => simp [List.getElem?_replicate]; split <;> rfl
theorem KS.set {X : List Pr} {K : List (List Bool)} (h : KS X K) {i k : Nat} {l : List Bool} (hl : K[i]? = some l) : KS X (K.set i (l.set k true)) := by
 refine ⟨by rw [List.length_set]; exact h.1, fun j q hq => ?_⟩
 have := h.2 j q hq
 rw [List.getD_eq_getElem?_getD] at this ⊢
 rw [List.getElem?_set]
 by_cases hij : i = j
 ·subst hij
  have hil := (List.getElem?_eq_some_iff.1 hl).1
  rw [hl] at this
  simp [hil] at this ⊢
  exact this
 ·rw [if_neg hij]; exact this
theorem MK_set {K : List (List Bool)} {i k : Nat} {l : List Bool} (hl : K[i]? = some l) (hk : k < l.length) (a b : Nat) : MK (K.set i (l.set k true)) a b = if a = i ∧ b = k then true else MK K a b := by
 have hil := (List.getElem?_eq_some_iff.1 hl).1
 simp only [MK, List.getD_eq_getElem?_getD, List.getElem?_set]
 by_cases ha : i = a
 ·subst ha
  simp only [hil, if_true, Option.getD_some, List.getElem?_set, hl]
  by_cases hb : k = b
  ·subst hb; simp [hk]
  ·rw [if_neg hb, if_neg (fun h => hb h.2.symm)]
 ·rw [if_neg ha, if_neg (fun h => ha h.1.symm)]
theorem PLo.set {X : List Pr} {K : List (List Bool)} (h : PLo X (MK K)) {i k : Nat} {l : List Bool} {q : Pr} {r : ByteArray} (hl : K[i]? = some l) (hk : k < l.length) (hq : X[i]? = some q) (hr : q.roles[k]? = some r) (hp : paL X (MK K) r q.steps = true) :
  PLo X (MK (K.set i (l.set k true))) := fun C hC a b hab => by
 rw [MK_set hl hk] at hab
 split at hab
 ·rename_i he
  obtain ⟨rfl, rfl⟩ := he
  exact hC a q b r hq hr (paL_mono (h C hC) r _ hp)
 ·exact h C hC a b hab
theorem KQ.init (X : List Pr) (b0 : Blk) : KQ X b0 [b0] [] .nils [] where
 len := rfl
 nd := List.nodup_nil
 row i j l h := by simp at h
 ov := .inl ⟨rfl, rfl⟩
 ne j h := by simp at h
 k0 := fun a b h => by cases h
 h0 := rfl
theorem KQ.grow {X : List Pr} {b0 : Blk} {H H' : List Blk} {js : List Nat} {kv kv' : V} {K : List (List Bool)} (h : KQ X b0 H js kv K) (J : List Blk) {j : Nat} {l : List Bool} (hj : H.length ≤ j) (hrow : (H ++ J)[j]? = some (.row (l.map .bool)))
  (hov : OV H' kv' (ksE js K ++ [.ms j 0 l.length])) (hfr : ∀ i, i < (H ++ J).length → kvne kv i → H'[i]? = (H ++ J)[i]? ∧ kvne kv' i) : KQ X b0 H' (js ++ [j]) kv' (K ++ [l]) := by
 have hA := h.app J
 have h0l := (List.getElem?_eq_some_iff.1 hA.h0).1
 have hjl := (List.getElem?_eq_some_iff.1 hrow).1
 have hold : ∀ (i m : Nat) l', js[i]? = some m → K[i]? = some l' → m < H.length := fun i m l' h1 h2 => (List.getElem?_eq_some_iff.1 (h.row i m l' h1 h2)).1
 have hjs : ∀ m ∈ js, m < H.length := fun m hm => by
  obtain ⟨i, hi⟩ := List.getElem?_of_mem hm
  have hil := (List.getElem?_eq_some_iff.1 hi).1
  exact hold i m _ hi (List.getElem?_eq_getElem (by rw [← h.len]; exact hil))
 have hH0 := (List.getElem?_eq_some_iff.1 h.h0).1
 constructor
 ·simp [h.len]
 ·rw [List.nodup_append]
  refine ⟨h.nd, by simp, fun a ha b hb => ?_⟩
  simp at hb; subst hb
  have := hjs a ha; omega
 ·intro i m l' h1 h2
  by_cases hi : i < js.length
  ·rw [List.getElem?_append_left hi] at h1
   rw [List.getElem?_append_left (by rw [← h.len]; exact hi)] at h2
   have := hold i m l' h1 h2
   rw [(hfr m (by simp; omega) (h.ne m (List.mem_of_getElem? h1)).1).1]
   exact hA.row i m l' h1 h2
  ·have hi' : i = js.length := by have := (List.getElem?_eq_some_iff.1 h1).1; simp at this; omega
   subst hi'
   simp at h1; subst h1
   rw [h.len] at h2; simp at h2; subst h2
   rw [(hfr j hjl (h.ov.lt hj)).1]; exact hrow
 ·have : ksE (js ++ [j]) (K ++ [l]) = ksE js K ++ [.ms j 0 l.length] := by
   simp only [ksE]; rw [List.zipWith_append h.len]; rfl
  rw [this]; exact hov
 ·intro m hm
  rcases List.mem_append.1 hm with hm | hm
  ·have := hjs m hm
   exact ⟨(hfr m (by simp; omega) (h.ne m hm).1).2, (h.ne m hm).2⟩
  ·simp at hm; subst hm
   exact ⟨(hfr m hjl (h.ov.lt hj)).2, by omega⟩
 ·exact (hfr 0 h0l h.k0).2
 ·rw [(hfr 0 h0l h.k0).1]; exact hA.h0
theorem headOk_ksE (js : List Nat) (K : List (List Bool)) : headOk 1 (ksE js K) := by
 intro e he
 cases js with
 | nil => simp [ksE] at he
 | cons j js => cases K with
  | nil => simp [ksE] at he
  | cons l K => simp [ksE] at he; subst he; rfl
noncomputable def paV (P : Pla) : V := if ckF P = 0 then .tup [.fs ((parR (parOf P.procs) P.procs 0).map encI), .int .i64 0] else .tup [.fs [], .int .i64 (ckF P)]
def selB (l : List Bool) : List Int := selI (fun k => l.getD k false) l.length
theorem selB_par {X : List Pr} {K : List (List Bool)} (hS : KS X K) : K.map selB = parR (MK K) X 0 := by
 apply List.ext_getElem?
 intro i
 rw [List.getElem?_map]
 cases hq : X[i]? with
 | none =>
  have h1 := List.getElem?_eq_none_iff.1 hq
  rw [List.getElem?_eq_none (by rw [hS.1]; exact h1), List.getElem?_eq_none (by rw [parR_len]; exact h1)]
  rfl
 | some q =>
  rw [parR_get _ _ _ _ _ hq]
  have hi := (List.getElem?_eq_some_iff.1 hq).1
  have hl := hS.2 i q hq
  rw [List.getElem?_eq_getElem (by rw [hS.1]; exact hi)]
  simp only [Option.map_some, selB, Nat.zero_add]
  rw [List.getD_eq_getElem?_getD, List.getElem?_eq_getElem (by rw [hS.1]; exact hi)] at hl
  simp only [Option.getD_some] at hl
  rw [hl]
  congr 1
  congr 1
  funext k
  simp only [MK, List.getD_eq_getElem?_getD, List.getElem?_eq_getElem (show i < K.length by rw [hS.1]; exact hi), Option.getD_some]
end Go.Proofs.YtdgoeblpcnjlbaaGreatDoor.Av
