/- Proved: for every list of numbers the law WaysFollowed answers true and leaves its argument as it was (the tied card); no condition beyond the row's own. Text 12 of 15. -/
import Derived.Test.YtdgoeblpcnjlbaaGreatDoorW11
set_option linter.unusedVariables false
set_option linter.unusedSimpArgs false
set_option linter.unusedSectionVars false
set_option linter.all false
namespace Go.Proofs.YtdgoeblpcnjlbaaGreatDoor.Av
open Go.RowKit
def bodL (X : List Pr) : List Pr → Int → List V
 | [], _ => []
 | q :: l, n => .fs ((num q.steps n).map (encN X)) :: bodL X l (n + cnts q.steps)
theorem bodL_append (X : List Pr) : ∀ (a b : List Pr) (n : Int), bodL X (a ++ b) n = bodL X a n ++ bodL X b (n + cntP a)
 | [], b, n => by simp [bodL, cntP]
 | x :: a, b, n => by
  rw [List.cons_append, bodL, bodL, bodL_append X a b, cntP, List.cons_append]
  congr 3; omega
theorem bodL_length (X : List Pr) : ∀ (l : List Pr) (n : Int), (bodL X l n).length = l.length
 | [], n => rfl
 | x :: l, n => by simp [bodL, bodL_length X l]
def fsv (l : List V) : Prop := ∀ v ∈ l, ∃ es, v = .fs es ∧ norefL es = true
theorem bodL_fsv (X : List Pr) : ∀ (l : List Pr) (n : Int), fsv (bodL X l n)
 | [], n, v, h => by simp [bodL] at h
 | q :: l, n, v, h => by
  simp only [bodL, List.mem_cons] at h
  rcases h with rfl | h
  ·exact ⟨_, rfl, norefL_encN X _⟩
  ·exact bodL_fsv X l _ v h
theorem fsv_noref : ∀ {l : List V}, fsv l → norefL l = true
 | [], _ => by simp [norefL]
 | v :: l, h => by
  obtain ⟨es, rfl, he⟩ := h v (by simp)
  have h' : fsv l := fun u hu => h u (List.mem_cons_of_mem _ hu)
  simp only [norefL, noref, he, fsv_noref h', Bool.and_self]
theorem fsv_fz (H : List Blk) (n : Nat) : ∀ {l : List V}, fsv l → fzL (fz H (n + 1)) l = some l
 | [], _ => by simp [fzL_nil]
 | v :: l, h => by
  obtain ⟨es, rfl, he⟩ := h v (by simp)
  have h' : fsv l := fun u hu => h u (List.mem_cons_of_mem _ hu)
  rw [fzL_cons, fz_fs, fsv_fz H n h']
  simp [he, fzC_some]
theorem fsv_head {l : List V} (h : fsv l) : headOk 1 l := by
 intro e he
 cases l with
 | nil => simp at he
 | cons x l => simp at he; subst he; obtain ⟨es, rfl, _⟩ := h x (by simp); rfl
theorem OV.fzv {H : List Blk} {kv : V} {l : List V} (h : OV H kv l) (hl : fsv l) (n : Nat) : Av.fz H (n + 2) kv = some (.fs l) := by
 rcases h with ⟨h1, rfl⟩ | ⟨_, id, rfl, hid⟩
 ·rw [fz_nils, h1]
 ·rw [fz_ms, hid, fzM_row, if_pos (by simp), List.drop_zero, List.take_of_length_le (by simp), fsv_fz H n hl]
  rfl
theorem fz_bools (H : List Blk) (n : Nat) (E : List Bool) : fzL (fz H (n + 1)) (E.map .bool) = some (E.map .bool) := fzL_map _ _ (fun x => fz_bool _ _ x) E
attribute [push_cast] fz_bools
def bkP (P : Pla) (E : List Bool) : List V := bkC (.fs (P.procs.map encP)) (.fs (P.main.map encS)) (.fs ((num P.main 0).map (encN P.procs))) (.fs (bodL P.procs P.procs (cnts P.main))) E
def okP (P : Pla) : Prop := okL P.procs P.main = true ∧ ∀ q ∈ P.procs, okL P.procs q.steps = true
set_option maxRecDepth 20000 in
theorem t317 (P : Pla) : ∀ (m : Nat) (xs : List St), SizeOf.sizeOf xs < m → ∀ n : Int, 0 ≤ n → n + cnts xs ≤ 1000000 →
  PCall Tryz.prog 179 [encPl P, .fs (xs.map encS), .int .i64 n] (·= .tup [.fs ((num xs n).map (encN P.procs)), .int .i64 (n + cnts xs)])
 | 0, xs, h => absurd h (Nat.not_lt_zero _)
 | m + 1, xs, hm => fun n h0 hn => t317s P xs n h0 hn (fun k r t v l e a b p ps hmem n h0 => by
  have hs := List.sizeOf_lt_of_mem hmem
  simp only [St.mk.sizeOf_spec] at hs
  exact ⟨fun hc => t317 P m a (by omega) n h0 hc, fun hc => t317 P m b (by omega) n h0 hc⟩)
set_option maxRecDepth 20000 in
set_option maxHeartbeats 2000000 in
theorem t277 (P : Pla) (hc : total P ≤ 1000000) (hpn : P.procs.length ≤ 1000000) (hok : okP P) : PCall Tryz.prog 117 [encPl P] (·= .rptr (bkP P (endsOf P.procs))) := by
 rcases P with ⟨xs, main⟩
 have hT : total ⟨xs, main⟩ = cnts main + cntP xs := rfl
 rw [hT] at hc
 have h317 := t317 ⟨xs, main⟩
 have hm := h317 _ main (Nat.lt_succ_self _) 0 (by omega) (by omega)
 simp only [encPl, Int.zero_add] at h317 hm
 simp only at hpn
 refine PCall.intro c277 600 (by simp) 20 ?_
 simp -implicitDefEqProofs only [s277, encPl, go_sem]
 repeat' (first | ((first | ((with_reducible refine cgR hm ?_ ?_); (·simp [norefL, noref, nrb])) | ((with_reducible apply cgF); (·simp -implicitDefEqProofs only [List.map_cons, List.map_nil, push_cast, go_sem_proc] <;> rfl); (with_reducible exact hm); (·rfl)) | (with_reducible refine F_q2 ?_)); simp -implicitDefEqProofs only [go_sem]) | (with_reducible refine Fork.mk ?_ ?_) | (with_reducible refine And.intro ?_ ?_) | ((with_reducible refine rpI ?_); simp -implicitDefEqProofs only [r277, push_cast, go_sem_proc]) | intro _)
 ·omega
 ·omega
 rename_i hlen
 have hnm : norefL ((num main 0).map (encN xs)) = true := norefL_encN xs _
 generalize hmn : (num main 0).map (encN xs) = mn at *
 refine F_loop (fun m e H => ∃ pre post kv J, xs = pre ++ post ∧ m = post.length ∧ e 1 = .ptr 0 0 0 ∧ e 3 = .ptr 2 0 0 ∧ e 4 = .int .i64 ((cnts main : Int) + cntP pre) ∧ e 29 = .fs (xs.map encP) ∧ e 30 = .int .i64 xs.length ∧ e 31 = .int .i64 pre.length ∧
  H = Blk.row [.agg [.fs (xs.map encP), .fs (main.map encS)]] :: Blk.row (List.replicate xs.length (.bool false)) :: Blk.row [.agg [.fs (xs.map encP), .fs (main.map encS), .fs mn, kv, .ms 1 0 xs.length]] :: J ∧ OV H kv (bodL xs pre (cnts main)) ∧ kvne kv 0 ∧ kvne kv 1 ∧ kvne kv 2) xs.length ⟨[], xs, .nils, [], by simp [upd, env0], rfl, by simp [upd, env0], by simp [upd, env0], by simp [upd, env0, cntP], by simp [upd, env0], by simp [upd, env0], by simp [upd, env0], rfl, .inl ⟨rfl, rfl⟩, (fun a b h => by cases h), (fun a b h => by cases h), (fun a b h => by cases h)⟩ ?_
 rintro m e H ⟨pre, post, kv, J, hxs, rfl, h1, h3, h4, h29, h30, h31, rfl, hov, hk0, hk1, hk2⟩
 have hone : V.one kv = true := hov.vone
 simp only [V.one] at hone
 have hc1 := hov.one
 cases post with
 | nil =>
  have hpx : pre = xs := by rw [hxs]; simp
  rw [hpx] at hov
  simp -implicitDefEqProofs only [h1, h3, h4, h29, h30, h31, mid_not hxs, hone, hc1, go_sem]
  clear h1 h4 h29 h30 h31 hxs hpx hone
  have hrep : List.replicate xs.length (V.bool false) = (List.replicate xs.length false).map V.bool := by simp
  rw [hrep] at hov ⊢
  have hbl := bodL_length xs xs (cnts main)
  have hfs := bodL_fsv xs xs (cnts main)
  generalize hBL : bodL xs xs (cnts main) = BL at *
  have hovE : ∀ (E : List Bool), OV (Blk.row [.agg [.fs (xs.map encP), .fs (main.map encS)]] :: Blk.row (E.map .bool) :: Blk.row [.agg [.fs (xs.map encP), .fs (main.map encS), .fs mn, kv, .ms 1 0 xs.length]] :: J) kv BL := fun E => hov.set (x := Blk.row (E.map .bool)) hk1
  have htk : ∀ (E : List Bool), E.length = xs.length → List.take xs.length (E.map V.bool) = E.map .bool := fun E hE => List.take_of_length_le (by simp [hE])
  have hzB := fun E => (hovE E).fzv hfs 17
  have hend : ∀ E, Lo xs E → Cl xs E → bkP ⟨xs, main⟩ (endsOf xs) = [.fs (xs.map encP), .fs (main.map encS), .fs mn, .fs BL, .fs (E.map .bool)] := fun E h1 h2 => by
   rw [← endsOf_eq h2 h1, bkP, bkC, ← hmn, ← hBL]
  refine F_loop (fun m e H => ∃ E mo, Lo xs E ∧ (mo = false → Cl xs E) ∧ m = 2 * fls E + (if mo then 1 else 0) ∧ e 3 = .ptr 2 0 0 ∧ e 8 = .bool mo ∧
   H = Blk.row [.agg [.fs (xs.map encP), .fs (main.map encS)]] :: Blk.row (E.map .bool) :: Blk.row [.agg [.fs (xs.map encP), .fs (main.map encS), .fs mn, kv, .ms 1 0 xs.length]] :: J) (2 * fls (List.replicate xs.length false) + 1) ⟨_, true, Lo.init xs, (fun h => by cases h), rfl, by simp [upd, h3], by simp [upd], rfl⟩ ?_
  rintro m e H ⟨E, mo, hlo, hcl, rfl, h3, h8, rfl⟩
  cases mo with
  | false =>
   simp -implicitDefEqProofs only [h3, h8, go_sem]
   simp -implicitDefEqProofs only [r277, h3, hzB, htk E hlo.1, hlo.1, hnm, if_true, hc1, push_cast, go_sem_proc]
   rw [hend E hlo (hcl rfl)]
  | true =>
   rcases hov with ⟨hbn, rfl⟩ | ⟨hbn, id, rfl, hid⟩
   ·have hx0 : xs = [] := by rw [← List.length_eq_zero_iff, ← hbl, hbn]; rfl
    subst hx0
    simp -implicitDefEqProofs only [h3, h8, hc1, go_sem]
    refine F_loop (fun m e H1 => e 3 = .ptr 2 0 0 ∧ e 8 = .bool false ∧ e 59 = .int .i64 0 ∧ e 60 = .int .i64 0 ∧ H1 = _) 0 ⟨by simp [upd, h3], by simp [upd], by simp [upd], by simp [upd], rfl⟩ ?_
    rintro m e H ⟨h3, h8, h59, h60, rfl⟩
    simp -implicitDefEqProofs only [h3, h8, h59, h60, Int.lt_irrefl, decide_false, go_sem]
    exact ⟨2 * fls E, by omega, E, false, hlo, (fun _ => ⟨hlo.1, fun i q h => by simp at h⟩), by simp, rfl, rfl⟩
   ·have hidE : ∀ (E : List Bool), (Blk.row [.agg [.fs (xs.map encP), .fs (main.map encS)]] :: Blk.row (E.map .bool) :: Blk.row [.agg [.fs (xs.map encP), .fs (main.map encS), .fs mn, .ms id 0 BL.length, .ms 1 0 xs.length]] :: J)[id]? = some (.row BL) := fun E => by
     rcases hovE E with ⟨_, h⟩ | ⟨_, id', h, h'⟩
     ·cases h
     ·injection h with h _ _; subst h; exact h'
    simp -implicitDefEqProofs only [h3, h8, hc1, go_sem]
    intro hlB
    rw [hbl] at hzB hidE ⊢
    refine F_loop (fun m e H => ∃ pre post E' mo, xs = pre ++ post ∧ m = post.length ∧ Lo xs E' ∧ (mo = true → fls E' < fls E) ∧ (mo = false → E' = E ∧ ∀ (i : Nat) q, pre[i]? = some q → thL (ecE xs E) q.steps = true → E[i]? = some true) ∧
     e 3 = .ptr 2 0 0 ∧ e 8 = .bool mo ∧ e 58 = .ms id 0 xs.length ∧ e 59 = .int .i64 xs.length ∧ e 60 = .int .i64 pre.length ∧
     H = Blk.row [.agg [.fs (xs.map encP), .fs (main.map encS)]] :: Blk.row (E'.map .bool) :: Blk.row [.agg [.fs (xs.map encP), .fs (main.map encS), .fs mn, .ms id 0 xs.length, .ms 1 0 xs.length]] :: J) xs.length
     ⟨[], xs, E, false, rfl, rfl, hlo, (fun h => by cases h), (fun _ => ⟨rfl, fun i q h => by simp at h⟩), by simp [upd, h3], by simp [upd], by simp [upd], by simp [upd], by simp [upd], rfl⟩ ?_
    rintro m e H ⟨pre, post, E', mo, hxs, rfl, hlo', hmt, hmf, h3, h8, h58, h59, h60, rfl⟩
    cases post with
    | nil =>
     have hpx : pre = xs := by rw [hxs]; simp
     simp -implicitDefEqProofs only [h3, h8, h58, h59, h60, mid_not hxs, go_sem]
     refine ⟨2 * fls E' + (if mo then 1 else 0), ?_, E', mo, hlo', (fun h => ?_), rfl, rfl, rfl⟩
     ·cases mo with
      | true => have := hmt rfl; simp; omega
      | false => have := (hmf rfl).1; subst this; simp
     ·obtain ⟨rfl, h'⟩ := hmf h
      exact ⟨hlo'.1, fun i q hq ht => h' i q (by rw [hpx]; exact hq) ht⟩
    | cons q post =>
     have hpl : pre.length < xs.length := by rw [hxs]; simp
     have hgB : BL.getD pre.length .any = .fs ((num q.steps ((cnts main : Int) + cntP pre)).map (encN xs)) := by
      rw [← hBL]
      have : bodL xs (pre ++ q :: post) (cnts main) = bodL xs pre (cnts main) ++ .fs ((num q.steps ((cnts main : Int) + cntP pre)).map (encN xs)) :: bodL xs post ((cnts main : Int) + cntP pre + cnts q.steps) := by rw [bodL_append]; rfl
      rw [← hxs] at this
      rw [this, List.getD_eq_getElem?_getD, List.getElem?_append_right (by rw [bodL_length]; omega), bodL_length]
      simp
     have hE' := hlo'.1
     have hgE : (E'.map V.bool).getD pre.length .any = .bool (E'.getD pre.length false) := by
      simp [List.getD, List.getElem?_map, List.getElem?_eq_getElem (show pre.length < E'.length by omega)]
     have h230 := t230 xs E' hE' (.fs (xs.map encP)) (.fs (main.map encS)) (.fs mn) (.fs BL) (by simp [noref, norefL_encP]) (by simp [noref, norefL_encS]) (by simp [noref, hnm]) (by simp only [noref]; exact fsv_noref hfs) _ q.steps (Nat.lt_succ_self _) (hok.2 q (by rw [hxs]; simp)) ((cnts main : Int) + cntP pre)
     simp only [bkC] at h230
     have hnq : norefL ((num q.steps ((cnts main : Int) + cntP pre)).map (encN xs)) = true := norefL_encN xs _
     generalize hqt : (num q.steps ((cnts main : Int) + cntP pre)).map (encN xs) = qt at *
     have hix : ixP pre.length E'.length := ⟨by omega, by simp; omega⟩
     have hix2 : ixP pre.length xs.length := ⟨by omega, by simp; omega⟩
     have hbE : E'[pre.length]? = some (E'.getD pre.length false) := by rw [List.getD_eq_getElem?_getD, List.getElem?_eq_getElem (by omega)]; rfl
     generalize hbv : E'.getD pre.length false = bv at *
     generalize htv : thL (ecE xs E') q.steps = tv at *
     have htB : BL.take xs.length = BL := List.take_of_length_le (by omega)
     have hfB : ∀ H n, fzL (fz H (n + 1)) BL = some BL := fun H n => fsv_fz H n hfs
     simp -implicitDefEqProofs only [h3, h8, h58, h59, h60, mid_lt hxs, mid_wrap hxs hlen, hidE, hgB, hgE, hix, hix2, hbl, hE', Nat.le_refl, hpl, go_sem]
     repeat' (first | ((first | ((with_reducible refine cgR h230 ?_ ?_); (·simp [norefL, noref, nrb, hidE E', hbl, htB, hfB, htk E' hE', fz_bools, Nat.le_refl, if_true, hE', hnm, hnq, List.drop_zero])) | ((with_reducible apply cgF); (·simp -implicitDefEqProofs only [List.map_cons, List.map_nil, hidE E', hbl, htB, hfB, htk E' hE', fz_bools, Nat.le_refl, if_true, hE', hnm, hnq, List.drop_zero, push_cast, go_sem_proc] <;> rfl); (with_reducible exact h230); (·rfl)) | (with_reducible refine F_q2 ?_)); simp -implicitDefEqProofs only [h3, h8, h58, h59, h60, mid_lt hxs, mid_wrap hxs hlen, hidE, hgB, hgE, hix, hix2, hbl, hE', Nat.le_refl, hpl, go_sem]) | (with_reducible refine Fork.mk ?_ ?_) | (with_reducible refine And.intro ?_ ?_) | ((with_reducible refine rpI ?_); simp -implicitDefEqProofs only [r277, push_cast, go_sem_proc]) | intro _)
     ·rename_i hb1 ht1
      have hb1 : bv = false := by simpa using hb1
      have ht1 : tv = true := by simpa using ht1
      subst hb1 ht1
      have hfl := fls_set hbE
      refine ⟨_, Nat.lt_succ_self _, pre ++ [q], post, E'.set pre.length true, true, by simp [hxs], rfl, hlo'.step (q := q) (by rw [hxs]; simp) htv, (fun _ => ?_), (fun h => by cases h), rfl, by simp, ?_⟩
      ·cases mo with
       | true => have := hmt rfl; omega
       | false => have := (hmf rfl).1; subst this; omega
      ·simp [List.map_set]
     ·rename_i hb1 ht1
      have hb1 : bv = false := by simpa using hb1
      have ht1 : tv = false := by simpa using ht1
      subst hb1 ht1
      refine ⟨_, Nat.lt_succ_self _, pre ++ [q], post, E', mo, by simp [hxs], rfl, hlo', hmt, (fun h => ?_), rfl, by simp, rfl⟩
      obtain ⟨rfl, h'⟩ := hmf h
      refine ⟨rfl, fun i q' hq' ht' => ?_⟩
      by_cases hi : i < pre.length
      ·rw [List.getElem?_append_left hi] at hq'; exact h' i q' hq' ht'
      ·rw [List.getElem?_append_right (by omega)] at hq'
       have : i - pre.length = 0 := by have := (List.getElem?_eq_some_iff.1 hq').1; simp at this; omega
       rw [this] at hq'; simp at hq'; subst hq'
       rw [htv] at ht'; cases ht'
     ·rename_i hb1
      have hb1 : bv = true := by simpa using hb1
      subst hb1
      refine ⟨_, Nat.lt_succ_self _, pre ++ [q], post, E', mo, by simp [hxs], rfl, hlo', hmt, (fun h => ?_), rfl, by simp, rfl⟩
      obtain ⟨rfl, h'⟩ := hmf h
      refine ⟨rfl, fun i q' hq' ht' => ?_⟩
      by_cases hi : i < pre.length
      ·rw [List.getElem?_append_left hi] at hq'; exact h' i q' hq' ht'
      ·rw [List.getElem?_append_right (by omega)] at hq'
       have : i - pre.length = 0 := by have := (List.getElem?_eq_some_iff.1 hq').1; simp at this; omega
       have : i = pre.length := by omega
       subst this
       exact hbE
 | cons q post =>
  have hg := mid_get encP hxs
  simp only [encP] at hg
  have hcq : cntP xs = cntP pre + (cnts q.steps + cntP post) := by rw [hxs, cntP_append, cntP]
  have hpl : pre.length ≤ xs.length := by rw [hxs]; simp
  have hfy : bodL xs (pre ++ [q]) (cnts main) = bodL xs pre (cnts main) ++ [.fs ((num q.steps ((cnts main : Int) + cntP pre)).map (encN xs))] := by
   rw [bodL_append]; rfl
  have hq := h317 _ q.steps (Nat.lt_succ_self _) ((cnts main : Int) + cntP pre) (by omega) (by omega)
  have hbl := bodL_length xs pre (cnts main)
  generalize hqt : (num q.steps ((cnts main : Int) + cntP pre)).map (encN xs) = qt at *
  simp -implicitDefEqProofs only [h1, h3, h4, h29, h30, h31, mid_lt hxs, mid_wrap hxs hlen, hone, hc1, hg, go_sem]
  repeat' (first | ((first | ((with_reducible refine cgR hq ?_ ?_); (·simp [norefL, noref, nrb])) | ((with_reducible apply cgF); (·simp -implicitDefEqProofs only [List.map_cons, List.map_nil, push_cast, go_sem_proc] <;> rfl); (with_reducible exact hq); (·rfl)) | (with_reducible refine F_q2 ?_)); simp -implicitDefEqProofs only [h1, h3, h4, h29, h30, h31, mid_lt hxs, mid_wrap hxs hlen, hone, hc1, hg, go_sem]) | (with_reducible refine Fork.mk ?_ ?_) | (with_reducible refine And.intro ?_ ?_) | ((with_reducible refine rpI ?_); simp -implicitDefEqProofs only [r277, push_cast, go_sem_proc]) | intro _)
  refine app_OV (hov.app _) (fun i o l h => by cases h) (fsv_head (bodL_fsv _ _ _)) (by simp [hbl]; omega) ?_
  rintro kv' H' hov' hle hfr
  obtain ⟨hf0, hn0⟩ := hfr 0 (by simp) hk0
  obtain ⟨hf1, hn1⟩ := hfr 1 (by simp) hk1
  obtain ⟨hf2, hn2⟩ := hfr 2 (by simp) hk2
  simp only [List.cons_append, List.getElem?_cons_zero, List.getElem?_cons_succ] at hf0 hf1 hf2
  obtain ⟨J', rfl⟩ := three_cons hf0 hf1 hf2
  have hone' : V.one kv' = true := hov'.vone
  simp only [V.one] at hone'
  have hc1' := hov'.one
  simp -implicitDefEqProofs only [h1, h3, h4, h29, h30, h31, mid_lt hxs, mid_wrap hxs hlen, hone', hc1', hone, hc1, go_sem]
  refine ⟨_, Nat.lt_succ_self _, pre ++ [q], post, kv', J', by simp [hxs], rfl, ?_, by simp, rfl, ?_, hn0, hn1, hn2⟩
  ·rw [cntP_append]; simp only [cntP]; simp only [Int.natCast_add, Int.natCast_one]; congr 1; omega
  ·rw [hfy]
   exact hov'.set (x := Blk.row [.agg [.fs (xs.map encP), .fs (main.map encS), .fs mn, kv', .ms 1 0 xs.length]]) hn2
theorem oFL_all {P : Pla} : ∀ {l : List Spo}, oFL P l = 0 → ∀ y ∈ l, oFS P y = 0
 | [], _, y, h => by simp at h
 | x :: l, h, y, hy => by
  simp only [oFL] at h
  split at h
  ·rename_i h1; exact absurd h h1
  ·rename_i h1
   rcases List.mem_cons.1 hy with rfl | hy
   ·simpa using h1
   ·exact oFL_all h y hy
theorem pl_spots {P : Pla} (h : plF P = 0) : ∀ y ∈ spots P, oFS P y = 0 := by
 rw [plF] at h
 split at h
 ·rename_i h1; exact absurd h h1
 ·exact oFL_all h
def kok (X : List Pr) : St → Bool
 | .mk k _ _ _ _ _ _ _ p _ => k != 5 || decide (0 ≤ procI X p)
mutual
theorem okS_of {X : List Pr} : ∀ (s : St) (pr : Int) (la : Bool), (∀ y ∈ sp1 s pr la, kok X y.1 = true) → okS X s = true
 | .mk k r t v l e a b p ps, pr, la, h => by
  simp only [sp1, List.mem_cons, List.mem_append] at h
  have h0 := h _ (.inl rfl)
  simp only [kok] at h0
  simp only [okS, h0, okL_of a pr la (fun y hy => h y (.inr (.inl hy))), okL_of b pr la (fun y hy => h y (.inr (.inr hy))), Bool.and_self]
theorem okL_of {X : List Pr} : ∀ (l : List St) (pr : Int) (la : Bool), (∀ y ∈ spL l pr la, kok X y.1 = true) → okL X l = true
 | [], pr, la, h => rfl
 | s :: l, pr, la, h => by
  simp only [spL, List.mem_append] at h
  simp only [okL, okS_of s pr _ (fun y hy => h y (.inl hy)), okL_of l pr la (fun y hy => h y (.inr hy)), Bool.and_self]
end
theorem kok_of {P : Pla} {y : Spo} (h : oFS P y = 0) : kok P.procs y.1 = true := by
 obtain ⟨⟨k, r, t, v, l, e, a, b, p, ps⟩, pr, la⟩ := y
 simp only [oFS, oF] at h
 simp only [kok, Bool.or_eq_true, bne_iff_ne, ne_eq, decide_eq_true_eq]
 by_cases h5 : k = 5
 ·right
  rcases ixF_zip (fun z : Pr => decide (z.name = p)) P.procs 0 (by omega) with ⟨hI, hF⟩ | ⟨pre, q, post, hxs, hI, _⟩
  ·rw [hF] at h
   simp only [h5] at h
   exfalso
   revert h
   split
   ·simp
   ·simp; split <;> simp
  ·rw [procI, hI]; omega
 ·exact .inl h5
theorem okP_of {P : Pla} (h : plF P = 0) : okP P := by
 have hs := fun y hy => kok_of (pl_spots h y hy)
 simp only [spots, List.mem_append] at hs
 refine ⟨okL_of _ _ _ (fun y hy => hs y (.inl hy)), fun q hq => ?_⟩
 have key : ∀ (l : List Pr) (i : Nat), q ∈ l → (∀ y ∈ spP l i, kok P.procs y.1 = true) → okL P.procs q.steps = true := by
  intro l
  induction l with
  | nil => intro i h; simp at h
  | cons z l ih =>
   intro i hq hy
   simp only [spP, List.mem_append] at hy
   rcases List.mem_cons.1 hq with rfl | hq
   ·exact okL_of _ _ _ (fun y h => hy y (.inl h))
   ·exact ih _ hq (fun y h => hy y (.inr h))
 exact key _ 0 hq (fun y hy => hs y (.inr hy))
noncomputable def opV (P : Pla) : V := if ckF P = 0 then .tup [.rptr (bkP P (endsOf P.procs)), .int .i64 0] else .tup [.nilp, .int .i64 (ckF P)]
theorem t229 (P : Pla) (hc : total P ≤ 1000000) (hpn : P.procs.length ≤ 1000000) : PCall Tryz.prog 41 [encPl P] (·= opV P) := by
 have h11 := t11 P hc
 have h277 : ckF P = 0 → PCall Tryz.prog 117 [encPl P] (·= .rptr (bkP P (endsOf P.procs))) := fun h => t277 P hc hpn (okP_of (by rw [← ck_pl]; exact h))
 have hbk : bkP P (endsOf P.procs) = [.fs (P.procs.map encP), .fs (P.main.map encS), .fs ((num P.main 0).map (encN P.procs)), .fs (bodL P.procs P.procs (cnts P.main)), .fs ((endsOf P.procs).map .bool)] := rfl
 have hbn : norefL (bodL P.procs P.procs (cnts P.main)) = true := fsv_noref (bodL_fsv _ _ _)
 simp only [encPl] at h11 h277 ⊢
 rw [opV]
 by_cases h0 : ckF P = 0
 ·have h277 := h277 h0
  rw [h0] at h11
  rw [if_pos h0]
  rw [hbk] at h277 ⊢
  refine PCall.intro c229 200 (by simp) 20 ?_
  simp -implicitDefEqProofs only [s229, go_sem]
  repeat' (first | ((first | ((with_reducible first | refine cgR h11 ?_ ?_ | refine cgR h277 ?_ ?_); (·simp [norefL, noref, nrb, hbn, norefL_encP, norefL_encS, norefL_encN, norefL_bool])) | ((with_reducible apply cgF); (·simp -implicitDefEqProofs only [List.map_cons, List.map_nil, hbn, norefL_encP, norefL_encS, norefL_encN, norefL_bool, push_cast, go_sem_proc] <;> rfl); (with_reducible first | exact h11 | exact h277); (·rfl)) | (with_reducible refine F_q2 ?_)); simp -implicitDefEqProofs only [Int.reduceEq, go_sem]) | (with_reducible refine Fork.mk ?_ ?_) | (with_reducible refine And.intro ?_ ?_) | ((with_reducible refine rpI ?_); simp -implicitDefEqProofs only [r229, push_cast, go_sem_proc]) | intro _)
  all_goals (try simp [fzC_some, hbn])
 ·rw [if_neg h0]
  refine PCall.intro c229 200 (by simp) 20 ?_
  simp -implicitDefEqProofs only [s229, go_sem]
  repeat' (first | ((first | ((with_reducible refine cgR h11 ?_ ?_); (·simp [norefL, noref, nrb])) | ((with_reducible apply cgF); (·simp -implicitDefEqProofs only [List.map_cons, List.map_nil, push_cast, go_sem_proc] <;> rfl); (with_reducible exact h11); (·rfl)) | (with_reducible refine F_q2 ?_)); simp -implicitDefEqProofs only [h0, go_sem]) | (with_reducible refine Fork.mk ?_ ?_) | (with_reducible refine And.intro ?_ ?_) | ((with_reducible refine rpI ?_); simp -implicitDefEqProofs only [r229, push_cast, go_sem_proc]) | intro _)
  all_goals (try simp_all)
def selN : List Pr → List Bool → Bool → List ByteArray
 | q :: l, b :: B, w => (if b = w then [q.name] else []) ++ selN l B w
 | _, _, _ => []
theorem selN_snoc (w : Bool) : ∀ (pre : List Pr) (B : List Bool) (q : Pr), pre.length < B.length → selN (pre ++ [q]) (B.take (pre.length + 1)) w = selN pre (B.take pre.length) w ++ if B.getD pre.length false = w then [q.name] else []
 | [], [], q, h => by simp at h
 | [], b :: B, q, h => by simp [selN]
 | x :: pre, [], q, h => by simp at h
 | x :: pre, b :: B, q, h => by
  have := selN_snoc w pre B q (by simpa using h)
  simp only [List.cons_append, List.length_cons, List.take_succ_cons, selN, this, List.append_assoc, List.getD_cons_succ]
theorem selN_len (w : Bool) : ∀ (l : List Pr) (B : List Bool), (selN l B w).length ≤ l.length
 | [], B => by simp [selN]
 | q :: l, [] => by simp [selN]
 | q :: l, b :: B => by
  have := selN_len w l B
  simp only [selN, List.length_append, List.length_cons]
  split <;> simp <;> omega
noncomputable def enV (P : Pla) : V := if ckF P = 0 then .tup [.fs ((selN P.procs (endsOf P.procs) false).map .str), .bool (thL (ecE P.procs (endsOf P.procs)) P.main), .int .i64 0] else .tup [.fs [], .bool false, .int .i64 (ckF P)]
set_option maxRecDepth 20000 in
theorem t203 (P : Pla) (hc : total P ≤ 1000000) (hpn : P.procs.length ≤ 1000000) : PCall Tryz.prog 7 [encPl P] (·= enV P) := by
 have h229 := t229 P hc hpn
 simp only [encPl] at h229 ⊢
 rw [opV] at h229
 rw [enV]
 by_cases h0 : ckF P = 0
 ·have hok := okP_of (by rw [← ck_pl]; exact h0)
  rw [if_pos h0] at h229 ⊢
  have hEl := (endsOf_cl P.procs).1
  have hbn : norefL (bodL P.procs P.procs (cnts P.main)) = true := fsv_noref (bodL_fsv _ _ _)
  have h230 := t230 P.procs (endsOf P.procs) hEl (.fs (P.procs.map encP)) (.fs (P.main.map encS)) (.fs ((num P.main 0).map (encN P.procs))) (.fs (bodL P.procs P.procs (cnts P.main))) (by simp [noref, norefL_encP]) (by simp [noref, norefL_encS]) (by simp [noref]) (by simp [noref, hbn]) _ P.main (Nat.lt_succ_self _) hok.1 0
  have h0' : noref (.fs (P.procs.map encP)) = true := by simp [noref, norefL_encP]
  have h1' : noref (.fs (P.main.map encS)) = true := by simp [noref, norefL_encS]
  have h3' : noref (.fs (bodL P.procs P.procs (cnts P.main))) = true := by simp [noref, hbn]
  simp only [bkP, bkC] at h229 h230
  generalize hth : thL (ecE P.procs (endsOf P.procs)) P.main = th at *
  generalize hEE : endsOf P.procs = E at *
  refine PCall.intro c203 300 (by simp) 20 ?_
  simp -implicitDefEqProofs only [s203, go_sem]
  repeat' (first | ((first | ((with_reducible refine cgR h229 ?_ ?_); (·simp [norefL, noref, nrb, hbn, norefL_encP, norefL_encS, norefL_encN, norefL_bool])) | ((with_reducible apply cgF); (·simp -implicitDefEqProofs only [List.map_cons, List.map_nil, hbn, norefL_encP, norefL_encS, norefL_encN, norefL_bool, push_cast, go_sem_proc] <;> rfl); (with_reducible exact h229); (·rfl)) | (with_reducible refine F_q2 ?_)); simp -implicitDefEqProofs only [Int.reduceEq, go_sem]) | (with_reducible refine Fork.mk ?_ ?_) | (with_reducible refine And.intro ?_ ?_) | ((with_reducible refine rpI ?_); simp -implicitDefEqProofs only [r203, push_cast, go_sem_proc]) | intro _)
  rename_i hlen
  generalize hc0 : V.fs (P.procs.map encP) = c0 at *
  have hc0 := hc0.symm
  generalize V.fs (P.main.map encS) = c1 at *
  generalize V.fs (bodL P.procs P.procs (cnts P.main)) = c3 at *
  refine F_loop (fun m e H => ∃ pre post kv, P.procs = pre ++ post ∧ m = post.length ∧ e 5 = .rptr [c0, c1, .fs ((num P.main 0).map (encN P.procs)), c3, .fs (E.map .bool)] ∧ e 7 = kv ∧ e 19 = .fs (P.procs.map encP) ∧ e 20 = .int .i64 P.procs.length ∧ e 21 = .int .i64 pre.length ∧ OV H kv ((selN pre (E.take pre.length) false).map .str)) P.procs.length
   ⟨[], P.procs, .nils, rfl, rfl, by simp [upd], by simp [upd], by simp [upd, hc0], by simp [upd], by simp [upd], .inl ⟨by simp [selN], rfl⟩⟩ ?_
  rintro m e H ⟨pre, post, kv, hxs, rfl, h5, h7, h19, h20, h21, hov⟩
  cases post with
  | nil =>
   have hpx : pre = P.procs := by rw [hxs]; simp
   rw [hpx, ← hEl, List.take_length] at hov
   simp -implicitDefEqProofs only [h5, h7, h19, h20, h21, mid_not hxs, go_sem]
   repeat' (first | ((first | ((with_reducible refine cgR h230 ?_ ?_); (·simp [norefL, noref, nrb, h0', h1', h3', norefL_bool])) | ((with_reducible apply cgF); (·simp -implicitDefEqProofs only [List.map_cons, List.map_nil, h0', h1', h3', norefL_bool, push_cast, go_sem_proc] <;> rfl); (with_reducible exact h230); (·rfl)) | (with_reducible refine F_q2 ?_)); simp -implicitDefEqProofs only [h5, h7, h19, h20, h21, go_sem]) | (with_reducible refine Fork.mk ?_ ?_) | (with_reducible refine And.intro ?_ ?_) | ((with_reducible refine rpI ?_); simp -implicitDefEqProofs only [r203, push_cast, go_sem_proc]) | intro _)
   have hz : fz H 19 kv = _ := fz_OV (f := V.str) (n := 17) (fun H x => fz_str H _ x) hov
   rw [hEl] at *
   rw [hz]
   exact ⟨_, rfl, rfl⟩
  | cons q post =>
   have hg := mid_get encP hxs
   simp only [encP] at hg
   have hpl : pre.length < P.procs.length := by rw [hxs]; simp
   have hgE : (E.map V.bool).getD pre.length .any = .bool (E.getD pre.length false) := by
    simp [List.getD, List.getElem?_map, List.getElem?_eq_getElem (show pre.length < E.length by omega)]
   have hix : ixP pre.length E.length := ⟨by omega, by simp; omega⟩
   have hsn := selN_snoc false pre E q (by omega)
   have hsl := selN_len false pre (E.take pre.length)
   generalize E.getD pre.length false = bv at *
   simp -implicitDefEqProofs only [h5, h7, h19, h20, h21, mid_lt hxs, mid_wrap hxs hlen, hg, hgE, hix, go_sem]
   repeat' (first | ((with_reducible refine F_q2 ?_); simp -implicitDefEqProofs only [h5, h7, h19, h20, h21, mid_lt hxs, mid_wrap hxs hlen, hg, hgE, hix, go_sem]) | (with_reducible refine Fork.mk ?_ ?_) | (with_reducible refine And.intro ?_ ?_) | ((with_reducible refine rpI ?_); simp -implicitDefEqProofs only [r203, push_cast, go_sem_proc]) | intro _)
   ·rename_i hb
    have hb : bv = false := by simpa using hb
    subst hb
    refine app_OV (hov.app _) (fun i o l h => by cases h) (headOk_str _) (by simp; omega) ?_
    rintro kv' H' hov' hle hfr
    simp -implicitDefEqProofs only [h5, h7, h19, h20, h21, mid_lt hxs, mid_wrap hxs hlen, go_sem]
    refine ⟨_, Nat.lt_succ_self _, pre ++ [q], post, kv', by simp [hxs], rfl, rfl, by simp, ?_⟩
    rw [List.length_append, List.length_singleton, hsn, if_pos rfl, List.map_append]
    exact hov'
   ·rename_i hb
    have hb : bv = true := by simpa using hb
    subst hb
    refine ⟨_, Nat.lt_succ_self _, pre ++ [q], post, kv, by simp [hxs], rfl, rfl, by simp, ?_⟩
    rw [List.length_append, List.length_singleton, hsn, if_neg (by decide), List.append_nil]
    exact hov.app _
 ·rw [if_neg h0] at h229 ⊢
  refine PCall.intro c203 300 (by simp) 20 ?_
  simp -implicitDefEqProofs only [s203, go_sem]
  repeat' (first | ((first | ((with_reducible refine cgR h229 ?_ ?_); (·simp [norefL, noref, nrb])) | ((with_reducible apply cgF); (·simp -implicitDefEqProofs only [List.map_cons, List.map_nil, push_cast, go_sem_proc] <;> rfl); (with_reducible exact h229); (·rfl)) | (with_reducible refine F_q2 ?_)); simp -implicitDefEqProofs only [h0, go_sem]) | (with_reducible refine Fork.mk ?_ ?_) | (with_reducible refine And.intro ?_ ?_) | ((with_reducible refine rpI ?_); simp -implicitDefEqProofs only [r203, push_cast, go_sem_proc]) | intro _)
  all_goals (try simp_all)
theorem cellsV_map (i : Nat) : cellsV (.map i) = [.map i] := rfl
theorem cellsV_nilmap : cellsV .nilmap = [.nilmap] := rfl
theorem cellsV_fmap (a b : List V) : cellsV (.fmap a b) = [.fmap a b] := rfl
def fzQ (H : List Blk) (n : Nat) : Option Blk → Option V
 | some (.mp ks vs) => match fzL (fz H n) ks, fzL (fz H n) vs with
  | some a, some b => some (.fmap a b)
  | _, _ => none
 | _ => none
theorem fz_map (H : List Blk) (n i : Nat) : fz H (n + 1) (.map i) = fzQ H n H[i]? := by
 simp only [fz, fzQ]
 cases H[i]? with
 | none => rfl
 | some b => cases b <;> rfl
theorem fzQ_mp (H : List Blk) (n : Nat) (ks vs : List V) : fzQ H n (some (.mp ks vs)) = match fzL (fz H n) ks, fzL (fz H n) vs with
  | some a, some b => some (.fmap a b)
  | _, _ => none := rfl
theorem fz_nilmap (H : List Blk) (n : Nat) : fz H (n + 1) .nilmap = some .nilmap := by simp [fz, noref]
theorem fz_fmap (H : List Blk) (n : Nat) (a b : List V) : fz H (n + 1) (.fmap a b) = if norefL a && norefL b then some (.fmap a b) else none := by simp [fz, noref]
attribute [go_sem] cellsV_map cellsV_nilmap cellsV_fmap
attribute [push_cast] cellsV_map cellsV_nilmap cellsV_fmap fz_map fzQ_mp fz_nilmap fz_fmap
def trues (l : List Int) : List V := l.map fun _ => .bool true
theorem kOk_int (l : List Int) (n : Int) : kOk (false, [false]) (l.map (.int .i64)) (.int .i64 n) = true := by
 simp [kOk, kfit, kfit1, keq, keq1]
theorem mget_trues (n : Int) : ∀ l : List Int, mget (l.map (.int .i64)) (trues l) (.int .i64 n) = if n ∈ l then some (.bool true) else none
 | [] => by simp [mget, trues]
 | x :: l => by
  have := mget_trues n l
  simp only [trues] at this
  simp only [List.map_cons, trues, mget, this, keq, keq1, if_true, Option.some.injEq, decide_eq_true_eq, List.mem_cons]
  by_cases h : n = x
  ·simp [h]
  ·simp [h]
theorem mres_trues (n : Int) (l : List Int) : mres false (.bool false) (mget (l.map (.int .i64)) (trues l) (.int .i64 n)) = .bool (decide (n ∈ l)) := by
 rw [mget_trues, mres]
 by_cases h : n ∈ l <;> simp [h]
theorem any_keq (n : Int) : ∀ l : List Int, (l.map (V.int .i64)).any (fun q => keq (.int .i64 n) q == some true) = l.contains n
 | [] => rfl
 | x :: l => by
  rw [List.map_cons, List.any_cons, any_keq n l, List.contains_cons]
  by_cases h : n = x
  ·subst h; simp [keq, keq1]
  ·simp [keq, keq1, h]
theorem mputK_trues (n : Int) (l : List Int) : mputK (l.map (.int .i64)) (.int .i64 n) = (addN l n).map (.int .i64) := by
 rw [mputK, any_keq, addN]
 split <;> simp
theorem mputV_trues (n : Int) : ∀ l : List Int, mputV (l.map (.int .i64)) (trues l) (.int .i64 n) (.bool true) = trues (addN l n)
 | [] => by simp [mputV, trues, addN]
 | x :: l => by
  have ih := mputV_trues n l
  simp only [trues, List.map_cons, mputV, keq, keq1, if_true, Option.some.injEq, decide_eq_true_eq] at ih ⊢
  by_cases h : n = x
  ·simp [h, addN]
  ·rw [if_neg h, ih]
   simp only [addN, List.contains_cons, beq_false_of_ne h, Bool.false_or]
   split <;> simp
theorem norefL_trues (l : List Int) : norefL (trues l) = true := norefL_mapf (fun x => by simp [noref]) l
theorem fz_trues (H : List Blk) (n : Nat) (l : List Int) : fzL (fz H (n + 1)) (trues l) = some (trues l) := fzL_map _ _ (fun x => fz_bool _ _ true) l
theorem fz_ints (H : List Blk) (n : Nat) (l : List Int) : fzL (fz H (n + 1)) (l.map (.int .i64)) = some (l.map (.int .i64)) := fzL_map _ _ (fun x => fz_int _ _ _ x) l
attribute [push_cast] fz_trues fz_ints norefL_trues
attribute [simp] norefL_trues
def TW (bk : List V) (m : Nat) (w : WS) : List Blk := [.mp (w.steps.map (.int .i64)) (trues w.steps), .row (w.procs.map .bool), .row [.agg [.rptr bk, .map 0, .ms 1 0 m]]]
theorem TW_ok {bk : List V} {m : Nat} {w w' : WS} (J : List Blk) : ∀ (i : Nat) b, (TW bk m w' ++ J)[i]? = some b → (TW bk m w ++ J)[i]? = some b ∨ b.nr = true := by
 intro i b h
 rcases i with _ | _ | _ | i
 ·simp [TW] at h; subst h; right; simp [Blk.nr, norefL_int, norefL_trues]
 ·simp [TW] at h; subst h; right; simp [Blk.nr, norefL_bool]
 ·left; simpa [TW] using h
 ·left; simpa [TW] using h
theorem wk_len (P : Pla) (ec : ByteArray → Bool) : ∀ (f : Nat) (l : List St) (n : Int) (w : WS), (wk P ec f l n w).procs.length = w.procs.length
 | 0, _, _, _ => rfl
 | f + 1, [], _, _ => rfl
 | f + 1, .mk k r t v l e a b p ps :: rest, n, w => by
  simp only [wk]
  have h3 : (wk P ec f b (n + 1 + cnts a) (wk P ec f a (n + 1) ⟨addN w.steps n, w.procs⟩)).procs.length = w.procs.length := by rw [wk_len, wk_len]
  generalize wk P ec f b (n + 1 + cnts a) (wk P ec f a (n + 1) ⟨addN w.steps n, w.procs⟩) = w3 at *
  have h4 : (if 0 ≤ kI P.procs k p ∧ w3.procs[(kI P.procs k p).toNat]? = some false then wk P ec f (bodyAt P.procs (kI P.procs k p).toNat) (offAt P (kI P.procs k p).toNat) ⟨w3.steps, w3.procs.set (kI P.procs k p).toNat true⟩ else w3).procs.length = w.procs.length := by
   split
   ·rw [wk_len]; simp [h3]
   ·exact h3
  split
  ·rw [wk_len]; exact h4
  ·exact h4
theorem bodL_at (P : Pla) (i : Nat) (hi : i < P.procs.length) : (bodL P.procs P.procs (cnts P.main)).getD i .any = .fs ((num (bodyAt P.procs i) (offAt P i)).map (encN P.procs)) := by
 obtain ⟨pre, q, post, h, hl⟩ : ∃ pre q post, P.procs = pre ++ q :: post ∧ pre.length = i := ⟨P.procs.take i, P.procs[i], P.procs.drop (i + 1), by rw [← List.drop_eq_getElem_cons hi, List.take_append_drop], by simp; omega⟩
 have hb : bodyAt P.procs i = q.steps := by
  unfold bodyAt
  rw [h, ← hl]; simp
 have ho : offAt P i = (cnts P.main : Int) + cntP pre := by
  unfold offAt
  rw [h, ← hl]; simp
 have h2 : bodL P.procs (pre ++ q :: post) (cnts P.main) = bodL P.procs pre (cnts P.main) ++ .fs ((num q.steps ((cnts P.main : Int) + cntP pre)).map (encN P.procs)) :: bodL P.procs post ((cnts P.main : Int) + cntP pre + cnts q.steps) := by rw [bodL_append]; rfl
 rw [← h] at h2
 rw [h2, List.getD_eq_getElem?_getD, List.getElem?_append_right (by rw [bodL_length]; omega), bodL_length, hl, hb, ho]
 simp
theorem okP_body {P : Pla} (h : okP P) (i : Nat) : okL P.procs (bodyAt P.procs i) = true := by
 unfold bodyAt
 cases hx : P.procs[i]? with
 | none => rfl
 | some q => exact h.2 q (List.mem_of_getElem? hx)
set_option maxRecDepth 20000 in
set_option maxHeartbeats 4000000 in
theorem t281s (P : Pla) (hc : total P ≤ 1000000) (hpn : P.procs.length ≤ 1000000) (hok : okP P) (E : List Bool) (hE : E.length = P.procs.length) (f : Nat)
  (ih : ∀ (k : Nat), k ≤ f → ∀ (l : List St) (n : Int) (w : WS) (J : List Blk), okL P.procs l = true → w.procs.length = P.procs.length → mu P w l < k →
   ACall Tryz.prog 121 [.ptr 2 0 0, .fs ((num l n).map (encN P.procs))] (TW (bkP P E) P.procs.length w ++ J) (ret1 (.tup []) (TW (bkP P E) P.procs.length (wk P (ecE P.procs E) k l n w) ++ J)))
  (l : List St) (n : Int) (w : WS) (J : List Blk) (hl : okL P.procs l = true) (hw : w.procs.length = P.procs.length) (hm : mu P w l < f + 1) :
  ACall Tryz.prog 121 [.ptr 2 0 0, .fs ((num l n).map (encN P.procs))] (TW (bkP P E) P.procs.length w ++ J) (ret1 (.tup []) (TW (bkP P E) P.procs.length (wk P (ecE P.procs E) (f + 1) l n w) ++ J)) := by
 have h280 : ∀ k r t v lb ek en es eas a b p ps i, okS P.procs (.mk k r t v lb (.mk ek en es eas) a b p ps) = true → PCall Tryz.prog 120 [.rptr (bkP P E), encN P.procs (.mk k r t v lb (.mk ek en es eas) a b p ps, i)] (·= .bool (thS (ecE P.procs E) (.mk k r t v lb (.mk ek en es eas) a b p ps))) := by
  intro k r t v lb ek en es eas a b p ps i hos
  have hos' := hos
  simp only [okS, Bool.and_eq_true] at hos'
  have h0 : noref (.fs (P.procs.map encP)) = true := by simp [noref, norefL_encP]
  have h1 : noref (.fs (P.main.map encS)) = true := by simp [noref, norefL_encS]
  have h2 : noref (.fs ((num P.main 0).map (encN P.procs))) = true := by simp [noref]
  have h3 : noref (.fs (bodL P.procs P.procs (cnts P.main))) = true := by simp [noref, fsv_noref (bodL_fsv _ _ _)]
  exact t280s P.procs E hE _ _ _ _ h0 h1 h2 h3 k r t v lb ek en es eas a b p ps i hos (t230 P.procs E hE _ _ _ _ h0 h1 h2 h3 _ a (Nat.lt_succ_self _) hos'.2.1 _) (t230 P.procs E hE _ _ _ _ h0 h1 h2 h3 _ b (Nat.lt_succ_self _) hos'.2.2 _)
 refine ACall.trim ?_
 refine ACall.intro c281 400 (by simp) ?_
 simp only [TW, List.cons_append, List.nil_append]
 simp -implicitDefEqProofs only [s281, go_sem]
 intro hlen
 refine F_loop (fun m e H => ∃ pre post f' n' w' K J', num l n = pre ++ num post n' ∧ m = post.length ∧ okL P.procs post = true ∧ w'.procs.length = P.procs.length ∧ f' ≤ f + 1 ∧ mu P w' post < f' ∧ wk P (ecE P.procs E) (f + 1) l n w = wk P (ecE P.procs E) f' post n' w' ∧
  e 0 = .ptr 2 0 0 ∧ e 6 = .fs ((num l n).map (encN P.procs)) ∧ e 7 = .int .i64 (num l n).length ∧ e 8 = .int .i64 pre.length ∧ K = J ++ J' ∧ H = TW (bkP P E) P.procs.length w' ++ K) l.length
  ⟨[], l, f + 1, n, w, J, [], rfl, rfl, hl, hw, Nat.le_refl _, hm, rfl, by simp [upd, env0], by simp [upd, env0], by simp [upd, env0], by simp [upd, env0], by simp, by simp [TW]⟩ ?_
 rintro m e H ⟨pre, post, f', n', w', K, J', hxs, rfl, hlp, hw', hf', hmu, hwk, h0, h6, h7, h8, hK, rfl⟩
 cases post with
 | nil =>
  simp only [num] at hxs
  simp -implicitDefEqProofs only [h0, h6, h7, h8, mid_not hxs, go_sem]
  simp -implicitDefEqProofs only [r281, push_cast, go_sem_proc]
  subst hK
  refine ⟨TW (bkP P E) P.procs.length w' ++ J, J', by rw [← List.append_assoc], by simp [TW], TW_ok (w := w) J, ?_⟩
  rw [hwk]
  cases f' with
  | zero => omega
  | succ f' => rfl
 | cons s rest =>
  cases f' with
  | zero => omega
  | succ k =>
  have hk : k ≤ f := by omega
  simp only [num] at hxs
  have hg := mid_get (encN P.procs) hxs
  simp only [okL, Bool.and_eq_true] at hlp
  obtain ⟨hos, hlr⟩ := hlp
  rcases s with ⟨sk, r, t, v, lb, ⟨ek, en, es, eas⟩, a, b, p, ps⟩
  have h280 := h280 sk r t v lb ek en es eas a b p ps n' hos
  have hos' := hos
  simp only [okS, Bool.and_eq_true, Bool.or_eq_true, bne_iff_ne, ne_eq, decide_eq_true_eq] at hos'
  obtain ⟨hpk, hoa, hob⟩ := hos'
  have hncnt : cnt (.mk sk r t v lb (.mk ek en es eas) a b p ps) = 1 + cnts a + cnts b := rfl
  simp only [mu, cnts, cnt] at hmu
  simp only [wk] at hwk
  rw [encN_mk] at hg h280
  have hki : 0 ≤ kI P.procs sk p → (kI P.procs sk p).toNat < P.procs.length := fun h => by
   by_cases h5 : sk = 5
   ·simp only [kI, h5, if_true] at h ⊢; exact procI_lt h
   ·simp only [kI, h5, if_false] at h; omega
  generalize hnd : V.agg [.int .i64 n', .int .i64 sk, .str r, .str t, .str v, .str lb, .int .i64 ek, .int .i64 en, .str es, .fs (eas.map encE), .fs (a.map encS), .fs (b.map encS), .str p, .fs (ps.map .str), .int .i64 (kI P.procs sk p), .fs ((num a (n' + 1)).map (encN P.procs)), .fs ((num b (n' + 1 + cnts a)).map (encN P.procs))] = nd at *
  have ha := ih k hk a (n' + 1) ⟨addN w'.steps n', w'.procs⟩ (K ++ [Blk.row [nd]]) hoa hw' (by simp only [mu]; omega)
  have hla := wk_len P (ecE P.procs E) k a (n' + 1) ⟨addN w'.steps n', w'.procs⟩
  have hp1 := wk_post P (ecE P.procs E) k a (n' + 1) ⟨addN w'.steps n', w'.procs⟩ (by simp only [mu]; omega) hw'
  have f2 := fls_mono hp1.len hp1.mono
  generalize wk P (ecE P.procs E) k a (n' + 1) ⟨addN w'.steps n', w'.procs⟩ = w2 at *
  simp only at hla f2
  have m2 : fls w2.procs * (total P + 1) ≤ fls w'.procs * (total P + 1) := Nat.mul_le_mul_right _ f2
  have hb := ih k hk b (n' + 1 + cnts a) w2 (K ++ [Blk.row [nd]]) hob (by omega) (by simp only [mu]; omega)
  have hlb := wk_len P (ecE P.procs E) k b (n' + 1 + cnts a) w2
  have hp2 := wk_post P (ecE P.procs E) k b (n' + 1 + cnts a) w2 (by simp only [mu]; omega) (by omega)
  have f3 := fls_mono hp2.len hp2.mono
  generalize wk P (ecE P.procs E) k b (n' + 1 + cnts a) w2 = w3 at *
  have m3 : fls w3.procs * (total P + 1) ≤ fls w'.procs * (total P + 1) := Nat.mul_le_mul_right _ (Nat.le_trans f3 f2)
  have hl3 : w3.procs.length = P.procs.length := by omega
  simp only [TW, bkP, bkC, List.cons_append, List.nil_append] at ha hb h280
  generalize hth : thS (ecE P.procs E) (.mk sk r t v lb (.mk ek en es eas) a b p ps) = th at *
  have hbn : norefL (bodL P.procs P.procs (cnts P.main)) = true := fsv_noref (bodL_fsv _ _ _)
  by_cases hi : 0 ≤ kI P.procs sk p
  ·have hil := hki hi
   have hgB := bodL_at P _ hil
   generalize hI : kI P.procs sk p = I at *
   have hix : ixP I P.procs.length := ⟨hi, hil⟩
   have hgE : (w3.procs.map V.bool).getD I.toNat .any = .bool (w3.procs.getD I.toNat false) := by
    simp [List.getD, List.getElem?_map, List.getElem?_eq_getElem (show I.toNat < w3.procs.length by omega)]
   have hge : w3.procs[I.toNat]? = some (w3.procs.getD I.toNat false) := by rw [List.getD_eq_getElem?_getD, List.getElem?_eq_getElem (by omega)]; rfl
   cases hbv : w3.procs.getD I.toNat false with
   | true =>
    rw [hbv] at hgE hge
    simp only [hge, Option.some.injEq, Bool.true_eq_false, and_false, if_false] at hwk
    subst hnd
    simp -implicitDefEqProofs only [h0, h6, h7, h8, mid_lt hxs, mid_wrap hxs hlen, hg, TW, bkP, bkC, kOk_int, mputK_trues, mputV_trues, go_sem]
    repeat' (first | ((first | (with_reducible first | refine cgA ha ?_ | refine cgA hb ?_) | ((with_reducible refine cgR h280 ?_ ?_); (·simp [norefL, noref, nrb, hbn, norefL_encP, norefL_encS, norefL_encN, norefL_bool])) | ((with_reducible apply cgF); (·simp -implicitDefEqProofs only [List.map_cons, List.map_nil, hbn, norefL_encP, norefL_encS, norefL_encN, norefL_bool, push_cast, go_sem_proc] <;> rfl); (with_reducible exact h280); (·rfl)) | (with_reducible refine F_q2 ?_)); simp -implicitDefEqProofs only [h0, h6, h7, h8, mid_lt hxs, mid_wrap hxs hlen, hg, kOk_int, mputK_trues, mputV_trues, hi, decide_true, hix, hgE, hl3, hil, Nat.le_refl, go_sem]) | (with_reducible refine Fork.mk ?_ ?_) | (with_reducible refine And.intro ?_ ?_) | ((with_reducible refine rpI ?_); simp -implicitDefEqProofs only [r281, push_cast, go_sem_proc]) | intro _)
    ·rename_i hp
     have hp : th = false := by simpa using hp
     subst hp
     simp only [Bool.false_eq_true, if_false] at hwk
     subst hK
     refine ⟨TW (bkP P E) P.procs.length w3 ++ J, J' ++ [_], by simp [TW, bkP, bkC]; rfl, by simp [TW], TW_ok (w := w) J, ?_⟩
     rw [hwk]; rfl
    ·rename_i hp
     have hp : th = true := by simpa using hp
     subst hp
     simp only [if_true] at hwk
     refine ⟨_, Nat.lt_succ_self _, pre ++ [_], rest, k, n' + cnt (.mk sk r t v lb (.mk ek en es eas) a b p ps), w3, K ++ [_], J' ++ [_], by rw [hxs, List.append_assoc]; rfl, rfl, hlr, by omega, by omega, by simp only [mu]; omega, hwk, by simp, by rw [hK, List.append_assoc], by simp [TW, bkP, bkC]; rfl⟩
   | false =>
    rw [hbv] at hgE hge
    simp only [hge, hi, and_self, if_true] at hwk
    have hil3 : I.toNat < w3.procs.length := by omega
    have hfs := fls_set hge
    have hcb := cntP_body hil
    have hms : fls w3.procs * (total P + 1) = fls (w3.procs.set I.toNat true) * (total P + 1) + (total P + 1) := by rw [← hfs, Nat.add_mul]; omega
    have h4 := ih k hk (bodyAt P.procs I.toNat) (offAt P I.toNat) ⟨w3.steps, w3.procs.set I.toNat true⟩ (K ++ [Blk.row [nd]]) (okP_body hok _) (by simp [hl3]) (by simp only [mu]; omega)
    have hl4 := wk_len P (ecE P.procs E) k (bodyAt P.procs I.toNat) (offAt P I.toNat) ⟨w3.steps, w3.procs.set I.toNat true⟩
    have hp4 := wk_post P (ecE P.procs E) k (bodyAt P.procs I.toNat) (offAt P I.toNat) ⟨w3.steps, w3.procs.set I.toNat true⟩ (by simp only [mu]; omega) (by simp [hl3])
    have f4 := fls_mono hp4.len hp4.mono
    generalize wk P (ecE P.procs E) k (bodyAt P.procs I.toNat) (offAt P I.toNat) ⟨w3.steps, w3.procs.set I.toNat true⟩ = w4 at *
    simp only at f4 hl4
    rw [List.length_set] at hl4
    have hl4' : w4.procs.length = P.procs.length := by omega
    have m4 : fls w4.procs * (total P + 1) ≤ fls w'.procs * (total P + 1) := Nat.mul_le_mul_right _ (by omega)
    simp only [TW, bkP, bkC, List.cons_append, List.nil_append, List.map_set] at h4
    subst hnd
    simp -implicitDefEqProofs only [h0, h6, h7, h8, mid_lt hxs, mid_wrap hxs hlen, hg, TW, bkP, bkC, kOk_int, mputK_trues, mputV_trues, go_sem]
    repeat' (first | ((first | (with_reducible first | refine cgA ha ?_ | refine cgA hb ?_ | refine cgA h4 ?_) | ((with_reducible refine cgR h280 ?_ ?_); (·simp [norefL, noref, nrb, hbn, norefL_encP, norefL_encS, norefL_encN, norefL_bool])) | ((with_reducible apply cgF); (·simp -implicitDefEqProofs only [List.map_cons, List.map_nil, hbn, norefL_encP, norefL_encS, norefL_encN, norefL_bool, push_cast, go_sem_proc] <;> rfl); (with_reducible exact h280); (·rfl)) | (with_reducible refine F_q2 ?_)); simp -implicitDefEqProofs only [h0, h6, h7, h8, mid_lt hxs, mid_wrap hxs hlen, hg, kOk_int, mputK_trues, mputV_trues, hi, decide_true, hix, hgE, hl3, hil, hil3, hgB, Nat.le_refl, bodL_length, go_sem]) | (with_reducible refine Fork.mk ?_ ?_) | (with_reducible refine And.intro ?_ ?_) | ((with_reducible refine rpI ?_); simp -implicitDefEqProofs only [r281, push_cast, go_sem_proc]) | intro _)
    ·rename_i hp
     have hp : th = false := by simpa using hp
     subst hp
     simp only [Bool.false_eq_true, if_false] at hwk
     subst hK
     refine ⟨TW (bkP P E) P.procs.length w4 ++ J, J' ++ [_], by simp [TW, bkP, bkC]; rfl, by simp [TW], TW_ok (w := w) J, ?_⟩
     rw [hwk]; rfl
    ·rename_i hp
     have hp : th = true := by simpa using hp
     subst hp
     simp only [if_true] at hwk
     refine ⟨_, Nat.lt_succ_self _, pre ++ [_], rest, k, n' + cnt (.mk sk r t v lb (.mk ek en es eas) a b p ps), w4, K ++ [_], J' ++ [_], by rw [hxs, List.append_assoc]; rfl, rfl, hlr, by omega, by omega, by simp only [mu]; omega, hwk, by simp, by rw [hK, List.append_assoc], by simp [TW, bkP, bkC]; rfl⟩
  ·have hi2 : ¬ 0 ≤ kI P.procs sk p := hi
   simp only [hi2, false_and, if_false] at hwk
   subst hnd
   simp -implicitDefEqProofs only [h0, h6, h7, h8, mid_lt hxs, mid_wrap hxs hlen, hg, TW, bkP, bkC, kOk_int, mputK_trues, mputV_trues, go_sem]
   repeat' (first | ((first | (with_reducible first | refine cgA ha ?_ | refine cgA hb ?_) | ((with_reducible refine cgR h280 ?_ ?_); (·simp [norefL, noref, nrb, hbn, norefL_encP, norefL_encS, norefL_encN, norefL_bool])) | ((with_reducible apply cgF); (·simp -implicitDefEqProofs only [List.map_cons, List.map_nil, hbn, norefL_encP, norefL_encS, norefL_encN, norefL_bool, push_cast, go_sem_proc] <;> rfl); (with_reducible exact h280); (·rfl)) | (with_reducible refine F_q2 ?_)); simp -implicitDefEqProofs only [h0, h6, h7, h8, mid_lt hxs, mid_wrap hxs hlen, hg, kOk_int, mputK_trues, mputV_trues, hi2, decide_false, Nat.le_refl, go_sem]) | (with_reducible refine Fork.mk ?_ ?_) | (with_reducible refine And.intro ?_ ?_) | ((with_reducible refine rpI ?_); simp -implicitDefEqProofs only [r281, push_cast, go_sem_proc]) | intro _)
   ·rename_i hp
    have hp : th = false := by simpa using hp
    subst hp
    simp only [Bool.false_eq_true, if_false] at hwk
    subst hK
    refine ⟨TW (bkP P E) P.procs.length w3 ++ J, J' ++ [_], by simp [TW, bkP, bkC]; rfl, by simp [TW], TW_ok (w := w) J, ?_⟩
    rw [hwk]; rfl
   ·rename_i hp
    have hp : th = true := by simpa using hp
    subst hp
    simp only [if_true] at hwk
    refine ⟨_, Nat.lt_succ_self _, pre ++ [_], rest, k, n' + cnt (.mk sk r t v lb (.mk ek en es eas) a b p ps), w3, K ++ [_], J' ++ [_], by rw [hxs, List.append_assoc]; rfl, rfl, hlr, by omega, by omega, by simp only [mu]; omega, hwk, by simp, by rw [hK, List.append_assoc], by simp [TW, bkP, bkC]; rfl⟩
theorem t281 (P : Pla) (hc : total P ≤ 1000000) (hpn : P.procs.length ≤ 1000000) (hok : okP P) (E : List Bool) (hE : E.length = P.procs.length) : ∀ (f k : Nat), k ≤ f → ∀ (l : List St) (n : Int) (w : WS) (J : List Blk), okL P.procs l = true → w.procs.length = P.procs.length → mu P w l < k →
   ACall Tryz.prog 121 [.ptr 2 0 0, .fs ((num l n).map (encN P.procs))] (TW (bkP P E) P.procs.length w ++ J) (ret1 (.tup []) (TW (bkP P E) P.procs.length (wk P (ecE P.procs E) k l n w) ++ J)) := by
 intro f
 induction f with
 | zero => intro k hk l n w J _ _ hm; omega
 | succ f ih =>
  intro k hk l n w J hl hw hm
  by_cases h : k ≤ f
  ·exact ih k h l n w J hl hw hm
  ·have : k = f + 1 := by omega
   subst this
   exact t281s P hc hpn hok E hE f ih l n w J hl hw hm
def re0 (P : Pla) : WS := ⟨[], List.replicate P.procs.length false⟩
noncomputable def reW (P : Pla) : WS := wk P (ecE P.procs (endsOf P.procs)) (mu P (re0 P) P.main + 1) P.main 0 (re0 P)
theorem reW_len (P : Pla) : (reW P).procs.length = P.procs.length := by rw [reW, wk_len]; simp [re0]
noncomputable def reV (P : Pla) : V := .rptr [.rptr (bkP P (endsOf P.procs)), .fmap ((reW P).steps.map (.int .i64)) (trues (reW P).steps), .fs ((reW P).procs.map .bool)]
set_option maxRecDepth 20000 in
theorem t231 (P : Pla) (hc : total P ≤ 1000000) (hpn : P.procs.length ≤ 1000000) (hok : okP P) : PCall Tryz.prog 43 [.rptr (bkP P (endsOf P.procs))] (·= reV P) := by
 have hEl := (endsOf_cl P.procs).1
 have h281 := t281 P hc hpn hok (endsOf P.procs) hEl _ _ (Nat.le_refl _) P.main 0 (re0 P) [] hok.1 (by simp [re0]) (Nat.lt_succ_self _)
 rw [reV]
 have hrw : wk P (ecE P.procs (endsOf P.procs)) (mu P (re0 P) P.main + 1) P.main 0 (re0 P) = reW P := rfl
 rw [hrw] at h281
 have hrl := reW_len P
 generalize reW P = w at *
 have hbn : norefL (bodL P.procs P.procs (cnts P.main)) = true := fsv_noref (bodL_fsv _ _ _)
 have hbl := bodL_length P.procs P.procs (cnts P.main)
 have hrep : List.replicate P.procs.length (V.bool false) = (List.replicate P.procs.length false).map V.bool := by simp
 have htn : trues [] = [] := rfl
 simp only [TW, re0, bkP, bkC, List.append_nil, List.map_nil, htn] at h281 ⊢
 rw [← hrep] at h281
 have htk : List.take P.procs.length (w.procs.map V.bool) = w.procs.map .bool := List.take_of_length_le (by simp [hrl])
 refine PCall.intro c231 200 (by simp) 20 ?_
 simp -implicitDefEqProofs only [s231, hbl, go_sem]
 repeat' (first | ((first | (with_reducible refine cgA h281 ?_) | (with_reducible refine F_q2 ?_)); simp -implicitDefEqProofs only [hbl, Int.toNat_natCast, go_sem]) | (with_reducible refine Fork.mk ?_ ?_) | (with_reducible refine And.intro ?_ ?_) | ((with_reducible refine rpI ?_); simp -implicitDefEqProofs only [r231, htk, fz_bools, hrl, hbn, if_true, norefL_bool, push_cast, go_sem_proc]) | intro _)
 ·omega
 ·omega
def notIn (l : List Int) : Nat → List Int
 | 0 => []
 | j + 1 => notIn l j ++ if (j : Int) ∈ l then [] else [(j : Int)]
theorem notIn_len (l : List Int) : ∀ j, (notIn l j).length ≤ j
 | 0 => Nat.le_refl _
 | j + 1 => by
  have := notIn_len l j
  simp only [notIn, List.length_append]
  split <;> simp <;> omega
noncomputable def unV (P : Pla) : V := if ckF P = 0 then .tup [.fs ((notIn (reW P).steps (total P)).map (.int .i64)), .int .i64 0] else .tup [.fs [], .int .i64 (ckF P)]
set_option maxRecDepth 20000 in
theorem t204 (P : Pla) (hc : total P ≤ 1000000) (hpn : P.procs.length ≤ 1000000) : PCall Tryz.prog 8 [encPl P] (·= unV P) := by
 have h229 := t229 P hc hpn
 have h19 := t19 P hc
 simp only [encPl] at h229 h19 ⊢
 rw [opV] at h229
 rw [unV]
 by_cases h0 : ckF P = 0
 ·have hok := okP_of (by rw [← ck_pl]; exact h0)
  rw [if_pos h0] at h229 ⊢
  have hbn : norefL (bodL P.procs P.procs (cnts P.main)) = true := fsv_noref (bodL_fsv _ _ _)
  have h231 := t231 P hc hpn hok
  rw [reV] at h231
  simp only [bkP, bkC] at h229 h231
  generalize reW P = w at *
  generalize hN : total P = N at *
  refine PCall.intro c204 300 (by simp) 20 ?_
  simp -implicitDefEqProofs only [s204, go_sem]
  repeat' (first | ((first | ((with_reducible first | refine cgR h229 ?_ ?_ | refine cgR h231 ?_ ?_ | refine cgR h19 ?_ ?_); (·simp [norefL, noref, nrb, hbn, norefL_encP, norefL_encS, norefL_encN, norefL_bool, norefL_int])) | ((with_reducible apply cgF); (·simp -implicitDefEqProofs only [List.map_cons, List.map_nil, hbn, norefL_encP, norefL_encS, norefL_encN, norefL_bool, norefL_int, push_cast, go_sem_proc] <;> rfl); (with_reducible first | exact h229 | exact h231 | exact h19); (·rfl)) | (with_reducible refine F_q2 ?_)); simp -implicitDefEqProofs only [Int.reduceEq, go_sem]) | (with_reducible refine Fork.mk ?_ ?_) | (with_reducible refine And.intro ?_ ?_) | ((with_reducible refine rpI ?_); simp -implicitDefEqProofs only [r204, push_cast, go_sem_proc]) | intro _)
  refine F_loop (fun m e H => ∃ j kv, j + m = N ∧ (∃ bk ps, e 6 = .rptr [.rptr bk, .fmap (w.steps.map (.int .i64)) (trues w.steps), ps]) ∧ e 7 = kv ∧ e 20 = .int .i64 N ∧ e 21 = .int .i64 j ∧ OV H kv ((notIn w.steps j).map (.int .i64))) N
   ⟨0, .nils, by omega, ⟨_, _, by simp [upd]; exact ⟨rfl, rfl⟩⟩, by simp [upd], by simp [upd], by simp [upd], .inl ⟨by simp [notIn], rfl⟩⟩ ?_
  rintro m e H ⟨j, kv, hjm, ⟨bk, ps, h6⟩, h7, h20, h21, hov⟩
  cases m with
  | zero =>
   have hj : j = N := by omega
   subst hj
   simp -implicitDefEqProofs only [h6, h7, h20, h21, Int.lt_irrefl, decide_false, go_sem]
   have hz : fz H 19 kv = _ := fz_OV (f := V.int .i64) (n := 17) (fun H x => fz_int H _ _ x) hov
   simp -implicitDefEqProofs only [r204, hz, push_cast, go_sem_proc]
  | succ m =>
   have hlt : ((j : Int) < N) = True := by simp; omega
   have hw1 := wrap_int (x := (j : Int) + 1) (by omega) (by omega)
   have hnl := notIn_len w.steps j
   simp -implicitDefEqProofs only [h6, h7, h20, h21, hlt, hw1, decide_true, kOk_int, mres_trues, go_sem]
   repeat' (first | ((with_reducible refine F_q2 ?_); simp -implicitDefEqProofs only [h6, h7, h20, h21, hlt, hw1, decide_true, kOk_int, mres_trues, go_sem]) | (with_reducible refine Fork.mk ?_ ?_) | (with_reducible refine And.intro ?_ ?_) | ((with_reducible refine rpI ?_); simp -implicitDefEqProofs only [r204, push_cast, go_sem_proc]) | intro _)
   ·rename_i hb
    have hb : ¬ (j : Int) ∈ w.steps := by simpa using hb
    refine app_OV hov (fun i o l h => by cases h) (headOk_I _) (by simp; omega) ?_
    rintro kv' H' hov' hle hfr
    simp -implicitDefEqProofs only [h6, h7, h20, h21, hlt, hw1, go_sem]
    refine ⟨m, by omega, j + 1, kv', by omega, ⟨_, _, rfl⟩, rfl, by simp, ?_⟩
    rw [notIn, if_neg hb, List.map_append]
    exact hov'
   ·rename_i hb
    have hb : (j : Int) ∈ w.steps := by simpa using hb
    refine ⟨m, by omega, j + 1, kv, by omega, ⟨_, _, rfl⟩, rfl, by simp, ?_⟩
    rw [notIn, if_pos hb, List.append_nil]
    exact hov
 ·rw [if_neg h0] at h229 ⊢
  refine PCall.intro c204 300 (by simp) 20 ?_
  simp -implicitDefEqProofs only [s204, go_sem]
  repeat' (first | ((first | ((with_reducible refine cgR h229 ?_ ?_); (·simp [norefL, noref, nrb])) | ((with_reducible apply cgF); (·simp -implicitDefEqProofs only [List.map_cons, List.map_nil, push_cast, go_sem_proc] <;> rfl); (with_reducible exact h229); (·rfl)) | (with_reducible refine F_q2 ?_)); simp -implicitDefEqProofs only [h0, go_sem]) | (with_reducible refine Fork.mk ?_ ?_) | (with_reducible refine And.intro ?_ ?_) | ((with_reducible refine rpI ?_); simp -implicitDefEqProofs only [r204, push_cast, go_sem_proc]) | intro _)
  all_goals (try simp_all)
noncomputable def caV (P : Pla) : V := if ckF P = 0 then .tup [.fs ((selN P.procs (reW P).procs true).map .str), .int .i64 0] else .tup [.fs [], .int .i64 (ckF P)]
set_option maxRecDepth 20000 in
theorem t205 (P : Pla) (hc : total P ≤ 1000000) (hpn : P.procs.length ≤ 1000000) : PCall Tryz.prog 9 [encPl P] (·= caV P) := by
 have h229 := t229 P hc hpn
 simp only [encPl] at h229 ⊢
 rw [opV] at h229
 rw [caV]
 by_cases h0 : ckF P = 0
 ·have hok := okP_of (by rw [← ck_pl]; exact h0)
  rw [if_pos h0] at h229 ⊢
  have hbn : norefL (bodL P.procs P.procs (cnts P.main)) = true := fsv_noref (bodL_fsv _ _ _)
  have h231 := t231 P hc hpn hok
  have hEl := reW_len P
  rw [reV] at h231
  simp only [bkP, bkC] at h229 h231
  generalize reW P = w at *
  refine PCall.intro c205 300 (by simp) 20 ?_
  simp -implicitDefEqProofs only [s205, go_sem]
  repeat' (first | ((first | ((with_reducible first | refine cgR h229 ?_ ?_ | refine cgR h231 ?_ ?_); (·simp [norefL, noref, nrb, hbn, norefL_encP, norefL_encS, norefL_encN, norefL_bool, norefL_int])) | ((with_reducible apply cgF); (·simp -implicitDefEqProofs only [List.map_cons, List.map_nil, hbn, norefL_encP, norefL_encS, norefL_encN, norefL_bool, norefL_int, push_cast, go_sem_proc] <;> rfl); (with_reducible first | exact h229 | exact h231); (·rfl)) | (with_reducible refine F_q2 ?_)); simp -implicitDefEqProofs only [Int.reduceEq, go_sem]) | (with_reducible refine Fork.mk ?_ ?_) | (with_reducible refine And.intro ?_ ?_) | ((with_reducible refine rpI ?_); simp -implicitDefEqProofs only [r205, push_cast, go_sem_proc]) | intro _)
  rename_i hlen
  generalize hE : w.procs = E at *
  refine F_loop (fun m e H => ∃ pre post kv, P.procs = pre ++ post ∧ m = post.length ∧ (∃ bk ms, e 6 = .rptr [bk, ms, .fs (E.map .bool)]) ∧ e 7 = kv ∧ e 21 = .fs (P.procs.map encP) ∧ e 22 = .int .i64 P.procs.length ∧ e 23 = .int .i64 pre.length ∧ OV H kv ((selN pre (E.take pre.length) true).map .str)) P.procs.length
   ⟨[], P.procs, .nils, rfl, rfl, ⟨_, _, by simp [upd]; exact ⟨rfl, rfl⟩⟩, by simp [upd], by simp [upd], by simp [upd], by simp [upd], .inl ⟨by simp [selN], rfl⟩⟩ ?_
  rintro m e H ⟨pre, post, kv, hxs, rfl, ⟨bk, ms, h6⟩, h7, h19, h20, h21, hov⟩
  cases post with
  | nil =>
   have hpx : pre = P.procs := by rw [hxs]; simp
   rw [hpx, ← hEl, List.take_length] at hov
   simp -implicitDefEqProofs only [h6, h7, h19, h20, h21, mid_not hxs, go_sem]
   have hz : fz H 19 kv = _ := fz_OV (f := V.str) (n := 17) (fun H x => fz_str H _ x) hov
   simp -implicitDefEqProofs only [r205, hz, push_cast, go_sem_proc]
  | cons q post =>
   have hg := mid_get encP hxs
   simp only [encP] at hg
   have hpl : pre.length < P.procs.length := by rw [hxs]; simp
   have hgE : (E.map V.bool).getD pre.length .any = .bool (E.getD pre.length false) := by
    simp [List.getD, List.getElem?_map, List.getElem?_eq_getElem (show pre.length < E.length by omega)]
   have hix : ixP pre.length E.length := ⟨by omega, by simp; omega⟩
   have hsn := selN_snoc true pre E q (by omega)
   have hsl := selN_len true pre (E.take pre.length)
   generalize E.getD pre.length false = bv at *
   simp -implicitDefEqProofs only [h6, h7, h19, h20, h21, mid_lt hxs, mid_wrap hxs hlen, hg, hgE, hix, go_sem]
   repeat' (first | ((with_reducible refine F_q2 ?_); simp -implicitDefEqProofs only [h6, h7, h19, h20, h21, mid_lt hxs, mid_wrap hxs hlen, hg, hgE, hix, go_sem]) | (with_reducible refine Fork.mk ?_ ?_) | (with_reducible refine And.intro ?_ ?_) | ((with_reducible refine rpI ?_); simp -implicitDefEqProofs only [r205, push_cast, go_sem_proc]) | intro _)
   ·rename_i hb
    have hb : bv = true := by simpa using hb
    subst hb
    refine app_OV (hov.app _) (fun i o l h => by cases h) (headOk_str _) (by simp; omega) ?_
    rintro kv' H' hov' hle hfr
    simp -implicitDefEqProofs only [h6, h7, h19, h20, h21, mid_lt hxs, mid_wrap hxs hlen, go_sem]
    refine ⟨_, Nat.lt_succ_self _, pre ++ [q], post, kv', by simp [hxs], rfl, ⟨_, _, rfl⟩, rfl, by simp, ?_⟩
    rw [List.length_append, List.length_singleton, hsn, if_pos rfl, List.map_append]
    exact hov'
   ·rename_i hb
    have hb : bv = false := by simpa using hb
    subst hb
    refine ⟨_, Nat.lt_succ_self _, pre ++ [q], post, kv, by simp [hxs], rfl, ⟨_, _, rfl⟩, rfl, by simp, ?_⟩
    rw [List.length_append, List.length_singleton, hsn, if_neg (by decide), List.append_nil]
    exact hov.app _
 ·rw [if_neg h0] at h229 ⊢
  refine PCall.intro c205 300 (by simp) 20 ?_
  simp -implicitDefEqProofs only [s205, go_sem]
  repeat' (first | ((first | ((with_reducible refine cgR h229 ?_ ?_); (·simp [norefL, noref, nrb])) | ((with_reducible apply cgF); (·simp -implicitDefEqProofs only [List.map_cons, List.map_nil, push_cast, go_sem_proc] <;> rfl); (with_reducible exact h229); (·rfl)) | (with_reducible refine F_q2 ?_)); simp -implicitDefEqProofs only [h0, go_sem]) | (with_reducible refine Fork.mk ?_ ?_) | (with_reducible refine And.intro ?_ ?_) | ((with_reducible refine rpI ?_); simp -implicitDefEqProofs only [r205, push_cast, go_sem_proc]) | intro _)
  all_goals (try simp_all)
theorem t319 (xs : List St) (g : FuncId) (first caps : List V) (p : St → Bool) (hn : norefL first = true) (hn' : norefL caps = true)
  (h : ∀ x ∈ xs, PCall Tryz.prog g (first ++ [encS x] ++ caps) (·= .bool (p x))) : PCall Tryz.prog 183 [.fs (xs.map encS), .clos g first caps] (·= .int .i64 (ixF p xs 0)) := by
 refine PCall.intro c319 200 (by simp) 20 ?_
 simp -implicitDefEqProofs only [s319, go_sem]
 intro hlen
 refine F_loop (fun m e H => ∃ pre post, xs = pre ++ post ∧ m = post.length ∧ (∀ y ∈ pre, p y = false) ∧ e 0 = .fs (xs.map encS) ∧ e 1 = .clos g first caps ∧ e 7 = .int .i64 xs.length ∧ e 8 = .int .i64 pre.length) xs.length ⟨[], xs, by simp [upd, env0]⟩ ?_
 rintro m e H ⟨pre, post, hxs, rfl, hp, h0, h1, h7, h8⟩
 cases post with
 | nil =>
  simp -implicitDefEqProofs only [h0, h1, h7, h8, mid_not hxs, decide_false, go_sem]
  simp -implicitDefEqProofs only [r319, push_cast, go_sem_proc]
  rw [hxs, ixF_append _ pre [] 0 hp]; rfl
 | cons y post =>
  have hg := mid_get encS hxs
  have hy := h y (by simp [hxs])
  rcases y with ⟨k, r, t, v, l, ⟨ek, en, es, eas⟩, a, b, q, ps⟩
  rw [encS_mk] at hg hy
  simp -implicitDefEqProofs only [h0, h1, h7, h8, mid_lt hxs, hg, mid_wrap hxs hlen, decide_true, go_sem]
  simp only [List.append_assoc, List.cons_append, List.nil_append] at hy
  refine call_eqR (by simp [norefL_app, norefL, noref, hn, hn', norefL_encE, norefL_encS, norefL_str]) hy ?_
  simp -implicitDefEqProofs only [h0, h1, h7, h8, mid_lt hxs, hg, mid_wrap hxs hlen, decide_true, go_sem]
  refine ⟨fun hc => ?_, fun hc => ?_⟩
  ·simp -implicitDefEqProofs only [r319, push_cast, go_sem_proc]
   rw [hxs, ixF_append _ pre _ 0 hp, ixF, hc]; simp
  ·exact ⟨_, Nat.lt_succ_self _, pre ++ [_], post, by simp [hxs]; rfl, rfl, fun z hz => by rcases List.mem_append.1 hz with hz | hz; exact hp z hz; simp at hz; subst hz; exact hc, by simp⟩
theorem t284 (xs : List St) (g : FuncId) (first caps : List V) (p : St → Bool) (hn : norefL first = true) (hn' : norefL caps = true)
  (h : ∀ x ∈ xs, PCall Tryz.prog g (first ++ [encS x] ++ caps) (·= .bool (p x))) : PCall Tryz.prog 132 [.fs (xs.map encS), .clos g first caps] (·= .bool (xs.any p)) := by
 refine PCall.intro c284 200 (by simp) 20 ?_
 simp -implicitDefEqProofs only [s284, go_sem]
 refine call_eqR (by simp [norefL, noref, hn, hn', norefL_encS]) (t319 xs g first caps p hn hn' h) ?_
 simp -implicitDefEqProofs only [go_sem]
 simp -implicitDefEqProofs only [r284, push_cast, go_sem_proc]
 exact ixF_nonneg _ _ _ (by omega)
def keyP : St → ByteArray
 | .mk _ _ _ _ _ _ _ _ p _ => p
theorem t236 (k : Int) (r t v l : ByteArray) (ek en : Int) (es : ByteArray) (eas : List Ex) (a b : List St) (p : ByteArray) (ps : List ByteArray) :
  PCall Tryz.prog 56 [encS (.mk k r t v l (.mk ek en es eas) a b p ps)] (·= .bool false) := by
 rw [encS_mk]
 refine PCall.intro c236 100 (by simp) 20 ?_
 simp -implicitDefEqProofs only [s236, go_sem]
 simp -implicitDefEqProofs only [r236, push_cast, go_sem_proc]
set_option maxRecDepth 20000 in
theorem t285s (P : Pla) (g : FuncId) (caps : List V) (hn : norefL caps = true) (ec : ByteArray → Bool) (hg : ∀ s, PCall Tryz.prog g (encS s :: caps) (·= .bool (ec (keyP s))))
  (k : Int) (r t v l : ByteArray) (ek en : Int) (es : ByteArray) (eas : List Ex) (a b : List St) (p : ByteArray) (ps : List ByteArray)
  (ha : PCall Tryz.prog 54 [encPl P, .fs (a.map encS), .clos g [] caps, .clos 56 [] []] (·= .bool (thL ec a)))
  (hb : PCall Tryz.prog 54 [encPl P, .fs (b.map encS), .clos g [] caps, .clos 56 [] []] (·= .bool (thL ec b))) :
  PCall Tryz.prog 133 [encS (.mk k r t v l (.mk ek en es eas) a b p ps), .rptr [.clos 56 [] []], .rptr [.fs (P.procs.map encP), .fs (P.main.map encS)], .rptr [.clos g [] caps]] (·= .bool (!thS ec (.mk k r t v l (.mk ek en es eas) a b p ps))) := by
 have h236 := t236 k r t v l ek en es eas a b p ps
 have hgs := hg (.mk k r t v l (.mk ek en es eas) a b p ps)
 simp only [encPl] at ha hb
 simp only [keyP] at hgs
 rw [encS_mk] at h236 hgs ⊢
 refine PCall.intro c285 400 (by simp) 20 ?_
 simp -implicitDefEqProofs only [s285, go_sem]
 repeat' (first | ((first | ((with_reducible first | refine cgR h236 ?_ ?_ | refine cgR ha ?_ ?_ | refine cgR hb ?_ ?_ | refine cgR hgs ?_ ?_); (·simp [norefL, noref, nrb, hn])) | ((with_reducible apply cgF); (·simp -implicitDefEqProofs only [List.map_cons, List.map_nil, hn, push_cast, go_sem_proc] <;> rfl); (with_reducible first | exact h236 | exact ha | exact hb | exact hgs); (·rfl)) | (with_reducible refine F_q2 ?_)); simp -implicitDefEqProofs only [go_sem]) | (with_reducible refine Fork.mk ?_ ?_) | (with_reducible refine And.intro ?_ ?_) | ((with_reducible refine rpI ?_); simp -implicitDefEqProofs only [r285, push_cast, go_sem_proc]) | intro _)
 all_goals (simp only [thS]; generalize thL ec a = A at *; generalize thL ec b = B at *; generalize ec p = C at *; simp_all)
theorem t234s (P : Pla) (g : FuncId) (caps : List V) (hn : norefL caps = true) (hf : ∀ H n, fzL (fz H (n + 1)) caps = some caps) (ec : ByteArray → Bool) (l : List St)
  (h : ∀ x ∈ l, PCall Tryz.prog 133 [encS x, .rptr [.clos 56 [] []], .rptr [.fs (P.procs.map encP), .fs (P.main.map encS)], .rptr [.clos g [] caps]] (·= .bool (!thS ec x))) :
  PCall Tryz.prog 54 [encPl P, .fs (l.map encS), .clos g [] caps, .clos 56 [] []] (·= .bool (thL ec l)) := by
 have h284 := t284 l 133 [] [.rptr [.clos 56 [] []], .rptr [.fs (P.procs.map encP), .fs (P.main.map encS)], .rptr [.clos g [] caps]] (fun x => !thS ec x) rfl (by simp [norefL, noref, hn, norefL_encP, norefL_encS]) (fun x hx => by simpa using h x hx)
 have hall : l.any (fun x => !thS ec x) = !thL ec l := by
  rw [thL_all]
  clear h h284
  induction l with
  | nil => rfl
  | cons s l ih => simp only [List.any_cons, List.all_cons, ih, Bool.not_and]
 rw [hall] at h284
 simp only [encPl]
 refine PCall.intro c234 100 (by simp) 20 ?_
 simp -implicitDefEqProofs only [s234, go_sem]
 repeat' (first | ((first | ((with_reducible refine cgR h284 ?_ ?_); (·simp [norefL, noref, nrb, hn, hf, norefL_encP, norefL_encS])) | ((with_reducible apply cgF); (·simp -implicitDefEqProofs only [List.map_cons, List.map_nil, hn, hf, norefL_encP, norefL_encS, push_cast, go_sem_proc] <;> rfl); (with_reducible exact h284); (·rfl)) | (with_reducible refine F_q2 ?_)); simp -implicitDefEqProofs only [go_sem]) | (with_reducible refine Fork.mk ?_ ?_) | (with_reducible refine And.intro ?_ ?_) | ((with_reducible refine rpI ?_); simp -implicitDefEqProofs only [r234, push_cast, go_sem_proc]) | intro _)
 all_goals (try simp)
theorem t234 (P : Pla) (g : FuncId) (caps : List V) (hn : norefL caps = true) (hf : ∀ H n, fzL (fz H (n + 1)) caps = some caps) (ec : ByteArray → Bool) (hg : ∀ s, PCall Tryz.prog g (encS s :: caps) (·= .bool (ec (keyP s)))) : ∀ (m : Nat) (l : List St), SizeOf.sizeOf l < m →
  PCall Tryz.prog 54 [encPl P, .fs (l.map encS), .clos g [] caps, .clos 56 [] []] (·= .bool (thL ec l))
 | 0, l, h => absurd h (Nat.not_lt_zero _)
 | m + 1, l, hm => t234s P g caps hn hf ec l (fun x hx => by
  have hs := List.sizeOf_lt_of_mem hx
  rcases x with ⟨k, r, t, v, lb, ⟨ek, en, es, eas⟩, a, b, p, ps⟩
  simp only [St.mk.sizeOf_spec] at hs
  exact t285s P g caps hn ec hg k r t v lb ek en es eas a b p ps (t234 P g caps hn hf ec hg m a (by omega)) (t234 P g caps hn hf ec hg m b (by omega)))
def ecS (X : List Pr) (S : List Int) (p : ByteArray) : Bool := decide (procI X p ∈ S)
theorem t283 (P : Pla) (S : List Int) (s : St) : PCall Tryz.prog 131 (encS s :: [.rptr [.fmap (S.map (.int .i64)) (trues S)], .rptr [.fs (P.procs.map encP), .fs (P.main.map encS)]]) (·= .bool (ecS P.procs S (keyP s))) := by
 rcases s with ⟨k, r, t, v, l, ⟨ek, en, es, eas⟩, a, b, p, ps⟩
 have h30 := t30 P p
 simp only [encPl] at h30
 rw [encS_mk]
 refine PCall.intro c283 100 (by simp) 20 ?_
 simp -implicitDefEqProofs only [s283, go_sem]
 repeat' (first | ((first | ((with_reducible refine cgR h30 ?_ ?_); (·simp [norefL, noref, nrb])) | ((with_reducible apply cgF); (·simp -implicitDefEqProofs only [List.map_cons, List.map_nil, push_cast, go_sem_proc] <;> rfl); (with_reducible exact h30); (·rfl)) | (with_reducible refine F_q2 ?_)); simp -implicitDefEqProofs only [kOk_int, mres_trues, go_sem]) | (with_reducible refine Fork.mk ?_ ?_) | (with_reducible refine And.intro ?_ ?_) | ((with_reducible refine rpI ?_); simp -implicitDefEqProofs only [r283, push_cast, go_sem_proc]) | intro _)
 all_goals (try rfl)
theorem t235 (P : Pla) (S : List Int) (s : St) : PCall Tryz.prog 55 (encS s :: [.rptr [.fmap (S.map (.int .i64)) (trues S)], .rptr [.fs (P.procs.map encP), .fs (P.main.map encS)]]) (·= .bool (ecS P.procs S (keyP s))) := by
 rcases s with ⟨k, r, t, v, l, ⟨ek, en, es, eas⟩, a, b, p, ps⟩
 have h30 := t30 P p
 simp only [encPl] at h30
 rw [encS_mk]
 refine PCall.intro c235 100 (by simp) 20 ?_
 simp -implicitDefEqProofs only [s235, go_sem]
 repeat' (first | ((first | ((with_reducible refine cgR h30 ?_ ?_); (·simp [norefL, noref, nrb])) | ((with_reducible apply cgF); (·simp -implicitDefEqProofs only [List.map_cons, List.map_nil, push_cast, go_sem_proc] <;> rfl); (with_reducible exact h30); (·rfl)) | (with_reducible refine F_q2 ?_)); simp -implicitDefEqProofs only [kOk_int, mres_trues, go_sem]) | (with_reducible refine Fork.mk ?_ ?_) | (with_reducible refine And.intro ?_ ?_) | ((with_reducible refine rpI ?_); simp -implicitDefEqProofs only [r235, push_cast, go_sem_proc]) | intro _)
 all_goals (try rfl)
theorem t320 (P : Pla) (S : List Int) (s : St) : PCall Tryz.prog 184 (encS s :: [.rptr [.fmap (S.map (.int .i64)) (trues S)], .rptr [.fs (P.procs.map encP), .fs (P.main.map encS)]]) (·= .bool (ecS P.procs S (keyP s))) := by
 rcases s with ⟨k, r, t, v, l, ⟨ek, en, es, eas⟩, a, b, p, ps⟩
 have h30 := t30 P p
 simp only [encPl] at h30
 rw [encS_mk]
 refine PCall.intro c320 100 (by simp) 20 ?_
 simp -implicitDefEqProofs only [s320, go_sem]
 repeat' (first | ((first | ((with_reducible refine cgR h30 ?_ ?_); (·simp [norefL, noref, nrb])) | ((with_reducible apply cgF); (·simp -implicitDefEqProofs only [List.map_cons, List.map_nil, push_cast, go_sem_proc] <;> rfl); (with_reducible exact h30); (·rfl)) | (with_reducible refine F_q2 ?_)); simp -implicitDefEqProofs only [kOk_int, mres_trues, go_sem]) | (with_reducible refine Fork.mk ?_ ?_) | (with_reducible refine And.intro ?_ ?_) | ((with_reducible refine rpI ?_); simp -implicitDefEqProofs only [r320, push_cast, go_sem_proc]) | intro _)
 all_goals (try rfl)
def capS (P : Pla) (S : List Int) : List V := [.rptr [.fmap (S.map (.int .i64)) (trues S)], .rptr [.fs (P.procs.map encP), .fs (P.main.map encS)]]
theorem noref_capS (P : Pla) (S : List Int) : norefL (capS P S) = true := by simp [capS, norefL, noref, norefL_int, norefL_encP, norefL_encS]
theorem fz_capS (P : Pla) (S : List Int) (H : List Blk) (n : Nat) : fzL (fz H (n + 1)) (capS P S) = some (capS P S) := by
 simp [capS, fzL_cons, fzL_nil, fz_rptr, fzC_some, norefL, noref, norefL_int, norefL_encP, norefL_encS]
theorem passes (P : Pla) (S : List Int) (g : FuncId) (hg : ∀ s, PCall Tryz.prog g (encS s :: capS P S) (·= .bool (ecS P.procs S (keyP s)))) (l : List St) :
  PCall Tryz.prog 54 [encPl P, .fs (l.map encS), .clos g [] (capS P S), .clos 56 [] []] (·= .bool (thL (ecS P.procs S) l)) :=
 t234 P g _ (noref_capS P S) (fz_capS P S) _ hg _ l (Nat.lt_succ_self _)
def toE (n : Nat) (S : List Int) : List Bool := (List.range n).map fun (i : Nat) => decide ((i : Int) ∈ S)
theorem toE_len (n : Nat) (S : List Int) : (toE n S).length = n := by simp [toE]
theorem toE_get (n : Nat) (S : List Int) (i : Nat) (h : i < n) : (toE n S)[i]? = some (decide ((i : Int) ∈ S)) := by simp [toE, h]
theorem toE_nil (n : Nat) : toE n [] = List.replicate n false := by
 apply List.ext_getElem?
 intro i
 by_cases h : i < n
 ·rw [toE_get _ _ _ h]; simp [h]
 ·rw [List.getElem?_eq_none (by rw [toE_len]; omega), List.getElem?_eq_none (by simp; omega)]
theorem toE_add (n : Nat) (S : List Int) (i : Nat) : toE n (addN S i) = (toE n S).set i true := by
 apply List.ext_getElem?
 intro j
 rw [List.getElem?_set]
 by_cases h : j < n
 ·rw [toE_get _ _ _ h]
  by_cases hij : i = j
  ·subst hij; simp [toE_len, h, mem_addN]
  ·rw [if_neg hij, toE_get _ _ _ h]
   have : (j : Int) ≠ (i : Int) := by omega
   simp [mem_addN, this]
 ·rw [List.getElem?_eq_none (by rw [toE_len]; omega)]
  split
  ·rw [if_neg (by rw [toE_len]; omega)]
  ·rw [List.getElem?_eq_none (by rw [toE_len]; omega)]
theorem ecS_toE (X : List Pr) (S : List Int) (hS : ∀ x ∈ S, 0 ≤ x) (p : ByteArray) : ecS X S p = ecE X (toE X.length S) p := by
 unfold ecS ecE
 split
 ·rename_i h
  simp only [decide_eq_false_iff_not]
  intro hm
  have := hS _ hm; omega
 ·rename_i h
  have hlt := procI_lt (X := X) (p := p) (by omega)
  rw [List.getD_eq_getElem?_getD, toE_get _ _ _ hlt]
  have : (((procI X p).toNat : Nat) : Int) = procI X p := by omega
  rw [this]; rfl
theorem thL_ext {ec ec' : ByteArray → Bool} (h : ∀ p, ec p = ec' p) (l : List St) : thL ec l = thL ec' l := by
 have : ec = ec' := funext h
 rw [this]
structure SetP (n : Nat) (S : List Int) : Prop where
 lo : ∀ x ∈ S, 0 ≤ x
 hi : ∀ x ∈ S, x < n
 nodup : S.Nodup
theorem SetP.nil (n : Nat) : SetP n [] := ⟨by simp, by simp, List.nodup_nil⟩
theorem SetP.add {n : Nat} {S : List Int} (h : SetP n S) {i : Nat} (hi : i < n) : SetP n (addN S i) := by
 refine ⟨fun x hx => ?_, fun x hx => ?_, ?_⟩
 ·rcases mem_addN.1 hx with hx | rfl
  ·exact h.lo x hx
  ·omega
 ·rcases mem_addN.1 hx with hx | rfl
  ·exact h.hi x hx
  ·omega
 ·unfold addN
  split
  ·exact h.nodup
  ·rename_i hc
   have hc : ¬ (i : Int) ∈ S := by simpa using hc
   rw [List.nodup_append]
   exact ⟨h.nodup, by simp, fun a ha b hb => by simp at hb; subst hb; intro he; subst he; exact hc ha⟩
def EndS (X : List Pr) (S : List Int) : Prop := SetP X.length S ∧ toE X.length S = endsOf X
theorem EndS.ec {X : List Pr} {S : List Int} (h : EndS X S) (p : ByteArray) : ecS X S p = ecE X (endsOf X) p := by rw [ecS_toE X S h.1.lo, h.2]
theorem EndS.th {X : List Pr} {S : List Int} (h : EndS X S) (l : List St) : thL (ecS X S) l = thL (ecE X (endsOf X)) l := thL_ext h.ec l
set_option maxRecDepth 20000 in
set_option maxHeartbeats 2000000 in
theorem t233 (P : Pla) (hpn : P.procs.length ≤ 1000000) : PCall Tryz.prog 53 [encPl P] (fun r => ∃ S, EndS P.procs S ∧ r = .fmap (S.map (.int .i64)) (trues S)) := by
 rcases P with ⟨xs, main⟩
 have h234 := fun S l => passes ⟨xs, main⟩ S 131 (t283 ⟨xs, main⟩ S) l
 simp only [encPl, capS] at h234 ⊢
 refine PCall.intro c233 300 (by simp) 20 ?_
 simp -implicitDefEqProofs only [s233, go_sem]
 have htn : trues [] = [] := rfl
 refine F_loop (fun m e H => ∃ S mo J, SetP xs.length S ∧ Lo xs (toE xs.length S) ∧ (mo = false → Cl xs (toE xs.length S)) ∧ m = 2 * fls (toE xs.length S) + (if mo then 1 else 0) ∧ e 1 = .ptr 0 0 0 ∧ e 3 = .ptr 2 0 0 ∧ e 4 = .bool mo ∧
  H = Blk.row [.agg [.fs (xs.map encP), .fs (main.map encS)]] :: Blk.mp (S.map (.int .i64)) (trues S) :: Blk.row [.map 1] :: J) (2 * fls (toE xs.length []) + 1)
  ⟨[], true, [], SetP.nil _, by rw [toE_nil]; exact Lo.init xs, (fun h => by cases h), rfl, by simp [upd, env0], by simp [upd, env0], by simp [upd, env0], rfl⟩ ?_
 rintro m e H ⟨S, mo, J, hS, hlo, hcl, rfl, h1, h3, h4, rfl⟩
 cases mo with
 | false =>
  simp -implicitDefEqProofs only [h1, h3, h4, go_sem]
  simp -implicitDefEqProofs only [r233, fz_trues, fz_ints, push_cast, go_sem_proc]
  exact ⟨S, ⟨hS, endsOf_eq (hcl rfl) hlo⟩, rfl⟩
 | true =>
  simp -implicitDefEqProofs only [h1, h3, h4, go_sem]
  intro hlen
  refine F_loop (fun m e H => ∃ pre post S' mo J', xs = pre ++ post ∧ m = post.length ∧ SetP xs.length S' ∧ Lo xs (toE xs.length S') ∧ (mo = true → fls (toE xs.length S') < fls (toE xs.length S)) ∧ (mo = false → S' = S ∧ ∀ (i : Nat) q, pre[i]? = some q → thL (ecE xs (toE xs.length S)) q.steps = true → (toE xs.length S)[i]? = some true) ∧
   e 1 = .ptr 0 0 0 ∧ e 3 = .ptr 2 0 0 ∧ e 4 = .bool mo ∧ e 10 = .fs (xs.map encP) ∧ e 11 = .int .i64 xs.length ∧ e 12 = .int .i64 pre.length ∧
   H = Blk.row [.agg [.fs (xs.map encP), .fs (main.map encS)]] :: Blk.mp (S'.map (.int .i64)) (trues S') :: Blk.row [.map 1] :: J') xs.length
   ⟨[], xs, S, false, J, rfl, rfl, hS, hlo, (fun h => by cases h), (fun _ => ⟨rfl, fun i q h => by simp at h⟩), by simp [upd, h1], by simp [upd, h3], by simp [upd], by simp [upd], by simp [upd], by simp [upd], rfl⟩ ?_
  rintro m e H ⟨pre, post, S', mo, J', hxs, rfl, hS', hlo', hmt, hmf, h1, h3, h4, h10, h11, h12, rfl⟩
  cases post with
  | nil =>
   have hpx : pre = xs := by rw [hxs]; simp
   simp -implicitDefEqProofs only [h1, h3, h4, h10, h11, h12, mid_not hxs, go_sem]
   refine ⟨2 * fls (toE xs.length S') + (if mo then 1 else 0), ?_, S', mo, ?_⟩
   ·cases mo with
    | true => have := hmt rfl; simp; omega
    | false => have := (hmf rfl).1; subst this; simp
   ·refine ⟨J', hS', hlo', (fun h => ?_), rfl, rfl, rfl⟩
    obtain ⟨rfl, h'⟩ := hmf h
    exact ⟨hlo'.1, fun i q hq ht => h' i q (by rw [hpx]; exact hq) ht⟩
  | cons q post =>
   have hg := mid_get encP hxs
   simp only [encP] at hg
   have hpl : pre.length < xs.length := by rw [hxs]; simp
   have hec := fun p => ecS_toE xs S' hS'.lo p
   have h234 := h234 S' q.steps
   rw [thL_ext hec] at h234
   have hbE := toE_get xs.length S' pre.length hpl
   generalize htv : thL (ecE xs (toE xs.length S')) q.steps = tv at *
   simp -implicitDefEqProofs only [h1, h3, h4, h10, h11, h12, mid_lt hxs, mid_wrap hxs hlen, hg, kOk_int, mres_trues, mputK_trues, mputV_trues, go_sem]
   repeat' (first | ((first | ((with_reducible refine cgR h234 ?_ ?_); (·simp [norefL, noref, nrb, fz_trues, fz_ints, norefL_int, norefL_trues])) | ((with_reducible apply cgF); (·simp -implicitDefEqProofs only [List.map_cons, List.map_nil, fz_trues, fz_ints, norefL_int, norefL_trues, push_cast, go_sem_proc] <;> rfl); (with_reducible exact h234); (·rfl)) | (with_reducible refine F_q2 ?_)); simp -implicitDefEqProofs only [h1, h3, h4, h10, h11, h12, mid_lt hxs, mid_wrap hxs hlen, hg, kOk_int, mres_trues, mputK_trues, mputV_trues, go_sem]) | (with_reducible refine Fork.mk ?_ ?_) | (with_reducible refine And.intro ?_ ?_) | ((with_reducible refine rpI ?_); simp -implicitDefEqProofs only [r233, push_cast, go_sem_proc]) | intro _)
   ·rename_i hb1 ht1
    have hb1 : ¬ (pre.length : Int) ∈ S' := by simpa using hb1
    have ht1 : tv = true := by simpa using ht1
    subst ht1
    have hfl := fls_set (E := toE xs.length S') (i := pre.length) (by rw [hbE]; simp [hb1])
    refine ⟨_, Nat.lt_succ_self _, pre ++ [q], post, addN S' pre.length, true, _, by simp [hxs], rfl, hS'.add hpl, by rw [toE_add]; exact hlo'.step (q := q) (by rw [hxs]; simp) htv, (fun _ => ?_), (fun h => by cases h), rfl, by simp, rfl⟩
    rw [toE_add]
    cases mo with
    | true => have := hmt rfl; omega
    | false => have := (hmf rfl).1; subst this; omega
   ·rename_i hb1 ht1
    have ht1 : tv = false := by simpa using ht1
    subst ht1
    refine ⟨_, Nat.lt_succ_self _, pre ++ [q], post, S', mo, _, by simp [hxs], rfl, hS', hlo', hmt, (fun h => ?_), rfl, by simp, rfl⟩
    obtain ⟨rfl, h'⟩ := hmf h
    refine ⟨rfl, fun i q' hq' ht' => ?_⟩
    by_cases hi : i < pre.length
    ·rw [List.getElem?_append_left hi] at hq'; exact h' i q' hq' ht'
    ·rw [List.getElem?_append_right (by omega)] at hq'
     have : i - pre.length = 0 := by have := (List.getElem?_eq_some_iff.1 hq').1; simp at this; omega
     rw [this] at hq'; simp at hq'; subst hq'
     rw [htv] at ht'; cases ht'
   ·rename_i hb1
    have hb1 : (pre.length : Int) ∈ S' := by simpa using hb1
    refine ⟨_, Nat.lt_succ_self _, pre ++ [q], post, S', mo, _, by simp [hxs], rfl, hS', hlo', hmt, (fun h => ?_), rfl, by simp, rfl⟩
    obtain ⟨rfl, h'⟩ := hmf h
    refine ⟨rfl, fun i q' hq' ht' => ?_⟩
    by_cases hi : i < pre.length
    ·rw [List.getElem?_append_left hi] at hq'; exact h' i q' hq' ht'
    ·rw [List.getElem?_append_right (by omega)] at hq'
     have : i - pre.length = 0 := by have := (List.getElem?_eq_some_iff.1 hq').1; simp at this; omega
     have : i = pre.length := by omega
     subst this
     rw [hbE]; simp [hb1]
set_option maxRecDepth 20000 in
theorem t207 (P : Pla) (hpn : P.procs.length ≤ 1000000) : PCall Tryz.prog 12 [encPl P] (·= .tup [.fs ((selN P.procs (endsOf P.procs) false).map .str), .bool (thL (ecE P.procs (endsOf P.procs)) P.main)]) := by
 have h233 := t233 P hpn
 have hEl := (endsOf_cl P.procs).1
 have h234 := fun S hS => by have := passes P S 55 (t235 P S) P.main; rw [EndS.th hS] at this; exact this
 simp only [encPl, capS] at h233 h234 ⊢
 generalize hth : thL (ecE P.procs (endsOf P.procs)) P.main = th at *
 refine PCall.intro c207 300 (by simp) 20 ?_
 simp -implicitDefEqProofs only [s207, go_sem]
 refine call_pureR (by simp [norefL, noref, norefL_encP, norefL_encS]) h233 ?_
 rintro _ ⟨S, hS, rfl⟩
 have h234 := h234 S hS
 have hget : ∀ i : Nat, i < P.procs.length → decide ((i : Int) ∈ S) = (endsOf P.procs).getD i false := fun i hi => by
  have := toE_get P.procs.length S i hi
  rw [hS.2] at this
  rw [List.getD_eq_getElem?_getD, this]; rfl
 generalize hE : endsOf P.procs = E at *
 simp -implicitDefEqProofs only [go_sem]
 intro hlen
 refine F_loop (fun m e H => ∃ pre post kv J, P.procs = pre ++ post ∧ m = post.length ∧ e 1 = .ptr 0 0 0 ∧ e 4 = .ptr 1 0 0 ∧ e 5 = kv ∧ e 11 = .fs (P.procs.map encP) ∧ e 12 = .int .i64 P.procs.length ∧ e 13 = .int .i64 pre.length ∧
  H = Blk.row [.agg [.fs (P.procs.map encP), .fs (P.main.map encS)]] :: Blk.row [.fmap (S.map (.int .i64)) (trues S)] :: J ∧ OV H kv ((selN pre (E.take pre.length) false).map .str) ∧ kvne kv 0 ∧ kvne kv 1) P.procs.length
  ⟨[], P.procs, .nils, [], rfl, rfl, by simp [upd, env0], by simp [upd], by simp [upd], by simp [upd], by simp [upd], by simp [upd], rfl, .inl ⟨by simp [selN], rfl⟩, (fun a b h => by cases h), (fun a b h => by cases h)⟩ ?_
 rintro m e H ⟨pre, post, kv, J, hxs, rfl, h1, h4, h5, h11, h12, h13, rfl, hov, hk0, hk1⟩
 cases post with
 | nil =>
  have hpx : pre = P.procs := by rw [hxs]; simp
  rw [hpx, ← hEl, List.take_length] at hov
  simp -implicitDefEqProofs only [h1, h4, h5, h11, h12, h13, mid_not hxs, go_sem]
  repeat' (first | ((first | ((with_reducible refine cgR h234 ?_ ?_); (·simp [norefL, noref, nrb, norefL_int, norefL_trues])) | ((with_reducible apply cgF); (·simp -implicitDefEqProofs only [List.map_cons, List.map_nil, norefL_int, norefL_trues, push_cast, go_sem_proc] <;> rfl); (with_reducible exact h234); (·rfl)) | (with_reducible refine F_q2 ?_)); simp -implicitDefEqProofs only [h1, h4, h5, h11, h12, h13, go_sem]) | (with_reducible refine Fork.mk ?_ ?_) | (with_reducible refine And.intro ?_ ?_) | ((with_reducible refine rpI ?_); simp -implicitDefEqProofs only [r207, push_cast, go_sem_proc]) | intro _)
  have hz : fz _ 19 kv = _ := fz_OV (f := V.str) (n := 17) (fun H x => fz_str H _ x) hov
  rw [hz]
  exact ⟨_, rfl, rfl⟩
 | cons q post =>
  have hg := mid_get encP hxs
  simp only [encP] at hg
  have hpl : pre.length < P.procs.length := by rw [hxs]; simp
  have hgE := hget pre.length hpl
  have hsn := selN_snoc false pre E q (by omega)
  have hsl := selN_len false pre (E.take pre.length)
  generalize E.getD pre.length false = bv at *
  simp -implicitDefEqProofs only [h1, h4, h5, h11, h12, h13, mid_lt hxs, mid_wrap hxs hlen, hg, hgE, kOk_int, mres_trues, go_sem]
  repeat' (first | ((with_reducible refine F_q2 ?_); simp -implicitDefEqProofs only [h1, h4, h5, h11, h12, h13, mid_lt hxs, mid_wrap hxs hlen, hg, hgE, kOk_int, mres_trues, go_sem]) | (with_reducible refine Fork.mk ?_ ?_) | (with_reducible refine And.intro ?_ ?_) | ((with_reducible refine rpI ?_); simp -implicitDefEqProofs only [r207, push_cast, go_sem_proc]) | intro _)
  ·rename_i hb
   have hb : bv = false := by simpa using hb
   subst hb
   refine app_OV (hov.app _) (fun i o l h => by cases h) (headOk_str _) (by simp; omega) ?_
   rintro kv' H' hov' hle hfr
   obtain ⟨hf0, hn0⟩ := hfr 0 (by simp) hk0
   obtain ⟨hf1, hn1⟩ := hfr 1 (by simp) hk1
   simp only [List.cons_append, List.getElem?_cons_zero, List.getElem?_cons_succ] at hf0 hf1
   obtain ⟨J', rfl⟩ := two_cons hf0 hf1
   simp -implicitDefEqProofs only [h1, h4, h5, h11, h12, h13, mid_lt hxs, mid_wrap hxs hlen, go_sem]
   refine ⟨_, Nat.lt_succ_self _, pre ++ [q], post, kv', J', by simp [hxs], rfl, rfl, by simp, rfl, ?_, hn0, hn1⟩
   rw [List.length_append, List.length_singleton, hsn, if_pos rfl, List.map_append]
   exact hov'
  ·rename_i hb
   have hb : bv = true := by simpa using hb
   subst hb
   refine ⟨_, Nat.lt_succ_self _, pre ++ [q], post, kv, _, by simp [hxs], rfl, rfl, by simp, rfl, ?_, hk0, hk1⟩
   rw [List.length_append, List.length_singleton, hsn, if_neg (by decide), List.append_nil]
   exact hov.app _
theorem Sim.revive {f : Fr} {B : List Pl} {I : IM} {w : World} {H : List Blk} (h : Sim f B I w H) {o : Nat} {p : Pl} {b : Blk} (hp : B[o]? = some p) (hok : BlkOK B I w p b)
  (hsep : ∀ (i : Nat) q c, i ≠ o → B[i]? = some q → H[i]? = some c → c.live = true → q.blk ≠ p.blk)
  (hown : I p.blk = none ∧ (f.w0.heap.size ≤ p.blk ∨ f.M p.blk) ∧ p.blk < w.heap.size) : Sim f B I w (H.set o b) where
 len := by simp [h.len]
 imm := h.imm
 ile := h.ile
 ifresh := h.ifresh
 os := h.os
 tape := h.tape
 output := h.output
 size := h.size
 keep := h.keep
 ok i q c h1 h2 := by
  rw [lset_get] at h2
  split at h2
  ·rename_i e; subst e
   split at h2 <;> cases h2
   rw [hp] at h1; cases h1; exact hok
  ·exact h.ok i q c h1 h2
 sep i j q r c d h1 h2 h3 h4 hc hd he := by
  rw [lset_get] at h3 h4
  split at h3
  ·rename_i e; subst e
   split at h4
   ·rename_i e; exact e
   ·rename_i e
    rw [hp] at h1; cases h1
    exact absurd he.symm (hsep j r d (fun hh => e hh.symm) h2 h4 hd)
  ·rename_i e1
   split at h4
   ·rename_i e; subst e
    rw [hp] at h2; cases h2
    exact absurd he (hsep i q c (fun hh => e1 hh.symm) h1 h3 hc)
   ·exact h.sep i j q r c d h1 h2 h3 h4 hc hd he
 own i q c h1 h2 hl := by
  rw [lset_get] at h2
  split at h2
  ·rename_i e; subst e
   rw [hp] at h1; cases h1; exact hown
  ·exact h.own i q c h1 h2 hl
theorem ACall.trimC {P : Program} {g : FuncId} {vs : List V} {H : List Blk} {K : V → List Blk → Prop} (o : Nat)
  (h : ACall P g vs H (fun r H' => ∃ H2 X id es, H' = H2 ++ X ∧ H2.length = H.length ∧ noref r = true ∧ H2[o]? = some (.row [.ms (H2.length + id) 0 es.length]) ∧ X[id]? = some (.row es) ∧ norefL es = true ∧
   (∀ (i : Nat) b, i ≠ o → H2[i]? = some b → H[i]? = some b ∨ b.nr = true) ∧ K r (H2.set o (.row [.ms H2.length 0 es.length]) ++ [.row es]))) : ACall P g vs H K := by
 refine ⟨h.1, fun f B I w args hs hr => (h.2 f B I w args hs hr).mono ?_⟩
 rintro e w' ⟨r, v, H', B', I', rfl, ⟨H2, X, id, es, rfl, hl, hnr, hcell, hX, hes, hrow, hk⟩, hs', hB, hI, hrep⟩
 have ho : o < H2.length := (List.getElem?_eq_some_iff.1 hcell).1
 have hmask : Sim f B' I' w' (H2.set o .dead ++ X) := hs'.mask (by simp) (fun i b hb => by
  by_cases hi : i < H2.length
  ·rw [List.getElem?_append_left (by simpa using hi), lset_get] at hb
   rw [List.getElem?_append_left hi]
   split at hb
   ·first | (cases hb; exact .inl rfl) | (rw [if_pos ho] at hb; cases hb; exact .inl rfl)
   ·exact .inr hb
  ·rw [List.getElem?_append_right (by simp; omega)] at hb
   rw [List.getElem?_append_right (by omega)]
   simpa using Or.inr hb)
 obtain ⟨h1, h2⟩ := hs.trim hmask hB (by simp [hl]) (fun i b hb => by
  rw [lset_get] at hb
  split at hb
  ·first | (cases hb; exact .inr rfl) | (rw [if_pos ho] at hb; cases hb; exact .inr rfl)
  ·rename_i hne
   exact hrow i b (fun hh => hne hh.symm) hb)
 have hlen2 : (H2.set o .dead).length = H2.length := by simp
 rw [hlen2] at h1 h2
 have hcell' : (H2 ++ X)[o]? = some (.row [.ms (H2.length + id) 0 es.length]) := by rw [List.getElem?_append_left ho]; exact hcell
 have hid : (H2 ++ X)[H2.length + id]? = some (.row es) := by rw [List.getElem?_append_right (by omega)]; rw [← hX]; congr 1; omega
 have hBl : H2.length + X.length = B'.length := by rw [hs'.len]; simp
 obtain ⟨p, hp⟩ : ∃ p, B'[H2.length + id]? = some p := by
  have := (List.getElem?_eq_some_iff.1 hX).1
  exact ⟨B'[H2.length + id]'(by omega), List.getElem?_eq_getElem _⟩
 obtain ⟨po, hpo⟩ : ∃ p, B'[o]? = some p := ⟨B'[o]'(by omega), List.getElem?_eq_getElem _⟩
 have htk : ∀ i, i < H2.length → (B'.take H2.length)[i]? = B'[i]? := fun i hi => by rw [List.getElem?_take, if_pos hi]
 have hpush : Sim f (B'.take H2.length ++ [p]) I' w' (H2.set o .dead ++ [.row es]) := by
  refine h1.push _ _ ?_ ?_ ?_
  ·obtain ⟨carr, e, h4, h5, h6, h7⟩ := hs'.ok _ p _ hp hid
   exact ⟨carr, e, h4, h5, h6, noref_elems hes h7⟩
  ·intro i q c h3 h4 hc heq
   have hi : i < H2.length := by have := (List.getElem?_eq_some_iff.1 h4).1; simpa using this
   rw [htk i hi] at h3
   have h4' : (H2.set o .dead ++ X)[i]? = some c := by rw [List.getElem?_append_left (by simpa using hi)]; exact h4
   have hid' : (H2.set o .dead ++ X)[H2.length + id]? = some (.row es) := by rw [List.getElem?_append_right (by simp)]; rw [← hX]; congr 1; simp
   have := hmask.sep i _ q p c _ h3 hp h4' hid' hc rfl heq
   omega
  ·exact hs'.own _ p _ hp hid rfl
 have hBt : B'.take H2.length ++ [p] = B'.take H2.length ++ [p] := rfl
 have hblen : (B'.take H2.length).length = H2.length := by simp; omega
 have hrev := hpush.revive (o := o) (p := po) (b := .row [.ms H2.length 0 es.length]) (by rw [List.getElem?_append_left (by omega), htk o ho]; exact hpo) ?_ ?_ ?_
 ·refine ⟨r, v, _, B'.take H2.length ++ [p], I', rfl, hk, ?_, h2.trans (BLe.append _ _), hI, noref_rep hnr hrep⟩
  rw [List.set_append_left _ _ (by simpa using ho), List.set_set] at hrev
  exact hrev
 ·obtain ⟨carr, e, h4, h5, h6, h7⟩ := hs'.ok o po _ hpo hcell'
  refine ⟨carr, e, h4, h5, h6, ?_⟩
  simp only [ElemsG] at h7 ⊢
  obtain ⟨a1, ⟨v, a2, a3⟩, _⟩ := h7
  refine ⟨a1, ⟨v, a2, ?_⟩, trivial⟩
  simp only [Rep] at a3 ⊢
  obtain ⟨q, a, cap, b1, b2⟩ := a3
  rw [hp] at b1; cases b1
  exact ⟨p, a, cap, by rw [List.getElem?_append_right (by omega), hblen]; simp, b2⟩
 ·intro i q c hio h3 h4 hc heq
  by_cases hi : i < H2.length
  ·rw [List.getElem?_append_left (by omega), htk i hi] at h3
   rw [List.getElem?_append_left (by simpa using hi), lset_get, if_neg (fun hh => hio hh.symm)] at h4
   have h4' : (H2 ++ X)[i]? = some c := by rw [List.getElem?_append_left hi]; exact h4
   exact hio (hs'.sep i o q po c _ h3 hpo h4' hcell' hc rfl heq)
  ·have hiN : i = H2.length := by have := (List.getElem?_eq_some_iff.1 h4).1; simp at this; omega
   subst hiN
   rw [List.getElem?_append_right (by omega), hblen] at h3
   simp at h3; subst h3
   have := hs'.sep _ o p po _ _ hp hpo hid hcell' rfl rfl heq
   omega
 ·exact hs'.own o po _ hpo hcell' rfl
def OVd (H : List Blk) (kv : V) (O : List Int) : Prop := (O = [] ∧ kv = .nils) ∨ ∃ id off es, kv = .ms id off O.length ∧ H[id]? = some (.row (es.map (.int .i64))) ∧ es ≠ [] ∧ off + O.length = es.length ∧ es.drop off = O
def killV : V → List Blk → List Blk
 | .ms id _ _, H => H.set id .dead
 | _, H => H
theorem killV_length (kv : V) (H : List Blk) : (killV kv H).length = H.length := by cases kv <;> simp [killV]
theorem app_OVd {bytes : Nat} {H : List Blk} {kv : V} {O : List Int} {i : Int} {K : V → List Blk → Prop} (hov : OVd H kv O) (hb : (O.length + 1) * bytes ≤ 140737488355328)
  (hk : K (.ms H.length 0 (O.length + 1)) (killV kv H ++ [.row ((O ++ [i]).map (.int .i64))])) : appK 1 bytes [.int .i64 i] (.fs [.int .i64 i]) kv H K := by
 rcases hov with ⟨rfl, rfl⟩ | ⟨id, off, es, rfl, hid, hne, hl, hd⟩
 ·rw [appK_nils]
  exact ⟨fun h => (by cases h), fun _ => ⟨by simpa using hb, by simpa [killV] using hk⟩⟩
 ·rw [appK_ms, hid, appM_row]
  refine ⟨⟨by simpa using hl, by simpa using hne, headOk_I es, fun i o l h => (by cases h), by simpa using hb⟩, ?_⟩
  rw [← List.map_drop, hd]
  simpa [killV] using hk
structure KInv (H : List Blk) (kv : V) (so : List Int × List Int) : Prop where
 seen : H[2]? = some (.mp (so.1.map (.int .i64)) (trues so.1))
 cell : H[3]? = some (.row [.map 2])
 open_ : H[4]? = some (.row [kv])
 ov : OVd H kv so.2
 n2 : kvne kv 2
 n3 : kvne kv 3
 n4 : kvne kv 4
def cb1 (so : List Int × List Int) (i : Int) : List Int × List Int := if i ∈ so.1 then so else (so.1 ++ [i], so.2 ++ [i])
structure KR (H : List Blk) (kv : V) (so : List Int × List Int) (H1 : List Blk) (kv1 : V) (so1 : List Int × List Int) : Prop where
 len : H.length ≤ H1.length
 inv : KInv H1 kv1 so1
 how : (so1 = so ∧ kv1 = kv ∧ ∀ j, j < H.length → H1[j]? = H[j]?) ∨
  (so.1.length < so1.1.length ∧ ∃ id, kv1 = .ms id 0 so1.2.length ∧ H.length ≤ id ∧ H1[id]? = some (.row (so1.2.map (.int .i64))) ∧ ∀ j, j < H.length → j ≠ 2 → j ≠ 4 → H1[j]? = (killV kv H)[j]?)
theorem OVd.mono {H H1 : List Blk} {kv : V} {O : List Int} (h : OVd H kv O) (hj : ∀ j, j < H.length → H1[j]? = H[j]?) : OVd H1 kv O := by
 rcases h with h | ⟨id, off, es, h1, h2, h3⟩
 ·exact .inl h
 ·exact .inr ⟨id, off, es, h1, by rw [hj id (List.getElem?_eq_some_iff.1 h2).1]; exact h2, h3⟩
theorem KInv.grow {H H1 : List Blk} {kv : V} {so : List Int × List Int} (h : KInv H kv so) (hj : ∀ j, j < H.length → H1[j]? = H[j]?) : KInv H1 kv so :=
 ⟨by rw [hj 2 (List.getElem?_eq_some_iff.1 h.seen).1]; exact h.seen, by rw [hj 3 (List.getElem?_eq_some_iff.1 h.cell).1]; exact h.cell, by rw [hj 4 (List.getElem?_eq_some_iff.1 h.open_).1]; exact h.open_, h.ov.mono hj, h.n2, h.n3, h.n4⟩
theorem KR.refl {H H1 : List Blk} {kv : V} {so : List Int × List Int} (h : KInv H kv so) (hl : H.length ≤ H1.length) (hj : ∀ j, j < H.length → H1[j]? = H[j]?) : KR H kv so H1 kv so :=
 ⟨hl, h.grow hj, .inl ⟨rfl, rfl, hj⟩⟩
theorem KR.app {H H1 : List Blk} {kv kv1 : V} {so so1 : List Int × List Int} (h : KR H kv so H1 kv1 so1) (J : List Blk) : KR H kv so (H1 ++ J) kv1 so1 := by
 have hj : ∀ j, j < H1.length → (H1 ++ J)[j]? = H1[j]? := fun j h => by rw [List.getElem?_append_left h]
 refine ⟨by have := h.len; simp; omega, h.inv.grow hj, ?_⟩
 have hl := h.len
 rcases h.how with ⟨h1, h2, h3⟩ | ⟨h1, id, h2, h3, h4, h5⟩
 ·exact .inl ⟨h1, h2, fun j hj' => (hj j (by omega)).trans (h3 j hj')⟩
 ·exact .inr ⟨h1, id, h2, h3, by rw [hj id (List.getElem?_eq_some_iff.1 h4).1]; exact h4, fun j hj' a b => (hj j (by omega)).trans (h5 j hj' a b)⟩
theorem killV_get {kv : V} {H : List Blk} {j : Nat} (h : kvne kv j) : (killV kv H)[j]? = H[j]? := by
 cases kv <;> try rfl
 rename_i id off len
 simp only [killV]
 rw [List.getElem?_set_ne]
 intro he; subst he; exact h off len rfl
theorem killV_congr {kv : V} {H H1 : List Blk} {j : Nat} (hl : H.length ≤ H1.length) (hj : j < H.length) (h : H1[j]? = H[j]?) : (killV kv H1)[j]? = (killV kv H)[j]? := by
 cases kv <;> try exact h
 rename_i id off len
 simp only [killV]
 rw [List.getElem?_set, List.getElem?_set]
 split
 ·rename_i e; subst e; rw [if_pos hj, if_pos (by omega)]
 ·exact h
theorem KR.trans {H H1 H2 : List Blk} {kv kv1 kv2 : V} {so so1 so2 : List Int × List Int} (h : KR H kv so H1 kv1 so1) (g : KR H1 kv1 so1 H2 kv2 so2) : KR H kv so H2 kv2 so2 := by
 have hl := h.len; have gl := g.len
 refine ⟨by omega, g.inv, ?_⟩
 rcases h.how with ⟨rfl, rfl, h3⟩ | ⟨h1, id, rfl, h3, h4, h5⟩
 ·rcases g.how with ⟨rfl, rfl, g3⟩ | ⟨g1, id, g2, g3, g4, g5⟩
  ·exact .inl ⟨rfl, rfl, fun j hj => (g3 j (by omega)).trans (h3 j hj)⟩
  ·exact .inr ⟨g1, id, g2, by omega, g4, fun j hj a b => (g5 j (by omega) a b).trans (killV_congr hl hj (h3 j hj))⟩
 ·rcases g.how with ⟨rfl, rfl, g3⟩ | ⟨g1, id', g2, g3, g4, g5⟩
  ·exact .inr ⟨h1, id, rfl, h3, by rw [g3 id (List.getElem?_eq_some_iff.1 h4).1]; exact h4, fun j hj a b => (g3 j (by omega)).trans (h5 j hj a b)⟩
  ·refine .inr ⟨by omega, id', g2, by omega, g4, fun j hj a b => ?_⟩
   rw [g5 j (by omega) a b, killV_get (fun x y h => by injection h; omega)]
   exact h5 j hj a b
def KH (H : List Blk) (kv : V) (so so1 : List Int × List Int) : List Blk :=
 if so1 = so then H else (((killV kv H).set 2 (.mp (so1.1.map (.int .i64)) (trues so1.1))).set 4 (.row [.ms H.length 0 so1.2.length])) ++ [.row (so1.2.map (.int .i64))]
def KVl (H : List Blk) (kv : V) (so so1 : List Int × List Int) : V := if so1 = so then kv else .ms H.length 0 so1.2.length
theorem KH.kr {H : List Blk} {kv : V} {so so1 : List Int × List Int} (h : KInv H kv so) (hs : so1 = so ∨ so.1.length < so1.1.length) (hne : so1.2 ≠ [] ∨ so1 = so) : KR H kv so (KH H kv so so1) (KVl H kv so so1) so1 := by
 by_cases he : so1 = so
 ·subst he
  simp only [KH, KVl, if_true]
  exact KR.refl h (Nat.le_refl _) (fun _ _ => rfl)
 ·have hs := hs.resolve_left he
  have hne := hne.resolve_right he
  have h4 := (List.getElem?_eq_some_iff.1 h.open_).1
  simp only [KH, KVl, if_neg he]
  have hg : ∀ j, j < H.length → ((((killV kv H).set 2 (.mp (so1.1.map (.int .i64)) (trues so1.1))).set 4 (.row [.ms H.length 0 so1.2.length])) ++ [.row (so1.2.map (.int .i64))])[j]? =
    if 4 = j then some (.row [.ms H.length 0 so1.2.length]) else if 2 = j then some (.mp (so1.1.map (.int .i64)) (trues so1.1)) else (killV kv H)[j]? := by
   intro j hj
   rw [List.getElem?_append_left (by simp [killV_length]; exact hj), List.getElem?_set, List.getElem?_set]
   simp only [List.length_set, killV_length]
   split
   ·rename_i e; subst e; first | rfl | rw [if_pos hj]
   ·split
    ·rename_i e; subst e; first | rfl | rw [if_pos hj]
    ·rfl
  have hlast : ((((killV kv H).set 2 (.mp (so1.1.map (.int .i64)) (trues so1.1))).set 4 (.row [.ms H.length 0 so1.2.length])) ++ [.row (so1.2.map (.int .i64))])[H.length]? = some (.row (so1.2.map (.int .i64))) := by
   rw [List.getElem?_append_right (by simp [killV_length])]
   simp [killV_length]
  refine ⟨by simp [killV_length], ⟨?_, ?_, ?_, ?_, ?_, ?_, ?_⟩, .inr ⟨hs, H.length, rfl, Nat.le_refl _, hlast, ?_⟩⟩
  ·rw [hg 2 (by omega)]; simp
  ·rw [hg 3 (by omega)]; simp; rw [killV_get h.n3]; exact h.cell
  ·rw [hg 4 h4]; simp
  ·exact .inr ⟨H.length, 0, so1.2, rfl, hlast, hne, by simp, rfl⟩
  ·intro a b hh; injection hh; omega
  ·intro a b hh; injection hh; omega
  ·intro a b hh; injection hh; omega
  ·intro j hj a b
   rw [hg j hj, if_neg (fun e => b e.symm), if_neg (fun e => a e.symm)]
theorem KR.fin {P : Program} {g : FuncId} {vs : List V} {H : List Blk} {kv : V} {so SO : List Int × List Int} {r : V} (hr : noref r = true) (hi : KInv H kv so)
  (h : ACall P g vs H (fun r' H' => r' = r ∧ ∃ kv1, KR H kv so H' kv1 SO)) : ACall P g vs H (ret1 r (KH H kv so SO)) := by
 by_cases he : SO = so
 ·subst he
  refine ACall.trim (h.mono ?_)
  rintro r' H' ⟨rfl, kv1, hk⟩
  rcases hk.how with ⟨_, _, h3⟩ | ⟨h1, _⟩
  ·refine ⟨H, H'.drop H.length, ?_, rfl, fun i b hb => .inl hb, hr, rfl, by rw [KH, if_pos rfl]⟩
   apply List.ext_getElem?
   intro j
   by_cases hj : j < H.length
   ·rw [h3 j hj, List.getElem?_append_left hj]
   ·rw [List.getElem?_append_right (by omega), List.getElem?_drop]; congr 1; omega
  ·omega
 ·refine ACall.trimC 4 (h.mono ?_)
  rintro r' H' ⟨rfl, kv1, hk⟩
  have hl := hk.len
  rcases hk.how with ⟨h1, _⟩ | ⟨h1, id, rfl, h3, h4, h5⟩
  ·exact absurd h1 he
  ·have hid := (List.getElem?_eq_some_iff.1 h4).1
   have h4l := (List.getElem?_eq_some_iff.1 hi.open_).1
   have htl : (H'.take H.length).length = H.length := by simp; omega
   have htg : ∀ j, j < H.length → (H'.take H.length)[j]? = H'[j]? := fun j hj => by rw [List.getElem?_take, if_pos hj]
   refine ⟨H'.take H.length, H'.drop H.length, id - H.length, SO.2.map (.int .i64), (List.take_append_drop _ _).symm, htl, hr, ?_, ?_, norefL_int _, ?_, rfl, ?_⟩
   ·have hid2 : H.length + (id - H.length) = id := by omega
    rw [htg 4 h4l, hk.inv.open_, htl, List.length_map, hid2]
   ·rw [List.getElem?_drop, ← h4]; congr 1; omega
   ·intro i b hi4 hb
    have hil : i < H.length := by have := (List.getElem?_eq_some_iff.1 hb).1; omega
    rw [htg i hil] at hb
    by_cases hi2 : i = 2
    ·subst hi2; rw [hk.inv.seen] at hb; cases hb; right; simp [Blk.nr, norefL_int, norefL_trues]
    ·rw [h5 i hil hi2 hi4] at hb
     cases kv <;> try exact .inl hb
     rename_i id0 off0 len0
     simp only [killV] at hb
     rw [List.getElem?_set] at hb
     split at hb
     ·split at hb <;> cases hb; exact .inr rfl
     ·exact .inl hb
   ·rw [KH, if_neg he, htl, List.length_map]
    congr 1
    apply List.ext_getElem?
    intro j
    by_cases hj : j < H.length
    ·rw [List.getElem?_set, List.getElem?_set, List.getElem?_set]
     simp only [List.length_set, killV_length, htl]
     split
     ·rfl
     ·rename_i e4
      split
      ·rename_i e2; subst e2; rw [htg 2 hj, hk.inv.seen, if_pos hj]
      ·rename_i e2; rw [htg j hj, h5 j hj (fun e => e2 e.symm) (fun e => e4 e.symm)]
    ·rw [List.getElem?_eq_none (by simp; omega), List.getElem?_eq_none (by simp [killV_length]; omega)]
theorem cb1uor (so : List Int × List Int) (i : Int) : (cb1 so i = so ∨ so.1.length < (cb1 so i).1.length) ∧ ((cb1 so i).2 ≠ [] ∨ cb1 so i = so) := by
 unfold cb1
 split
 ·exact ⟨.inl rfl, .inr rfl⟩
 ·exact ⟨.inr (by simp), .inl (by simp)⟩
set_option maxRecDepth 20000 in
theorem t286 (H : List Blk) (kv : V) (so : List Int × List Int) (i : Int) (hi : KInv H kv so) (hlen : so.2.length ≤ 1000000) :
  ACall Tryz.prog 134 [.int .i64 i, .ptr 3 0 0, .ptr 4 0 0] H (ret1 (.tup []) (KH H kv so (cb1 so i))) := by
 refine KR.fin (kv := kv) (so := so) rfl hi ?_
 have hs := hi.seen; have hc := hi.cell; have ho := hi.open_
 have h4l := (List.getElem?_eq_some_iff.1 ho).1
 have h2l := (List.getElem?_eq_some_iff.1 hs).1
 have h3l := (List.getElem?_eq_some_iff.1 hc).1
 refine ACall.intro c286 200 (by simp) ?_
 by_cases hm : i ∈ so.1
 ·have hcb : cb1 so i = so := by rw [cb1, if_pos hm]
  rw [hcb]
  simp -implicitDefEqProofs only [s286, hs, hc, ho, kOk_int, mres_trues, hm, decide_true, ne_eq, not_false_eq_true, hls, hln, Nat.reduceMul, go_sem]
  repeat' (first | ((with_reducible refine F_q2 ?_); simp -implicitDefEqProofs only [hs, hc, ho, kOk_int, mres_trues, hm, decide_true, ne_eq, not_false_eq_true, hls, hln, Nat.reduceMul, go_sem]) | (with_reducible refine Fork.mk ?_ ?_) | (with_reducible refine And.intro ?_ ?_) | ((with_reducible refine rpI ?_); simp -implicitDefEqProofs only [r286, ne_eq, not_false_eq_true, hls, hln, Nat.reduceMul, push_cast, go_sem_proc]) | intro _)
  exact ⟨kv, KR.refl hi (Nat.le_refl _) (fun _ _ => rfl)⟩
 ·have hcb : cb1 so i = (so.1 ++ [i], so.2 ++ [i]) := by rw [cb1, if_neg hm]
  have hadd : addN so.1 i = so.1 ++ [i] := by rw [addN, if_neg (by simpa using hm)]
  have hc3 : ∀ X, (H.set 2 X)[3]? = some (.row [.map 2]) := fun X => by rw [List.getElem?_set_ne (by omega)]; exact hc
  have hc4 : ∀ X, (H.set 2 X)[4]? = some (.row [kv]) := fun X => by rw [List.getElem?_set_ne (by omega)]; exact ho
  have hov : ∀ X, OVd (H.set 2 X) kv so.2 := fun X => by
   rcases hi.ov with h | ⟨id, off, es, rfl, h2, h3⟩
   ·exact .inl h
   ·refine .inr ⟨id, off, es, rfl, ?_, h3⟩
    rw [List.getElem?_set_ne (fun e => hi.n2 off so.2.length (by rw [e]))]; exact h2
  have hc1 : cellsV kv = [kv] := by rcases hi.ov with ⟨_, rfl⟩ | ⟨id, off, es, rfl, _⟩ <;> rfl
  simp -implicitDefEqProofs only [s286, hs, hc, ho, kOk_int, mres_trues, mputK_trues, mputV_trues, hm, decide_false, hadd, hc3, hc4, hc1, ne_eq, not_false_eq_true, hls, hln, Nat.reduceMul, go_sem]
  repeat' (first | ((with_reducible refine F_q2 ?_); simp -implicitDefEqProofs only [hs, hc, ho, kOk_int, mres_trues, mputK_trues, mputV_trues, hm, decide_false, hadd, hc3, hc4, hc1, ne_eq, not_false_eq_true, hls, hln, Nat.reduceMul, go_sem]) | (with_reducible refine Fork.mk ?_ ?_) | (with_reducible refine And.intro ?_ ?_) | ((with_reducible refine rpI ?_); simp -implicitDefEqProofs only [r286, ne_eq, not_false_eq_true, hls, hln, Nat.reduceMul, push_cast, go_sem_proc]) | intro _)
  refine app_OVd (hov _) (by omega) ?_
  have hl : (killV kv (H.set 2 (.mp ((so.1 ++ [i]).map (.int .i64)) (trues (so.1 ++ [i]))))).length = H.length := by simp [killV_length]
  have hf4 : (killV kv (H.set 2 (.mp ((so.1 ++ [i]).map (.int .i64)) (trues (so.1 ++ [i])))) ++ [Blk.row ((so.2 ++ [i]).map (.int .i64))])[4]? = some (.row [kv]) := by
   rw [List.getElem?_append_left (by omega), killV_get hi.n4]; exact hc4 _
  have hkr := KH.kr hi (cb1uor so i).1 (cb1uor so i).2
  rw [hcb] at hkr
  have hne : ¬ ((so.1 ++ [i], so.2 ++ [i]) = so) := fun h => by have := congrArg (fun x => x.1.length) h; simp at this
  have heq : KH H kv so (so.1 ++ [i], so.2 ++ [i]) = (killV kv (H.set 2 (.mp ((so.1 ++ [i]).map (.int .i64)) (trues (so.1 ++ [i])))) ++ [Blk.row ((so.2 ++ [i]).map (.int .i64))]).set 4 (.row [.ms H.length 0 (so.2.length + 1)]) := by
   rw [KH, if_neg hne, List.set_append_left _ _ (by omega)]
   congr 1
   have : killV kv (H.set 2 (.mp ((so.1 ++ [i]).map (.int .i64)) (trues (so.1 ++ [i])))) = (killV kv H).set 2 (.mp ((so.1 ++ [i]).map (.int .i64)) (trues (so.1 ++ [i]))) := by
    cases hk : kv <;> try rfl
    rename_i id off len
    simp only [killV]
    rw [List.set_comm]
    intro e; exact hi.n2 off len (by rw [hk, e])
   rw [this]; simp
  rw [heq] at hkr
  have hkf : kv = .nils ∨ ∃ id off len, kv = .ms id off len := by rcases hi.ov with ⟨_, h⟩ | ⟨id, off, es, h, _⟩; exact .inl h; exact .inr ⟨_, _, _, h⟩
  simp only [List.length_set]
  generalize killV kv (H.set 2 (.mp ((so.1 ++ [i]).map (.int .i64)) (trues (so.1 ++ [i])))) ++ [Blk.row ((so.2 ++ [i]).map (.int .i64))] = HH at *
  rcases hkf with rfl | ⟨id, off, len, rfl⟩
  ·simp -implicitDefEqProofs only [hf4, ne_eq, not_false_eq_true, hls, hln, Nat.reduceMul, go_sem]
   repeat' (first | ((with_reducible refine F_q2 ?_); simp -implicitDefEqProofs only [hf4, ne_eq, not_false_eq_true, hls, hln, Nat.reduceMul, go_sem]) | (with_reducible refine Fork.mk ?_ ?_) | (with_reducible refine And.intro ?_ ?_) | ((with_reducible refine rpI ?_); simp -implicitDefEqProofs only [r286, ne_eq, not_false_eq_true, hls, hln, Nat.reduceMul, push_cast, go_sem_proc]) | intro _)
   exact ⟨_, by rw [hcb]; exact hkr⟩
  ·simp -implicitDefEqProofs only [hf4, ne_eq, not_false_eq_true, hls, hln, Nat.reduceMul, go_sem]
   repeat' (first | ((with_reducible refine F_q2 ?_); simp -implicitDefEqProofs only [hf4, ne_eq, not_false_eq_true, hls, hln, Nat.reduceMul, go_sem]) | (with_reducible refine Fork.mk ?_ ?_) | (with_reducible refine And.intro ?_ ?_) | ((with_reducible refine rpI ?_); simp -implicitDefEqProofs only [r286, ne_eq, not_false_eq_true, hls, hln, Nat.reduceMul, push_cast, go_sem_proc]) | intro _)
   exact ⟨_, by rw [hcb]; exact hkr⟩
end Go.Proofs.YtdgoeblpcnjlbaaGreatDoor.Av
