/- Proved: for every list of numbers the law WaysFollowed answers true and leaves its argument as it was (the tied card); no condition beyond the row's own. Text 8 of 15. -/
import Derived.Test.YtdgoeblpcnjlbaaGreatDoorProg
import Derived.Test.YtdgoeblpcnjlbaaGreatDoorW7
set_option linter.unusedVariables false
set_option linter.unusedSimpArgs false
set_option linter.unusedSectionVars false
set_option linter.all false
namespace Go.Proofs.YtdgoeblpcnjlbaaGreatDoor.Av
open Go.RowKit
theorem fz_emp (H : List Blk) (n : Nat) : fz H (n + 1) .emp = some (.fs []) := by rw [fz]
theorem all_str (l : List ByteArray) : (l.map V.str).all (fun e => (cellsV e).length == 1 && !e.isAny && (cellsV e).all V.one) = true := by
 rw [List.all_map]; simp [cellsV, V.isAny, V.one]
theorem t46 (xs : List ByteArray) (hl : xs.length ≤ 1000000) : PCall Tryz.prog 69 [.fs (xs.map .str)] (·= .fs (xs.map .str)) := by
 have ha := all_str xs
 refine PCall.intro c46 100 (by simp) 20 ?_
 cases xs with
 | nil =>
  simp -implicitDefEqProofs only [s46, List.map_nil, go_sem]
  intro b
  cases b
  ·simp -implicitDefEqProofs only [go_sem]
   refine ⟨fun _ => ?_, fun h => absurd rfl h⟩
   simp -implicitDefEqProofs only [r46, fz_emp, push_cast, go_sem_proc]
  ·simp -implicitDefEqProofs only [go_sem]
   simp -implicitDefEqProofs only [r46, push_cast, go_sem_proc]
 | cons x xs =>
  simp only [List.map_cons] at ha
  simp -implicitDefEqProofs only [s46, List.map_cons, ha, go_sem]
  refine ⟨by simpa [cellsV, V.isAny, V.one] using all_str xs, fun h => h.elim, fun _ => ⟨by simp at hl; omega, ?_⟩⟩
  have hz : fz [Blk.row (V.str x :: xs.map V.str)] 20 (.ms 0 0 (xs.length + 1)) = some (.fs (V.str x :: xs.map V.str)) := fz_msS (l := x :: xs) rfl
  simp -implicitDefEqProofs only [r46, hz, push_cast, go_sem_proc]
mutual
def wE : Ex → Nat
 | .mk _ _ _ xs => 1 + wEs xs
def wEs : List Ex → Nat
 | [] => 0
 | x :: l => wE x + wEs l
end
mutual
def wS : St → Nat
 | .mk _ _ _ _ _ e a b _ ps => 1 + wE e + ps.length + wSs a + wSs b
def wSs : List St → Nat
 | [] => 0
 | x :: l => wS x + wSs l
end
theorem wEs_append : ∀ a b : List Ex, wEs (a ++ b) = wEs a + wEs b
 | [], b => by simp [wEs]
 | x :: a, b => by simp [wEs, wEs_append a b]; omega
theorem wSs_append : ∀ a b : List St, wSs (a ++ b) = wSs a + wSs b
 | [], b => by simp [wSs]
 | x :: a, b => by simp [wSs, wSs_append a b]; omega
mutual
theorem cnt_wS : ∀ x : St, cnt x ≤ wS x
 | .mk _ _ _ _ _ e a b _ ps => by have := cnts_wSs a; have := cnts_wSs b; simp only [cnt, wS]; omega
theorem cnts_wSs : ∀ l : List St, cnts l ≤ wSs l
 | [] => Nat.le_refl _
 | x :: l => by have := cnt_wS x; have := cnts_wSs l; simp only [cnts, wSs]; omega
end
def wPs : List Pr → Nat
 | [] => 0
 | q :: l => q.roles.length + wSs q.steps + wPs l
theorem wPs_append : ∀ a b : List Pr, wPs (a ++ b) = wPs a + wPs b
 | [], b => by simp [wPs]
 | x :: a, b => by simp [wPs, wPs_append a b]; omega
def wPl (P : Pla) : Nat := wSs P.main + wPs P.procs
theorem cntP_wPs : ∀ l : List Pr, cntP l ≤ wPs l
 | [] => Nat.le_refl _
 | q :: l => by have := cnts_wSs q.steps; have := cntP_wPs l; simp only [cntP, wPs]; omega
theorem total_wPl (P : Pla) : total P ≤ wPl P := by have := cnts_wSs P.main; have := cntP_wPs P.procs; simp only [total, wPl]; omega
theorem OV.grow {H : List Blk} {acc : List V} {v : V} {id : Nat} (h : H[id]? = some (.row (acc ++ [v]))) : OV H (.ms id 0 (acc.length + 1)) (acc ++ [v]) := .inr ⟨by simp, id, by simp, h⟩
theorem headOk_E (l : List Ex) : headOk 4 (l.map encE) := headOk_map _ _ (fun x => by rcases x with ⟨k, n, s, xs⟩; rw [encE_mk]; rfl) l
theorem headOk_S (l : List St) : headOk 13 (l.map encS) := headOk_map _ _ (fun x => by rcases x with ⟨k, r, t, v, l, ⟨ek, en, es, eas⟩, a, b, p, ps⟩; rw [encS_mk]; rfl) l
theorem fz_OV {α : Type} {f : α → V} {n : Nat} (hf : ∀ (H : List Blk) x, fz H (n + 1) (f x) = some (f x)) {H : List Blk} {kv : V} {l : List α} (h : OV H kv (l.map f)) : fz H (n + 2) kv = some (.fs (l.map f)) := by
 rcases h with ⟨h1, rfl⟩ | ⟨_, id, rfl, hid⟩
 ·rw [fz_nils, h1]
 ·rw [fz_ms, hid, fzM_row, if_pos (by simp), List.drop_zero, List.take_of_length_le (by simp), fzL_map _ _ (fun x => hf H x)]
  rfl
theorem OV.set {H : List Blk} {kv : V} {acc : List V} (h : OV H kv acc) {j : Nat} {x : Blk} (hj : kvne kv j) : OV (H.set j x) kv acc := by
 rcases h with h | ⟨h1, id, h2, h3⟩
 ·exact .inl h
 ·refine .inr ⟨h1, id, h2, ?_⟩
  rw [List.getElem?_set_ne]
  ·exact h3
  ·rintro rfl; exact hj 0 _ h2
theorem OV.app {H : List Blk} {kv : V} {acc : List V} (h : OV H kv acc) (L : List Blk) : OV (H ++ L) kv acc := by
 rcases h with h | ⟨h1, id, h2, h3⟩
 ·exact .inl h
 ·exact .inr ⟨h1, id, h2, by rw [List.getElem?_append_left (List.getElem?_eq_some_iff.1 h3).1]; exact h3⟩
theorem two_cons {H : List Blk} {a b : Blk} (h0 : H[0]? = some a) (h1 : H[1]? = some b) : ∃ J, H = a :: b :: J := by
 match H, h0, h1 with
 | x :: y :: J, h0, h1 => simp at h0 h1; subst h0 h1; exact ⟨J, rfl⟩
theorem three_cons {H : List Blk} {a b c : Blk} (h0 : H[0]? = some a) (h1 : H[1]? = some b) (h2 : H[2]? = some c) : ∃ J, H = a :: b :: c :: J := by
 match H, h0, h1, h2 with
 | x :: y :: z :: J, h0, h1, h2 => simp at h0 h1 h2; subst h0 h1 h2; exact ⟨J, rfl⟩
theorem OV.vone {H : List Blk} {kv : V} {acc : List V} (h : OV H kv acc) : V.one kv = true := by rcases h with ⟨_, rfl⟩ | ⟨_, id, rfl, _⟩ <;> rfl
def SB (L : List Int) (a : Nat) : Blk := .row [.agg [.fs (L.map (V.int .i64)), .int .i64 a]]
structure MS (L : List Int) (sid N : Nat) (T : Nat → List Blk) : Prop where
 tok : TOK N T
 get : ∀ a l, (T a ++ l)[sid]? = some (SB L a)
 set : ∀ a b l, (T a ++ l).set sid (SB L b) = T b ++ l
theorem MS.get0 {L : List Int} {sid N : Nat} {T : Nat → List Blk} (h : MS L sid N T) (a : Nat) : (T a)[sid]? = some (SB L a) := by have := h.get a []; simpa using this
theorem MS.set0 {L : List Int} {sid N : Nat} {T : Nat → List Blk} (h : MS L sid N T) (a b : Nat) : (T a).set sid (SB L b) = T b := by have := h.set a b []; simpa using this
theorem MS.app {L : List Int} {sid N : Nat} {T : Nat → List Blk} (h : MS L sid N T) (J : List Blk) : MS L sid (N + J.length) (fun a => T a ++ J) where
 tok := h.tok.app J
 get a l := by rw [List.append_assoc]; exact h.get a _
 set a b l := by rw [List.append_assoc, List.append_assoc]; exact h.set a b _
theorem MS.base (L : List Int) : MS L 0 1 (fun a => [SB L a]) where
 tok := ⟨fun _ => rfl, fun st st' i es hi => by
  right
  rcases i with _ | i
  ·simp [SB] at hi; subst hi; simp [Blk.nr, norefL, noref, norefL_int]
  ·simp at hi⟩
 get a l := rfl
 set a b l := rfl
def MC (k : FuncId) (L : List Int) (a : Nat) (args : List V) (r : V) (a' : Nat) : Prop := ∀ sid N T, MS L sid N T → ACall Tryz.prog k (.ptr sid 0 0 :: args) (T a) (ret1 r (T a'))
theorem MC.at {k : FuncId} {L : List Int} {a a' sid N : Nat} {T : Nat → List Blk} {args : List V} {r : V} (h : MC k L a args r a') (hT : MS L sid N T) (J : List Blk) : ACall Tryz.prog k (.ptr sid 0 0 :: args) (T a ++ J) (ret1 r (T a' ++ J)) := h sid _ _ (hT.app J)
theorem MS.trim {L : List Int} {sid N : Nat} {T : Nat → List Blk} (hT : MS L sid N T) {g : FuncId} {vs : List V} {a a' : Nat} {r : V} (hr : noref r = true) (h : ACall Tryz.prog g vs (T a) (fun r' H' => r' = r ∧ ∃ X, H' = T a' ++ X)) : ACall Tryz.prog g vs (T a) (ret1 r (T a')) := by
 refine ACall.trim (h.mono ?_)
 rintro r' H' ⟨rfl, X, rfl⟩
 exact ⟨_, X, rfl, by rw [hT.tok.len, hT.tok.len], hT.tok.row _ _, hr, rfl, rfl⟩
theorem tmod_lt {x n : Int} (h : 1 ≤ n) : -n < x.tmod n ∧ x.tmod n < n := by
 have h1 := Int.tmod_lt_of_pos x (b := n) (by omega)
 have h2 := Int.tmod_lt_of_pos (-x) (b := n) (by omega)
 rw [Int.neg_tmod] at h2
 omega
def belF (x n : Int) : Int := if n < 1 then 0 else if x.tmod n < 0 then IntKind.i64.wrap (x.tmod n + n) else x.tmod n
theorem t44 (x n : Int) : PCall Tryz.prog 113 [.int .i64 x, .int .i64 n] (·= .int .i64 (belF x n)) := by
 by_cases hn : n < 1
 ·refine PCall.intro c44 100 (by simp) 20 ?_
  simp -implicitDefEqProofs only [s44, hn, go_sem]
  repeat' (first | ((with_reducible refine F_q2 ?_); simp -implicitDefEqProofs only [hn, go_sem]) | (with_reducible refine Fork.mk ?_ ?_) | (with_reducible refine And.intro ?_ ?_) | ((with_reducible refine rpI ?_); simp -implicitDefEqProofs only [r44, push_cast, go_sem_proc]) | intro _)
  all_goals simp [belF, hn]
 ·have hn0 : ¬ n = 0 := by omega
  refine PCall.intro c44 100 (by simp) 20 ?_
  simp -implicitDefEqProofs only [s44, hn, hn0, ne_eq, not_false_eq_true, go_sem]
  repeat' (first | ((with_reducible refine F_q2 ?_); simp -implicitDefEqProofs only [hn, hn0, go_sem]) | (with_reducible refine Fork.mk ?_ ?_) | (with_reducible refine And.intro ?_ ?_) | ((with_reducible refine rpI ?_); simp -implicitDefEqProofs only [r44, push_cast, go_sem_proc]) | intro _)
  ·rename_i h
   have h : x.tmod n < 0 := by simpa using h
   rw [belF, if_neg hn, if_pos h]
  ·rename_i h
   have h : ¬ x.tmod n < 0 := by simpa using h
   rw [belF, if_neg hn, if_neg h]
theorem belF_bound {x n : Int} (h1 : 1 ≤ n) (h2 : n ≤ 4611686018427387904) : 0 ≤ belF x n ∧ belF x n < n := by
 have := tmod_lt (x := x) h1
 rw [belF, if_neg (by omega)]
 split
 ·have : IntKind.i64.wrap (x.tmod n + n) = x.tmod n + n := by simp [IntKind.wrap, IntKind.signed, IntKind.bits]; omega
  omega
 ·omega
def nxF (L : List Int) (a : Nat) (n : Int) : Int :=
 if L.length = 0 then belF (IntKind.i64.wrap ((a + 1 : Nat) * 7919)) n
 else belF (IntKind.i64.wrap (belF (L.getD (a % L.length) 0) 1073741824 + IntKind.i64.wrap ((a / L.length : Nat) * IntKind.i64.wrap (7919 + (a % L.length : Nat))))) n
theorem nxF_bound {L : List Int} {a : Nat} {n : Int} (h1 : 1 ≤ n) (h2 : n ≤ 4611686018427387904) : 0 ≤ nxF L a n ∧ nxF L a n < n := by
 unfold nxF; split <;> exact belF_bound h1 h2
set_option maxRecDepth 20000 in
theorem t16 (L : List Int) (a : Nat) (n : Int) (ha : a ≤ 1000000) : MC 38 L a [.int .i64 n] (.int .i64 (nxF L a n)) (a + 1) := by
 intro sid N T hT
 have w1 : IntKind.i64.wrap ((a : Int) + 1) = ((a + 1 : Nat) : Int) := wrap_succ (by omega)
 have w2 : IntKind.i64.wrap (((a + 1 : Nat) : Int) - 1) = (a : Int) := by rw [wrap_int (by omega) (by omega)]; omega
 have hg := hT.get0
 have hs := hT.set0
 simp only [SB] at hg hs
 by_cases hL : L.length = 0
 ·have hL0 : ((L.length : Int) = 0) = True := by simp [hL]
  have hR : nxF L a n = belF (IntKind.i64.wrap ((a + 1 : Nat) * 7919)) n := by rw [nxF, if_pos hL]
  rw [hR]
  refine ACall.intro c16 200 (by simp) ?_
  simp -implicitDefEqProofs only [s16, hg, hs, w1, hL0, go_sem]
  repeat' (first | ((first | ((with_reducible refine cgR (t44 _ _) ?_ ?_); (·simp [norefL, noref, nrb])) | ((with_reducible apply cgF); (·simp -implicitDefEqProofs only [List.map_cons, List.map_nil, push_cast, go_sem_proc] <;> rfl); (with_reducible exact (t44 _ _)); (·rfl)) | (with_reducible refine F_q2 ?_)); simp -implicitDefEqProofs only [hg, hs, w1, hL0, go_sem]) | (with_reducible refine Fork.mk ?_ ?_) | (with_reducible refine And.intro ?_ ?_) | ((with_reducible refine rpI ?_); simp -implicitDefEqProofs only [r16, push_cast, go_sem_proc]) | intro _)
 ·have hL0 : ((L.length : Int) = 0) = False := by simp; exact fun h => hL (by simp [h])
  have hR : nxF L a n = belF (IntKind.i64.wrap (belF (L.getD (a % L.length) 0) 1073741824 + IntKind.i64.wrap ((a / L.length : Nat) * IntKind.i64.wrap (7919 + (a % L.length : Nat))))) n := by rw [nxF, if_neg hL]
  have e1 : (a : Int).tmod (L.length : Int) = ((a % L.length : Nat) : Int) := rfl
  have e2 : (a : Int).tdiv (L.length : Int) = ((a / L.length : Nat) : Int) := rfl
  have hlt : a % L.length < L.length := Nat.mod_lt _ (by omega)
  have hget : (L.map (V.int .i64)).getD (a % L.length) .any = .int .i64 (L.getD (a % L.length) 0) := by simp [List.getD, hlt]
  have w3 : IntKind.i64.wrap ((a / L.length : Nat) : Int) = ((a / L.length : Nat) : Int) := (fun (q : Nat) (h : q ≤ 1000000) => wrap_int (x := (q : Int)) (by omega) (by omega)) _ (Nat.le_trans (Nat.div_le_self a L.length) ha)
  rw [hR]
  refine ACall.intro c16 200 (by simp) ?_
  simp -implicitDefEqProofs only [s16, hg, hs, w1, hL0, go_sem]
  repeat' (first | ((first | ((with_reducible refine cgR (t44 _ _) ?_ ?_); (·simp [norefL, noref, nrb])) | ((with_reducible apply cgF); (·simp -implicitDefEqProofs only [List.map_cons, List.map_nil, push_cast, go_sem_proc] <;> rfl); (with_reducible exact (t44 _ _)); (·rfl)) | (with_reducible refine F_q2 ?_)); simp -implicitDefEqProofs only [hg, hs, w1, w2, w3, e1, e2, hL0, hlt, hget, go_sem]) | (with_reducible refine Fork.mk ?_ ?_) | (with_reducible refine And.intro ?_ ?_) | ((with_reducible refine rpI ?_); simp -implicitDefEqProofs only [r16, push_cast, go_sem_proc]) | intro _)
  all_goals (rename_i h; exact absurd (by omega) hL)
theorem TOK.set0 {σ : Type} {N : Nat} {T : σ → List Blk} (h : TOK N T) (st : σ) (l : List Blk) (x : Blk) : (T st ++ l).set N x = T st ++ l.set 0 x := h.setS st l 0 x
theorem fz_mono (H : List Blk) : ∀ (n : Nat) {v v' : V}, fz [] n v = some v' → fz H n v = some v' := by
 intro n
 induction n with
 | zero => intro v v' h; simp [fz] at h
 | succ n ih =>
  have hl : ∀ {l l' : List V}, fzL (fz [] n) l = some l' → fzL (fz H n) l = some l' := by
   intro l
   induction l with
   | nil => intro l' h; exact h
   | cons x l ihl =>
    intro l' h
    simp only [fzL] at h ⊢
    split at h
    ·rename_i y ys h1 h2
     rw [ih h1, ihl h2]; exact h
    ·cases h
  intro v v' h
  cases v with
  | ptr id i c => simp [fz] at h
  | ms id i c => simp [fz] at h
  | map id => simp [fz] at h
  | agg cs =>
   simp only [fz] at h ⊢
   cases hq : fzL (fz [] n) cs with
   | none => rw [hq] at h; cases h
   | some l => rw [hq] at h; rw [hl hq]; exact h
  | tup cs =>
   simp only [fz] at h ⊢
   cases hq : fzL (fz [] n) cs with
   | none => rw [hq] at h; cases h
   | some l => rw [hq] at h; rw [hl hq]; exact h
  | clos g a b =>
   simp only [fz] at h ⊢
   split at h
   ·rename_i a' b' ha hb
    rw [hl ha, hl hb]; exact h
   ·cases h
  | _ => simpa only [fz] using h
theorem ACall.fzN {P : Program} {g : FuncId} {vs : List V} {H : List Blk} {K : V → List Blk → Prop} (h : ACall P g vs H (fun r H' => ∃ r', Av.fz [] 20 r = some r' ∧ K r' H')) : ACall P g vs H K := by
 refine ACall.fz (h.mono ?_)
 rintro r H' ⟨r', h1, h2⟩
 exact ⟨[], r', fz_mono _ _ h1, h2⟩
theorem MS.trimF {L : List Int} {sid N : Nat} {T : Nat → List Blk} (hT : MS L sid N T) {g : FuncId} {vs : List V} {a a' : Nat} {r : V} (hr : noref r = true) (h : ACall Tryz.prog g vs (T a) (fun r' H' => ∃ r2, fz [] 20 r' = some r2 ∧ r2 = r ∧ ∃ X, H' = T a' ++ X)) : ACall Tryz.prog g vs (T a) (ret1 r (T a')) :=
 hT.trim hr (ACall.fzN h)
theorem t14 (L : List Int) (a : Nat) (n : Int) (ha : a ≤ 1000000) : MC 36 L a [.int .i64 n] (.bool (decide (nxF L a n = 0))) (a + 1) := by
 intro sid N T hT
 have h16 := t16 L a n ha sid N T hT
 refine ACall.intro c14 100 (by simp) ?_
 simp -implicitDefEqProofs only [s14, go_sem]
 repeat' (first | ((first | (with_reducible refine cgA h16 ?_) | (with_reducible refine F_q2 ?_)); simp -implicitDefEqProofs only [go_sem]) | (with_reducible refine Fork.mk ?_ ?_) | (with_reducible refine And.intro ?_ ?_) | ((with_reducible refine rpI ?_); simp -implicitDefEqProofs only [r14, push_cast, go_sem_proc]) | intro _)
theorem t5 (L : List Int) (a : Nat) (l : List Int) (ha : a ≤ 1000000) (hl : 1 ≤ l.length) (hl2 : l.length ≤ 1000) : MC 110 L a [.fs (l.map (.int .i64))] (.int .i64 (l.getD (nxF L a l.length).toNat 0)) (a + 1) := by
 intro sid N T hT
 have hb := nxF_bound (L := L) (a := a) (n := l.length) (by omega) (by omega)
 have h16 := t16 L a l.length ha sid N T hT
 generalize nxF L a l.length = v at *
 have hix : ixP v l.length = True := by simp [ixP]; omega
 have hg : (l.map (V.int .i64)).getD v.toNat .any = .int .i64 (l.getD v.toNat 0) := by simp [List.getD, show v.toNat < l.length by omega]
 refine ACall.intro c5 100 (by simp) ?_
 simp -implicitDefEqProofs only [s5, hix, hg, go_sem]
 repeat' (first | ((first | (with_reducible refine cgA h16 ?_) | (with_reducible refine F_q2 ?_)); simp -implicitDefEqProofs only [hix, hg, go_sem]) | (with_reducible refine Fork.mk ?_ ?_) | (with_reducible refine And.intro ?_ ?_) | ((with_reducible refine rpI ?_); simp -implicitDefEqProofs only [r5, push_cast, go_sem_proc]) | intro _)
theorem t41 (L : List Int) (a : Nat) (l : List ByteArray) (ha : a ≤ 1000000) (hl : 1 ≤ l.length) (hl2 : l.length ≤ 1000) : MC 63 L a [.fs (l.map .str)] (.str (l.getD (nxF L a l.length).toNat ⟨#[]⟩)) (a + 1) := by
 intro sid N T hT
 have hb := nxF_bound (L := L) (a := a) (n := l.length) (by omega) (by omega)
 have h16 := t16 L a l.length ha sid N T hT
 generalize nxF L a l.length = v at *
 have hix : ixP v l.length = True := by simp [ixP]; omega
 have hg : (l.map V.str).getD v.toNat .any = .str (l.getD v.toNat ⟨#[]⟩) := by simp [List.getD, show v.toNat < l.length by omega]
 refine ACall.intro c41 100 (by simp) ?_
 simp -implicitDefEqProofs only [s41, hix, hg, go_sem]
 repeat' (first | ((first | (with_reducible refine cgA h16 ?_) | (with_reducible refine F_q2 ?_)); simp -implicitDefEqProofs only [hix, hg, go_sem]) | (with_reducible refine Fork.mk ?_ ?_) | (with_reducible refine And.intro ?_ ?_) | ((with_reducible refine rpI ?_); simp -implicitDefEqProofs only [r41, push_cast, go_sem_proc]) | intro _)
theorem t39 (L : List Int) (a : Nat) (lo hi : Int) (ha : a ≤ 1000000) (h : lo ≤ hi) (h1 : -1000000 ≤ lo) (h2 : hi ≤ 1000000) : MC 108 L a [.int .i64 lo, .int .i64 hi] (.int .i64 (lo + nxF L a (hi - lo + 1))) (a + 1) := by
 intro sid N T hT
 have hb := nxF_bound (L := L) (a := a) (n := hi - lo + 1) (by omega) (by omega)
 have h16 := t16 L a (hi - lo + 1) ha sid N T hT
 generalize nxF L a (hi - lo + 1) = v at *
 have w1 : IntKind.i64.wrap (hi - lo) = hi - lo := wrap_int (by omega) (by omega)
 have w2 : IntKind.i64.wrap (hi - lo + 1) = hi - lo + 1 := wrap_int (by omega) (by omega)
 have w3 : IntKind.i64.wrap (lo + v) = lo + v := wrap_int (by omega) (by omega)
 have hc : ¬ hi < lo := by omega
 refine ACall.intro c39 100 (by simp) ?_
 simp -implicitDefEqProofs only [s39, w1, w2, hc, go_sem]
 repeat' (first | ((first | (with_reducible refine cgA h16 ?_) | (with_reducible refine F_q2 ?_)); simp -implicitDefEqProofs only [w1, w2, w3, hc, go_sem]) | (with_reducible refine Fork.mk ?_ ?_) | (with_reducible refine And.intro ?_ ?_) | ((with_reducible refine rpI ?_); simp -implicitDefEqProofs only [r39, push_cast, go_sem_proc]) | intro _)
theorem t48 (L : List Int) (a : Nat) (lo hi : Int) (ha : a ≤ 900000) (h : lo ≤ hi) (h1 : -1000000 ≤ lo) (h2 : hi ≤ 1000000) : ∃ v, MC 116 L a [.int .i64 lo, .int .i64 hi] (.int .i64 v) (a + 2) := by
 have w1 : IntKind.i64.wrap (lo - 1) = lo - 1 := wrap_int (by omega) (by omega)
 have w2 : IntKind.i64.wrap (hi + 1) = hi + 1 := wrap_int (by omega) (by omega)
 by_cases h0 : nxF L a 12 = 0
 ·refine ⟨[lo - 1, hi + 1, lo, hi, -1099511627776, 1099511627776].getD (nxF L (a + 1) 6).toNat 0, fun sid N T hT => ?_⟩
  have h14 := t14 L a 12 (by omega) sid N T hT
  rw [h0] at h14
  have h5 := t5 L (a + 1) [lo - 1, hi + 1, lo, hi, -1099511627776, 1099511627776] (by omega) (by simp) (by simp) sid N T hT
  simp only [List.map_cons, List.map_nil, List.length_cons, List.length_nil, Nat.zero_add, Nat.reduceAdd] at h5
  generalize nxF L (a + 1) _ = v at *
  refine ACall.intro c48 100 (by simp) ?_
  simp -implicitDefEqProofs only [s48, w1, w2, go_sem]
  repeat' (first | ((first | (with_reducible first | refine cgA h14 ?_ | refine cgA h5 ?_) | (with_reducible refine F_q2 ?_)); simp -implicitDefEqProofs only [w1, w2, go_sem]) | (with_reducible refine Fork.mk ?_ ?_) | (with_reducible refine And.intro ?_ ?_) | ((with_reducible refine rpI ?_); simp -implicitDefEqProofs only [r48, push_cast, go_sem_proc]) | intro _)
 ·refine ⟨lo + nxF L (a + 1) (hi - lo + 1), fun sid N T hT => ?_⟩
  have h14 := t14 L a 12 (by omega) sid N T hT
  rw [decide_eq_false h0] at h14
  have h39 := t39 L (a + 1) lo hi (by omega) h h1 h2 sid N T hT
  refine ACall.intro c48 100 (by simp) ?_
  simp -implicitDefEqProofs only [s48, w1, w2, go_sem]
  repeat' (first | ((first | (with_reducible first | refine cgA h14 ?_ | refine cgA h39 ?_) | (with_reducible refine F_q2 ?_)); simp -implicitDefEqProofs only [w1, w2, go_sem]) | (with_reducible refine Fork.mk ?_ ?_) | (with_reducible refine And.intro ?_ ?_) | ((with_reducible refine rpI ?_); simp -implicitDefEqProofs only [r48, push_cast, go_sem_proc]) | intro _)
theorem t45 (L : List Int) (a : Nat) (ha : a ≤ 900000) : ∃ x, wE x = 1 ∧ MC 114 L a [] (encE x) (a + 2) := by
 by_cases h0 : nxF L a 2 = 0
 ·refine ⟨.mk 1 ([0, 1, 2, 5, 999].getD (nxF L (a + 1) 5).toNat 0) ⟨#[]⟩ [], rfl, fun sid N T hT => hT.trimF (noref_encE _) ?_⟩
  have h14 := t14 L a 2 (by omega) sid _ _ (hT.app [.row [.agg [.int .i64 0, .int .i64 0, .str ⟨#[]⟩, .nils]]])
  rw [decide_eq_true h0] at h14
  have h5 := t5 L (a + 1) [0, 1, 2, 5, 999] (by omega) (by simp) (by simp) sid _ _ (hT.app [.row [.agg [.int .i64 0, .int .i64 0, .str ⟨#[]⟩, .nils]]])
  simp only [List.map_cons, List.map_nil, List.length_cons, List.length_nil, Nat.zero_add, Nat.reduceAdd] at h5
  rw [encE_mk]
  change ACall _ _ _ _ (ret1 (.int .i64 ([0, 1, 2, 5, 999].getD (nxF L (a + 1) 5).toNat 0)) _) at h5
  generalize [0, 1, 2, 5, 999].getD (nxF L (a + 1) 5).toNat 0 = v at *
  refine ACall.intro c45 100 (by simp) ?_
  simp -implicitDefEqProofs only [s45, hT.tok.len, hT.tok.at0, hT.tok.atS, hT.tok.set0, hT.tok.setS, hT.tok.get, go_sem]
  repeat' (first | ((first | (with_reducible first | refine cgA h14 ?_ | refine cgA h5 ?_) | (with_reducible refine F_q2 ?_)); simp -implicitDefEqProofs only [hT.tok.len, hT.tok.at0, hT.tok.atS, hT.tok.set0, hT.tok.setS, hT.tok.get, go_sem]) | (with_reducible refine Fork.mk ?_ ?_) | (with_reducible refine And.intro ?_ ?_) | ((with_reducible refine rpI ?_); simp -implicitDefEqProofs only [r45, hT.tok.len, hT.tok.at0, hT.tok.atS, hT.tok.set0, hT.tok.setS, hT.tok.get, push_cast, go_sem_proc]) | intro _)
  all_goals exact ⟨_, rfl⟩
 ·refine ⟨.mk 2 0 ([⟨#[120]⟩, ⟨#[121]⟩, ⟨#[120]⟩, ⟨#[122]⟩].getD (nxF L (a + 1) 4).toNat ⟨#[]⟩) [], rfl, fun sid N T hT => hT.trimF (noref_encE _) ?_⟩
  have h14 := t14 L a 2 (by omega) sid _ _ (hT.app [.row [.agg [.int .i64 0, .int .i64 0, .str ⟨#[]⟩, .nils]]])
  rw [decide_eq_false h0] at h14
  have h5 := t41 L (a + 1) [⟨#[120]⟩, ⟨#[121]⟩, ⟨#[120]⟩, ⟨#[122]⟩] (by omega) (by simp) (by simp) sid _ _ (hT.app [.row [.agg [.int .i64 0, .int .i64 0, .str ⟨#[]⟩, .nils]]])
  simp only [List.map_cons, List.map_nil, List.length_cons, List.length_nil, Nat.zero_add, Nat.reduceAdd] at h5
  rw [encE_mk]
  change ACall _ _ _ _ (ret1 (.str ([⟨#[120]⟩, ⟨#[121]⟩, ⟨#[120]⟩, ⟨#[122]⟩].getD (nxF L (a + 1) 4).toNat ⟨#[]⟩)) _) at h5
  generalize [(⟨#[120]⟩ : ByteArray), ⟨#[121]⟩, ⟨#[120]⟩, ⟨#[122]⟩].getD (nxF L (a + 1) 4).toNat ⟨#[]⟩ = v at *
  refine ACall.intro c45 100 (by simp) ?_
  simp -implicitDefEqProofs only [s45, hT.tok.len, hT.tok.at0, hT.tok.atS, hT.tok.set0, hT.tok.setS, hT.tok.get, go_sem]
  repeat' (first | ((first | (with_reducible first | refine cgA h14 ?_ | refine cgA h5 ?_) | (with_reducible refine F_q2 ?_)); simp -implicitDefEqProofs only [hT.tok.len, hT.tok.at0, hT.tok.atS, hT.tok.set0, hT.tok.setS, hT.tok.get, go_sem]) | (with_reducible refine Fork.mk ?_ ?_) | (with_reducible refine And.intro ?_ ?_) | ((with_reducible refine rpI ?_); simp -implicitDefEqProofs only [r45, hT.tok.len, hT.tok.at0, hT.tok.atS, hT.tok.set0, hT.tok.setS, hT.tok.get, push_cast, go_sem_proc]) | intro _)
  all_goals exact ⟨_, rfl⟩
theorem t40 (L : List Int) (a : Nat) (rs : List ByteArray) (ha : a ≤ 900000) (hl : 2 ≤ rs.length) (hl2 : rs.length ≤ 1000) : ∃ r1 r2, MC 109 L a [.fs (rs.map .str)] (.tup [.str r1, .str r2]) (a + 2) := by
 have hb1 := nxF_bound (L := L) (a := a) (n := rs.length) (by omega) (by omega)
 have hb2 := nxF_bound (L := L) (a := a + 1) (n := (rs.length : Int) - 1) (by omega) (by omega)
 have h1 := t16 L a rs.length (by omega)
 have h2 := t16 L (a + 1) ((rs.length : Int) - 1) (by omega)
 generalize nxF L a rs.length = v1 at *
 generalize nxF L (a + 1) ((rs.length : Int) - 1) = v2 at *
 obtain ⟨i, rfl⟩ : ∃ i : Nat, v1 = i := ⟨v1.toNat, by omega⟩
 obtain ⟨j, rfl⟩ : ∃ j : Nat, v2 = j := ⟨v2.toNat, by omega⟩
 have w1 : IntKind.i64.wrap ((i : Int) + 1) = ((i + 1 : Nat) : Int) := wrap_succ (by omega)
 have w2 : IntKind.i64.wrap ((rs.length : Int) - 1) = (rs.length : Int) - 1 := wrap_int (by omega) (by omega)
 have w3 : IntKind.i64.wrap (((i + 1 : Nat) : Int) + (j : Int)) = ((i + (1 + j) : Nat) : Int) := by rw [wrap_int (by omega) (by omega)]; omega
 have e1 : ((i + (1 + j) : Nat) : Int).tmod (rs.length : Int) = (((i + (1 + j)) % rs.length : Nat) : Int) := rfl
 have hlt : (i + (1 + j)) % rs.length < rs.length := Nat.mod_lt _ (by omega)
 have hli : i < rs.length := by omega
 have hg1 : (rs.map V.str).getD i .any = .str (rs.getD i ⟨#[]⟩) := by simp [List.getD, hli]
 have hg2 : (rs.map V.str).getD ((i + (1 + j)) % rs.length) .any = .str (rs.getD ((i + (1 + j)) % rs.length) ⟨#[]⟩) := by simp [List.getD, hlt]
 have hn0 : ¬ ((rs.length : Int) = 0) := by omega
 refine ⟨rs.getD i ⟨#[]⟩, rs.getD ((i + (1 + j)) % rs.length) ⟨#[]⟩, fun sid N T hT => ?_⟩
 have h1 := h1 sid N T hT
 have h2 := h2 sid N T hT
 generalize rs.getD i ⟨#[]⟩ = r1 at *
 generalize rs.getD ((i + (1 + j)) % rs.length) ⟨#[]⟩ = r2 at *
 refine ACall.intro c40 100 (by simp) ?_
 simp -implicitDefEqProofs only [s40, w1, w2, w3, go_sem]
 repeat' (first | ((first | (with_reducible first | refine cgA h1 ?_ | refine cgA h2 ?_) | (with_reducible refine F_q2 ?_)); simp -implicitDefEqProofs only [w1, w2, w3, e1, hlt, hli, hg1, hg2, hn0, ne_eq, not_false_eq_true, go_sem]) | (with_reducible refine Fork.mk ?_ ?_) | (with_reducible refine And.intro ?_ ?_) | ((with_reducible refine rpI ?_); simp -implicitDefEqProofs only [r40, push_cast, go_sem_proc]) | intro _)
theorem prefix_eq {H A : List Blk} (hl : A.length ≤ H.length) (h : ∀ j, j < A.length → H[j]? = A[j]?) : ∃ J, H = A ++ J := by
 refine ⟨H.drop A.length, ?_⟩
 apply List.ext_getElem?
 intro i
 by_cases hi : i < A.length
 ·rw [List.getElem?_append_left hi]; exact h i hi
 ·rw [List.getElem?_append_right (by omega), List.getElem?_drop]; congr 1; omega
theorem app_T {σ : Type} {N : Nat} {T : σ → List Blk} (hT : TOK N T) {a : σ} {L0 J : List Blk} {esz bytes : Nat} {src : List V} {yv kv : V} {K : V → List Blk → Prop} {acc : List V} (hov : OV (T a ++ (L0 ++ J)) kv acc)
  (hk0 : ∀ j, j < N + L0.length → kvne kv j) (hy : ∀ i o l, yv ≠ .ms i o l) (hh : headOk esz acc) (hb : (acc.length + src.length) * bytes ≤ 140737488355328)
  (hk : ∀ kv' J', OV (T a ++ (L0 ++ J')) kv' (acc ++ src) → (∀ j, j < N + L0.length → kvne kv' j) → K kv' (T a ++ (L0 ++ J'))) : appK esz bytes src yv kv (T a ++ (L0 ++ J)) K := by
 refine app_OV hov (fun i o l h => absurd h (hy i o l)) hh hb ?_
 intro kv' H' hov' hle hfr
 have hlen : (T a ++ L0).length = N + L0.length := by rw [List.length_append, hT.len]
 rw [← List.append_assoc] at hle hfr
 obtain ⟨J', rfl⟩ := prefix_eq (H := H') (A := T a ++ L0) (by rw [List.length_append] at hle; omega) (fun j hj => by
  rw [(hfr j (by rw [List.length_append]; omega) (hk0 j (by omega))).1, List.getElem?_append_left hj])
 rw [List.append_assoc] at hov' ⊢
 exact hk kv' J' hov' (fun j hj => (hfr j (by rw [List.length_append]; omega) (hk0 j hj)).2)
theorem OV.mid {A L0 L1 J : List Blk} {kv : V} {acc : List V} {n : Nat} (h : OV (A ++ (L0 ++ J)) kv acc) (hA : A.length = n) (hk : ∀ j, j < n + L0.length → kvne kv j) {B : List Blk} (hB : B.length = n) (hl : L1.length = L0.length) (J2 : List Blk) : OV (B ++ (L1 ++ (J ++ J2))) kv acc := by
 rcases h with h | ⟨h1, id, h2, h3⟩
 ·exact .inl h
 ·have hid : ¬ id < n + L0.length := fun hx => hk id hx 0 _ h2
  refine .inr ⟨h1, id, h2, ?_⟩
  rw [List.getElem?_append_right (by omega), List.getElem?_append_right (by omega)] at h3
  rw [List.getElem?_append_right (by omega), List.getElem?_append_right (by omega), List.getElem?_append_left (by have := (List.getElem?_eq_some_iff.1 h3).1; omega), ← h3]
  congr 1; omega
theorem keepL_tail {A X : List Blk} {N : Nat} (hA : A.length = N) : keepL (List.range' N X.length) (A ++ X) = List.replicate N .dead ++ X := by
 apply List.ext_getElem?
 intro i
 rw [keepL_get]
 by_cases hi : i < N
 ·rw [List.getElem?_append_left (by omega), List.getElem?_append_left (by simpa using hi), List.getElem?_eq_getElem (by omega : i < A.length)]
  have : (List.range' N X.length).contains i = false := by simp; omega
  simp [hi]
  omega
 ·rw [List.getElem?_append_right (by omega), List.getElem?_append_right (by simp; omega), hA, List.length_replicate]
  cases hx : X[i - N]? with
  | none => rfl
  | some b =>
   have := (List.getElem?_eq_some_iff.1 hx).1
   have : (List.range' N X.length).contains i = true := by simp; omega
   simp only [Option.map_some, this, if_true]
theorem killL_tail {A X : List Blk} {N : Nat} (hA : A.length = N) : ∃ X', killL (List.range' N X.length) (A ++ X) = A ++ X' := by
 refine prefix_eq (by rw [killL_length]; simp) (fun j hj => ?_)
 rw [killL_get, if_neg, List.getElem?_append_left hj]
 rintro ⟨h, _⟩
 simp at h; omega
theorem MS.trimO {L : List Int} {sid N : Nat} {T : Nat → List Blk} (hT : MS L sid N T) {g : FuncId} {vs : List V} {a a' : Nat} {r : V} (hr : noref r = true)
  (h : ACall Tryz.prog g vs (T a) (fun r' H' => ∃ X, H' = T a' ++ X ∧ ∃ r2, fz (List.replicate N .dead ++ X) 20 r' = some r2 ∧ r2 = r)) : ACall Tryz.prog g vs (T a) (ret1 r (T a')) := by
 refine hT.trim hr (ACall.fz (h.mono ?_))
 rintro r' H' ⟨X, rfl, r2, h1, rfl⟩
 obtain ⟨X', hX⟩ := killL_tail (A := T a') (X := X) (hT.tok.len a')
 refine ⟨List.range' N X.length, r2, ?_, rfl, X', hX⟩
 rw [keepL_tail (hT.tok.len a')]; exact h1
def trC : Nat → Nat
 | 0 => 5
 | d + 1 => 10 + 3 * trC d
theorem t42leaf (L : List Int) (a : Nat) (d : Int) (ha : a ≤ 800000) (h : d < 2) : ∃ x, wE x = 1 ∧ MC 111 L a [.int .i64 d] (encE x) (a + 2) := by
 obtain ⟨x, hx, h45⟩ := t45 L a (by omega)
 refine ⟨x, hx, fun sid N T hT => hT.trimF (noref_encE _) ?_⟩
 have h45 := h45.at hT [.row [.agg [.int .i64 0, .int .i64 0, .str ⟨#[]⟩, .nils]]]
 rcases x with ⟨k, n, s, xs⟩
 rw [encE_mk] at h45 ⊢
 refine ACall.intro c42 100 (by simp) ?_
 simp -implicitDefEqProofs only [s42, hT.tok.len, hT.tok.at0, hT.tok.atS, hT.tok.set0, hT.tok.setS, hT.tok.get, h, go_sem]
 repeat' (first | ((first | (with_reducible refine cgA h45 ?_) | (with_reducible refine F_q2 ?_)); simp -implicitDefEqProofs only [hT.tok.len, hT.tok.at0, hT.tok.atS, hT.tok.set0, hT.tok.setS, hT.tok.get, h, go_sem]) | (with_reducible refine Fork.mk ?_ ?_) | (with_reducible refine And.intro ?_ ?_) | ((with_reducible refine rpI ?_); simp -implicitDefEqProofs only [r42, hT.tok.len, hT.tok.at0, hT.tok.atS, hT.tok.set0, hT.tok.setS, hT.tok.get, push_cast, go_sem_proc]) | intro _)
 all_goals exact ⟨_, rfl⟩
theorem t42flip (L : List Int) (a : Nat) (d : Int) (ha : a ≤ 800000) (h : ¬ d < 2) (h0 : nxF L a 3 = 0) : ∃ x, wE x = 1 ∧ MC 111 L a [.int .i64 d] (encE x) (a + 3) := by
 obtain ⟨x, hx, h45⟩ := t45 L (a + 1) (by omega)
 refine ⟨x, hx, fun sid N T hT => hT.trimF (noref_encE _) ?_⟩
 have h45 := h45.at hT [.row [.agg [.int .i64 0, .int .i64 0, .str ⟨#[]⟩, .nils]]]
 have h14 := (t14 L a 3 (by omega)).at hT [.row [.agg [.int .i64 0, .int .i64 0, .str ⟨#[]⟩, .nils]]]
 rw [decide_eq_true h0] at h14
 rcases x with ⟨k, n, s, xs⟩
 rw [encE_mk] at h45 ⊢
 refine ACall.intro c42 100 (by simp) ?_
 simp -implicitDefEqProofs only [s42, hT.tok.len, hT.tok.at0, hT.tok.atS, hT.tok.set0, hT.tok.setS, hT.tok.get, h, go_sem]
 repeat' (first | ((first | (with_reducible first | refine cgA h45 ?_ | refine cgA h14 ?_) | (with_reducible refine F_q2 ?_)); simp -implicitDefEqProofs only [hT.tok.len, hT.tok.at0, hT.tok.atS, hT.tok.set0, hT.tok.setS, hT.tok.get, h, go_sem]) | (with_reducible refine Fork.mk ?_ ?_) | (with_reducible refine And.intro ?_ ?_) | ((with_reducible refine rpI ?_); simp -implicitDefEqProofs only [r42, hT.tok.len, hT.tok.at0, hT.tok.atS, hT.tok.set0, hT.tok.setS, hT.tok.get, push_cast, go_sem_proc]) | intro _)
 all_goals exact ⟨_, rfl⟩
def itr {α : Type} (f : Nat → α × Nat) (a : Nat) : Nat → List α × Nat
 | 0 => ([], a)
 | j + 1 => ((itr f a j).1 ++ [(f (itr f a j).2).1], (f (itr f a j).2).2)
theorem itr_length {α : Type} (f : Nat → α × Nat) (a : Nat) : ∀ j, (itr f a j).1.length = j
 | 0 => rfl
 | j + 1 => by simp [itr, itr_length f a j]
theorem itr_bound {α : Type} (f : Nat → α × Nat) (w : List α → Nat) (C M : Nat) (hw0 : w [] = 0) (hwa : ∀ l x, w (l ++ [x]) ≤ w l + w [x]) (h : ∀ a, a ≤ M → a ≤ (f a).2 ∧ (f a).2 ≤ a + C ∧ w [(f a).1] ≤ C) (a : Nat) : ∀ j, a + j * C ≤ M + C → a ≤ (itr f a j).2 ∧ (itr f a j).2 ≤ a + j * C ∧ w (itr f a j).1 ≤ j * C
 | 0, _ => by simp [itr, hw0]
 | j + 1, hj => by
  have h1 : (j + 1) * C = j * C + C := Nat.succ_mul j C
  obtain ⟨h2, h3, h4⟩ := itr_bound f w C M hw0 hwa h a j (by omega)
  obtain ⟨h5, h6, h7⟩ := h (itr f a j).2 (by omega)
  have h8 := hwa (itr f a j).1 (f (itr f a j).2).1
  simp only [itr]
  omega
set_option maxRecDepth 20000 in
theorem t42s (L : List Int) (a : Nat) (d : Int) (C : Nat) (ha : a + 10 + 3 * C ≤ 700000) (hd : 2 ≤ d) (hd2 : d ≤ 1000) (h0 : ¬ nxF L a 3 = 0)
  (h : ∀ a, a ≤ 700000 - C → ∃ x a', a ≤ a' ∧ a' ≤ a + C ∧ wE x ≤ C ∧ MC 111 L a [.int .i64 (d - 1)] (encE x) a') :
  ∃ x a', a ≤ a' ∧ a' ≤ a + 10 + 3 * C ∧ wE x ≤ 10 + 3 * C ∧ MC 111 L a [.int .i64 d] (encE x) a' := by
 have hf : ∀ a, ∃ p : Ex × Nat, a ≤ 700000 - C → a ≤ p.2 ∧ p.2 ≤ a + C ∧ wE p.1 ≤ C ∧ MC 111 L a [.int .i64 (d - 1)] (encE p.1) p.2 := fun a => by
  by_cases ha : a ≤ 700000 - C
  ·obtain ⟨x, a', h1⟩ := h a ha
   exact ⟨(x, a'), fun _ => h1⟩
  ·exact ⟨(.mk 0 0 ⟨#[]⟩ [], 0), fun h => absurd h ha⟩
 let f : Nat → Ex × Nat := fun a => Classical.choose (hf a)
 have hf : ∀ a, a ≤ 700000 - C → a ≤ (f a).2 ∧ (f a).2 ≤ a + C ∧ wE (f a).1 ≤ C ∧ MC 111 L a [.int .i64 (d - 1)] (encE (f a).1) (f a).2 := fun a => Classical.choose_spec (hf a)
 generalize f = f at hf
 generalize hk : ([3, 4, 5, 6, 7, 8, 9] : List Int).getD (nxF L (a + 1) 7).toNat 0 = k
 obtain ⟨m, hm⟩ : ∃ m : Nat, m = if k = 8 then 1 else if k = 9 then 3 else 2 := ⟨_, rfl⟩
 have hm3 : m ≤ 3 := by rw [hm]; split; omega; split <;> omega
 have hI := itr_bound f wEs C (700000 - C) rfl (fun l x => by rw [wEs_append]; exact Nat.le_refl _) (fun a ha => by obtain ⟨h1, h2, h3, _⟩ := hf a ha; exact ⟨h1, h2, by simpa [wEs] using h3⟩) (a + 2)
 have hmC : m * C ≤ 3 * C := Nat.mul_le_mul_right C hm3
 have hIm := hI m (by omega)
 refine ⟨.mk k 0 ⟨#[]⟩ (itr f (a + 2) m).1, (itr f (a + 2) m).2, by omega, by omega, by simp only [wE]; omega, fun sid N T hT => hT.trimO (noref_encE _) ?_⟩
 have h14 := (t14 L a 3 (by omega)).at hT [.row [.agg [.int .i64 0, .int .i64 0, .str ⟨#[]⟩, .nils]]]
 rw [decide_eq_false h0] at h14
 have h5 := (t5 L (a + 1) [3, 4, 5, 6, 7, 8, 9] (by omega) (by simp) (by simp)).at hT [.row [.agg [.int .i64 0, .int .i64 0, .str ⟨#[]⟩, .nils]]]
 simp only [List.map_cons, List.map_nil, List.length_cons, List.length_nil, Nat.zero_add, Nat.reduceAdd] at h5
 change ACall _ _ _ _ (ret1 (.int .i64 (([3, 4, 5, 6, 7, 8, 9] : List Int).getD (nxF L (a + 1) 7).toNat 0)) _) at h5
 rw [hk] at h5
 rw [encE_mk]
 have hd' : ¬ d < 2 := by omega
 have w1 : IntKind.i64.wrap (d - 1) = d - 1 := wrap_int (by omega) (by omega)
 by_cases h8 : k = 8
 ·subst h8
  obtain rfl : m = 1 := by rw [hm]; simp
  refine ACall.intro c42 200 (by simp) ?_
  simp -implicitDefEqProofs only [s42, hT.tok.len, hT.tok.at0, hT.tok.atS, hT.tok.set0, hT.tok.setS, hT.tok.get, hd', show ((8 : Int) = 9) = False by decide, go_sem]
  repeat' (first | ((first | (with_reducible first | refine cgA h14 ?_ | refine cgA h5 ?_) | (with_reducible refine F_q2 ?_)); simp -implicitDefEqProofs only [hT.tok.len, hT.tok.at0, hT.tok.atS, hT.tok.set0, hT.tok.setS, hT.tok.get, hd', show ((8 : Int) = 9) = False by decide, go_sem]) | (with_reducible refine Fork.mk ?_ ?_) | (with_reducible refine And.intro ?_ ?_) | ((with_reducible refine rpI ?_); simp -implicitDefEqProofs only [r42, hT.tok.len, hT.tok.at0, hT.tok.atS, hT.tok.set0, hT.tok.setS, hT.tok.get, push_cast, go_sem_proc]) | intro _)
  refine F_loop (fun q e H => ∃ j kv J, q = 1 - j ∧ j ≤ 1 ∧ e 0 = .ptr sid 0 0 ∧ e 1 = .int .i64 d ∧ e 4 = .ptr N 0 0 ∧ e 5 = .ptr (N + 1) 0 0 ∧ e 25 = .int .i64 1 ∧ e 26 = .int .i64 j ∧
   H = T (itr f (a + 2) j).2 ++ ([Blk.row [.agg [.int .i64 0, .int .i64 0, .str ⟨#[]⟩, .nils]], Blk.row [.agg [.int .i64 8, .int .i64 0, .str ⟨#[]⟩, kv]]] ++ J) ∧ OV H kv ((itr f (a + 2) j).1.map encE) ∧ ∀ i, i < N + 2 → kvne kv i) 1
   ⟨0, .nils, [], by simp, by simp, by simp [upd, env0], by simp [upd, env0], by simp [upd, env0], by simp [upd, env0], by simp [upd, env0], by simp [upd, env0], by simp [itr], .inl ⟨rfl, rfl⟩, (fun i _ a b h => by cases h)⟩ ?_
  rintro q e H ⟨j, kv, J, rfl, hj, e0, e1, e4, e5, e25, e26, rfl, hov, hkn⟩
  have hone := hov.vone
  simp only [V.one] at hone
  have hc1 := hov.one
  by_cases hjm : j = 1
  ·subst hjm
   have hlj : ¬ (((1 : Nat) : Int) < 1) := by omega
   simp -implicitDefEqProofs only [e0, e1, e4, e5, e25, e26, hT.tok.len, hT.tok.at0, hT.tok.atS, hT.tok.set0, hT.tok.setS, hT.tok.get, hlj, hone, hc1, go_sem]
   have hov2 : OV (List.replicate N .dead ++ ([Blk.row [.agg [.int .i64 8, .int .i64 0, .str ⟨#[]⟩, kv]], Blk.row [.agg [.int .i64 8, .int .i64 0, .str ⟨#[]⟩, kv]]] ++ (J ++ []))) kv ((itr f (a + 2) 1).1.map encE) :=
    hov.mid (hT.tok.len _) hkn (B := List.replicate N .dead) (L1 := [Blk.row [.agg [.int .i64 8, .int .i64 0, .str ⟨#[]⟩, kv]], Blk.row [.agg [.int .i64 8, .int .i64 0, .str ⟨#[]⟩, kv]]]) List.length_replicate rfl []
   simp only [List.cons_append, List.nil_append, List.append_nil] at hov2
   have hz : fz _ 19 kv = _ := fz_OV (f := encE) (n := 17) (fun H x => fz_encE H 16 x) hov2
   simp -implicitDefEqProofs only [r42, hT.tok.len, hT.tok.at0, hT.tok.atS, hT.tok.set0, hT.tok.setS, hT.tok.get, e4, hone, hc1, push_cast, go_sem_proc]
   refine ⟨_, rfl, ?_⟩
   simp -implicitDefEqProofs only [hz, push_cast, go_sem_proc]
  ·have hjC : j * C ≤ 2 * C := Nat.mul_le_mul_right C (by omega)
   have hIj := hI j (by omega)
   obtain ⟨hf1, hf2, hf3, hf4⟩ := hf (itr f (a + 2) j).2 (by omega)
   have hlj : ((j : Int) < 1) := by omega
   have hw2 : IntKind.i64.wrap ((j : Int) + 1) = ((j + 1 : Nat) : Int) := wrap_succ (by omega)
   have hit : itr f (a + 2) (j + 1) = ((itr f (a + 2) j).1 ++ [(f (itr f (a + 2) j).2).1], (f (itr f (a + 2) j).2).2) := rfl
   have hil := itr_length f (a + 2) j
   generalize itr f (a + 2) j = ij at *
   generalize f ij.2 = fj at *
   rcases fj with ⟨⟨k', n', s', zs⟩, b'⟩
   simp only [encE_mk] at hf4
   have h42 := hf4.at hT ([Blk.row [.agg [.int .i64 0, .int .i64 0, .str ⟨#[]⟩, .nils]], Blk.row [.agg [.int .i64 8, .int .i64 0, .str ⟨#[]⟩, kv]]] ++ J)
   simp only [List.cons_append, List.nil_append] at h42
   simp -implicitDefEqProofs only [e0, e1, e4, e5, e25, e26, hT.tok.len, hT.tok.at0, hT.tok.atS, hT.tok.set0, hT.tok.setS, hT.tok.get, hlj, hone, hc1, go_sem]
   repeat' (first | ((first | (with_reducible refine cgA h42 ?_) | (with_reducible refine F_q2 ?_)); simp -implicitDefEqProofs only [e0, e1, e4, e5, e25, e26, hT.tok.len, hT.tok.at0, hT.tok.atS, hT.tok.set0, hT.tok.setS, hT.tok.get, hlj, hone, hc1, w1, go_sem]) | (with_reducible refine Fork.mk ?_ ?_) | (with_reducible refine And.intro ?_ ?_) | ((with_reducible refine rpI ?_); simp -implicitDefEqProofs only [r42, hT.tok.len, hT.tok.at0, hT.tok.atS, hT.tok.set0, hT.tok.setS, hT.tok.get, push_cast, go_sem_proc]) | intro _)
   refine app_T hT.tok (L0 := [Blk.row [.agg [.int .i64 0, .int .i64 0, .str ⟨#[]⟩, .nils]], Blk.row [.agg [.int .i64 8, .int .i64 0, .str ⟨#[]⟩, kv]]]) (J := J) (acc := ij.1.map encE) ?_ hkn (fun i o l h => by cases h) (headOk_E _) (by simp; omega) ?_
   ·have := hov.mid (hT.tok.len _) hkn (B := T b') (L1 := [Blk.row [.agg [.int .i64 0, .int .i64 0, .str ⟨#[]⟩, .nils]], Blk.row [.agg [.int .i64 8, .int .i64 0, .str ⟨#[]⟩, kv]]]) (hT.tok.len _) rfl []
    simpa only [List.append_nil] using this
   ·intro kv' J' hov' hkn'
    have hone' := hov'.vone
    simp only [V.one] at hone'
    have hc1' := hov'.one
    try simp only [List.cons_append, List.nil_append]
    simp -implicitDefEqProofs only [e0, e1, e4, e5, e25, e26, hT.tok.len, hT.tok.at0, hT.tok.atS, hT.tok.set0, hT.tok.setS, hT.tok.get, hlj, hone, hc1, hone', hc1', hw2, go_sem]
    refine ⟨1 - (j + 1), by omega, j + 1, kv', J', rfl, by omega, rfl, ?_, ?_, hkn'⟩
    ·rw [hit]
    ·rw [hit]
     have := hov'.mid (hT.tok.len _) hkn' (B := T b') (L1 := [Blk.row [.agg [.int .i64 0, .int .i64 0, .str ⟨#[]⟩, .nils]], Blk.row [.agg [.int .i64 8, .int .i64 0, .str ⟨#[]⟩, kv']]]) (hT.tok.len _) rfl []
     simpa [encE_mk] using this
 ·by_cases h9 : k = 9
  ·subst h9
   obtain rfl : m = 3 := by rw [hm]; simp
   refine ACall.intro c42 200 (by simp) ?_
   simp -implicitDefEqProofs only [s42, hT.tok.len, hT.tok.at0, hT.tok.atS, hT.tok.set0, hT.tok.setS, hT.tok.get, hd', h8, go_sem]
   repeat' (first | ((first | (with_reducible first | refine cgA h14 ?_ | refine cgA h5 ?_) | (with_reducible refine F_q2 ?_)); simp -implicitDefEqProofs only [hT.tok.len, hT.tok.at0, hT.tok.atS, hT.tok.set0, hT.tok.setS, hT.tok.get, hd', h8, go_sem]) | (with_reducible refine Fork.mk ?_ ?_) | (with_reducible refine And.intro ?_ ?_) | ((with_reducible refine rpI ?_); simp -implicitDefEqProofs only [r42, hT.tok.len, hT.tok.at0, hT.tok.atS, hT.tok.set0, hT.tok.setS, hT.tok.get, push_cast, go_sem_proc]) | intro _)
   refine F_loop (fun q e H => ∃ j kv J, q = 3 - j ∧ j ≤ 3 ∧ e 0 = .ptr sid 0 0 ∧ e 1 = .int .i64 d ∧ e 4 = .ptr N 0 0 ∧ e 5 = .ptr (N + 1) 0 0 ∧ e 25 = .int .i64 3 ∧ e 26 = .int .i64 j ∧
    H = T (itr f (a + 2) j).2 ++ ([Blk.row [.agg [.int .i64 0, .int .i64 0, .str ⟨#[]⟩, .nils]], Blk.row [.agg [.int .i64 9, .int .i64 0, .str ⟨#[]⟩, kv]]] ++ J) ∧ OV H kv ((itr f (a + 2) j).1.map encE) ∧ ∀ i, i < N + 2 → kvne kv i) 3
    ⟨0, .nils, [], by simp, by simp, by simp [upd, env0], by simp [upd, env0], by simp [upd, env0], by simp [upd, env0], by simp [upd, env0], by simp [upd, env0], by simp [itr], .inl ⟨rfl, rfl⟩, (fun i _ a b h => by cases h)⟩ ?_
   rintro q e H ⟨j, kv, J, rfl, hj, e0, e1, e4, e5, e25, e26, rfl, hov, hkn⟩
   have hone := hov.vone
   simp only [V.one] at hone
   have hc1 := hov.one
   by_cases hjm : j = 3
   ·subst hjm
    have hlj : ¬ (((3 : Nat) : Int) < 3) := by omega
    simp -implicitDefEqProofs only [e0, e1, e4, e5, e25, e26, hT.tok.len, hT.tok.at0, hT.tok.atS, hT.tok.set0, hT.tok.setS, hT.tok.get, hlj, hone, hc1, go_sem]
    have hov2 : OV (List.replicate N .dead ++ ([Blk.row [.agg [.int .i64 9, .int .i64 0, .str ⟨#[]⟩, kv]], Blk.row [.agg [.int .i64 9, .int .i64 0, .str ⟨#[]⟩, kv]]] ++ (J ++ []))) kv ((itr f (a + 2) 3).1.map encE) :=
     hov.mid (hT.tok.len _) hkn (B := List.replicate N .dead) (L1 := [Blk.row [.agg [.int .i64 9, .int .i64 0, .str ⟨#[]⟩, kv]], Blk.row [.agg [.int .i64 9, .int .i64 0, .str ⟨#[]⟩, kv]]]) List.length_replicate rfl []
    simp only [List.cons_append, List.nil_append, List.append_nil] at hov2
    have hz : fz _ 19 kv = _ := fz_OV (f := encE) (n := 17) (fun H x => fz_encE H 16 x) hov2
    simp -implicitDefEqProofs only [r42, hT.tok.len, hT.tok.at0, hT.tok.atS, hT.tok.set0, hT.tok.setS, hT.tok.get, e4, hone, hc1, push_cast, go_sem_proc]
    refine ⟨_, rfl, ?_⟩
    simp -implicitDefEqProofs only [hz, push_cast, go_sem_proc]
   ·have hjC : j * C ≤ 2 * C := Nat.mul_le_mul_right C (by omega)
    have hIj := hI j (by omega)
    obtain ⟨hf1, hf2, hf3, hf4⟩ := hf (itr f (a + 2) j).2 (by omega)
    have hlj : ((j : Int) < 3) := by omega
    have hw2 : IntKind.i64.wrap ((j : Int) + 1) = ((j + 1 : Nat) : Int) := wrap_succ (by omega)
    have hit : itr f (a + 2) (j + 1) = ((itr f (a + 2) j).1 ++ [(f (itr f (a + 2) j).2).1], (f (itr f (a + 2) j).2).2) := rfl
    have hil := itr_length f (a + 2) j
    generalize itr f (a + 2) j = ij at *
    generalize f ij.2 = fj at *
    rcases fj with ⟨⟨k', n', s', zs⟩, b'⟩
    simp only [encE_mk] at hf4
    have h42 := hf4.at hT ([Blk.row [.agg [.int .i64 0, .int .i64 0, .str ⟨#[]⟩, .nils]], Blk.row [.agg [.int .i64 9, .int .i64 0, .str ⟨#[]⟩, kv]]] ++ J)
    simp only [List.cons_append, List.nil_append] at h42
    simp -implicitDefEqProofs only [e0, e1, e4, e5, e25, e26, hT.tok.len, hT.tok.at0, hT.tok.atS, hT.tok.set0, hT.tok.setS, hT.tok.get, hlj, hone, hc1, go_sem]
    repeat' (first | ((first | (with_reducible refine cgA h42 ?_) | (with_reducible refine F_q2 ?_)); simp -implicitDefEqProofs only [e0, e1, e4, e5, e25, e26, hT.tok.len, hT.tok.at0, hT.tok.atS, hT.tok.set0, hT.tok.setS, hT.tok.get, hlj, hone, hc1, w1, go_sem]) | (with_reducible refine Fork.mk ?_ ?_) | (with_reducible refine And.intro ?_ ?_) | ((with_reducible refine rpI ?_); simp -implicitDefEqProofs only [r42, hT.tok.len, hT.tok.at0, hT.tok.atS, hT.tok.set0, hT.tok.setS, hT.tok.get, push_cast, go_sem_proc]) | intro _)
    refine app_T hT.tok (L0 := [Blk.row [.agg [.int .i64 0, .int .i64 0, .str ⟨#[]⟩, .nils]], Blk.row [.agg [.int .i64 9, .int .i64 0, .str ⟨#[]⟩, kv]]]) (J := J) (acc := ij.1.map encE) ?_ hkn (fun i o l h => by cases h) (headOk_E _) (by simp; omega) ?_
    ·have := hov.mid (hT.tok.len _) hkn (B := T b') (L1 := [Blk.row [.agg [.int .i64 0, .int .i64 0, .str ⟨#[]⟩, .nils]], Blk.row [.agg [.int .i64 9, .int .i64 0, .str ⟨#[]⟩, kv]]]) (hT.tok.len _) rfl []
     simpa only [List.append_nil] using this
    ·intro kv' J' hov' hkn'
     have hone' := hov'.vone
     simp only [V.one] at hone'
     have hc1' := hov'.one
     try simp only [List.cons_append, List.nil_append]
     simp -implicitDefEqProofs only [e0, e1, e4, e5, e25, e26, hT.tok.len, hT.tok.at0, hT.tok.atS, hT.tok.set0, hT.tok.setS, hT.tok.get, hlj, hone, hc1, hone', hc1', hw2, go_sem]
     refine ⟨3 - (j + 1), by omega, j + 1, kv', J', rfl, by omega, rfl, ?_, ?_, hkn'⟩
     ·rw [hit]
     ·rw [hit]
      have := hov'.mid (hT.tok.len _) hkn' (B := T b') (L1 := [Blk.row [.agg [.int .i64 0, .int .i64 0, .str ⟨#[]⟩, .nils]], Blk.row [.agg [.int .i64 9, .int .i64 0, .str ⟨#[]⟩, kv']]]) (hT.tok.len _) rfl []
      simpa [encE_mk] using this
  ·obtain rfl : m = 2 := by rw [hm]; simp [h8, h9]
   refine ACall.intro c42 200 (by simp) ?_
   simp -implicitDefEqProofs only [s42, hT.tok.len, hT.tok.at0, hT.tok.atS, hT.tok.set0, hT.tok.setS, hT.tok.get, hd', h8, h9, go_sem]
   repeat' (first | ((first | (with_reducible first | refine cgA h14 ?_ | refine cgA h5 ?_) | (with_reducible refine F_q2 ?_)); simp -implicitDefEqProofs only [hT.tok.len, hT.tok.at0, hT.tok.atS, hT.tok.set0, hT.tok.setS, hT.tok.get, hd', h8, h9, go_sem]) | (with_reducible refine Fork.mk ?_ ?_) | (with_reducible refine And.intro ?_ ?_) | ((with_reducible refine rpI ?_); simp -implicitDefEqProofs only [r42, hT.tok.len, hT.tok.at0, hT.tok.atS, hT.tok.set0, hT.tok.setS, hT.tok.get, push_cast, go_sem_proc]) | intro _)
   refine F_loop (fun q e H => ∃ j kv J, q = 2 - j ∧ j ≤ 2 ∧ e 0 = .ptr sid 0 0 ∧ e 1 = .int .i64 d ∧ e 4 = .ptr N 0 0 ∧ e 5 = .ptr (N + 1) 0 0 ∧ e 25 = .int .i64 2 ∧ e 26 = .int .i64 j ∧
    H = T (itr f (a + 2) j).2 ++ ([Blk.row [.agg [.int .i64 0, .int .i64 0, .str ⟨#[]⟩, .nils]], Blk.row [.agg [.int .i64 k, .int .i64 0, .str ⟨#[]⟩, kv]]] ++ J) ∧ OV H kv ((itr f (a + 2) j).1.map encE) ∧ ∀ i, i < N + 2 → kvne kv i) 2
    ⟨0, .nils, [], by simp, by simp, by simp [upd, env0], by simp [upd, env0], by simp [upd, env0], by simp [upd, env0], by simp [upd, env0], by simp [upd, env0], by simp [itr], .inl ⟨rfl, rfl⟩, (fun i _ a b h => by cases h)⟩ ?_
   rintro q e H ⟨j, kv, J, rfl, hj, e0, e1, e4, e5, e25, e26, rfl, hov, hkn⟩
   have hone := hov.vone
   simp only [V.one] at hone
   have hc1 := hov.one
   by_cases hjm : j = 2
   ·subst hjm
    have hlj : ¬ (((2 : Nat) : Int) < 2) := by omega
    simp -implicitDefEqProofs only [e0, e1, e4, e5, e25, e26, hT.tok.len, hT.tok.at0, hT.tok.atS, hT.tok.set0, hT.tok.setS, hT.tok.get, hlj, hone, hc1, go_sem]
    have hov2 : OV (List.replicate N .dead ++ ([Blk.row [.agg [.int .i64 k, .int .i64 0, .str ⟨#[]⟩, kv]], Blk.row [.agg [.int .i64 k, .int .i64 0, .str ⟨#[]⟩, kv]]] ++ (J ++ []))) kv ((itr f (a + 2) 2).1.map encE) :=
     hov.mid (hT.tok.len _) hkn (B := List.replicate N .dead) (L1 := [Blk.row [.agg [.int .i64 k, .int .i64 0, .str ⟨#[]⟩, kv]], Blk.row [.agg [.int .i64 k, .int .i64 0, .str ⟨#[]⟩, kv]]]) List.length_replicate rfl []
    simp only [List.cons_append, List.nil_append, List.append_nil] at hov2
    have hz : fz _ 19 kv = _ := fz_OV (f := encE) (n := 17) (fun H x => fz_encE H 16 x) hov2
    simp -implicitDefEqProofs only [r42, hT.tok.len, hT.tok.at0, hT.tok.atS, hT.tok.set0, hT.tok.setS, hT.tok.get, e4, hone, hc1, push_cast, go_sem_proc]
    refine ⟨_, rfl, ?_⟩
    simp -implicitDefEqProofs only [hz, push_cast, go_sem_proc]
   ·have hjC : j * C ≤ 2 * C := Nat.mul_le_mul_right C (by omega)
    have hIj := hI j (by omega)
    obtain ⟨hf1, hf2, hf3, hf4⟩ := hf (itr f (a + 2) j).2 (by omega)
    have hlj : ((j : Int) < 2) := by omega
    have hw2 : IntKind.i64.wrap ((j : Int) + 1) = ((j + 1 : Nat) : Int) := wrap_succ (by omega)
    have hit : itr f (a + 2) (j + 1) = ((itr f (a + 2) j).1 ++ [(f (itr f (a + 2) j).2).1], (f (itr f (a + 2) j).2).2) := rfl
    have hil := itr_length f (a + 2) j
    generalize itr f (a + 2) j = ij at *
    generalize f ij.2 = fj at *
    rcases fj with ⟨⟨k', n', s', zs⟩, b'⟩
    simp only [encE_mk] at hf4
    have h42 := hf4.at hT ([Blk.row [.agg [.int .i64 0, .int .i64 0, .str ⟨#[]⟩, .nils]], Blk.row [.agg [.int .i64 k, .int .i64 0, .str ⟨#[]⟩, kv]]] ++ J)
    simp only [List.cons_append, List.nil_append] at h42
    simp -implicitDefEqProofs only [e0, e1, e4, e5, e25, e26, hT.tok.len, hT.tok.at0, hT.tok.atS, hT.tok.set0, hT.tok.setS, hT.tok.get, hlj, hone, hc1, go_sem]
    repeat' (first | ((first | (with_reducible refine cgA h42 ?_) | (with_reducible refine F_q2 ?_)); simp -implicitDefEqProofs only [e0, e1, e4, e5, e25, e26, hT.tok.len, hT.tok.at0, hT.tok.atS, hT.tok.set0, hT.tok.setS, hT.tok.get, hlj, hone, hc1, w1, go_sem]) | (with_reducible refine Fork.mk ?_ ?_) | (with_reducible refine And.intro ?_ ?_) | ((with_reducible refine rpI ?_); simp -implicitDefEqProofs only [r42, hT.tok.len, hT.tok.at0, hT.tok.atS, hT.tok.set0, hT.tok.setS, hT.tok.get, push_cast, go_sem_proc]) | intro _)
    refine app_T hT.tok (L0 := [Blk.row [.agg [.int .i64 0, .int .i64 0, .str ⟨#[]⟩, .nils]], Blk.row [.agg [.int .i64 k, .int .i64 0, .str ⟨#[]⟩, kv]]]) (J := J) (acc := ij.1.map encE) ?_ hkn (fun i o l h => by cases h) (headOk_E _) (by simp; omega) ?_
    ·have := hov.mid (hT.tok.len _) hkn (B := T b') (L1 := [Blk.row [.agg [.int .i64 0, .int .i64 0, .str ⟨#[]⟩, .nils]], Blk.row [.agg [.int .i64 k, .int .i64 0, .str ⟨#[]⟩, kv]]]) (hT.tok.len _) rfl []
     simpa only [List.append_nil] using this
    ·intro kv' J' hov' hkn'
     have hone' := hov'.vone
     simp only [V.one] at hone'
     have hc1' := hov'.one
     try simp only [List.cons_append, List.nil_append]
     simp -implicitDefEqProofs only [e0, e1, e4, e5, e25, e26, hT.tok.len, hT.tok.at0, hT.tok.atS, hT.tok.set0, hT.tok.setS, hT.tok.get, hlj, hone, hc1, hone', hc1', hw2, go_sem]
     refine ⟨2 - (j + 1), by omega, j + 1, kv', J', rfl, by omega, rfl, ?_, ?_, hkn'⟩
     ·rw [hit]
     ·rw [hit]
      have := hov'.mid (hT.tok.len _) hkn' (B := T b') (L1 := [Blk.row [.agg [.int .i64 0, .int .i64 0, .str ⟨#[]⟩, .nils]], Blk.row [.agg [.int .i64 k, .int .i64 0, .str ⟨#[]⟩, kv']]]) (hT.tok.len _) rfl []
      simpa [encE_mk] using this
theorem t42 (L : List Int) : ∀ (d a : Nat), d ≤ 5 → a + trC d ≤ 700000 → ∃ x a', a ≤ a' ∧ a' ≤ a + trC d ∧ wE x ≤ trC d ∧ MC 111 L a [.int .i64 d] (encE x) a'
 | 0, a, _, ha => by
  obtain ⟨x, hx, h⟩ := t42leaf L a (0 : Nat) (by simp only [trC] at ha; omega) (by omega)
  exact ⟨x, a + 2, by omega, by simp only [trC]; omega, by simp only [trC]; omega, h⟩
 | d + 1, a, hd, ha => by
  simp only [trC] at ha ⊢
  by_cases h2 : ((d + 1 : Nat) : Int) < 2
  ·obtain ⟨x, hx, h⟩ := t42leaf L a (d + 1 : Nat) (by omega) h2
   exact ⟨x, a + 2, by omega, by omega, by omega, h⟩
  ·by_cases h0 : nxF L a 3 = 0
   ·obtain ⟨x, hx, h⟩ := t42flip L a (d + 1 : Nat) (by omega) h2 h0
    exact ⟨x, a + 3, by omega, by omega, by omega, h⟩
   ·obtain ⟨x, a', h3, h4, h5, h6⟩ := t42s L a (d + 1 : Nat) (trC d) (by omega) (by omega) (by omega) h0 (fun a' ha' => by
     have := t42 L d a' (by omega) (by omega)
     rwa [show ((d + 1 : Nat) : Int) - 1 = (d : Nat) by omega])
    exact ⟨x, a', h3, by omega, by omega, h6⟩
theorem getI {l : List Int} {i : Nat} (h : i < l.length) : (l.map (V.int .i64)).getD i .any = .int .i64 (l.getD i 0) := by simp [List.getD, h]
theorem mapI_set (l : List Int) (i : Nat) (v : Int) : (l.map (V.int .i64)).set i (.int .i64 v) = (l.set i v).map (.int .i64) := by rw [List.map_set]
theorem headOk_I (l : List Int) : headOk 1 (l.map (V.int .i64)) := headOk_map (V.int .i64) 1 (fun _ => rfl) l
def upTo (n : Nat) : List Int := (List.range n).map (fun (i : Nat) => (i : Int))
theorem upTo_succ (n : Nat) : upTo (n + 1) = upTo n ++ [(n : Int)] := by simp [upTo, List.range_succ]
theorem upTo_length (n : Nat) : (upTo n).length = n := by simp [upTo]
def shuf (L : List Int) : Nat → List Int → Nat → List Int × Nat
 | 0, l, a => (l, a)
 | i + 1, l, a =>
  let k := (nxF L a ((i + 2 : Nat) : Int)).toNat
  shuf L i ((l.set (i + 1) (l.getD k 0)).set k (l.getD (i + 1) 0)) (a + 1)
theorem shuf_spec (L : List Int) (n : Nat) : ∀ (i : Nat) (l : List Int) (a : Nat), i < n → l.length = n → (∀ x ∈ l, 0 ≤ x ∧ x < n) → (shuf L i l a).1.length = n ∧ (∀ x ∈ (shuf L i l a).1, 0 ≤ x ∧ x < n) ∧ (shuf L i l a).2 = a + i
 | 0, l, a, _, hl, h => ⟨hl, h, rfl⟩
 | i + 1, l, a, hi, hl, h => by
  have hd : ∀ j, 0 ≤ l.getD j 0 ∧ l.getD j 0 < n := by
   intro j
   by_cases hj : j < l.length
   ·have : l.getD j 0 = l[j] := by simp [List.getD, hj]
    rw [this]; exact h _ (List.getElem_mem hj)
   ·have : l.getD j 0 = 0 := by simp [List.getD, hj]
    rw [this]; omega
  have := shuf_spec L n i ((l.set (i + 1) (l.getD (nxF L a ((i + 2 : Nat) : Int)).toNat 0)).set (nxF L a ((i + 2 : Nat) : Int)).toNat (l.getD (i + 1) 0)) (a + 1) (by omega) (by simp [hl]) (fun x hx => by
   rcases List.mem_or_eq_of_mem_set hx with hx | rfl
   ·rcases List.mem_or_eq_of_mem_set hx with hx | rfl
    ·exact h x hx
    ·exact hd _
   ·exact hd _)
  simp only [shuf]
  refine ⟨this.1, this.2.1, by rw [this.2.2]; omega⟩
set_option maxRecDepth 20000 in
theorem t43 (L : List Int) (a n : Nat) (hn : 1 ≤ n) (hn2 : n ≤ 12) (ha : a ≤ 700000) : ∃ (l : List Int) (a' : Nat), l.length = n ∧ (∀ x ∈ l, 0 ≤ x ∧ x < n) ∧ a ≤ a' ∧ a' ≤ a + n ∧ MC 112 L a [.int .i64 n] (.fs (l.map (.int .i64))) a' := by
 obtain ⟨h1, h2, h3⟩ := shuf_spec L n (n - 1) (upTo n) a (by omega) (upTo_length n) (fun x hx => by simp [upTo] at hx; omega)
 refine ⟨(shuf L (n - 1) (upTo n) a).1, (shuf L (n - 1) (upTo n) a).2, h1, h2, by rw [h3]; omega, by rw [h3]; omega, fun sid N T hT => hT.trimO (by simp only [noref]; exact norefL_int _) ?_⟩
 refine ACall.intro c43 200 (by simp) ?_
 simp -implicitDefEqProofs only [s43, go_sem]
 refine F_loop (fun q e H => ∃ j kv J, q = n - j ∧ j ≤ n ∧ e 0 = .ptr sid 0 0 ∧ e 1 = .int .i64 n ∧ e 5 = kv ∧ e 9 = .int .i64 n ∧ e 10 = .int .i64 j ∧ H = T a ++ ([] ++ J) ∧ OV H kv ((upTo j).map (.int .i64)) ∧ ∀ i, i < N + 0 → kvne kv i) n
  ⟨0, .nils, [], by simp, by simp, by simp [upd, env0], by simp [upd, env0], by simp [upd, env0], by simp [upd, env0], by simp [upd, env0], by simp, .inl ⟨rfl, rfl⟩, (fun i _ a b h => by cases h)⟩ ?_
 rintro q e H ⟨j, kv, J, rfl, hj, e0, e1, e5, e9, e10, rfl, hov, hkn⟩
 by_cases hjn : j = n
 ·subst hjn
  have hlj : ¬ ((j : Int) < j) := by omega
  have w1 : IntKind.i64.wrap ((j : Int) - 1) = ((j - 1 : Nat) : Int) := by rw [wrap_int (by omega) (by omega)]; omega
  simp -implicitDefEqProofs only [e0, e1, e5, e9, e10, hT.tok.len, hT.tok.at0, hT.tok.atS, hT.tok.set0, hT.tok.setS, hT.tok.get, hlj, w1, go_sem]
  obtain ⟨id, hkv, hid⟩ : ∃ id, kv = .ms (N + id) 0 j ∧ J[id]? = some (.row ((upTo j).map (.int .i64))) := by
   rcases hov with ⟨h, _⟩ | ⟨_, id, h4, h5⟩
   ·have := congrArg List.length h; simp [upTo_length] at this; omega
   ·have hge : ¬ id < N := fun h => hkn id (by omega) 0 _ h4
    refine ⟨id - N, by rw [h4]; simp [upTo_length]; omega, ?_⟩
    rw [List.nil_append, List.getElem?_append_right (by rw [hT.tok.len]; omega), hT.tok.len] at h5
    exact h5
  subst hkv
  have hidl := (List.getElem?_eq_some_iff.1 hid).1
  refine F_loop (fun q e H => ∃ i l a' J, q = i ∧ i < j ∧ l.length = j ∧ e 0 = .ptr sid 0 0 ∧ e 5 = .ms (N + id) 0 j ∧ e 7 = .int .i64 (i : Nat) ∧ H = T a' ++ J ∧ J[id]? = some (.row ((l : List Int).map (.int .i64))) ∧ a' ≤ 700000 + 12 - i ∧ (shuf L i l a') = shuf L (j - 1) (upTo j) a) (j - 1)
   ⟨j - 1, upTo j, a, J, rfl, by omega, upTo_length j, by simp [upd, e0], by simp [upd, e5], by simp [upd], rfl, hid, by omega, rfl⟩ ?_
  clear hid hidl hov e0 e1 e5 e9 e10
  rintro q e H ⟨i, l, a', J, rfl, hi, hl, e0, e5, e7, rfl, hid, ha', hsh⟩
  have hidl := (List.getElem?_eq_some_iff.1 hid).1
  cases q with
  | zero =>
   have h00 : ¬ ((0 : Int) < ((0 : Nat) : Int)) := by omega
   simp only [shuf] at hsh
   simp -implicitDefEqProofs only [e0, e5, e7, hT.tok.len, hT.tok.at0, hT.tok.atS, hT.tok.set0, hT.tok.setS, hT.tok.get, h00, go_sem]
   rw [← hsh]
   have hz : fz (List.replicate N .dead ++ J) 20 (.ms (N + id) 0 j) = some (.fs (l.map (.int .i64))) := by
    have : (List.replicate N Blk.dead ++ J)[N + id]? = some (.row (l.map (.int .i64))) := by
     rw [List.getElem?_append_right (by simp), List.length_replicate, Nat.add_sub_cancel_left]; exact hid
    rw [fz_ms, this, fzM_row, if_pos (by simp [hl]), List.drop_zero, List.take_of_length_le (by simp [hl]), fzL_map _ _ (fun x => fz_int _ _ _ _)]
    rfl
   simp -implicitDefEqProofs only [r43, push_cast, go_sem_proc]
   exact ⟨_, rfl, _, hz, rfl⟩
  | succ i =>
   have hb := nxF_bound (L := L) (a := a') (n := ((i + 2 : Nat) : Int)) (by omega) (by omega)
   have h16 := (t16 L a' ((i + 2 : Nat) : Int) (by omega)).at hT J
   simp only [shuf] at hsh
   generalize nxF L a' ((i + 2 : Nat) : Int) = v at *
   obtain ⟨k, rfl⟩ : ∃ k : Nat, v = k := ⟨v.toNat, by omega⟩
   have hi1 : ((0 : Int) < ((i + 1 : Nat) : Int)) := by omega
   have w2 : IntKind.i64.wrap (((i + 1 : Nat) : Int) + 1) = ((i + 2 : Nat) : Int) := by rw [wrap_int (by omega) (by omega)]; omega
   have w3 : IntKind.i64.wrap (((i + 1 : Nat) : Int) - 1) = (i : Int) := by rw [wrap_int (by omega) (by omega)]; omega
   have hk : k < j := by omega
   have hJs : ∀ x, (J.set id x)[id]? = some x := fun x => List.getElem?_set_self hidl
   have hgk : (l.map (V.int .i64)).getD k .any = .int .i64 (l.getD k 0) := getI (by omega)
   have hgi : (l.map (V.int .i64)).getD (i + 1) .any = .int .i64 (l.getD (i + 1) 0) := getI (by omega)
   have hgk2 : ((l.set (i + 1) (l.getD k 0)).map (V.int .i64)).getD k .any = .int .i64 ((l.set (i + 1) (l.getD k 0)).getD k 0) := getI (by simp; omega)
   simp -implicitDefEqProofs only [e0, e5, e7, hT.tok.len, hT.tok.at0, hT.tok.atS, hT.tok.set0, hT.tok.setS, hT.tok.get, hi1, w2, go_sem]
   repeat' (first | ((first | (with_reducible refine cgA h16 ?_) | (with_reducible refine F_q2 ?_)); simp -implicitDefEqProofs only [e0, e5, e7, hT.tok.len, hT.tok.at0, hT.tok.atS, hT.tok.set0, hT.tok.setS, hT.tok.get, hi1, w2, w3, hid, hJs, hgk, hgi, hgk2, mapI_set, hk, hi, hl, List.length_set, List.set_set, Nat.le_refl, go_sem]) | (with_reducible refine Fork.mk ?_ ?_) | (with_reducible refine And.intro ?_ ?_) | ((with_reducible refine rpI ?_); simp -implicitDefEqProofs only [r43, push_cast, go_sem_proc]) | intro _)
   simp only [Int.toNat_natCast] at hsh
   exact ⟨i, by omega, i, _, a' + 1, _, rfl, by omega, by simp [hl], rfl, rfl, hJs _, by omega, hsh⟩
 ·have hlj : ((j : Int) < n) := by omega
  have hw2 : IntKind.i64.wrap ((j : Int) + 1) = ((j + 1 : Nat) : Int) := wrap_succ (by omega)
  simp -implicitDefEqProofs only [e0, e1, e5, e9, e10, hT.tok.len, hT.tok.at0, hT.tok.atS, hT.tok.set0, hT.tok.setS, hT.tok.get, hlj, hw2, go_sem]
  refine app_T hT.tok (L0 := []) (J := J) (acc := (upTo j).map (.int .i64)) ?_ hkn (fun i o l h => by cases h) (headOk_I _) (by simp [upTo_length]; omega) ?_
  ·simpa using hov
  ·intro kv' J' hov' hkn'
   simp -implicitDefEqProofs only [e0, e1, e5, e9, e10, hT.tok.len, hT.tok.at0, hT.tok.atS, hT.tok.set0, hT.tok.setS, hT.tok.get, hlj, hw2, go_sem]
   refine ⟨n - (j + 1), by omega, j + 1, kv', J', rfl, by omega, rfl, rfl, rfl, ?_, hkn'⟩
   rw [upTo_succ]; simpa using hov'
def fnz : Int → List Int → Int
 | st, [] => st
 | st, c :: l => fnz (if st = 0 then c else st) l
theorem fnz_append : ∀ (a b : List Int) (st : Int), fnz st (a ++ b) = fnz (fnz st a) b
 | [], b, st => rfl
 | c :: a, b, st => by rw [List.cons_append, fnz, fnz_append a b, fnz]
theorem fnz_ne : ∀ (l : List Int) (st : Int), st ≠ 0 → fnz st l = st
 | [], st, _ => rfl
 | c :: l, st, h => by rw [fnz, if_neg h]; exact fnz_ne l st h
def gSp (P : Pla) (y : Spo) : Int := cFS P y.2.1 y.1
mutual
theorem fE1ufnz (P : Pla) : ∀ (x : St) (pr : Int) (la : Bool) (st n : Int), fE1 (fun st n x => ckS P st n pr x) st x n = fnz st ((sp1 x pr la).map (gSp P))
 | .mk k r t v l e a b p ps, pr, la, st, n => by
  rw [fE1, fE_fnz P a pr la, fE_fnz P b pr la, sp1, List.map_cons, List.map_append, fnz, fnz_append]
  rfl
theorem fE_fnz (P : Pla) : ∀ (l : List St) (pr : Int) (la : Bool) (st n : Int), fE (fun st n x => ckS P st n pr x) st l n = fnz st ((spL l pr la).map (gSp P))
 | [], _, _, _, _ => rfl
 | x :: l, pr, la, st, n => by
  rw [fE, fE1ufnz P x pr (la && l.isEmpty), fE_fnz P l pr la, spL, List.map_append, fnz_append]
end
theorem fP_fnz (P : Pla) : ∀ (l : List Pr) (i : Nat) (st n : Int), fP (ckS P) st l i n = fnz st ((spP l i).map (gSp P))
 | [], _, _, _ => rfl
 | q :: l, i, st, n => by
  rw [fP, fE_fnz P q.steps i true, fP_fnz P l (i + 1), spP, List.map_append, fnz_append]
theorem fEP_fnz (P : Pla) : fEP (ckS P) 0 P = fnz 0 ((spots P).map (gSp P)) := by
 rw [fEP, fE_fnz P P.main (-1) true, fP_fnz, spots, List.map_append, fnz_append]
theorem oFL_fnz (P : Pla) : ∀ l : List Spo, oFL P l = fnz 0 (l.map (oFS P))
 | [] => rfl
 | x :: l => by
  rw [oFL, List.map_cons, fnz]
  by_cases h : oFS P x = 0
  ·simp only [h, if_true, ne_eq, not_true_eq_false, if_false]; exact oFL_fnz P l
  ·simp only [if_true, ne_eq, h, not_false_eq_true, fnz_ne _ _ h]
mutual
theorem sp1uraw : ∀ (x : St) (pr : Int) (la : Bool) (d : Int), sF x d = 0 → ∀ y ∈ sp1 x pr la, ∃ d', stF' y.1 d' = 0
 | .mk k r t v l e a b p ps, pr, la, d, h => by
  intro y hy
  simp only [sF] at h
  by_cases h1 : stF' (.mk k r t v l e a b p ps) d ≠ 0
  ·rw [if_pos h1] at h; exact absurd h h1
  ·rw [if_neg h1] at h
   by_cases h2 : sFs a (d + 1) ≠ 0
   ·rw [if_pos h2] at h; exact absurd h h2
   ·rw [if_neg h2] at h
    simp only [sp1, List.mem_cons, List.mem_append] at hy
    rcases hy with rfl | hy | hy
    ·exact ⟨d, by simpa using h1⟩
    ·exact spL_raw a pr la (d + 1) (by simpa using h2) y hy
    ·exact spL_raw b pr la (d + 1) h y hy
theorem spL_raw : ∀ (l : List St) (pr : Int) (la : Bool) (d : Int), sFs l d = 0 → ∀ y ∈ spL l pr la, ∃ d', stF' y.1 d' = 0
 | [], _, _, _, _ => by intro y hy; simp [spL] at hy
 | x :: l, pr, la, d, h => by
  intro y hy
  rw [sFs] at h
  by_cases h1 : sF x d ≠ 0
  ·rw [if_pos h1] at h; exact absurd h h1
  ·rw [if_neg h1] at h
   simp only [spL, List.mem_append] at hy
   rcases hy with hy | hy
   ·exact sp1uraw x pr _ d (by simpa using h1) y hy
   ·exact spL_raw l pr la d h y hy
end
theorem psF_raw : ∀ (l pre : List Pr) (i : Nat), psF pre l = 0 → ∀ y ∈ spP l i, ∃ d', stF' y.1 d' = 0
 | [], _, _, _ => by intro y hy; simp [spP] at hy
 | q :: l, pre, i, h => by
  intro y hy
  rw [psF] at h
  by_cases h1 : pF pre q ≠ 0
  ·rw [if_pos h1] at h; exact absurd h h1
  ·rw [if_neg h1] at h
   have h1 : pF pre q = 0 := by simpa using h1
   simp only [spP, List.mem_append] at hy
   rcases hy with hy | hy
   ·refine spL_raw q.steps _ _ 1 ?_ y hy
    rw [pF] at h1
    repeat' split at h1
    all_goals first | (exact absurd h1 (by decide)) | (exact absurd h1 (by assumption)) | exact h1
   ·exact psF_raw l (pre ++ [q]) (i + 1) h y hy
theorem spots_raw (P : Pla) (h : cpF P = 0) : ∀ y ∈ spots P, ∃ d', stF' y.1 d' = 0 := by
 intro y hy
 rw [cpF] at h
 by_cases h1 : P.procs.length > 50
 ·rw [if_pos h1] at h; exact absurd h (by decide)
 ·rw [if_neg h1] at h
  by_cases h2 : psF [] P.procs ≠ 0
  ·rw [if_pos h2] at h; exact absurd h h2
  ·rw [if_neg h2] at h
   by_cases h3 : sFs P.main 1 ≠ 0
   ·rw [if_pos h3] at h; exact absurd h h3
   ·simp only [spots, List.mem_append] at hy
    rcases hy with hy | hy
    ·exact spL_raw _ _ _ 1 (by simpa using h3) y hy
    ·exact psF_raw _ [] 0 (by simpa using h2) y hy
theorem cFS_oFS (P : Pla) (y : Spo) (d : Int) (h : stF' y.1 d = 0) : gSp P y = oFS P y := by
 rcases y with ⟨⟨k, r, t, v, l, ⟨ek, en, es, eas⟩, a, b, p, ps⟩, pr, la⟩
 simp only [gSp, cFS, oFS, cF, oF, stF', stF] at *
 have hd : ¬ d > 20 := by intro hd; rw [if_pos hd] at h; exact absurd h (by decide)
 rw [if_neg hd] at h
 have hk : ¬ (k < 1 ∨ 5 < k) := by intro hd; rw [if_pos hd] at h; exact absurd h (by decide)
 rw [if_neg hk] at h
 have hf : foF k r t v l (isNone ek en es eas) a.length b.length p ps.length = 0 := by
  refine Classical.byContradiction fun hf => ?_
  rw [if_pos hf] at h; exact absurd h (by decide)
 rw [if_neg (by simpa using hf)] at h
 have hn : naF k r t v l p = 0 := by
  refine Classical.byContradiction fun hf => ?_
  rw [if_pos hf] at h; exact absurd h (by decide)
 have key : ∀ X : Int, (if nE t = true ∧ r = t then 6 else if k ≠ 5 then 0 else X) = if k ≠ 5 then (if t = r then 6 else 0) else X := by
  intro X
  by_cases h5 : k = 5
  ·subst h5
   have ht : nE t = false := by
    refine Classical.byContradiction fun ht => ?_
    have : nE t = true := by simpa using ht
    unfold foF at hf
    rw [if_pos (.inr (.inl ⟨by omega, this⟩))] at hf
    exact absurd hf (by decide)
   simp [ht]
  ·have hr : isNm r = true := by
    refine Classical.byContradiction fun ht => ?_
    have : isNm r = false := by simpa using ht
    unfold naF at hn
    rw [if_pos (.inl ⟨by omega, this⟩)] at hn
    exact absurd hn (by decide)
   have hr2 : nE r = true := by
    unfold nE
    refine Classical.byContradiction fun hx => ?_
    have hx : r = ⟨#[]⟩ := by simpa using hx
    subst hx
    exact absurd hr (by decide)
   by_cases hrt : t = r
   ·subst hrt; simp [h5, hr2]
   ·have : ¬ r = t := fun h => hrt h.symm
    simp [h5, hrt, this]
 rw [key]
 cases procRs P pr <;> cases P.procs.find? (fun z => decide (z.name = p)) <;> rfl
theorem ck_pl (P : Pla) : ckF P = plF P := by
 rw [ckF, plF]
 by_cases h : cpF P = 0
 ·simp only [h, ne_eq, not_true_eq_false, if_false]
  rw [fEP_fnz, oFL_fnz]
  congr 1
  apply List.map_congr_left
  intro y hy
  obtain ⟨d, hd⟩ := spots_raw P h y hy
  exact cFS_oFS P y d hd
 ·simp only [ne_eq, h, not_false_eq_true, if_true]
abbrev Hd := ByteArray × List ByteArray
def encH (h : Hd) : V := .agg [.str h.1, .fs (h.2.map .str)]
def ex0 : Ex := .mk 0 0 ⟨#[]⟩ []
def em : ByteArray := ⟨#[]⟩
def pk9 (L : List Int) (a : Nat) : Int := ([1, 1, 1, 2, 3, 3, 4, 4, 5] : List Int).getD (nxF L a 9).toNat 0
theorem pk9umem (L : List Int) (a : Nat) : pk9 L a = 1 ∨ pk9 L a = 2 ∨ pk9 L a = 3 ∨ pk9 L a = 4 ∨ pk9 L a = 5 := by
 have hb := nxF_bound (L := L) (a := a) (n := 9) (by omega) (by omega)
 unfold pk9
 generalize nxF L a 9 = v at *
 obtain ⟨k, rfl⟩ : ∃ k : Nat, v = k := ⟨v.toNat, by omega⟩
 have : k = 0 ∨ k = 1 ∨ k = 2 ∨ k = 3 ∨ k = 4 ∨ k = 5 ∨ k = 6 ∨ k = 7 ∨ k = 8 := by omega
 rcases this with rfl | rfl | rfl | rfl | rfl | rfl | rfl | rfl | rfl <;> simp
def so3 (L : List Int) (a : Nat) (l : List ByteArray) : ByteArray := l.getD (nxF L a l.length).toNat ⟨#[]⟩
def vxyz : List ByteArray := [⟨#[120]⟩, ⟨#[121]⟩, ⟨#[122]⟩]
def lyes : List ByteArray := [⟨#[121, 101, 115]⟩, ⟨#[110, 111]⟩, ⟨#[103, 111]⟩]
def one (L : List Int) (roles : List ByteArray) (d : Int) (heads : List Hd) (tw : Nat → ByteArray × ByteArray) (tr2 tr3 : Nat → Ex × Nat) (od : Nat → List Int × Nat) (sb : Nat → List St × Nat) (a : Nat) : List St × Nat :=
 let k0 := pk9 L (a + 2)
 let k := if (k0 = 4 ∧ d < 2) ∨ (k0 = 5 ∧ heads = []) then 3 else k0
 if k = 1 then ([.mk 1 (tw a).1 (tw a).2 (so3 L (a + 3) vxyz) em (tr2 (a + 4)).1 [] [] em []], (tr2 (a + 4)).2)
 else if k = 2 then ([.mk 2 (tw a).1 (tw a).2 em (so3 L (a + 3) lyes) ex0 [] [] em []], a + 4)
 else if k = 3 then ([.mk 3 (tw a).1 em (so3 L (a + 3) vxyz) em (tr3 (a + 4)).1 [] [] em []], (tr3 (a + 4)).2)
 else if k = 4 then ([.mk 4 (tw a).1 em em em (tr2 (a + 3)).1 (sb (tr2 (a + 3)).2).1 (sb (sb (tr2 (a + 3)).2).2).1 em []], (sb (sb (tr2 (a + 3)).2).2).2)
 else
  let h := heads.getD (nxF L (a + 3) heads.length).toNat (em, [])
  if h.2.length > roles.length then ([], a + 4)
  else ([.mk 5 em em em em ex0 [] [] h.1 (((od (a + 4)).1.take h.2.length).map fun i => roles.getD i.toNat em)], (od (a + 4)).2)
def resV (N : Nat) (xs : List St) : V := if xs = [] then .nils else .ms N 0 xs.length
def resH (xs : List St) : List Blk := if xs = [] then [] else [.row (xs.map encS)]
def MCO (k : FuncId) (L : List Int) (a : Nat) (args : List V) (xs : List St) (a' : Nat) : Prop := ∀ sid N T, MS L sid N T → ACall Tryz.prog k (.ptr sid 0 0 :: args) (T a) (ret1 (resV N xs) (T a' ++ resH xs))
def MCR (k : FuncId) (L : List Int) (a : Nat) (args : List V) (xs : List St) (a' : Nat) : Prop := ∀ sid N T, MS L sid N T → ACall Tryz.prog k (.ptr sid 0 0 :: args) (T a) (fun r H' => ∃ X, H' = T a' ++ X ∧ OV (T a' ++ X) r (xs.map encS) ∧ ∀ i, i < N → kvne r i)
theorem OV.tail {A X : List Blk} {kv : V} {acc : List V} {n : Nat} (h : OV (A ++ X) kv acc) (hA : A.length = n) (hk : ∀ j, j < n → kvne kv j) {B : List Blk} (hB : B.length = n) : OV (B ++ X) kv acc := by
 have := OV.mid (L0 := []) (L1 := []) (J := X) (by simpa using h) hA (by simpa using hk) hB rfl []
 simpa using this
theorem MCR.fz {k : FuncId} {L : List Int} {a a' : Nat} {args : List V} {xs : List St} (h : MCR k L a args xs a') : MC k L a args (.fs (xs.map encS)) a' := by
 intro sid N T hT
 refine hT.trimO (by simp only [noref]; exact norefL_encS _) ((h sid N T hT).mono ?_)
 rintro r H' ⟨X, rfl, hov, hk⟩
 exact ⟨X, rfl, _, fz_OV (f := encS) (n := 18) (fun H x => fz_encS H 17 x) (hov.tail (hT.tok.len _) hk List.length_replicate), rfl⟩
theorem MCR.mco {k : FuncId} {L : List Int} {a a' : Nat} {args : List V} {xs : List St} (h : MCR k L a args xs a') : MCO k L a args xs a' := by
 intro sid N T hT
 by_cases hx : xs = []
 ·subst hx
  simp only [resV, resH, if_true, List.append_nil]
  refine hT.trim rfl ((h sid N T hT).mono ?_)
  rintro r H' ⟨X, rfl, hov, hk⟩
  rcases hov with ⟨_, rfl⟩ | ⟨h1, _⟩
  ·exact ⟨rfl, X, rfl⟩
  ·exact absurd rfl h1
 ·simp only [resV, resH, if_neg hx]
  refine ACall.trimM ((h sid N T hT).mono ?_)
  rintro r H' ⟨X, rfl, hov, hk⟩
  rcases hov with ⟨h1, _⟩ | ⟨h1, id, rfl, hid⟩
  ·exact absurd (by simpa using h1) hx
  ·have hge : ¬ id < N := fun hl => hk id hl 0 _ rfl
   rw [List.getElem?_append_right (by rw [hT.tok.len]; omega), hT.tok.len] at hid
   refine ⟨T a', X, id - N, 0, xs.length, xs.map encS, rfl, by rw [hT.tok.len, hT.tok.len], hT.tok.row _ _, ?_, hid, norefL_encS _, ?_⟩
   ·rw [hT.tok.len, List.length_map]; congr 1; omega
   ·rw [hT.tok.len]; exact ⟨rfl, rfl⟩
end Go.Proofs.YtdgoeblpcnjlbaaGreatDoor.Av
set_option maxRecDepth 100000
namespace Go.Proofs.YtdgoeblpcnjlbaaGreatDoor.Av
open Go.RowKit
def bm4u0 : SCode := (.seq (.region [opB 19 .lss 18 17]) (.seq (.cond (sT 19) .skip (.exit 0)) (.seq (.block 1 (.seq (.region [opI 20 2 16 18,opN 21 2 20,⟨some 6,.alloc (.agg [.str ⟨#[]⟩, .nils]),none⟩,⟨none, .store 2 (sT 6) (sT 21),none⟩]) (.seq (.region [opM 22 0,opC 23 36 [.tmp 22, .val (.int .i64 2)]]) (.cond (sT 23) (.region [opM 24 4,opN 25 2 6,⟨some 26,.buildF 2 [.tmp 25],none⟩,⟨some 27,.append 2 40 (sT 24) (sT 26),none⟩,opM 4 27]) .skip)))) (.region [opY 28 .add 18 (.int .i64 1),opM 18 28]))))
def bm4u961 : SCode := (.region [opF 61 0 3,opL 62 61,opF 63 0 8,opL 64 63,opF 65 1 8,opL 66 65,opM 67 9,⟨some 68,.build [.str ⟨#[]⟩, .nils, .nils] [(0, 1, .tmp 64), (1, 1, .tmp 66), (2, 1, .tmp 67)],none⟩,⟨some 69,.buildF 3 [.tmp 68],none⟩,⟨some 70,.append 3 64 (sT 62) (sT 69),none⟩,opF 71 0 3,⟨none, .store 1 (sT 71) (sT 70),none⟩])
def bm4u944 : SCode := (.seq (.seq (.region [opM 44 0,opC 45 38 [.tmp 44, .val (.int .i64 6)]]) (.block 4 (.seq (.seq (.region [opY 47 .eql 45 (.int .i64 0),opM 46 47]) (.cond (sT 46) .skip (.region [opY 48 .eql 45 (.int .i64 1),opM 46 48]))) (.cond (sT 46) (.region [opM 49 9,opM 50 0,opN 51 2 8,opC 52 39 [.tmp 50, .tmp 51],⟨some 53,.append 13 216 (sT 49) (sT 52),none⟩,opM 9 53]) (.seq (.region [opY 55 .eql 45 (.int .i64 2),opM 54 55]) (.cond (sT 54) (.region [opM 56 0,opF 57 1 8,opL 58 57,opM 59 4,opC 60 37 [.tmp 56, .tmp 58, .val (.int .i64 2), .val (.int .i64 3), .tmp 59],opM 9 60]) .skip))))))
 bm4u961)
def bm4u1 : SCode := (.seq (.region [opB 32 .lss 31 30]) (.seq (.cond (sT 32) .skip (.exit 2)) (.seq (.block 3 (.seq (.region [opM 33 31,opI 34 2 29 31,opN 35 2 34,⟨some 8,.alloc (.agg [.str ⟨#[]⟩, .nils]),none⟩,opM 7 33,⟨none, .store 2 (sT 8) (sT 35),none⟩]) (.seq (.qregion [⟨opM 36 0, false, 0, 0, 0⟩,⟨opF 37 1 8, false, 0, 0, 0⟩,⟨opL 38 37, false, 0, 0, 2⟩,⟨opM 39 4, false, 0, 0, 0⟩,⟨opM 40 7, false, 0, 0, 0⟩,⟨opY 41 .add 40 (.int .i64 1), false, 0, 0, 16⟩,⟨⟨some 42,.slice 2 (sT 39) (some (sT 41)) none,none⟩, false, 0, 0, 56⟩,⟨opC 43 37 [.tmp 36, .tmp 38, .val (.int .i64 2), .val (.int .i64 3), .tmp 42], true, 0, 0, 127⟩,⟨opM 9 43, false, 1, 1, 255⟩])
 bm4u944))) (.region [opY 72 .add 31 (.int .i64 1),opM 31 72]))))
def bm4u978 : SCode := (.seq (.seq (.region [opM 78 0,opC 79 36 [.tmp 78, .val (.int .i64 12)]]) (.cond (sT 79) (.region [opM 80 0,opC 81 40 [.tmp 80, .tmp 3]]) .skip)) (.seq (.region [opN 82 2 3,⟨none, .store 2 (sT 2) (sT 82),none⟩])
 .ret))
def sm4 : SCode := (.seq (.region [⟨some 2,.alloc (.agg [.nils, .nils]),none⟩]) (.seq (.region [⟨some 3,.alloc (.agg [.nils, .nils]),none⟩]) (.seq (.region [opW 4 (.nils)]) (.seq (.seq (.region [⟨some 10,.buildF 1 [.val (.str ⟨#[113]⟩), .val (.str ⟨#[114]⟩)],none⟩,⟨some 11,.build [.str ⟨#[]⟩, .nils] [(0, 1, .val (.str ⟨#[102]⟩)), (1, 1, .tmp 10)],none⟩,⟨some 12,.buildF 1 [.val (.str ⟨#[113]⟩), .val (.str ⟨#[114]⟩), .val (.str ⟨#[116]⟩)],none⟩,⟨some 13,.build [.str ⟨#[]⟩, .nils] [(0, 1, .val (.str ⟨#[103]⟩)), (1, 1, .tmp 12)],none⟩,⟨some 14,.buildF 1 [.val (.str ⟨#[113]⟩), .val (.str ⟨#[114]⟩)],none⟩,⟨some 15,.build [.str ⟨#[]⟩, .nils] [(0, 1, .val (.str ⟨#[104]⟩)), (1, 1, .tmp 14)],none⟩,⟨some 16,.buildF 2 [.tmp 11, .tmp 13, .tmp 15],none⟩,opE 17 16,opW 18 (.int .i64 0)]) (.block 0 (.loop bm4u0))) (.seq (.seq (.region [⟨some 4,.frz 4,none⟩,opM 29 4,opE 30 29,opW 31 (.int .i64 0)]) (.block 2 (.loop bm4u1))) (.seq (.region [opM 73 0,⟨some 74,.buildF 1 [.val (.str ⟨#[97]⟩), .val (.str ⟨#[98]⟩), .val (.str ⟨#[99]⟩)],none⟩,opM 75 4,opC 76 37 [.tmp 73, .tmp 74, .val (.int .i64 3), .val (.int .i64 5), .tmp 75],opF 77 1 3,⟨none, .store 1 (sT 77) (sT 76),none⟩])
 bm4u978))))))
def rm4 : List SRes := [.cell true 2 2]
theorem cm4 : Code1 Tryz.prog 6 sm4 rm4 83 := ⟨⟨Tryz.f6, _, Tryz.func6, rfl, rfl, by kernel_rfl, by kernel_rfl⟩, by kernel_rfl, by kernel_rfl⟩
def bm15u1 : SCode := (.seq (.region [opB 79 .lss 78 77]) (.seq (.cond (sT 79) .skip (.exit 3)) (.seq (.block 4 (.seq (.region [opI 80 1 76 78,opL 81 80,opM 17 81]) (.qregion [⟨opF 82 12 14, false, 0, 0, 0⟩,⟨opL 83 82, false, 0, 0, 1⟩,⟨opM 84 1, false, 0, 0, 0⟩,⟨opM 85 17, false, 0, 0, 0⟩,⟨opI 86 1 84 85, false, 0, 0, 12⟩,⟨opL 87 86, false, 0, 0, 28⟩,⟨⟨some 88,.buildF 1 [.tmp 87],none⟩, false, 0, 0, 60⟩,⟨⟨some 89,.append 1 16 (sT 83) (sT 88),none⟩, true, 0, 0, 127⟩,⟨opF 90 12 14, false, 1, 1, 255⟩,⟨⟨none, .store 1 (sT 90) (sT 89),none⟩, true, 0, 0, 511⟩]))) (.region [opY 91 .add 78 (.int .i64 1),opM 78 91]))))
def bm15u0 : SCode := (.seq (.region [opB 22 .lss 21 20]) (.seq (.cond (sT 22) .skip (.exit 0)) (.seq (.block 1 (.seq (.region [opM 24 0,opM 25 1,opC 26 109 [.tmp 24, .tmp 25],opM 23 26,⟨some 27,.extract (sT 23) 0,none⟩,⟨some 28,.extract (sT 23) 1,none⟩,opM 12 27,opM 13 28]) (.seq (.region [opM 29 0,⟨some 30,.buildF 1 [.val (.int .i64 1), .val (.int .i64 1), .val (.int .i64 1), .val (.int .i64 2), .val (.int .i64 3), .val (.int .i64 3), .val (.int .i64 4), .val (.int .i64 4), .val (.int .i64 5)],none⟩,opC 31 110 [.tmp 29, .tmp 30],⟨some 32,.build [.int .i64 0, .str ⟨#[]⟩, .str ⟨#[]⟩, .str ⟨#[]⟩, .str ⟨#[]⟩, .int .i64 0, .int .i64 0, .str ⟨#[]⟩, .nils, .nils, .nils, .str ⟨#[]⟩, .nils] [(0, 1, .tmp 31)],none⟩,⟨some 14,.alloc (.agg [.int .i64 0, .str ⟨#[]⟩, .str ⟨#[]⟩, .str ⟨#[]⟩, .str ⟨#[]⟩, .int .i64 0, .int .i64 0, .str ⟨#[]⟩, .nils, .nils, .nils, .str ⟨#[]⟩, .nils]),none⟩,⟨none, .store 13 (sT 14) (sT 32),none⟩]) (.seq (.seq (.region [opF 33 0 14,opL 34 33,opY 35 .eql 34 (.int .i64 4),opM 36 35,opG 37 2 36 true,⟨some 38,.bin .lss (sT 37) (.val (.int .i64 2)), (some (36, true))⟩,⟨some 39,.pick (sT 36) (sT 38) (.val (.bool false)),none⟩,opM 40 39,opK 41 0 14 40 false,opH 42 41 40 false,⟨some 43,.bin .eql (sT 42) (.val (.int .i64 5)), (some (40, false))⟩,opG 44 43 40 false,opG 45 4 44 true,⟨some 46,.len false (sT 45), (some (44, true))⟩,⟨some 47,.bin .eql (sT 46) (.val (.int .i64 0)), (some (44, true))⟩,⟨some 48,.pick (sT 44) (sT 47) (.val (.bool false)), (some (40, false))⟩,⟨some 49,.pick (sT 40) (.val (.bool true)) (sT 48),none⟩]) (.cond (sT 49) (.region [opF 50 0 14,⟨none, .store 1 (sT 50) (.val (.int .i64 3)),none⟩]) .skip)) (.seq (.seq (.region [opF 51 0 14,opL 52 51]) (.block 2 (.seq (.region [opY 93 .eql 52 (.int .i64 1),opM 92 93]) (.cond (sT 92) (.region [opM 94 12,opM 95 13,opM 96 0,⟨some 97,.buildF 1 [.val (.str ⟨#[120]⟩), .val (.str ⟨#[121]⟩), .val (.str ⟨#[122]⟩)],none⟩,opC 98 63 [.tmp 96, .tmp 97],opM 99 0,opC 100 111 [.tmp 99, .val (.int .i64 2)],opF 101 1 14,⟨none, .store 1 (sT 101) (sT 94),none⟩,opF 102 2 14,⟨none, .store 1 (sT 102) (sT 95),none⟩,opF 103 3 14,⟨none, .store 1 (sT 103) (sT 98),none⟩,opF 104 5 14,⟨none, .store 4 (sT 104) (sT 100),none⟩]) (.seq (.region [opY 106 .eql 52 (.int .i64 2),opM 105 106]) (.cond (sT 105) (.region [opM 107 12,opM 108 13,opM 109 0,⟨some 110,.buildF 1 [.val (.str ⟨#[121, 101, 115]⟩), .val (.str ⟨#[110, 111]⟩), .val (.str ⟨#[103, 111]⟩)],none⟩,opC 111 63 [.tmp 109, .tmp 110],opF 112 1 14,⟨none, .store 1 (sT 112) (sT 107),none⟩,opF 113 2 14,⟨none, .store 1 (sT 113) (sT 108),none⟩,opF 114 4 14,⟨none, .store 1 (sT 114) (sT 111),none⟩]) (.seq (.region [opY 116 .eql 52 (.int .i64 3),opM 115 116]) (.cond (sT 115) (.region [opM 117 12,opM 118 0,⟨some 119,.buildF 1 [.val (.str ⟨#[120]⟩), .val (.str ⟨#[121]⟩), .val (.str ⟨#[122]⟩)],none⟩,opC 120 63 [.tmp 118, .tmp 119],opM 121 0,opC 122 111 [.tmp 121, .val (.int .i64 3)],opF 123 1 14,⟨none, .store 1 (sT 123) (sT 117),none⟩,opF 124 3 14,⟨none, .store 1 (sT 124) (sT 120),none⟩,opF 125 5 14,⟨none, .store 4 (sT 125) (sT 122),none⟩]) (.seq (.region [opY 127 .eql 52 (.int .i64 4),opM 126 127]) (.cond (sT 126) (.seq (.region [opM 128 12,opM 129 0,opC 130 111 [.tmp 129, .val (.int .i64 2)],opF 131 1 14,⟨none, .store 1 (sT 131) (sT 128),none⟩,opF 132 5 14,⟨none, .store 4 (sT 132) (sT 130),none⟩]) (.region [opM 133 0,opM 134 1,opM 135 2,opY 136 .sub 135 (.int .i64 1),opM 137 4,opC 138 37 [.tmp 133, .tmp 134, .tmp 136, .val (.int .i64 2), .tmp 137],opM 139 0,opM 140 1,opM 141 2,opY 142 .sub 141 (.int .i64 1),opM 143 4,opC 144 37 [.tmp 139, .tmp 140, .tmp 142, .val (.int .i64 2), .tmp 143],opF 145 9 14,⟨none, .store 1 (sT 145) (sT 138),none⟩,opF 146 10 14,⟨none, .store 1 (sT 146) (sT 144),none⟩])) (.seq (.region [opM 53 4,opM 54 0,opM 55 4,opE 56 55,opC 57 38 [.tmp 54, .tmp 56],opI 58 2 53 57,opN 59 2 58,⟨some 15,.alloc (.agg [.str ⟨#[]⟩, .nils]),none⟩,⟨none, .store 2 (sT 15) (sT 59),none⟩]) (.seq (.seq (.region [opF 60 1 15,opL 61 60,opE 62 61,opM 63 1,opE 64 63,opB 65 .gtr 62 64]) (.cond (sT 65) (.exit 1) .skip)) (.seq (.region [opF 66 0 15,opL 67 66,opF 68 11 14,⟨none, .store 1 (sT 68) (sT 67),none⟩]) (.seq (.qregion [⟨opM 69 0, false, 0, 0, 0⟩,⟨opM 70 1, false, 0, 0, 0⟩,⟨opE 71 70, false, 0, 0, 2⟩,⟨opC 72 112 [.tmp 69, .tmp 71], true, 0, 0, 7⟩,⟨opF 73 1 15, false, 0, 1, 0⟩,⟨opL 74 73, false, 0, 1, 16⟩,⟨opE 75 74, false, 0, 1, 48⟩,⟨⟨some 76,.slice 1 (sT 72) none (some (sT 75)),none⟩, false, 1, 1, 127⟩,⟨opE 77 76, false, 1, 1, 255⟩,⟨opW 78 (.int .i64 0), false, 0, 1, 0⟩]) (.block 3 (.loop bm15u1)))))))))))))))) (.region [opM 147 11,opN 148 13 14,⟨some 148,.frz 148,none⟩,⟨some 149,.buildF 13 [.tmp 148],none⟩,⟨some 150,.append 13 216 (sT 147) (sT 149),none⟩,opM 11 150])))))) (.region [opY 151 .add 21 (.int .i64 1),opM 21 151]))))
def sm15 : SCode := (.seq (.region [opW 10 (.nils)]) (.seq (.region [opW 11 (.nils)]) (.seq (.seq (.region [opM 18 0,opM 19 3,opC 20 108 [.tmp 18, .val (.int .i64 0), .tmp 19],opW 21 (.int .i64 0)]) (.block 0 (.loop bm15u0))) (.seq (.region [opM 152 11,opM 10 152])
 .ret))))
def rm15 : List SRes := [.tmp 10]
theorem cm15 : Code1 Tryz.prog 37 sm15 rm15 153 := ⟨⟨Tryz.f37, _, Tryz.func37, rfl, rfl, by kernel_rfl, by kernel_rfl⟩, by kernel_rfl, by kernel_rfl⟩
def sm17 : SCode := (.seq (.region [⟨some 3,.box (sT 1),none⟩,opW 4 (.fs [])]) (.seq (.region [opF 11 1 3,opL 12 11,⟨some 13,.iaddr 1 (sT 12) (.val (.int .i64 0)),none⟩,opL 14 13,opM 5 14]) (.seq (.region [⟨some 15,.build [.int .i64 0, .int .i64 0, .str ⟨#[]⟩, .fs []] [(0, 1, .val (.int .i64 1)), (1, 1, .val (.int .i64 1))],none⟩,⟨some 16,.build [.int .i64 0, .int .i64 0, .str ⟨#[]⟩, .fs []] [(0, 1, .val (.int .i64 2)), (2, 1, .val (.str ⟨#[120]⟩))],none⟩,⟨some 6,.alloc (.agg [.int .i64 0, .int .i64 0, .str ⟨#[]⟩, .nils]),none⟩,⟨some 7,.alloc (.agg [.int .i64 0, .int .i64 0, .str ⟨#[]⟩, .nils]),none⟩,⟨none, .store 4 (sT 6) (sT 15),none⟩,⟨none, .store 4 (sT 7) (sT 16),none⟩]) (.seq (.region [opM 17 5,opN 18 4 7,opN 19 4 6,⟨some 20,.buildF 4 [.tmp 18, .tmp 19],none⟩,⟨some 21,.build [.int .i64 0, .int .i64 0, .str ⟨#[]⟩, .fs []] [(0, 1, .val (.int .i64 4)), (3, 1, .tmp 20)],none⟩,⟨some 22,.build [.int .i64 0, .str ⟨#[]⟩, .str ⟨#[]⟩, .str ⟨#[]⟩, .str ⟨#[]⟩, .int .i64 0, .int .i64 0, .str ⟨#[]⟩, .fs [], .fs [], .fs [], .str ⟨#[]⟩, .fs []] [(0, 1, .val (.int .i64 3)), (1, 1, .tmp 17), (3, 1, .val (.str ⟨#[120]⟩)), (5, 4, .tmp 21)],none⟩,⟨some 23,.buildS 13 [.tmp 22],none⟩,opM 8 23]) (.seq (.seq (.region [opF 24 1 3,opL 25 24,opE 26 25,opY 27 .gtr 26 (.int .i64 1)]) (.cond (sT 27) (.qregion [⟨opM 28 8, false, 0, 2, 0⟩,⟨opM 29 5, false, 0, 2, 0⟩,⟨opF 30 1 3, false, 0, 2, 0⟩,⟨opL 31 30, false, 0, 2, 4⟩,⟨⟨some 32,.iaddr 1 (sT 31) (.val (.int .i64 1)),none⟩, false, 0, 2, 12⟩,⟨opL 33 32, false, 0, 2, 28⟩,⟨opM 34 0, false, 0, 0, 0⟩,⟨⟨some 35,.buildF 1 [.val (.str ⟨#[120]⟩), .val (.str ⟨#[121]⟩)],none⟩, false, 0, 0, 0⟩,⟨opC 36 63 [.tmp 34, .tmp 35], true, 0, 0, 192⟩,⟨opM 37 0, false, 0, 1, 0⟩,⟨opC 38 114 [.tmp 37], true, 0, 0, 960⟩,⟨⟨some 39,.build [.int .i64 0, .str ⟨#[]⟩, .str ⟨#[]⟩, .str ⟨#[]⟩, .str ⟨#[]⟩, .int .i64 0, .int .i64 0, .str ⟨#[]⟩, .fs [], .fs [], .fs [], .str ⟨#[]⟩, .fs []] [(0, 1, .val (.int .i64 1)), (1, 1, .tmp 29), (2, 1, .tmp 33), (3, 1, .tmp 36), (5, 4, .tmp 38)],none⟩, false, 2, 2, 2046⟩,⟨⟨some 40,.buildF 13 [.tmp 39],none⟩, false, 2, 2, 4094⟩,⟨⟨some 41,.append 13 216 (sT 28) (sT 40),none⟩, true, 0, 0, 8191⟩,⟨opM 8 41, false, 3, 3, 16383⟩]) .skip)) (.seq (.pregion [⟨opF 42 0 3, false, 0, 1, 0⟩,⟨opL 43 42, false, 0, 1, 1⟩,⟨opF 44 1 3, false, 0, 0, 0⟩,⟨opL 45 44, false, 0, 0, 4⟩,⟨opC 46 69 [.tmp 45], true, 0, 0, 12⟩,⟨⟨some 47,.build [.int .i64 0, .str ⟨#[]⟩, .str ⟨#[]⟩, .str ⟨#[]⟩, .str ⟨#[]⟩, .int .i64 0, .int .i64 0, .str ⟨#[]⟩, .fs [], .fs [], .fs [], .str ⟨#[]⟩, .fs []] [(0, 1, .val (.int .i64 5)), (11, 1, .tmp 43), (12, 1, .tmp 46)],none⟩, false, 1, 1, 31⟩,⟨⟨some 9,.jalloc,none⟩, false, 0, 1, 0⟩] 9 6 (.agg [.int .i64 0, .str ⟨#[]⟩, .str ⟨#[]⟩, .str ⟨#[]⟩, .str ⟨#[]⟩, .int .i64 0, .int .i64 0, .str ⟨#[]⟩, .nils, .nils, .nils, .str ⟨#[]⟩, .nils]) ⟨none, .store 13 (sT 9) (sT 47),none⟩) (.seq (.seq (.region [opM 48 0,opC 49 36 [.tmp 48, .val (.int .i64 3)],opM 50 49,opK 51 1 3 50 true,opH 52 51 50 true,⟨some 53,.len false (sT 52), (some (50, true))⟩,⟨some 54,.bin .eql (sT 53) (.val (.int .i64 2)), (some (50, true))⟩,⟨some 55,.pick (sT 50) (sT 54) (.val (.bool false)),none⟩]) (.cond (sT 55) (.region [opF 56 12 9,opL 57 56,opC 58 115 [.tmp 57]]) .skip)) (.seq (.region [opM 59 8,opN 60 13 9,⟨some 61,.buildF 13 [.tmp 60],none⟩,⟨some 62,.append 13 216 (sT 59) (sT 61),none⟩,opM 8 62]) (.seq (.seq (.region [opM 63 0,opC 64 36 [.tmp 63, .val (.int .i64 4)]]) (.cond (sT 64) (.region [opM 65 8,opM 66 5,opM 67 0,opC 68 114 [.tmp 67],⟨some 69,.build [.int .i64 0, .str ⟨#[]⟩, .str ⟨#[]⟩, .str ⟨#[]⟩, .str ⟨#[]⟩, .int .i64 0, .int .i64 0, .str ⟨#[]⟩, .fs [], .fs [], .fs [], .str ⟨#[]⟩, .fs []] [(0, 1, .val (.int .i64 3)), (1, 1, .tmp 66), (3, 1, .val (.str ⟨#[122]⟩)), (5, 4, .tmp 68)],none⟩,⟨some 70,.buildF 13 [.tmp 69],none⟩,⟨some 71,.append 13 216 (sT 65) (sT 70),none⟩,opM 8 71]) .skip)) (.seq (.region [⟨some 72,.build [.int .i64 0, .int .i64 0, .str ⟨#[]⟩, .fs []] [(0, 1, .val (.int .i64 1))],none⟩,opN 73 4 7,⟨some 74,.buildF 4 [.tmp 72, .tmp 73],none⟩,⟨some 75,.build [.int .i64 0, .int .i64 0, .str ⟨#[]⟩, .fs []] [(0, 1, .val (.int .i64 6)), (3, 1, .tmp 74)],none⟩,⟨some 10,.alloc (.agg [.int .i64 0, .int .i64 0, .str ⟨#[]⟩, .nils]),none⟩,⟨none, .store 4 (sT 10) (sT 75),none⟩]) (.seq (.seq (.region [opM 76 0,opC 77 36 [.tmp 76, .val (.int .i64 2)]]) (.cond (sT 77) (.region [opN 78 4 7,⟨none, .store 4 (sT 10) (sT 78),none⟩]) .skip)) (.seq (.region [opM 79 5,opN 80 4 10,opM 81 8,⟨some 82,.build [.int .i64 0, .str ⟨#[]⟩, .str ⟨#[]⟩, .str ⟨#[]⟩, .str ⟨#[]⟩, .int .i64 0, .int .i64 0, .str ⟨#[]⟩, .fs [], .fs [], .fs [], .str ⟨#[]⟩, .fs []] [(0, 1, .val (.int .i64 4)), (1, 1, .tmp 79), (5, 4, .tmp 80), (9, 1, .tmp 81)],none⟩,⟨some 82,.frz 82,none⟩,⟨some 83,.buildF 13 [.tmp 82],none⟩,opM 4 83])
 .ret))))))))))))
def rm17 : List SRes := [.tmp 4]
theorem cm17 : Code1 Tryz.prog 39 sm17 rm17 84 := ⟨⟨Tryz.f39, _, Tryz.func39, rfl, rfl, by kernel_rfl, by kernel_rfl⟩, by kernel_rfl, by kernel_rfl⟩
def bm18u0 : SCode := (.seq (.region [opB 79 .lss 78 77]) (.seq (.cond (sT 79) .skip (.exit 1)) (.seq (.block 2 (.qregion [⟨opM 80 6, false, 0, 1, 0⟩,⟨opM 81 0, false, 0, 0, 0⟩,⟨⟨some 82,.buildF 1 [.val (.str ⟨#[97]⟩), .val (.str ⟨#[113]⟩)],none⟩, false, 0, 0, 0⟩,⟨opC 83 63 [.tmp 81, .tmp 82], true, 0, 0, 6⟩,⟨⟨some 84,.build [.int .i64 0, .int .i64 0, .str ⟨#[]⟩, .fs []] [(0, 1, .val (.int .i64 1))],none⟩, false, 0, 1, 0⟩,⟨opM 85 6, false, 0, 1, 0⟩,⟨⟨some 86,.nilc (sT 85),none⟩, false, 0, 1, 32⟩,⟨opN 87 13 86, false, 0, 1, 96⟩,⟨⟨some 88,.buildF 13 [.tmp 87],none⟩, false, 0, 1, 224⟩,⟨⟨some 89,.build [.int .i64 0, .str ⟨#[]⟩, .str ⟨#[]⟩, .str ⟨#[]⟩, .str ⟨#[]⟩, .int .i64 0, .int .i64 0, .str ⟨#[]⟩, .fs [], .fs [], .fs [], .str ⟨#[]⟩, .fs []] [(0, 1, .val (.int .i64 4)), (1, 1, .tmp 83), (5, 4, .tmp 84), (9, 1, .tmp 88)],none⟩, false, 1, 1, 510⟩,⟨⟨some 90,.nilc (sT 80),none⟩, false, 1, 1, 1023⟩,⟨⟨none, .store 13 (sT 90) (sT 89),none⟩, true, 0, 0, 2047⟩])) (.region [opY 91 .add 78 (.int .i64 1),opM 78 91]))))
def bm18u964 : SCode := (.seq (.seq (.region [opM 64 4,opE 65 64,opY 66 .eql 65 (.int .i64 0)]) (.cond (sT 66) .ret .skip)) (.seq (.region [opM 67 4,opM 68 0,opM 69 4,opE 70 69,opC 71 38 [.tmp 68, .tmp 70],opI 72 13 67 71,opM 6 72]) (.seq (.region [opM 73 0,opC 74 38 [.tmp 73, .val (.int .i64 6)]]) (.block 0 (.seq (.region [opY 93 .eql 74 (.int .i64 0),opM 92 93]) (.cond (sT 92) (.region [opM 94 6,opM 95 0,opC 96 116 [.tmp 95, .val (.int .i64 1), .val (.int .i64 5)],⟨some 97,.nilc (sT 94),none⟩,opF 98 0 97,⟨none, .store 1 (sT 98) (sT 96),none⟩]) (.seq (.region [opY 100 .eql 74 (.int .i64 1),opM 99 100]) (.cond (sT 99) (.qregion [⟨opM 101 6, false, 0, 2, 0⟩,⟨opM 102 6, false, 0, 3, 0⟩,⟨opM 103 0, false, 0, 0, 0⟩,⟨opM 104 6, false, 0, 0, 0⟩,⟨⟨some 105,.nilc (sT 104),none⟩, false, 0, 0, 8⟩,⟨opF 106 1 105, false, 0, 0, 24⟩,⟨opL 107 106, false, 0, 0, 56⟩,⟨⟨some 108,.buildF 1 [.tmp 107, .val (.str ⟨#[]⟩), .val (.str ⟨#[97]⟩), .val (.str ⟨#[113]⟩), .val (.str ⟨#[65]⟩)],none⟩, false, 0, 0, 120⟩,⟨opC 109 63 [.tmp 103, .tmp 108], true, 0, 0, 252⟩,⟨opM 110 0, false, 0, 1, 0⟩,⟨opM 111 6, false, 0, 1, 0⟩,⟨⟨some 112,.nilc (sT 111),none⟩, false, 0, 1, 1024⟩,⟨opF 113 2 112, false, 0, 1, 3072⟩,⟨opL 114 113, false, 0, 1, 7168⟩,⟨⟨some 115,.buildF 1 [.tmp 114, .val (.str ⟨#[97]⟩), .val (.str ⟨#[113]⟩), .val (.str ⟨#[]⟩)],none⟩, false, 0, 1, 15360⟩,⟨opC 116 63 [.tmp 110, .tmp 115], true, 0, 0, 32764⟩,⟨⟨some 117,.nilc (sT 101),none⟩, false, 2, 2, 65533⟩,⟨opF 118 1 117, false, 2, 2, 131069⟩,⟨⟨none, .store 1 (sT 118) (sT 109),none⟩, true, 0, 0, 262141⟩,⟨⟨some 119,.nilc (sT 102),none⟩, false, 3, 3, 524287⟩,⟨opF 120 2 119, false, 3, 3, 1048575⟩,⟨⟨none, .store 1 (sT 120) (sT 116),none⟩, true, 0, 0, 2097151⟩]) (.seq (.region [opY 122 .eql 74 (.int .i64 2),opM 121 122]) (.cond (sT 121) (.qregion [⟨opM 123 6, false, 0, 2, 0⟩,⟨opM 124 6, false, 0, 3, 0⟩,⟨opM 125 0, false, 0, 0, 0⟩,⟨opM 126 6, false, 0, 0, 0⟩,⟨⟨some 127,.nilc (sT 126),none⟩, false, 0, 0, 8⟩,⟨opF 128 3 127, false, 0, 0, 24⟩,⟨opL 129 128, false, 0, 0, 56⟩,⟨⟨some 130,.buildF 1 [.tmp 129, .val (.str ⟨#[]⟩), .val (.str ⟨#[101, 108, 115, 101]⟩)],none⟩, false, 0, 0, 120⟩,⟨opC 131 63 [.tmp 125, .tmp 130], true, 0, 0, 252⟩,⟨opM 132 0, false, 0, 1, 0⟩,⟨opM 133 6, false, 0, 1, 0⟩,⟨⟨some 134,.nilc (sT 133),none⟩, false, 0, 1, 1024⟩,⟨opF 135 4 134, false, 0, 1, 3072⟩,⟨opL 136 135, false, 0, 1, 7168⟩,⟨⟨some 137,.buildF 1 [.tmp 136, .val (.str ⟨#[121, 101, 115]⟩), .val (.str ⟨#[]⟩)],none⟩, false, 0, 1, 15360⟩,⟨opC 138 63 [.tmp 132, .tmp 137], true, 0, 0, 32764⟩,⟨⟨some 139,.nilc (sT 123),none⟩, false, 2, 2, 65533⟩,⟨opF 140 3 139, false, 2, 2, 131069⟩,⟨⟨none, .store 1 (sT 140) (sT 131),none⟩, true, 0, 0, 262141⟩,⟨⟨some 141,.nilc (sT 124),none⟩, false, 3, 3, 524287⟩,⟨opF 142 4 141, false, 3, 3, 1048575⟩,⟨⟨none, .store 1 (sT 142) (sT 138),none⟩, true, 0, 0, 2097151⟩]) (.seq (.region [opY 144 .eql 74 (.int .i64 3),opM 143 144]) (.cond (sT 143) (.region [opM 145 6,opM 146 0,opC 147 116 [.tmp 146, .val (.int .i64 1), .val (.int .i64 9)],opM 148 0,opC 149 116 [.tmp 148, .val (.int .i64 0), .val (.int .i64 999)],opM 150 0,⟨some 151,.buildF 1 [.val (.str ⟨#[]⟩), .val (.str ⟨#[120]⟩)],none⟩,opC 152 63 [.tmp 150, .tmp 151],⟨some 153,.build [.int .i64 0, .int .i64 0, .str ⟨#[]⟩, .fs []] [(0, 1, .tmp 147), (1, 1, .tmp 149), (2, 1, .tmp 152)],none⟩,⟨some 154,.nilc (sT 145),none⟩,opF 155 5 154,⟨none, .store 4 (sT 155) (sT 153),none⟩]) (.seq (.region [opY 157 .eql 74 (.int .i64 4),opM 156 157]) (.cond (sT 156) (.region [opM 158 6,opM 159 6,opM 160 0,opM 161 6,⟨some 162,.nilc (sT 161),none⟩,opF 163 11 162,opL 164 163,⟨some 165,.buildF 1 [.tmp 164, .val (.str ⟨#[122, 122]⟩), .val (.str ⟨#[102]⟩), .val (.str ⟨#[]⟩)],none⟩,opC 166 63 [.tmp 160, .tmp 165],⟨some 167,.buildF 1 [.val (.str ⟨#[97]⟩)],none⟩,⟨some 168,.buildF 1 [.val (.str ⟨#[97]⟩), .val (.str ⟨#[97]⟩)],none⟩,⟨some 169,.buildF 1 [.val (.str ⟨#[113]⟩), .val (.str ⟨#[114]⟩)],none⟩,⟨some 170,.buildF 1 [.val (.str ⟨#[97]⟩), .val (.str ⟨#[98]⟩)],none⟩,⟨some 171,.buildF 1 [.val (.fs []), .tmp 167, .tmp 168, .tmp 169, .tmp 170],none⟩,opM 172 0,opC 173 38 [.tmp 172, .val (.int .i64 5)],opI 174 1 171 173,opL 175 174,⟨some 176,.nilc (sT 158),none⟩,opF 177 11 176,⟨none, .store 1 (sT 177) (sT 166),none⟩,⟨some 178,.nilc (sT 159),none⟩,opF 179 12 178,⟨none, .store 1 (sT 179) (sT 175),none⟩]) (.seq (.region [opM 75 0,opC 76 108 [.tmp 75, .val (.int .i64 (-1)), .val (.int .i64 1)],⟨some 77,.bin .add (.val (.int .i64 20)) (sT 76),none⟩,opW 78 (.int .i64 0)]) (.block 1 (.loop bm18u0)))))))))))))))))
def sm18 : SCode := (.seq (.region [opM 7 1,⟨some 8,.nilc (sT 7),none⟩,opF 9 1 8,opL 10 9,opM 4 10]) (.seq (.seq (.region [opM 11 1,⟨some 12,.nilc (sT 11),none⟩,opF 13 0 12,opL 14 13,opE 15 14,opY 16 .gtr 15 (.int .i64 0),opM 17 16,opG 18 0 17 true,⟨some 19,.call (.val (.clos 36 [] [])) [.tmp 18, .val (.int .i64 2)], (some (17, true))⟩,⟨some 20,.pick (sT 17) (sT 19) (.val (.bool false)),none⟩]) (.cond (sT 20) (.seq (.region [opM 21 0,opM 22 1,⟨some 23,.nilc (sT 22),none⟩,opF 24 0 23,opL 25 24,opE 26 25,opC 27 38 [.tmp 21, .tmp 26],opM 5 27]) (.seq (.region [opM 28 1,⟨some 29,.nilc (sT 28),none⟩,opF 30 0 29,opL 31 30,opM 32 5,opI 33 3 31 32,opF 34 2 33,opL 35 34,opM 4 35]) (.seq (.region [opM 36 0,opC 37 36 [.tmp 36, .val (.int .i64 3)]]) (.cond (sT 37) (.seq (.qregion [⟨opM 38 1, false, 0, 1, 0⟩,⟨⟨some 39,.nilc (sT 38),none⟩, false, 0, 1, 1⟩,⟨opF 40 0 39, false, 0, 1, 3⟩,⟨opL 41 40, false, 0, 1, 7⟩,⟨opM 42 5, false, 0, 1, 0⟩,⟨opM 43 0, false, 0, 0, 0⟩,⟨⟨some 44,.buildF 1 [.val (.str ⟨#[]⟩), .val (.str ⟨#[102]⟩), .val (.str ⟨#[109, 97, 105, 110]⟩), .val (.str ⟨#[65]⟩), .val (.str ⟨#[107]⟩)],none⟩, false, 0, 0, 0⟩,⟨opC 45 63 [.tmp 43, .tmp 44], true, 0, 0, 96⟩,⟨opI 46 3 41 42, false, 1, 1, 255⟩,⟨opF 47 0 46, false, 1, 1, 511⟩,⟨⟨none, .store 1 (sT 47) (sT 45),none⟩, true, 0, 0, 1023⟩]) (.seq (.qregion [⟨opM 48 1, false, 0, 1, 0⟩,⟨⟨some 49,.nilc (sT 48),none⟩, false, 0, 1, 1⟩,⟨opF 50 0 49, false, 0, 1, 3⟩,⟨opL 51 50, false, 0, 1, 7⟩,⟨opM 52 5, false, 0, 1, 0⟩,⟨⟨some 53,.buildF 1 [.val (.str ⟨#[113]⟩)],none⟩, false, 0, 1, 0⟩,⟨⟨some 54,.buildF 1 [.val (.str ⟨#[113]⟩), .val (.str ⟨#[113]⟩)],none⟩, false, 0, 1, 0⟩,⟨⟨some 55,.buildF 1 [.val (.str ⟨#[113]⟩), .val (.str ⟨#[114]⟩), .val (.str ⟨#[116]⟩), .val (.str ⟨#[117]⟩)],none⟩, false, 0, 1, 0⟩,⟨⟨some 56,.buildF 1 [.val (.str ⟨#[105, 102]⟩)],none⟩, false, 0, 1, 0⟩,⟨⟨some 57,.buildF 1 [.val (.fs []), .tmp 53, .tmp 54, .tmp 55, .tmp 56],none⟩, false, 0, 1, 480⟩,⟨opM 58 0, false, 0, 0, 0⟩,⟨opC 59 38 [.tmp 58, .val (.int .i64 5)], true, 0, 0, 1024⟩,⟨opI 60 1 57 59, false, 1, 1, 4064⟩,⟨opL 61 60, false, 1, 1, 8160⟩,⟨opI 62 3 51 52, false, 1, 1, 16383⟩,⟨opF 63 1 62, false, 1, 1, 32767⟩,⟨⟨none, .store 1 (sT 63) (sT 61),none⟩, true, 0, 0, 65535⟩])
 .ret)) .skip)))) .skip))
 bm18u964))
def rm18 : List SRes := []
theorem cm18 : Code1 Tryz.prog 40 sm18 rm18 180 := ⟨⟨Tryz.f40, _, Tryz.func40, rfl, rfl, by kernel_rfl, by kernel_rfl⟩, by kernel_rfl, by kernel_rfl⟩
theorem app_T0 {σ : Type} {N : Nat} {T : σ → List Blk} (hT : TOK N T) {a : σ} {J : List Blk} {esz bytes : Nat} {src : List V} {yv kv : V} {K : V → List Blk → Prop} {acc : List V} (hov : OV (T a ++ J) kv acc)
  (hk0 : ∀ j, j < N → kvne kv j) (hy : ∀ i o l, yv ≠ .ms i o l) (hh : headOk esz acc) (hb : (acc.length + src.length) * bytes ≤ 140737488355328)
  (hk : ∀ kv' J', OV (T a ++ J') kv' (acc ++ src) → (∀ j, j < N → kvne kv' j) → K kv' (T a ++ J')) : appK esz bytes src yv kv (T a ++ J) K := by
 have := app_T hT (L0 := []) (J := J) (K := K) (yv := yv) (a := a) (by simpa using hov) (by simpa using hk0) hy hh hb (fun kv' J' h1 h2 => by simpa using hk kv' J' (by simpa using h1) (by simpa using h2))
 simpa using this
structure L15 (sid : Nat) (roles : List ByteArray) (d : Int) (heads : List Hd) (n N : Nat) (T : Nat → List Blk) (j aj : Nat) (kv : V) (acc : List St) (J : List Blk) (e : Env) (H : List Blk) : Prop where
 e0 : e 0 = .ptr sid 0 0
 e1 : e 1 = .fs (roles.map .str)
 e2 : e 2 = .int .i64 d
 e4 : e 4 = .fs (heads.map encH)
 e11 : e 11 = kv
 e20 : e 20 = .int .i64 n
 e21 : e 21 = .int .i64 j
 hH : H = T aj ++ J
 ov : OV H kv (acc.map encS)
 kn : ∀ i, i < N → kvne kv i
structure M15 (M : Nat) (L : List Int) (roles : List ByteArray) (d : Int) (heads : List Hd) (tw : Nat → ByteArray × ByteArray) (tr2 tr3 : Nat → Ex × Nat) (od : Nat → List Int × Nat) (sb : Nat → List St × Nat) : Prop where
 tw : ∀ a, a ≤ M + 100000 → MC 109 L a [.fs (roles.map .str)] (.tup [.str (tw a).1, .str (tw a).2]) (a + 2)
 tr2 : ∀ a, a ≤ M + 100000 → a ≤ (tr2 a).2 ∧ (tr2 a).2 ≤ a + 100 ∧ wE (tr2 a).1 ≤ 100 ∧ MC 111 L a [.int .i64 2] (encE (tr2 a).1) (tr2 a).2
 tr3 : ∀ a, a ≤ M + 100000 → a ≤ (tr3 a).2 ∧ (tr3 a).2 ≤ a + 300 ∧ wE (tr3 a).1 ≤ 300 ∧ MC 111 L a [.int .i64 3] (encE (tr3 a).1) (tr3 a).2
 od : ∀ a, a ≤ M + 100000 → a ≤ (od a).2 ∧ (od a).2 ≤ a + 12 ∧ (od a).1.length = roles.length ∧ (∀ x ∈ (od a).1, 0 ≤ x ∧ x < roles.length) ∧ MC 112 L a [.int .i64 roles.length] (.fs ((od a).1.map (.int .i64))) (od a).2
 sb : 2 ≤ d → ∀ a, a ≤ M + 60000 → a ≤ (sb a).2 ∧ (sb a).2 ≤ a + 20000 ∧ MC 37 L a [.fs (roles.map .str), .int .i64 (d - 1), .int .i64 2, .fs (heads.map encH)] (.fs ((sb a).1.map encS)) (sb a).2
def B15 (L : List Int) (roles : List ByteArray) (d : Int) (heads : List Hd) (tw : Nat → ByteArray × ByteArray) (tr2 tr3 : Nat → Ex × Nat) (od : Nat → List Int × Nat) (sb : Nat → List St × Nat) (aj : Nat) : Prop :=
 ∀ (sid n N : Nat) (T : Nat → List Blk) (j : Nat) (kv : V) (acc : List St) (J : List Blk) (e : Env) (H : List Blk) (m : Nat) (k : Kont), MS L sid N T → L15 sid roles d heads n N T j aj kv acc J e H → j < n → n ≤ 100 → acc.length ≤ 100 →
  (∀ p e' kv' J' H', L15 sid roles d heads n N T (j + 1) (one L roles d heads tw tr2 tr3 od sb aj).2 kv' (acc ++ (one L roles d heads tw tr2 tr3 od sb aj).1) J' e' H' → F Tryz.prog (p + 1) (.app k .normal e' H')) →
  F Tryz.prog (m + 300) (.code bm15u0 e H k)
theorem upd_ne {e : Env} {d x : Nat} {v : V} (h : x ≠ d) : upd e d v x = e x := by unfold upd; rw [if_neg h]
def X5 (key : ByteArray) (kv : V) : Blk := .row [.agg [.int .i64 5, .str ⟨#[]⟩, .str ⟨#[]⟩, .str ⟨#[]⟩, .str ⟨#[]⟩, .int .i64 0, .int .i64 0, .str ⟨#[]⟩, .nils, .nils, .nils, .str key, kv]]
set_option maxRecDepth 20000 in
set_option maxHeartbeats 8000000 in
theorem in15 {N : Nat} {T : Nat → List Blk} (hT : TOK N T) (a : Nat) (J : List Blk) (hd : Blk) (key : ByteArray) (roles : List ByteArray) (is : List Int) (his : is.length ≤ 12) (hin : ∀ x ∈ is, 0 ≤ x ∧ x < roles.length) (e : Env)
  (e1 : e 1 = .fs (roles.map .str)) (e14 : e 14 = .ptr (N + J.length) 0 0) (e76 : e 76 = .fs (is.map (.int .i64))) (e77 : e 77 = .int .i64 is.length) (e78 : e 78 = .int .i64 0) (m : Nat) (k : Kont)
  (hk : ∀ p e' kv J2, m ≤ p → (∀ x, x ≠ 17 → ¬ (78 ≤ x ∧ x ≤ 91) → e' x = e x) → OV (T a ++ (J ++ (X5 key kv :: hd :: J2))) kv ((is.map fun i => roles.getD i.toNat em).map .str) → (∀ j, j < N + (J.length + 2) → kvne kv j) →
   F Tryz.prog (p + 1) (.app k (.exit 3) e' (T a ++ (J ++ (X5 key kv :: hd :: J2))))) :
  F Tryz.prog (m + 100) (.code (.loop bm15u1) e (T a ++ (J ++ (X5 key .nils :: hd :: []))) k) := by
 refine F_loop (fun q e' H => ∃ pre post kv J2, is = pre ++ post ∧ q = post.length ∧ (∀ x, x ≠ 17 → ¬ (78 ≤ x ∧ x ≤ 91) → e' x = e x) ∧ e' 78 = .int .i64 pre.length ∧ H = T a ++ (J ++ (X5 key kv :: hd :: J2)) ∧
   OV (T a ++ ((J ++ [X5 key kv, hd]) ++ J2)) kv ((pre.map fun i => roles.getD i.toNat em).map .str) ∧ (∀ j, j < N + (J ++ [X5 key kv, hd]).length → kvne kv j)) is.length
   ⟨[], is, .nils, [], rfl, rfl, fun _ _ _ => rfl, e78, rfl, .inl ⟨rfl, rfl⟩, (fun i _ a b h => by cases h)⟩ ?_
 rintro q e' H ⟨pre, post, kv, J2, hxs, rfl, hfr, f78, rfl, hov, hkn⟩
 have f1 := (hfr 1 (by omega) (by omega)).trans e1
 have f14 := (hfr 14 (by omega) (by omega)).trans e14
 have f76 := (hfr 76 (by omega) (by omega)).trans e76
 have f77 := (hfr 77 (by omega) (by omega)).trans e77
 have hone := hov.vone
 simp only [V.one] at hone
 have hc1 := hov.one
 cases post with
 | nil =>
  have hpx : pre = is := by rw [hxs]; simp
  simp -implicitDefEqProofs only [bm15u1, f1, f14, f76, f77, f78, mid_not hxs, go_sem]
  refine hk _ _ kv J2 (by omega) ?_ ?_ ?_
  ·intro x h1 h2
   simp (disch := omega) only [upd_ne]
   exact hfr x h1 h2
  ·rw [hpx] at hov; simpa using hov
  ·simpa [Nat.add_assoc] using hkn
 | cons y post =>
  have hg := mid_get (V.int .i64) hxs
  have hyr := hin y (by rw [hxs]; simp)
  obtain ⟨yi, rfl⟩ : ∃ yi : Nat, y = yi := ⟨y.toNat, by omega⟩
  have hyl : yi < roles.length := by omega
  have hgr : (roles.map V.str).getD yi .any = .str (roles.getD yi em) := by simp [List.getD, hyl]
  have hpl : pre.length ≤ is.length := by rw [hxs]; simp
  have hw := wrap_succ (k := pre.length) (by omega)
  simp -implicitDefEqProofs only [bm15u1, X5, f1, f14, f76, f77, f78, mid_lt hxs, hg, hw, hone, hc1, go_sem]
  refine F_q2 ?_
  simp -implicitDefEqProofs only [X5, f1, f14, f76, f77, f78, mid_lt hxs, hg, hw, hone, hc1, hyl, hgr, hT.len, hT.at0, hT.atS, hT.set0, hT.setS, go_sem]
  rw [show J ++ (Blk.row [.agg [.int .i64 5, .str ⟨#[]⟩, .str ⟨#[]⟩, .str ⟨#[]⟩, .str ⟨#[]⟩, .int .i64 0, .int .i64 0, .str ⟨#[]⟩, .nils, .nils, .nils, .str key, kv]] :: hd :: J2) = (J ++ [X5 key kv, hd]) ++ J2 by simp [X5]]
  refine app_T hT (L0 := J ++ [X5 key kv, hd]) (J := J2) hov hkn ?_ (headOk_str _) ?_ ?_
  ·intro i o l h; cases h
  ·simp; omega
  ·intro kv' J' hov' hkn'
   have hone' := hov'.vone
   simp only [V.one] at hone'
   have hc1' := hov'.one
   simp only [List.append_assoc, List.cons_append, List.nil_append, X5]
   simp -implicitDefEqProofs only [X5, f1, f14, f76, f77, f78, mid_lt hxs, hg, hw, hone, hc1, hone', hc1', hyl, hgr, hT.len, hT.at0, hT.atS, hT.set0, hT.setS, go_sem]
   refine ⟨_, Nat.lt_succ_self _, pre ++ [(yi : Int)], post, kv', J', by simp [hxs], rfl, ?_, by simp, rfl, ?_, ?_⟩
   ·intro x h1 h2
    repeat (rw [if_neg (by omega)])
    exact hfr x h1 h2
   ·have := hov'.mid (hT.len a) hkn' (B := T a) (L1 := J ++ [X5 key kv', hd]) (hT.len a) (by simp) []
    simpa [X5] using this
   ·simpa using hkn'
set_option maxRecDepth 20000 in
set_option maxHeartbeats 8000000 in
theorem b15k1 (L : List Int) (roles : List ByteArray) (heads : List Hd) (d : Int) (hr : 2 ≤ roles.length) (hr2 : roles.length ≤ 12) (hd0 : 0 ≤ d) (hd1 : d ≤ 10) (hh : heads.length ≤ 10) (hh2 : ∀ h ∈ heads, h.2.length ≤ 12)
  (tw : Nat → ByteArray × ByteArray) (tr2 tr3 : Nat → Ex × Nat) (od : Nat → List Int × Nat) (sb : Nat → List St × Nat) (M : Nat) (hMb : M ≤ 500000) (hM : M15 M L roles d heads tw tr2 tr3 od sb) (aj : Nat) (haj : aj ≤ M)
  (hP : pk9 L (aj + 2) = 1) : B15 L roles d heads tw tr2 tr3 od sb aj := by
 intro sid n N T j kv acc J e H m kk hT hL hjn hn hacc hk
 obtain ⟨e0, e1, e2, e4, e11, e20, e21, rfl, hov, hkn⟩ := hL
 have hlj : ((j : Int) < n) := by omega
 have hw2 : IntKind.i64.wrap ((j : Int) + 1) = ((j + 1 : Nat) : Int) := wrap_succ (by omega)
 have h5 := (t5 L (aj + 2) [1, 1, 1, 2, 3, 3, 4, 4, 5] (by omega) (by simp) (by simp)).at hT J
 simp only [List.map_cons, List.map_nil, List.length_cons, List.length_nil, Nat.zero_add, Nat.reduceAdd] at h5
 change ACall _ _ _ _ (ret1 (.int .i64 (pk9 L (aj + 2))) _) at h5
 have h40 := (hM.tw aj (by omega)).at hT J
 rw [hP] at h5
 generalize htw : tw aj = tw0 at *
 obtain ⟨r1, r2⟩ := tw0
 simp only at h40
 have h41 := (t41 L (aj + 3) vxyz (by omega) (by decide) (by decide))
 simp only [vxyz, List.map_cons, List.map_nil] at h41
 change MC _ _ _ _ (.str (so3 L (aj + 3) vxyz)) _ at h41
 generalize hso : so3 L (aj + 3) vxyz = so at *
 obtain ⟨t1, t2, _, h42⟩ := hM.tr2 (aj + 4) (by omega)
 generalize htr : tr2 (aj + 4) = tr at *
 obtain ⟨⟨ek, en, es, eas⟩, a1⟩ := tr
 simp only [encE_mk] at h42 t1 t2
 have hx : one L roles d heads tw tr2 tr3 od sb aj = ([.mk 1 r1 r2 so em (.mk ek en es eas) [] [] em []], a1) := by simp [one, hP, htw, hso, htr]
 simp (maxSteps := 1000000) -implicitDefEqProofs only [bm15u0, e0, e1, e2, e4, e11, e20, e21, hT.tok.len, hT.tok.at0, hT.tok.atS, hT.tok.set0, hT.tok.setS, hT.tok.get, hlj, hw2, Int.reduceEq, go_sem]
 repeat' (first | ((first | (with_reducible first | refine cgA h40 ?_ | refine cgA h5 ?_ | refine cgA ((h41.at hT _)) ?_ | refine cgA ((h42.at hT _)) ?_) | (with_reducible refine F_q2 ?_)); simp (maxSteps := 1000000) -implicitDefEqProofs only [e0, e1, e2, e4, e11, e20, e21, hT.tok.len, hT.tok.at0, hT.tok.atS, hT.tok.set0, hT.tok.setS, hT.tok.get, hlj, hw2, Int.reduceEq, go_sem]) | (with_reducible refine Fork.mk ?_ ?_) | (with_reducible refine And.intro ?_ ?_) | ((with_reducible refine rpI ?_); simp (maxSteps := 1000000) -implicitDefEqProofs only [rm15, hT.tok.len, hT.tok.at0, hT.tok.atS, hT.tok.set0, hT.tok.setS, hT.tok.get, push_cast, go_sem_proc]) | intro _)
 refine ⟨[], .agg [.int .i64 1, .str r1, .str r2, .str so, .str ⟨#[]⟩, .int .i64 ek, .int .i64 en, .str es, .fs (eas.map encE), .fs [], .fs [], .str ⟨#[]⟩, .fs []], fz_mono _ _ (by simp (maxSteps := 1000000) -implicitDefEqProofs only [push_cast, go_sem_proc]), ?_⟩
 simp only [killL]
 simp (maxSteps := 1000000) -implicitDefEqProofs only [e0, e1, e2, e4, e11, e20, e21, hT.tok.len, hT.tok.at0, hT.tok.atS, hT.tok.set0, hT.tok.setS, hT.tok.get, hlj, hw2, Int.reduceEq, go_sem]
 refine app_T0 hT.tok (acc := acc.map encS) ?_ hkn ?_ (headOk_S _) ?_ ?_
 ·have := hov.tail (hT.tok.len _) hkn (hT.tok.len (a1))
  simpa using this.app _
 ·intro i o l h; cases h
 ·simp; omega
 ·intro kv' J' hov' hkn'
  simp (maxSteps := 1000000) -implicitDefEqProofs only [e0, e1, e2, e4, e11, e20, e21, hT.tok.len, hT.tok.at0, hT.tok.atS, hT.tok.set0, hT.tok.setS, hT.tok.get, hlj, hw2, Int.reduceEq, go_sem]
  refine hk _ _ kv' J' _ ⟨?_, ?_, ?_, ?_, ?_, ?_, ?_, ?_, ?_, ?_⟩
  all_goals first
   | (simp only [upd, e0, e1, e2, e4, e20]; simp; done)
   | (simp only [upd, e0, e1, e2, e4, e20]; simp [hhd]; done)
   | (rw [hx]; done)
   | (rw [hx]; simpa [encS_mk, encE_mk, em, ex0] using hov')
   | (simpa using hkn')
end Go.Proofs.YtdgoeblpcnjlbaaGreatDoor.Av
