/- Proved: for every list of numbers the law WaysFollowed answers true and leaves its argument as it was (the tied card); no condition beyond the row's own. Text 11 of 15. -/
import Derived.Test.YtdgoeblpcnjlbaaGreatDoorProg
import Derived.Test.YtdgoeblpcnjlbaaGreatDoorW10
set_option linter.unusedVariables false
set_option linter.unusedSimpArgs false
set_option linter.unusedSectionVars false
set_option linter.all false
namespace Go.Proofs.YtdgoeblpcnjlbaaGreatDoor.Av
open Go.RowKit
mutual
def thS (ec : ByteArray → Bool) : St → Bool
 | .mk k _ _ _ _ _ a b p _ => if k = 4 then thL ec a || thL ec b else if k = 5 then ec p else true
def thL (ec : ByteArray → Bool) : List St → Bool
 | [] => true
 | s :: l => thS ec s && thL ec l
end
theorem thL_all (ec : ByteArray → Bool) : ∀ l, thL ec l = l.all (thS ec)
 | [] => by simp [thL]
 | s :: l => by simp [thL, thL_all ec l]
mutual
theorem thS_mono {ec ec' : ByteArray → Bool} (h : ∀ p, ec p = true → ec' p = true) : ∀ s, thS ec s = true → thS ec' s = true
 | .mk k r t v l e a b p ps, hs => by
  simp only [thS] at hs ⊢
  split at hs
  ·rename_i hk
   rw [if_pos hk]
   rw [Bool.or_eq_true] at hs ⊢
   exact hs.imp (thL_mono h a) (thL_mono h b)
  ·rename_i hk
   rw [if_neg hk]
   split at hs
   ·rename_i hk2; rw [if_pos hk2]; exact h p hs
   ·rename_i hk2; rw [if_neg hk2]
theorem thL_mono {ec ec' : ByteArray → Bool} (h : ∀ p, ec p = true → ec' p = true) : ∀ l, thL ec l = true → thL ec' l = true
 | [], _ => by simp [thL]
 | s :: l, hs => by
  simp only [thL, Bool.and_eq_true] at hs ⊢
  exact ⟨thS_mono h s hs.1, thL_mono h l hs.2⟩
end
def ecE (xs : List Pr) (E : List Bool) (p : ByteArray) : Bool := if procI xs p < 0 then false else E.getD (procI xs p).toNat false
def Cl (xs : List Pr) (E : List Bool) : Prop := E.length = xs.length ∧ ∀ (i : Nat) q, xs[i]? = some q → thL (ecE xs E) q.steps = true → E[i]? = some true
def Lo (xs : List Pr) (E : List Bool) : Prop := E.length = xs.length ∧ ∀ C, Cl xs C → ∀ i : Nat, E[i]? = some true → C[i]? = some true
theorem ecE_mono {xs : List Pr} {E C : List Bool} (h : ∀ i : Nat, E[i]? = some true → C[i]? = some true) (p : ByteArray) (hp : ecE xs E p = true) : ecE xs C p = true := by
 unfold ecE at *
 split at hp
 ·cases hp
 ·rename_i hn
  rw [if_neg hn]
  have : E[(procI xs p).toNat]? = some true := by
   rw [List.getD_eq_getElem?_getD] at hp
   cases he : E[(procI xs p).toNat]? with
   | none => rw [he] at hp; cases hp
   | some b => rw [he] at hp; simp at hp; rw [hp]
  rw [List.getD_eq_getElem?_getD, h _ this]; rfl
theorem Lo.init (xs : List Pr) : Lo xs (List.replicate xs.length false) := ⟨by simp, fun C _ i h => by
 rw [List.getElem?_replicate] at h; split at h <;> cases h⟩
theorem Lo.step {xs : List Pr} {E : List Bool} (h : Lo xs E) {i : Nat} {q : Pr} (hq : xs[i]? = some q) (ht : thL (ecE xs E) q.steps = true) : Lo xs (E.set i true) :=
 ⟨by rw [List.length_set]; exact h.1, fun C hC j hj => by
  rw [List.getElem?_set] at hj
  split at hj
  ·rename_i hij
   subst hij
   exact hC.2 i q hq (thL_mono (ecE_mono (h.2 C hC)) _ ht)
  ·exact h.2 C hC j hj⟩
def fls (E : List Bool) : Nat := (E.filter (! ·)).length
theorem fls_set : ∀ {E : List Bool} {i : Nat}, E[i]? = some false → fls (E.set i true) + 1 = fls E
 | [], i, h => by simp at h
 | b :: E, 0, h => by simp at h; subst h; simp [fls]
 | b :: E, i + 1, h => by
  have := fls_set (E := E) (i := i) (by simpa using h)
  cases b <;> simp [fls] at this ⊢ <;> omega
theorem ends_ex (xs : List Pr) : ∀ m E, Lo xs E → fls E ≤ m → ∃ E', Cl xs E' ∧ Lo xs E' := by
 intro m
 induction m with
 | zero =>
  intro E hE hf
  refine ⟨E, ⟨hE.1, fun i q hq ht => ?_⟩, hE⟩
  have hi := (List.getElem?_eq_some_iff.1 hq).1
  cases he : E[i]? with
  | none => rw [List.getElem?_eq_none_iff] at he; have := hE.1; omega
  | some b =>
   cases b
   ·have := fls_set he; omega
   ·rfl
 | succ m ih =>
  intro E hE hf
  by_cases hc : Cl xs E
  ·exact ⟨E, hc, hE⟩
  ·have : ∃ (i : Nat) (q : Pr), xs[i]? = some q ∧ thL (ecE xs E) q.steps = true ∧ E[i]? ≠ some true := by
    refine Classical.byContradiction fun hn => hc ⟨hE.1, fun i q hq ht => ?_⟩
    refine Classical.byContradiction fun he => hn ⟨i, q, hq, ht, he⟩
   obtain ⟨i, q, hq, ht, he⟩ := this
   have hi := (List.getElem?_eq_some_iff.1 hq).1
   have he' : E[i]? = some false := by
    cases h : E[i]? with
    | none => rw [List.getElem?_eq_none_iff] at h; have := hE.1; omega
    | some b => cases b; rfl; exact absurd h he
   have := fls_set he'
   exact ih _ (hE.step hq ht) (by omega)
theorem ends_uniq {xs : List Pr} {E E' : List Bool} (h1 : Cl xs E) (h2 : Lo xs E) (h3 : Cl xs E') (h4 : Lo xs E') : E = E' := by
 apply List.ext_getElem?
 intro i
 by_cases hi : i < xs.length
 ·have l1 := h1.1; have l2 := h3.1
  have a := h2.2 E' h3 i
  have b := h4.2 E h1 i
  rw [List.getElem?_eq_getElem (by omega), List.getElem?_eq_getElem (by omega)] at *
  cases hx : E[i] <;> cases hy : E'[i] <;> simp_all
 ·rw [List.getElem?_eq_none (by rw [h1.1]; omega), List.getElem?_eq_none (by rw [h3.1]; omega)]
noncomputable def endsOf (xs : List Pr) : List Bool := (ends_ex xs _ _ (Lo.init xs) (Nat.le_refl _)).choose
theorem endsOf_cl (xs : List Pr) : Cl xs (endsOf xs) := (ends_ex xs _ _ (Lo.init xs) (Nat.le_refl _)).choose_spec.1
theorem endsOf_lo (xs : List Pr) : Lo xs (endsOf xs) := (ends_ex xs _ _ (Lo.init xs) (Nat.le_refl _)).choose_spec.2
theorem endsOf_eq {xs : List Pr} {E : List Bool} (h1 : Cl xs E) (h2 : Lo xs E) : E = endsOf xs := ends_uniq h1 h2 (endsOf_cl xs) (endsOf_lo xs)
def bodyAt (xs : List Pr) (i : Nat) : List St := match xs[i]? with | some q => q.steps | none => []
def offAt (P : Pla) (i : Nat) : Int := ((cnts P.main + cntP (P.procs.take i) : Nat) : Int)
mutual
def viS (ec : ByteArray → Bool) : St → Int → List Int
 | .mk _ _ _ _ _ _ a b _ _, n => n :: (viL ec a (n + 1) ++ viL ec b (n + 1 + cnts a))
def viL (ec : ByteArray → Bool) : List St → Int → List Int
 | [], _ => []
 | s :: l, n => viS ec s n ++ if thS ec s then viL ec l (n + cnt s) else []
end
mutual
def caS (ec : ByteArray → Bool) : St → List ByteArray
 | .mk k _ _ _ _ _ a b p _ => (if k = 5 then [p] else []) ++ (caL ec a ++ caL ec b)
def caL (ec : ByteArray → Bool) : List St → List ByteArray
 | [] => []
 | s :: l => caS ec s ++ if thS ec s then caL ec l else []
end
mutual
theorem viS_in {ec : ByteArray → Bool} : ∀ (s : St) (n x : Int), x ∈ viS ec s n → n ≤ x ∧ x < n + cnt s
 | .mk k r t v l e a b p ps, n, x, h => by
  simp only [viS, List.mem_cons, List.mem_append] at h
  simp only [cnt]
  rcases h with rfl | h | h
  ·omega
  ·have := viL_in a _ _ h; omega
  ·have := viL_in b _ _ h; omega
theorem viL_in {ec : ByteArray → Bool} : ∀ (l : List St) (n x : Int), x ∈ viL ec l n → n ≤ x ∧ x < n + cnts l
 | [], n, x, h => by simp [viL] at h
 | s :: l, n, x, h => by
  simp only [viL, List.mem_append] at h
  simp only [cnts]
  rcases h with h | h
  ·have := viS_in s _ _ h; omega
  ·split at h
   ·have := viL_in l _ _ h; omega
   ·simp at h
end
def has (R : List Bool) (i : Int) : Prop := 0 ≤ i ∧ R[i.toNat]? = some true
def callsIn (xs : List Pr) (ks : List ByteArray) (R : List Bool) : Prop := ∀ p ∈ ks, ∀ i : Nat, procI xs p = (i : Int) → i < xs.length → R[i]? = some true
def ClR (P : Pla) (ec : ByteArray → Bool) (R : List Bool) : Prop := R.length = P.procs.length ∧ callsIn P.procs (caL ec P.main) R ∧ ∀ i : Nat, R[i]? = some true → callsIn P.procs (caL ec (bodyAt P.procs i)) R
def LoR (P : Pla) (ec : ByteArray → Bool) (R : List Bool) : Prop := R.length = P.procs.length ∧ ∀ C, ClR P ec C → ∀ i : Nat, R[i]? = some true → C[i]? = some true
theorem reach_uniq {P : Pla} {ec : ByteArray → Bool} {R R' : List Bool} (h1 : ClR P ec R) (h2 : LoR P ec R) (h3 : ClR P ec R') (h4 : LoR P ec R') : R = R' := by
 apply List.ext_getElem?
 intro i
 by_cases hi : i < P.procs.length
 ·have l1 := h1.1; have l2 := h3.1
  have a := h2.2 R' h3 i
  have b := h4.2 R h1 i
  rw [List.getElem?_eq_getElem (by omega), List.getElem?_eq_getElem (by omega)] at *
  cases hx : R[i] <;> cases hy : R'[i] <;> simp_all
 ·rw [List.getElem?_eq_none (by rw [h1.1]; omega), List.getElem?_eq_none (by rw [h3.1]; omega)]
structure WS where
 steps : List Int
 procs : List Bool
def addN (l : List Int) (n : Int) : List Int := if l.contains n then l else l ++ [n]
theorem mem_addN {l : List Int} {n x : Int} : x ∈ addN l n ↔ x ∈ l ∨ x = n := by
 unfold addN
 split
 ·rename_i h
  have : n ∈ l := by simpa using h
  constructor
  ·exact .inl
  ·rintro (h | rfl)
   ·exact h
   ·exact this
 ·simp
def kI (xs : List Pr) (k : Int) (p : ByteArray) : Int := if k = 5 then procI xs p else -1
def wk (P : Pla) (ec : ByteArray → Bool) : Nat → List St → Int → WS → WS
 | 0, _, _, w => w
 | f + 1, [], n, w => w
 | f + 1, .mk k r t v l e a b p ps :: rest, n, w =>
  let w3 := wk P ec f b (n + 1 + cnts a) (wk P ec f a (n + 1) ⟨addN w.steps n, w.procs⟩)
  let i := kI P.procs k p
  let w4 := if 0 ≤ i ∧ w3.procs[i.toNat]? = some false then wk P ec f (bodyAt P.procs i.toNat) (offAt P i.toNat) ⟨w3.steps, w3.procs.set i.toNat true⟩ else w3
  if thS ec (.mk k r t v l e a b p ps) then wk P ec f rest (n + cnt (.mk k r t v l e a b p ps)) w4 else w4
def mu (P : Pla) (w : WS) (l : List St) : Nat := fls w.procs * (total P + 1) + cnts l
theorem callsIn_mono {xs : List Pr} {ks : List ByteArray} {R R' : List Bool} (h : callsIn xs ks R) (hm : ∀ i : Nat, R[i]? = some true → R'[i]? = some true) : callsIn xs ks R' :=
 fun p hp i hi hl => hm i (h p hp i hi hl)
theorem callsIn_app {xs : List Pr} {ks ls : List ByteArray} {R : List Bool} : callsIn xs (ks ++ ls) R ↔ callsIn xs ks R ∧ callsIn xs ls R := by
 unfold callsIn
 constructor
 ·intro h; exact ⟨fun p hp => h p (List.mem_append.2 (.inl hp)), fun p hp => h p (List.mem_append.2 (.inr hp))⟩
 ·rintro ⟨h1, h2⟩ p hp
  rcases List.mem_append.1 hp with hp | hp
  ·exact h1 p hp
  ·exact h2 p hp
structure WP (P : Pla) (ec : ByteArray → Bool) (ks : List ByteArray) (vs : List Int) (w w' : WS) : Prop where
 len : w'.procs.length = w.procs.length
 mono : ∀ i : Nat, w.procs[i]? = some true → w'.procs[i]? = some true
 calls : callsIn P.procs ks w'.procs
 new : ∀ i : Nat, w'.procs[i]? = some true → w.procs[i]? = some true ∨ callsIn P.procs (caL ec (bodyAt P.procs i)) w'.procs
 steps : ∀ x, x ∈ w'.steps ↔ x ∈ w.steps ∨ x ∈ vs ∨ ∃ i : Nat, w'.procs[i]? = some true ∧ w.procs[i]? ≠ some true ∧ x ∈ viL ec (bodyAt P.procs i) (offAt P i)
 low : ∀ C : List Bool, (∀ i : Nat, C[i]? = some true → callsIn P.procs (caL ec (bodyAt P.procs i)) C) → callsIn P.procs ks C → (∀ i : Nat, w.procs[i]? = some true → C[i]? = some true) → ∀ i : Nat, w'.procs[i]? = some true → C[i]? = some true
theorem WP.id {P : Pla} {ec : ByteArray → Bool} {w : WS} : WP P ec [] [] w w :=
 ⟨rfl, fun _ h => h, fun p hp => by simp at hp, fun _ h => .inl h, fun x => by
  constructor
  ·exact .inl
  ·rintro (h | h | ⟨i, h1, h2, _⟩)
   ·exact h
   ·simp at h
   ·exact absurd h1 h2, fun C _ _ h => h⟩
theorem WP.comp {P : Pla} {ec : ByteArray → Bool} {k1 k2 : List ByteArray} {v1 v2 : List Int} {w w1 w2 : WS} (h1 : WP P ec k1 v1 w w1) (h2 : WP P ec k2 v2 w1 w2) : WP P ec (k1 ++ k2) (v1 ++ v2) w w2 where
 len := h2.len.trans h1.len
 mono i h := h2.mono i (h1.mono i h)
 calls := callsIn_app.2 ⟨callsIn_mono h1.calls h2.mono, h2.calls⟩
 new i h := by
  rcases h2.new i h with h | h
  ·rcases h1.new i h with h | h
   ·exact .inl h
   ·exact .inr (callsIn_mono h h2.mono)
  ·exact .inr h
 steps x := by
  rw [h2.steps, h1.steps, List.mem_append]
  constructor
  ·rintro ((h | h | ⟨i, a, b, c⟩) | h | ⟨i, a, b, c⟩)
   ·exact .inl h
   ·exact .inr (.inl (.inl h))
   ·exact .inr (.inr ⟨i, h2.mono i a, b, c⟩)
   ·exact .inr (.inl (.inr h))
   ·exact .inr (.inr ⟨i, a, fun h => b (h1.mono i h), c⟩)
  ·rintro (h | (h | h) | ⟨i, a, b, c⟩)
   ·exact .inl (.inl h)
   ·exact .inl (.inr (.inl h))
   ·exact .inr (.inl h)
   ·by_cases hw : w1.procs[i]? = some true
    ·exact .inl (.inr (.inr ⟨i, hw, b, c⟩))
    ·exact .inr (.inr ⟨i, a, hw, c⟩)
 low C hC hk hw := h2.low C hC (callsIn_app.1 hk).2 (h1.low C hC (callsIn_app.1 hk).1 hw)
theorem WP.congr {P : Pla} {ec : ByteArray → Bool} {k1 k2 : List ByteArray} {v1 v2 : List Int} {w w1 : WS} (h : WP P ec k1 v1 w w1) (hk : ∀ p, p ∈ k1 ↔ p ∈ k2) (hv : ∀ x, x ∈ v1 ↔ x ∈ v2) : WP P ec k2 v2 w w1 where
 len := h.len
 mono := h.mono
 calls p hp := h.calls p ((hk p).2 hp)
 new := h.new
 steps x := by rw [h.steps, hv]
 low C hC hk2 := h.low C hC (fun p hp => hk2 p ((hk p).1 hp))
theorem WP.add {P : Pla} {ec : ByteArray → Bool} {w : WS} (n : Int) : WP P ec [] [n] w ⟨addN w.steps n, w.procs⟩ where
 len := rfl
 mono _ h := h
 calls p hp := by simp at hp
 new _ h := .inl h
 steps x := by
  show x ∈ addN w.steps n ↔ _
  rw [mem_addN]
  constructor
  ·rintro (h | h)
   ·exact .inl h
   ·exact .inr (.inl (by simp [h]))
  ·rintro (h | h | ⟨i, h1, h2, _⟩)
   ·exact .inl h
   ·exact .inr (by simpa using h)
   ·exact absurd h1 h2
 low C _ _ h := h
theorem set_get_true {A : List Bool} {i j : Nat} (hi : i < A.length) : (A.set i true)[j]? = some true ↔ j = i ∨ A[j]? = some true := by
 rw [List.getElem?_set]
 by_cases h : i = j
 ·subst h; simp [hi]
 ·rw [if_neg h]
  constructor
  ·exact .inr
  ·rintro (h' | h')
   ·exact absurd h'.symm h
   ·exact h'
theorem WP.enter {P : Pla} {ec : ByteArray → Bool} {p : ByteArray} {i : Nat} {w w' : WS} (hp : procI P.procs p = i) (hi : w.procs[i]? = some false) (hx : i < P.procs.length)
  (h : WP P ec (caL ec (bodyAt P.procs i)) (viL ec (bodyAt P.procs i) (offAt P i)) ⟨w.steps, w.procs.set i true⟩ w') : WP P ec [p] [] w w' := by
 have hl : i < w.procs.length := (List.getElem?_eq_some_iff.1 hi).1
 have hg : ∀ j : Nat, (w.procs.set i true)[j]? = some true ↔ j = i ∨ w.procs[j]? = some true := fun j => set_get_true hl
 have hm : ∀ j : Nat, (j = i ∨ w.procs[j]? = some true) → w'.procs[j]? = some true := fun j hj => h.mono j ((hg j).2 hj)
 constructor
 ·rw [h.len]; exact List.length_set
 ·exact fun j hj => hm j (.inr hj)
 ·intro q hq j hj _
  simp at hq; subst hq
  rw [hp] at hj
  exact hm j (.inl (by omega))
 ·intro j hj
  rcases h.new j hj with hj | hj
  ·rcases (hg j).1 hj with rfl | hj
   ·exact .inr h.calls
   ·exact .inl hj
  ·exact .inr hj
 ·intro x
  rw [h.steps]
  constructor
  ·rintro (hx | hx | ⟨j, a, b, c⟩)
   ·exact .inl hx
   ·exact .inr (.inr ⟨i, hm i (.inl rfl), by rw [hi]; simp, hx⟩)
   ·exact .inr (.inr ⟨j, a, fun hj => b ((hg j).2 (.inr hj)), c⟩)
  ·rintro (hx | hx | ⟨j, a, b, c⟩)
   ·exact .inl hx
   ·simp at hx
   ·by_cases hji : j = i
    ·subst hji; exact .inr (.inl c)
    ·exact .inr (.inr ⟨j, a, fun hj => ((hg j).1 hj).elim hji b, c⟩)
 ·intro C hC hk hw
  have hiC : C[i]? = some true := hk p (by simp) i hp hx
  refine h.low C hC (hC i hiC) fun j hj => ?_
  rcases (hg j).1 hj with rfl | hj
  ·exact hiC
  ·exact hw j hj
theorem WP.known {P : Pla} {ec : ByteArray → Bool} {p : ByteArray} {w : WS} (h : callsIn P.procs [p] w.procs) : WP P ec [p] [] w w :=
 ⟨rfl, fun _ h => h, h, fun _ h => .inl h, (WP.id (P := P) (ec := ec)).steps, fun C _ _ h => h⟩
theorem fls_mono : ∀ {A B : List Bool}, B.length = A.length → (∀ i : Nat, A[i]? = some true → B[i]? = some true) → fls B ≤ fls A
 | [], [], _, _ => Nat.le_refl _
 | [], _ :: _, h, _ => by simp at h
 | _ :: _, [], h, _ => by simp at h
 | a :: A, b :: B, hl, h => by
  have ih := fls_mono (A := A) (B := B) (by simpa using hl) (fun i hi => by simpa using h (i + 1) (by simpa using hi))
  have h0 := h 0
  cases a <;> cases b <;> simp [fls] at * <;> omega
theorem cntP_body {P : Pla} {i : Nat} (hi : i < P.procs.length) : cnts (bodyAt P.procs i) ≤ total P := by
 obtain ⟨pre, q, post, h, hl⟩ : ∃ pre q post, P.procs = pre ++ q :: post ∧ pre.length = i := ⟨P.procs.take i, P.procs[i], P.procs.drop (i + 1), by rw [← List.drop_eq_getElem_cons hi, List.take_append_drop], by simp; omega⟩
 have hb : bodyAt P.procs i = q.steps := by
  unfold bodyAt
  rw [h, ← hl]; simp
 rw [hb, total, h, cntP_append, cntP]; omega
theorem wk_post (P : Pla) (ec : ByteArray → Bool) : ∀ (f : Nat) (l : List St) (n : Int) (w : WS), mu P w l < f → w.procs.length = P.procs.length → WP P ec (caL ec l) (viL ec l n) w (wk P ec f l n w) := by
 intro f
 induction f with
 | zero => intro l n w h; omega
 | succ f ih =>
  intro l n w hm hl
  cases l with
  | nil => simp only [wk, caL, viL]; exact WP.id
  | cons s rest =>
   rcases s with ⟨k, r, t, v, lb, e, a, b, p, ps⟩
   simp only [mu, cnts, cnt] at hm
   simp only [wk]
   have h1 := WP.add (P := P) (ec := ec) (w := w) n
   have h2 := ih a (n + 1) ⟨addN w.steps n, w.procs⟩ (by simp only [mu]; omega) hl
   have h12 := h1.comp h2
   generalize wk P ec f a (n + 1) ⟨addN w.steps n, w.procs⟩ = w2 at *
   have f2 : fls w2.procs ≤ fls w.procs := fls_mono h12.len h12.mono
   have m2 : fls w2.procs * (total P + 1) ≤ fls w.procs * (total P + 1) := Nat.mul_le_mul_right _ f2
   have h3 := ih b (n + 1 + cnts a) w2 (by simp only [mu]; omega) (h12.len.trans hl)
   have h13 := h12.comp h3
   generalize wk P ec f b (n + 1 + cnts a) w2 = w3 at *
   have f3 : fls w3.procs ≤ fls w.procs := fls_mono h13.len h13.mono
   have m3 : fls w3.procs * (total P + 1) ≤ fls w.procs * (total P + 1) := Nat.mul_le_mul_right _ f3
   have hl3 : w3.procs.length = P.procs.length := h13.len.trans hl
   have h4 : WP P ec (if k = 5 then [p] else []) [] w3 (if 0 ≤ kI P.procs k p ∧ w3.procs[(kI P.procs k p).toNat]? = some false then wk P ec f (bodyAt P.procs (kI P.procs k p).toNat) (offAt P (kI P.procs k p).toNat) ⟨w3.steps, w3.procs.set (kI P.procs k p).toNat true⟩ else w3) := by
    by_cases h5 : k = 5
    ·simp only [kI, h5, if_true]
     split
     ·rename_i hc
      have hlt : (procI P.procs p).toNat < P.procs.length := by rw [← hl3]; exact (List.getElem?_eq_some_iff.1 hc.2).1
      have hfs := fls_set hc.2
      refine WP.enter (i := (procI P.procs p).toNat) (by omega) hc.2 hlt (ih _ _ _ ?_ (by simp [hl3]))
      have hb := cntP_body hlt
      simp only [mu]
      have : fls w3.procs * (total P + 1) = fls (w3.procs.set (procI P.procs p).toNat true) * (total P + 1) + (total P + 1) := by rw [← hfs, Nat.add_mul]; omega
      omega
     ·rename_i hc
      refine WP.known fun q hq i hi hx => ?_
      simp at hq; subst hq
      have : w3.procs[i]? = some w3.procs[i] := List.getElem?_eq_getElem (by omega)
      rw [hi] at hc
      cases hv : w3.procs[i] with
      | true => rw [this, hv]
      | false => exact absurd ⟨by omega, by simpa [hv] using this⟩ hc
    ·have : kI P.procs k p = -1 := by simp [kI, h5]
     simp only [this, h5, if_false]
     rw [if_neg (by omega)]
     exact WP.id
   have h14 := h13.comp h4
   generalize (if 0 ≤ kI P.procs k p ∧ w3.procs[(kI P.procs k p).toNat]? = some false then wk P ec f (bodyAt P.procs (kI P.procs k p).toNat) (offAt P (kI P.procs k p).toNat) ⟨w3.steps, w3.procs.set (kI P.procs k p).toNat true⟩ else w3) = w4 at *
   have f4 : fls w4.procs ≤ fls w.procs := fls_mono h14.len h14.mono
   have m4 : fls w4.procs * (total P + 1) ≤ fls w.procs * (total P + 1) := Nat.mul_le_mul_right _ f4
   have hsS : WP P ec (caS ec (.mk k r t v lb e a b p ps)) (viS ec (.mk k r t v lb e a b p ps) n) w w4 := by
    refine h14.congr (fun q => ?_) (fun x => ?_)
    ·simp only [caS, List.mem_append, List.nil_append]
     constructor
     ·rintro ((h | h) | h)
      ·exact .inr (.inl h)
      ·exact .inr (.inr h)
      ·exact .inl h
     ·rintro (h | h | h)
      ·exact .inr h
      ·exact .inl (.inl h)
      ·exact .inl (.inr h)
    ·simp [viS]
   simp only [caL, viL]
   split
   ·exact hsS.comp (ih rest _ w4 (by simp only [mu]; omega) (h14.len.trans hl))
   ·simpa using hsS
end Go.Proofs.YtdgoeblpcnjlbaaGreatDoor.Av
set_option maxRecDepth 100000
namespace Go.Proofs.YtdgoeblpcnjlbaaGreatDoor.Av
open Go.RowKit
def s200 : SCode := (.seq (.region [opW 2 (.bool false)]) (.seq (.region [opM 20 0,⟨some 21,.build [.nils, .int .i64 0] [(0, 1, .tmp 20)],none⟩,⟨some 22,.box (sT 21),none⟩,opM 3 22]) (.seq (.region [opM 23 3,opC 24 6 [.tmp 23],⟨some 4,.alloc (.agg [.nils, .nils]),none⟩,⟨none, .store 2 (sT 4) (sT 24),none⟩]) (.seq (.region [opN 26 2 4,opC 27 7 [.tmp 26],opM 25 27,⟨some 28,.extract (sT 25) 0,none⟩,⟨some 29,.extract (sT 25) 1,none⟩,⟨some 30,.extract (sT 25) 2,none⟩,opM 5 28,opM 6 29,opM 7 30]) (.seq (.region [opN 32 2 4,opC 33 8 [.tmp 32],opM 31 33,⟨some 34,.extract (sT 31) 0,none⟩,⟨some 35,.extract (sT 31) 1,none⟩,opM 8 34,opM 9 35]) (.seq (.region [opN 37 2 4,opC 38 9 [.tmp 37],opM 36 38,⟨some 39,.extract (sT 36) 0,none⟩,⟨some 40,.extract (sT 36) 1,none⟩,opM 10 39,opM 11 40]) (.seq (.region [opN 42 2 4,opC 43 10 [.tmp 42],opM 41 43,⟨some 44,.extract (sT 41) 0,none⟩,⟨some 45,.extract (sT 41) 1,none⟩,opM 12 44,opM 13 45]) (.seq (.region [opN 46 2 4,opC 47 11 [.tmp 46],opM 14 47]) (.seq (.region [opW 15 (.nils),opW 16 (.nils)]) (.seq (.region [opW 17 (.nils)]) (.seq (.region [opW 18 (.nils)]) (.seq (.region [opW 19 (.bool false)]) (.seq (.seq (.region [opM 48 14,opY 49 .eql 48 (.int .i64 0)]) (.cond (sT 49) (.seq (.region [opN 51 2 4,opC 52 12 [.tmp 51],opM 50 52,⟨some 53,.extract (sT 50) 0,none⟩,⟨some 54,.extract (sT 50) 1,none⟩,opM 15 53,opM 19 54]) (.qregion [⟨opN 55 2 4, false, 0, 0, 0⟩,⟨opC 56 13 [.tmp 55], false, 0, 0, 1⟩,⟨opN 57 2 4, false, 0, 0, 0⟩,⟨opC 58 14 [.tmp 57], false, 0, 0, 7⟩,⟨opN 59 2 4, false, 0, 0, 0⟩,⟨opC 60 15 [.tmp 59], false, 0, 0, 31⟩,⟨opM 17 56, false, 0, 0, 63⟩,⟨opM 16 58, false, 0, 0, 127⟩,⟨opM 18 60, false, 0, 0, 255⟩])) .skip)) (.seq (.region [opM 61 7,opM 62 14,opB 63 .eql 61 62,opM 64 63,opG 65 5 64 true,opG 66 15 64 true,⟨some 67,.call (.val (.clos 16 [] [])) [.tmp 65, .tmp 66], (some (64, true))⟩,⟨some 68,.pick (sT 64) (sT 67) (.val (.bool false)),none⟩,opM 69 68,opG 70 6 69 true,opG 71 19 69 true,⟨some 72,.beq false (sT 70) (sT 71), (some (69, true))⟩,⟨some 73,.pick (sT 69) (sT 72) (.val (.bool false)),none⟩,opM 74 73,opG 75 9 74 true,opG 76 14 74 true,⟨some 77,.bin .eql (sT 75) (sT 76), (some (74, true))⟩,⟨some 78,.pick (sT 74) (sT 77) (.val (.bool false)),none⟩,opM 79 78,opG 80 8 79 true,opG 81 17 79 true,⟨some 82,.call (.val (.clos 17 [] [])) [.tmp 80, .tmp 81], (some (79, true))⟩,⟨some 83,.pick (sT 79) (sT 82) (.val (.bool false)),none⟩,opM 84 83,opG 85 11 84 true,opG 86 14 84 true,⟨some 87,.bin .eql (sT 85) (sT 86), (some (84, true))⟩,⟨some 88,.pick (sT 84) (sT 87) (.val (.bool false)),none⟩,opM 89 88,opG 90 10 89 true,opG 91 16 89 true,⟨some 92,.call (.val (.clos 16 [] [])) [.tmp 90, .tmp 91], (some (89, true))⟩,⟨some 93,.pick (sT 89) (sT 92) (.val (.bool false)),none⟩,opM 94 93,opG 95 13 94 true,opG 96 14 94 true,⟨some 97,.bin .eql (sT 95) (sT 96), (some (94, true))⟩,⟨some 98,.pick (sT 94) (sT 97) (.val (.bool false)),none⟩,opM 99 98,opG 100 12 99 true,opG 101 18 99 true,⟨some 102,.call (.val (.clos 18 [] [])) [.tmp 100, .tmp 101, .val (.clos 17 [] [])], (some (99, true))⟩,⟨some 103,.pick (sT 99) (sT 102) (.val (.bool false)),none⟩,opM 104 103,⟨some 105,.call (.val (.clos 19 [] [])) [], (some (104, true))⟩,⟨some 106,.pick (sT 104) (sT 105) (.val (.bool false)),none⟩,opM 2 106])
 .ret))))))))))))))
def r200 : List SRes := [.tmp 2]
theorem c200 : Code1 Tryz.prog 3 s200 r200 107 := ⟨⟨Tryz.f3, _, Tryz.func3, rfl, rfl, by kernel_rfl, by kernel_rfl⟩, by kernel_rfl, by kernel_rfl⟩
def s203 : SCode := (.seq (.region [⟨some 1,.box (sT 0),none⟩,opW 2 (.nils),opW 3 (.bool false),opW 4 (.int .i64 0)]) (.seq (.region [opN 11 2 1,opC 12 41 [.tmp 11],opM 10 12,⟨some 13,.extract (sT 10) 0,none⟩,⟨some 14,.extract (sT 10) 1,none⟩,opM 5 13,opM 6 14]) (.seq (.seq (.region [opM 15 6,opY 16 .neq 15 (.int .i64 0)]) (.cond (sT 16) (.seq (.region [opM 17 6,opW 2 (.nils),opW 3 (.bool false),opM 4 17])
 .ret) .skip)) (.seq (.region [opW 7 (.nils)]) (.seq (.seq (.region [opF 18 0 1,opL 19 18,opE 20 19,opW 21 (.int .i64 0)]) (.block 0 (.loop (.seq (.region [opB 22 .lss 21 20]) (.seq (.cond (sT 22) .skip (.exit 0)) (.seq (.block 1 (.seq (.region [opM 23 21,opI 24 3 19 21,opN 25 3 24,⟨some 9,.alloc (.agg [.str ⟨#[]⟩, .nils, .nils]),none⟩,opM 8 23,⟨none, .store 3 (sT 9) (sT 25),none⟩]) (.seq (.region [opM 26 5,⟨some 27,.nilc (sT 26),none⟩,opF 28 4 27,opL 29 28,opM 30 8,opI 31 1 29 30,opL 32 31,⟨some 33,.un .not (sT 32),none⟩]) (.cond (sT 33) (.region [opM 34 7,opF 35 0 9,opL 36 35,⟨some 37,.buildF 1 [.tmp 36],none⟩,⟨some 38,.append 1 16 (sT 34) (sT 37),none⟩,opM 7 38]) .skip)))) (.region [opY 39 .add 21 (.int .i64 1),opM 21 39]))))))) (.seq (.region [opM 40 7,opM 41 5,opM 42 5,⟨some 43,.nilc (sT 42),none⟩,opF 44 2 43,opL 45 44,opC 46 42 [.tmp 41, .tmp 45],opM 2 40,opM 3 46,opW 4 (.int .i64 0)])
 .ret))))))
def r203 : List SRes := [.tmp 2, .tmp 3, .tmp 4]
theorem c203 : Code1 Tryz.prog 7 s203 r203 47 := ⟨⟨Tryz.f7, _, Tryz.func7, rfl, rfl, by kernel_rfl, by kernel_rfl⟩, by kernel_rfl, by kernel_rfl⟩
def s204 : SCode := (.seq (.region [⟨some 1,.box (sT 0),none⟩,opW 2 (.nils),opW 3 (.int .i64 0)]) (.seq (.region [opN 10 2 1,opC 11 41 [.tmp 10],opM 9 11,⟨some 12,.extract (sT 9) 0,none⟩,⟨some 13,.extract (sT 9) 1,none⟩,opM 4 12,opM 5 13]) (.seq (.seq (.region [opM 14 5,opY 15 .neq 14 (.int .i64 0)]) (.cond (sT 15) (.seq (.region [opM 16 5,opW 2 (.nils),opM 3 16])
 .ret) .skip)) (.seq (.region [opM 17 4,opC 18 43 [.tmp 17],opM 6 18]) (.seq (.region [opW 7 (.nils)]) (.seq (.seq (.region [opN 19 2 1,opC 20 44 [.tmp 19],opW 21 (.int .i64 0)]) (.block 0 (.loop (.seq (.region [opB 22 .lss 21 20]) (.seq (.cond (sT 22) .skip (.exit 0)) (.seq (.block 1 (.seq (.region [opM 23 21,opM 8 23]) (.seq (.region [opM 24 6,⟨some 25,.nilc (sT 24),none⟩,opF 26 1 25,opL 27 26,opM 28 8,⟨some 29,.mlook (false, [false]) false (.bool false) (sT 27) (sT 28),none⟩,⟨some 30,.un .not (sT 29),none⟩]) (.cond (sT 30) (.region [opM 31 7,opM 32 8,⟨some 33,.buildF 1 [.tmp 32],none⟩,⟨some 34,.append 1 8 (sT 31) (sT 33),none⟩,opM 7 34]) .skip)))) (.region [opY 35 .add 21 (.int .i64 1),opM 21 35]))))))) (.seq (.region [opM 36 7,opM 2 36,opW 3 (.int .i64 0)])
 .ret)))))))
def r204 : List SRes := [.tmp 2, .tmp 3]
theorem c204 : Code1 Tryz.prog 8 s204 r204 37 := ⟨⟨Tryz.f8, _, Tryz.func8, rfl, rfl, by kernel_rfl, by kernel_rfl⟩, by kernel_rfl, by kernel_rfl⟩
def s205 : SCode := (.seq (.region [⟨some 1,.box (sT 0),none⟩,opW 2 (.nils),opW 3 (.int .i64 0)]) (.seq (.region [opN 11 2 1,opC 12 41 [.tmp 11],opM 10 12,⟨some 13,.extract (sT 10) 0,none⟩,⟨some 14,.extract (sT 10) 1,none⟩,opM 4 13,opM 5 14]) (.seq (.seq (.region [opM 15 5,opY 16 .neq 15 (.int .i64 0)]) (.cond (sT 16) (.seq (.region [opM 17 5,opW 2 (.nils),opM 3 17])
 .ret) .skip)) (.seq (.region [opM 18 4,opC 19 43 [.tmp 18],opM 6 19]) (.seq (.region [opW 7 (.nils)]) (.seq (.seq (.region [opF 20 0 1,opL 21 20,opE 22 21,opW 23 (.int .i64 0)]) (.block 0 (.loop (.seq (.region [opB 24 .lss 23 22]) (.seq (.cond (sT 24) .skip (.exit 0)) (.seq (.block 1 (.seq (.region [opM 25 23,opI 26 3 21 23,opN 27 3 26,⟨some 9,.alloc (.agg [.str ⟨#[]⟩, .nils, .nils]),none⟩,opM 8 25,⟨none, .store 3 (sT 9) (sT 27),none⟩]) (.seq (.region [opM 28 6,⟨some 29,.nilc (sT 28),none⟩,opF 30 2 29,opL 31 30,opM 32 8,opI 33 1 31 32,opL 34 33]) (.cond (sT 34) (.region [opM 35 7,opF 36 0 9,opL 37 36,⟨some 38,.buildF 1 [.tmp 37],none⟩,⟨some 39,.append 1 16 (sT 35) (sT 38),none⟩,opM 7 39]) .skip)))) (.region [opY 40 .add 23 (.int .i64 1),opM 23 40]))))))) (.seq (.region [opM 41 7,opM 2 41,opW 3 (.int .i64 0)])
 .ret)))))))
def r205 : List SRes := [.tmp 2, .tmp 3]
theorem c205 : Code1 Tryz.prog 9 s205 r205 42 := ⟨⟨Tryz.f9, _, Tryz.func9, rfl, rfl, by kernel_rfl, by kernel_rfl⟩, by kernel_rfl, by kernel_rfl⟩
def s206 : SCode := (.seq (.region [⟨some 1,.box (sT 0),none⟩,opW 2 (.nils),opW 3 (.int .i64 0)]) (.seq (.region [opN 20 2 1,opC 21 41 [.tmp 20],opM 19 21,⟨some 22,.extract (sT 19) 0,none⟩,⟨some 23,.extract (sT 19) 1,none⟩,opM 4 22,opM 5 23]) (.seq (.seq (.region [opM 24 5,opY 25 .neq 24 (.int .i64 0)]) (.cond (sT 25) (.seq (.region [opM 26 5,opW 2 (.nils),opM 3 26])
 .ret) .skip)) (.seq (.region [opW 6 (.nils)]) (.seq (.seq (.region [opF 27 0 1,opL 28 27,opE 29 28,opW 30 (.int .i64 0)]) (.block 0 (.loop (.seq (.region [opB 31 .lss 30 29]) (.seq (.cond (sT 31) .skip (.exit 0)) (.seq (.block 1 (.seq (.region [opI 32 3 28 30,opN 33 3 32,⟨some 8,.alloc (.agg [.str ⟨#[]⟩, .nils, .nils]),none⟩,⟨none, .store 3 (sT 8) (sT 33),none⟩]) (.region [opM 34 6,opF 35 1 8,opL 36 35,opE 37 36,⟨some 38,.mks (.bool false) (sT 37),none⟩,⟨some 39,.buildF 1 [.tmp 38],none⟩,⟨some 40,.append 1 24 (sT 34) (sT 39),none⟩,opM 6 40]))) (.region [opY 41 .add 30 (.int .i64 1),opM 30 41]))))))) (.seq (.seq (.region [opW 9 (.bool true)]) (.block 2 (.loop (.seq (.seq (.region [opM 42 9]) (.cond (sT 42) .skip (.exit 2))) (.block 3 (.seq (.region [opW 9 (.bool false)]) (.seq (.region [opF 43 0 1,opL 44 43,opE 45 44,opW 46 (.int .i64 0)]) (.block 4 (.loop (.seq (.region [opB 47 .lss 46 45]) (.seq (.cond (sT 47) .skip (.exit 4)) (.seq (.block 5 (.seq (.region [opM 48 46,opI 49 3 44 46,opN 50 3 49,⟨some 11,.alloc (.agg [.str ⟨#[]⟩, .nils, .nils]),none⟩,opM 10 48,⟨none, .store 3 (sT 11) (sT 50),none⟩]) (.seq (.region [opF 51 1 11,opL 52 51,opE 53 52,opW 54 (.int .i64 0)]) (.block 6 (.loop (.seq (.region [opB 55 .lss 54 53]) (.seq (.cond (sT 55) .skip (.exit 6)) (.seq (.block 7 (.seq (.region [opM 56 54,opI 57 1 52 54,opL 58 57,opM 12 56,opM 13 58]) (.seq (.region [opM 59 6,opM 60 10,opI 61 1 59 60,opL 62 61,opM 63 12,opI 64 1 62 63,opL 65 64,⟨some 66,.un .not (sT 65),none⟩,opM 67 66,opG 68 4 67 true,⟨some 69,.nilc (sT 68), (some (67, true))⟩,opK 70 3 69 67 true,opH 71 70 67 true,opG 72 10 67 true,⟨some 73,.iaddr 1 (sT 71) (sT 72), (some (67, true))⟩,opH 74 73 67 true,opG 75 13 67 true,opG 76 6 67 true,⟨some 77,.call (.val (.clos 45 [] [])) [.tmp 74, .tmp 75, .tmp 76], (some (67, true))⟩,⟨some 78,.pick (sT 67) (sT 77) (.val (.bool false)),none⟩]) (.cond (sT 78) (.region [opM 79 6,opM 80 10,opI 81 1 79 80,opL 82 81,opM 83 12,opI 84 1 82 83,⟨none, .store 1 (sT 84) (.val (.bool true)),none⟩,opW 9 (.bool true)]) .skip)))) (.region [opY 85 .add 54 (.int .i64 1),opM 54 85]))))))))) (.region [opY 86 .add 46 (.int .i64 1),opM 46 86]))))))))))))) (.seq (.region [opF 87 0 1,opL 88 87,opE 89 88,⟨some 90,.mks (.nils) (sT 89),none⟩,opM 14 90]) (.seq (.seq (.region [opM 91 6,⟨some 91,.frz 91,none⟩,opE 92 91,opW 93 (.int .i64 0)]) (.block 8 (.loop (.seq (.region [opB 94 .lss 93 92]) (.seq (.cond (sT 94) .skip (.exit 8)) (.seq (.block 9 (.seq (.region [opM 95 93,opI 96 1 91 93,opL 97 96,opM 15 95,opM 16 97]) (.seq (.region [opM 98 16,opE 99 98,opW 100 (.int .i64 0)]) (.block 10 (.loop (.seq (.region [opB 101 .lss 100 99]) (.seq (.cond (sT 101) .skip (.exit 10)) (.seq (.block 11 (.seq (.region [opM 102 100,opI 103 1 98 100,opL 104 103,opM 17 102,opM 18 104]) (.seq (.region [opM 105 18]) (.cond (sT 105) (.region [opM 106 14,opM 107 15,opM 108 14,opM 109 15,opI 110 1 108 109,opL 111 110,opM 112 17,⟨some 113,.buildF 1 [.tmp 112],none⟩,⟨some 114,.append 1 8 (sT 111) (sT 113),none⟩,opI 115 1 106 107,⟨none, .store 1 (sT 115) (sT 114),none⟩]) .skip)))) (.region [opY 116 .add 100 (.int .i64 1),opM 100 116]))))))))) (.region [opY 117 .add 93 (.int .i64 1),opM 93 117]))))))) (.seq (.region [opM 118 14,opM 2 118,opW 3 (.int .i64 0)])
 .ret)))))))))
def r206 : List SRes := [.tmp 2, .tmp 3]
theorem c206 : Code1 Tryz.prog 10 s206 r206 119 := ⟨⟨Tryz.f10, _, Tryz.func10, rfl, rfl, by kernel_rfl, by kernel_rfl⟩, by kernel_rfl, by kernel_rfl⟩
def s207 : SCode := (.seq (.region [⟨some 1,.box (sT 0),none⟩,opW 2 (.nils),opW 3 (.bool false)]) (.seq (.region [opN 8 2 1,opC 9 53 [.tmp 8],⟨some 4,.alloc (.nilmap),none⟩,⟨none, .store 1 (sT 4) (sT 9),none⟩]) (.seq (.region [opW 5 (.nils)]) (.seq (.seq (.region [opF 10 0 1,opL 11 10,opE 12 11,opW 13 (.int .i64 0)]) (.block 0 (.loop (.seq (.region [opB 14 .lss 13 12]) (.seq (.cond (sT 14) .skip (.exit 0)) (.seq (.block 1 (.seq (.region [opM 15 13,opI 16 3 11 13,opN 17 3 16,⟨some 7,.alloc (.agg [.str ⟨#[]⟩, .nils, .nils]),none⟩,opM 6 15,⟨none, .store 3 (sT 7) (sT 17),none⟩]) (.seq (.region [opL 18 4,opM 19 6,⟨some 20,.mlook (false, [false]) false (.bool false) (sT 18) (sT 19),none⟩,⟨some 21,.un .not (sT 20),none⟩]) (.cond (sT 21) (.region [opM 22 5,opF 23 0 7,opL 24 23,⟨some 25,.buildF 1 [.tmp 24],none⟩,⟨some 26,.append 1 16 (sT 22) (sT 25),none⟩,opM 5 26]) .skip)))) (.region [opY 27 .add 13 (.int .i64 1),opM 13 27]))))))) (.seq (.region [opM 28 5,opN 29 2 1,opF 30 1 1,opL 31 30,⟨some 32,.mkfn 55 [] [.tmp 4, .tmp 1],none⟩,⟨some 33,.call (.val (.clos 54 [] [])) [.tmp 29, .tmp 31, .tmp 32, .val (.clos 56 [] [])],none⟩,opM 2 28,opM 3 33])
 .ret)))))
def r207 : List SRes := [.tmp 2, .tmp 3]
theorem c207 : Code1 Tryz.prog 12 s207 r207 34 := ⟨⟨Tryz.f12, _, Tryz.func12, rfl, rfl, by kernel_rfl, by kernel_rfl⟩, by kernel_rfl, by kernel_rfl⟩
def s208 : SCode := (.seq (.region [⟨some 1,.box (sT 0),none⟩,opW 2 (.nils)]) (.seq (.region [opN 13 2 1,opC 14 57 [.tmp 13],opM 12 14,⟨some 15,.extract (sT 12) 0,none⟩,⟨some 16,.extract (sT 12) 1,none⟩,⟨some 3,.alloc (.agg [.nils, .nils]),none⟩,⟨none, .store 2 (sT 3) (sT 15),none⟩,opM 4 16]) (.seq (.region [⟨some 5,.alloc (.nils),none⟩]) (.seq (.region [⟨some 6,.alloc (.int .i64 0),none⟩,⟨none, .store 1 (sT 6) (.val (.int .i64 0)),none⟩]) (.seq (.region [⟨some 7,.alloc (.nilf),none⟩]) (.seq (.region [⟨some 17,.mkfn 58 [] [.tmp 5, .tmp 6, .tmp 7],none⟩,⟨none, .store 1 (sT 7) (sT 17),none⟩]) (.seq (.region [opL 18 7,opF 19 1 1,opL 20 19,opF 21 1 3,opL 22 21,⟨some 23,.call (sT 18) [.tmp 20, .tmp 22],none⟩]) (.seq (.seq (.region [opF 24 0 1,opL 25 24,opE 26 25,opW 27 (.int .i64 0)]) (.block 0 (.loop (.seq (.region [opB 28 .lss 27 26]) (.seq (.cond (sT 28) .skip (.exit 0)) (.seq (.block 1 (.seq (.region [opM 29 27,opI 30 3 25 27,opN 31 3 30,⟨some 9,.alloc (.agg [.str ⟨#[]⟩, .nils, .nils]),none⟩,opM 8 29,⟨none, .store 3 (sT 9) (sT 31),none⟩]) (.seq (.region [opW 10 (.nils)]) (.seq (.seq (.region [opM 32 4,opM 33 8,opC 34 59 [.tmp 32, .tmp 33],opM 11 34]) (.seq (.region [opM 35 11,opY 36 .geq 35 (.int .i64 0)]) (.cond (sT 36) (.region [opF 37 0 3,opL 38 37,opM 39 11,opI 40 3 38 39,opF 41 2 40,opL 42 41,opM 10 42]) .skip))) (.region [opL 43 7,opF 44 2 9,opL 45 44,opM 46 10,⟨some 47,.call (sT 43) [.tmp 45, .tmp 46],none⟩]))))) (.region [opY 48 .add 27 (.int .i64 1),opM 27 48]))))))) (.seq (.region [opL 49 5,opM 2 49])
 .ret)))))))))
def r208 : List SRes := [.tmp 2]
theorem c208 : Code1 Tryz.prog 13 s208 r208 50 := ⟨⟨Tryz.f13, _, Tryz.func13, rfl, rfl, by kernel_rfl, by kernel_rfl⟩, by kernel_rfl, by kernel_rfl⟩
def s209 : SCode := (.seq (.region [⟨some 1,.box (sT 0),none⟩,opW 2 (.nils)]) (.seq (.region [opN 9 2 1,opC 10 57 [.tmp 9],opM 8 10,⟨some 11,.extract (sT 8) 0,none⟩,⟨some 12,.extract (sT 8) 1,none⟩,⟨some 3,.alloc (.agg [.nils, .nils]),none⟩,⟨none, .store 2 (sT 3) (sT 11),none⟩,opM 4 12]) (.seq (.region [opW 5 (.nils)]) (.seq (.seq (.region [opM 13 4,opE 14 13,opW 15 (.int .i64 0)]) (.block 0 (.loop (.seq (.region [opB 16 .lss 15 14]) (.seq (.cond (sT 16) .skip (.exit 0)) (.seq (.block 1 (.seq (.region [opI 17 1 13 15,opL 18 17,opM 7 18]) (.region [opM 19 5,opF 20 0 1,opL 21 20,opM 22 7,opI 23 3 21 22,opF 24 0 23,opL 25 24,⟨some 26,.buildF 1 [.tmp 25],none⟩,⟨some 27,.append 1 16 (sT 19) (sT 26),none⟩,opM 5 27]))) (.region [opY 28 .add 15 (.int .i64 1),opM 15 28]))))))) (.seq (.region [opM 29 5,opM 2 29])
 .ret)))))
def r209 : List SRes := [.tmp 2]
theorem c209 : Code1 Tryz.prog 14 s209 r209 30 := ⟨⟨Tryz.f14, _, Tryz.func14, rfl, rfl, by kernel_rfl, by kernel_rfl⟩, by kernel_rfl, by kernel_rfl⟩
def s210 : SCode := (.seq (.region [⟨some 1,.box (sT 0),none⟩,opW 2 (.nils)]) (.seq (.region [opN 9 2 1,opC 10 60 [.tmp 9],opM 3 10]) (.seq (.region [opW 4 (.nils)]) (.seq (.seq (.region [opF 11 0 1,opL 12 11,opE 13 12,opW 14 (.int .i64 0)]) (.block 0 (.loop (.seq (.region [opB 15 .lss 14 13]) (.seq (.cond (sT 15) .skip (.exit 0)) (.seq (.block 1 (.seq (.region [opM 16 14,opI 17 3 12 14,opN 18 3 17,⟨some 6,.alloc (.agg [.str ⟨#[]⟩, .nils, .nils]),none⟩,opM 5 16,⟨none, .store 3 (sT 6) (sT 18),none⟩]) (.seq (.region [opW 7 (.nils)]) (.seq (.seq (.region [opF 19 1 6,opL 20 19,opE 21 20,opW 22 (.int .i64 0)]) (.block 2 (.loop (.seq (.region [opB 23 .lss 22 21]) (.seq (.cond (sT 23) .skip (.exit 2)) (.seq (.block 3 (.seq (.region [opM 24 22,opM 8 24]) (.seq (.region [opM 25 3,opM 26 5,opM 27 8,⟨some 28,.build [.int .i64 0, .int .i64 0] [(0, 1, .tmp 26), (1, 1, .tmp 27)],none⟩,⟨some 29,.mlook (true, [false, false]) false (.bool false) (sT 25) (sT 28),none⟩]) (.cond (sT 29) (.region [opM 30 7,opM 31 8,⟨some 32,.buildF 1 [.tmp 31],none⟩,⟨some 33,.append 1 8 (sT 30) (sT 32),none⟩,opM 7 33]) .skip)))) (.region [opY 34 .add 22 (.int .i64 1),opM 22 34]))))))) (.region [opM 35 4,opM 36 7,⟨some 36,.frz 36,none⟩,⟨some 37,.buildF 1 [.tmp 36],none⟩,⟨some 38,.append 1 24 (sT 35) (sT 37),none⟩,opM 4 38]))))) (.region [opY 39 .add 14 (.int .i64 1),opM 14 39]))))))) (.seq (.region [opM 40 4,opM 2 40])
 .ret)))))
def r210 : List SRes := [.tmp 2]
theorem c210 : Code1 Tryz.prog 15 s210 r210 41 := ⟨⟨Tryz.f15, _, Tryz.func15, rfl, rfl, by kernel_rfl, by kernel_rfl⟩, by kernel_rfl, by kernel_rfl⟩
def s211 : SCode := (.seq (.region [opW 4 (.bool false)]) (.seq (.seq (.region [opM 6 0,opE 7 6,opM 8 1,opE 9 8,opB 10 .neq 7 9]) (.cond (sT 10) (.seq (.region [opW 4 (.bool false)])
 .ret) .skip)) (.seq (.seq (.region [opM 11 0,opE 12 11,opW 13 (.int .i64 0)]) (.block 0 (.loop (.seq (.region [opB 14 .lss 13 12]) (.seq (.cond (sT 14) .skip (.exit 0)) (.seq (.block 1 (.seq (.region [opM 15 13,opM 5 15]) (.seq (.qregion [⟨opM 16 0, false, 0, 0, 0⟩,⟨opM 17 5, false, 0, 0, 0⟩,⟨opI 18 1 16 17, false, 0, 0, 3⟩,⟨opL 19 18, false, 0, 0, 7⟩,⟨opM 20 1, false, 0, 0, 0⟩,⟨opM 21 5, false, 0, 0, 0⟩,⟨opI 22 1 20 21, false, 0, 0, 48⟩,⟨opL 23 22, false, 0, 0, 112⟩,⟨opB 24 .neq 19 23, false, 0, 0, 255⟩]) (.cond (sT 24) (.seq (.region [opW 4 (.bool false)])
 .ret) .skip)))) (.region [opY 25 .add 13 (.int .i64 1),opM 13 25]))))))) (.seq (.region [opW 4 (.bool true)])
 .ret))))
def r211 : List SRes := [.tmp 4]
theorem c211 : Code1 Tryz.prog 17 s211 r211 26 := ⟨⟨Tryz.f17, _, Tryz.func17, rfl, rfl, by kernel_rfl, by kernel_rfl⟩, by kernel_rfl, by kernel_rfl⟩
def s212 : SCode := (.seq (.region [opW 6 (.bool false)]) (.seq (.seq (.region [opM 10 0,opE 11 10,opM 12 1,opE 13 12,opB 14 .neq 11 13]) (.cond (sT 14) (.seq (.region [opW 6 (.bool false)])
 .ret) .skip)) (.seq (.seq (.region [opM 15 0,opE 16 15,opW 17 (.int .i64 0)]) (.block 0 (.loop (.seq (.region [opB 18 .lss 17 16]) (.seq (.cond (sT 18) .skip (.exit 0)) (.seq (.block 1 (.seq (.region [opM 19 17,opI 20 1 15 17,opL 21 20,opM 7 19,opM 8 21]) (.seq (.region [opM 22 1,opM 23 7,opI 24 1 22 23,opL 25 24,opM 9 25]) (.seq (.region [opM 26 2,opM 27 8,opM 28 9,⟨some 29,.call (sT 26) [.tmp 27, .tmp 28],none⟩,⟨some 30,.un .not (sT 29),none⟩]) (.cond (sT 30) (.seq (.region [opW 6 (.bool false)])
 .ret) .skip))))) (.region [opY 31 .add 17 (.int .i64 1),opM 17 31]))))))) (.seq (.region [opW 6 (.bool true)])
 .ret))))
def r212 : List SRes := [.tmp 6]
theorem c212 : Code1 Tryz.prog 18 s212 r212 32 := ⟨⟨Tryz.f18, _, Tryz.func18, rfl, rfl, by kernel_rfl, by kernel_rfl⟩, by kernel_rfl, by kernel_rfl⟩
def s229 : SCode := (.seq (.region [⟨some 1,.box (sT 0),none⟩,opW 2 (.nilp),opW 3 (.int .i64 0)]) (.seq (.seq (.region [opN 5 2 1,opC 6 71 [.tmp 5],opM 4 6]) (.seq (.region [opM 7 4,opY 8 .neq 7 (.int .i64 0)]) (.cond (sT 8) (.seq (.region [opM 9 4,opW 2 (.nilp),opM 3 9])
 .ret) .skip))) (.seq (.region [opN 10 2 1,opC 11 117 [.tmp 10],opM 2 11,opW 3 (.int .i64 0)])
 .ret)))
def r229 : List SRes := [.tmp 2, .tmp 3]
theorem c229 : Code1 Tryz.prog 41 s229 r229 12 := ⟨⟨Tryz.f41, _, Tryz.func41, rfl, rfl, by kernel_rfl, by kernel_rfl⟩, by kernel_rfl, by kernel_rfl⟩
def s230 : SCode := (.seq (.region [⟨some 2,.box (sT 0),none⟩,opW 4 (.bool false)]) (.seq (.region [opM 5 1,⟨some 6,.mkfn 119 [] [.tmp 2],none⟩,opC 7 118 [.tmp 5, .tmp 6],⟨some 8,.un .not (sT 7),none⟩,opM 4 8])
 .ret))
def r230 : List SRes := [.tmp 4]
theorem c230 : Code1 Tryz.prog 42 s230 r230 9 := ⟨⟨Tryz.f42, _, Tryz.func42, rfl, rfl, by kernel_rfl, by kernel_rfl⟩, by kernel_rfl, by kernel_rfl⟩
def s231 : SCode := (.seq (.region [opW 2 (.nilp)]) (.seq (.region [opM 4 0,⟨some 5,.mkmap,none⟩,opM 6 0,⟨some 7,.nilc (sT 6),none⟩,opF 8 3 7,opL 9 8,opE 10 9,⟨some 11,.mks (.bool false) (sT 10),none⟩,⟨some 12,.build [.nilp, .nilmap, .nils] [(0, 1, .tmp 4), (1, 1, .tmp 5), (2, 1, .tmp 11)],none⟩,⟨some 13,.box (sT 12),none⟩,opM 3 13]) (.seq (.region [opM 14 3,opM 15 0,⟨some 16,.nilc (sT 15),none⟩,opF 17 2 16,opL 18 17,opC 19 121 [.tmp 14, .tmp 18]]) (.seq (.region [opM 20 3,opM 2 20])
 .ret))))
def r231 : List SRes := [.tmp 2]
theorem c231 : Code1 Tryz.prog 43 s231 r231 21 := ⟨⟨Tryz.f43, _, Tryz.func43, rfl, rfl, by kernel_rfl, by kernel_rfl⟩, by kernel_rfl, by kernel_rfl⟩
def s232 : SCode := (.seq (.region [⟨some 4,.box (sT 1),none⟩,⟨some 5,.box (sT 2),none⟩,opW 6 (.bool false)]) (.seq (.region [opM 7 0,⟨some 8,.mkfn 123 [] [.tmp 4, .tmp 5],none⟩,opC 9 118 [.tmp 7, .tmp 8],opM 6 9])
 .ret))
def r232 : List SRes := [.tmp 6]
theorem c232 : Code1 Tryz.prog 45 s232 r232 10 := ⟨⟨Tryz.f45, _, Tryz.func45, rfl, rfl, by kernel_rfl, by kernel_rfl⟩, by kernel_rfl, by kernel_rfl⟩
def s233 : SCode := (.seq (.region [⟨some 1,.box (sT 0),none⟩,opW 2 (.nilmap)]) (.seq (.region [⟨some 7,.mkmap,none⟩,⟨some 3,.alloc (.nilmap),none⟩,⟨none, .store 1 (sT 3) (sT 7),none⟩]) (.seq (.seq (.region [opW 4 (.bool true)]) (.block 0 (.loop (.seq (.seq (.region [opM 8 4]) (.cond (sT 8) .skip (.exit 0))) (.block 1 (.seq (.region [opW 4 (.bool false)]) (.seq (.region [opF 9 0 1,opL 10 9,opE 11 10,opW 12 (.int .i64 0)]) (.block 2 (.loop (.seq (.region [opB 13 .lss 12 11]) (.seq (.cond (sT 13) .skip (.exit 2)) (.seq (.block 3 (.seq (.region [opM 14 12,opI 15 3 10 12,opN 16 3 15,⟨some 6,.alloc (.agg [.str ⟨#[]⟩, .nils, .nils]),none⟩,opM 5 14,⟨none, .store 3 (sT 6) (sT 16),none⟩]) (.seq (.region [opL 17 3,opM 18 5,⟨some 19,.mlook (false, [false]) false (.bool false) (sT 17) (sT 18),none⟩,⟨some 20,.un .not (sT 19),none⟩,opM 21 20,⟨some 22,.load true 2 (sT 1), (some (21, true))⟩,opK 23 2 6 21 true,opH 24 23 21 true,⟨some 25,.mkfn 131 [] [.tmp 3, .tmp 1], (some (21, true))⟩,⟨some 26,.call (.val (.clos 54 [] [])) [.tmp 22, .tmp 24, .tmp 25, .val (.clos 56 [] [])], (some (21, true))⟩,⟨some 27,.pick (sT 21) (sT 26) (.val (.bool false)),none⟩]) (.cond (sT 27) (.region [opL 28 3,opM 29 5,⟨none, .mset (false, [false]) (sT 28) (sT 29) (.val (.bool true)),none⟩,opW 4 (.bool true)]) .skip)))) (.region [opY 30 .add 12 (.int .i64 1),opM 12 30]))))))))))))) (.seq (.region [opL 31 3,opM 2 31])
 .ret))))
def r233 : List SRes := [.tmp 2]
theorem c233 : Code1 Tryz.prog 53 s233 r233 32 := ⟨⟨Tryz.f53, _, Tryz.func53, rfl, rfl, by kernel_rfl, by kernel_rfl⟩, by kernel_rfl, by kernel_rfl⟩
def s234 : SCode := (.seq (.region [⟨some 4,.box (sT 0),none⟩,⟨some 6,.box (sT 2),none⟩,⟨some 7,.box (sT 3),none⟩,opW 8 (.bool false)]) (.seq (.region [opM 9 1,⟨some 10,.mkfn 133 [] [.tmp 7, .tmp 4, .tmp 6],none⟩,opC 11 132 [.tmp 9, .tmp 10],⟨some 12,.un .not (sT 11),none⟩,opM 8 12])
 .ret))
def r234 : List SRes := [.tmp 8]
theorem c234 : Code1 Tryz.prog 54 s234 r234 13 := ⟨⟨Tryz.f54, _, Tryz.func54, rfl, rfl, by kernel_rfl, by kernel_rfl⟩, by kernel_rfl, by kernel_rfl⟩
def s235 : SCode := (.seq (.region [⟨some 3,.box (sT 0),none⟩,opW 4 (.bool false)]) (.seq (.qregion [⟨opL 5 1, false, 0, 0, 0⟩,⟨opN 6 2 2, false, 0, 0, 0⟩,⟨opF 7 11 3, false, 0, 0, 0⟩,⟨opL 8 7, false, 0, 0, 4⟩,⟨opC 9 52 [.tmp 6, .tmp 8], false, 0, 0, 14⟩,⟨⟨some 10,.mlook (false, [false]) false (.bool false) (sT 5) (sT 9),none⟩, false, 0, 0, 31⟩,⟨opM 4 10, false, 0, 0, 63⟩])
 .ret))
def r235 : List SRes := [.tmp 4]
theorem c235 : Code1 Tryz.prog 55 s235 r235 11 := ⟨⟨Tryz.f55, _, Tryz.func55, rfl, rfl, by kernel_rfl, by kernel_rfl⟩, by kernel_rfl, by kernel_rfl⟩
def s236 : SCode := (.seq (.region [⟨some 1,.box (sT 0),none⟩,opW 2 (.bool false)]) (.seq (.region [opW 2 (.bool false)])
 .ret))
def r236 : List SRes := [.tmp 2]
theorem c236 : Code1 Tryz.prog 56 s236 r236 3 := ⟨⟨Tryz.f56, _, Tryz.func56, rfl, rfl, by kernel_rfl, by kernel_rfl⟩, by kernel_rfl, by kernel_rfl⟩
def s237 : SCode := (.seq (.region [⟨some 1,.box (sT 0),none⟩,⟨some 2,.alloc (.agg [.nils, .nils]),none⟩,opW 3 (.nils)]) (.seq (.region [opN 15 2 1,opC 16 53 [.tmp 15],opM 4 16]) (.seq (.region [⟨some 17,.mkmap,none⟩,⟨some 5,.alloc (.nilmap),none⟩,⟨none, .store 1 (sT 5) (sT 17),none⟩]) (.seq (.region [⟨some 6,.alloc (.nils),none⟩]) (.seq (.region [⟨some 18,.mkfn 134 [] [.tmp 5, .tmp 6],none⟩,opM 7 18]) (.seq (.region [opN 19 2 1,opF 20 1 1,opL 21 20,opM 22 4,opM 23 7,opC 24 135 [.tmp 19, .tmp 21, .tmp 22, .tmp 23],⟨some 25,.build [.nils, .nils] [(1, 1, .tmp 24)],none⟩,⟨some 8,.alloc (.agg [.nils, .nils]),none⟩,⟨none, .store 2 (sT 8) (sT 25),none⟩]) (.seq (.region [⟨some 26,.mkmap,none⟩,opM 9 26]) (.seq (.block 0 (.loop (.seq (.seq (.region [opL 27 6,opE 28 27,opY 29 .gtr 28 (.int .i64 0)]) (.cond (sT 29) .skip (.exit 0))) (.block 1 (.seq (.region [opL 30 6,⟨some 31,.iaddr 1 (sT 30) (.val (.int .i64 0)),none⟩,opL 32 31,opM 10 32]) (.seq (.region [opL 33 6,⟨some 34,.slice 1 (sT 33) (some (.val (.int .i64 1))) none,none⟩,⟨none, .store 1 (sT 6) (sT 34),none⟩]) (.qregion [⟨opM 35 9, false, 0, 1, 0⟩,⟨opM 36 10, false, 0, 1, 0⟩,⟨opN 37 2 1, false, 0, 0, 0⟩,⟨opF 38 0 1, false, 0, 0, 0⟩,⟨opL 39 38, false, 0, 0, 8⟩,⟨opM 40 10, false, 0, 0, 0⟩,⟨opI 41 3 39 40, false, 0, 0, 56⟩,⟨opF 42 2 41, false, 0, 0, 120⟩,⟨opL 43 42, false, 0, 0, 248⟩,⟨opM 44 4, false, 0, 0, 0⟩,⟨opM 45 7, false, 0, 0, 0⟩,⟨opC 46 135 [.tmp 37, .tmp 43, .tmp 44, .tmp 45], true, 0, 0, 2044⟩,⟨⟨none, .mset (false, [false]) (sT 35) (sT 36) (sT 46),none⟩, true, 0, 0, 4095⟩]))))))) (.seq (.region [⟨some 9,.frz 9,none⟩,opM 47 9,opC 48 137 [.tmp 47],opC 49 136 [.tmp 48],opM 11 49]) (.seq (.seq (.region [opM 50 11,opE 51 50,opW 52 (.int .i64 0)]) (.block 2 (.loop (.seq (.region [opB 53 .lss 52 51]) (.seq (.cond (sT 53) .skip (.exit 2)) (.seq (.block 3 (.seq (.region [opI 54 1 50 52,opL 55 54,opM 13 55]) (.seq (.region [opF 56 0 1,opL 57 56,opM 58 13,opI 59 3 57 58,opN 60 3 59,⟨some 14,.alloc (.agg [.str ⟨#[]⟩, .nils, .nils]),none⟩,⟨none, .store 3 (sT 14) (sT 60),none⟩]) (.qregion [⟨opF 61 0 8, false, 0, 0, 0⟩,⟨opL 62 61, false, 0, 0, 1⟩,⟨opF 63 0 14, false, 0, 0, 0⟩,⟨opL 64 63, false, 0, 0, 4⟩,⟨opF 65 1 14, false, 0, 0, 0⟩,⟨opL 66 65, false, 0, 0, 16⟩,⟨opC 67 69 [.tmp 66], false, 0, 0, 48⟩,⟨opM 68 9, false, 0, 0, 0⟩,⟨opM 69 13, false, 0, 0, 0⟩,⟨⟨some 70,.mlook (false, [false]) false (.nils) (sT 68) (sT 69),none⟩, false, 0, 0, 384⟩,⟨⟨some 71,.build [.str ⟨#[]⟩, .nils, .nils] [(0, 1, .tmp 64), (1, 1, .tmp 67), (2, 1, .tmp 70)],none⟩, false, 0, 0, 1020⟩,⟨⟨some 72,.buildF 3 [.tmp 71],none⟩, false, 0, 0, 2044⟩,⟨⟨some 73,.append 3 64 (sT 62) (sT 72),none⟩, true, 0, 0, 4095⟩,⟨opF 74 0 8, false, 1, 1, 8191⟩,⟨⟨none, .store 1 (sT 74) (sT 73),none⟩, true, 0, 0, 16383⟩])))) (.region [opY 75 .add 52 (.int .i64 1),opM 52 75]))))))) (.seq (.region [opN 76 2 8,opM 77 11,⟨none, .store 2 (sT 2) (sT 76),none⟩,opM 3 77])
 .ret)))))))))))
def r237 : List SRes := [.cell true 2 2, .tmp 3]
theorem c237 : Code1 Tryz.prog 57 s237 r237 78 := ⟨⟨Tryz.f57, _, Tryz.func57, rfl, rfl, by kernel_rfl, by kernel_rfl⟩, by kernel_rfl, by kernel_rfl⟩
def s238 : SCode := (.seq (.region [opM 12 0,opE 13 12,opW 14 (.int .i64 0)]) (.block 0 (.loop (.seq (.region [opB 15 .lss 14 13]) (.seq (.cond (sT 15) .skip (.exit 0)) (.seq (.block 1 (.seq (.region [opM 16 14,opI 17 13 12 14,opN 18 13 17,⟨some 8,.alloc (.agg [.int .i64 0, .str ⟨#[]⟩, .str ⟨#[]⟩, .str ⟨#[]⟩, .str ⟨#[]⟩, .int .i64 0, .int .i64 0, .str ⟨#[]⟩, .nils, .nils, .nils, .str ⟨#[]⟩, .nils]),none⟩,opM 7 16,⟨none, .store 13 (sT 8) (sT 18),none⟩]) (.seq (.region [opM 19 7,opM 20 1,opE 21 20,opB 22 .lss 19 21,opM 9 22]) (.seq (.seq (.region [opM 23 9,⟨some 24,.un .not (sT 23),none⟩]) (.cond (sT 24) (.region [opL 25 2,opL 26 3,⟨some 27,.buildF 1 [.tmp 26],none⟩,⟨some 28,.append 1 8 (sT 25) (sT 27),none⟩,⟨none, .store 1 (sT 2) (sT 28),none⟩]) .skip)) (.seq (.region [opL 29 3,opY 30 .add 29 (.int .i64 1),⟨none, .store 1 (sT 3) (sT 30),none⟩]) (.seq (.region [opW 10 (.nils),opW 11 (.nils)]) (.seq (.seq (.region [opM 31 9]) (.cond (sT 31) (.qregion [⟨opM 32 1, false, 0, 0, 0⟩,⟨opM 33 7, false, 0, 0, 0⟩,⟨opI 34 13 32 33, false, 0, 0, 3⟩,⟨opF 35 9 34, false, 0, 0, 7⟩,⟨opL 36 35, false, 0, 0, 15⟩,⟨opM 37 1, false, 0, 0, 0⟩,⟨opM 38 7, false, 0, 0, 0⟩,⟨opI 39 13 37 38, false, 0, 0, 96⟩,⟨opF 40 10 39, false, 0, 0, 224⟩,⟨opL 41 40, false, 0, 0, 480⟩,⟨opM 10 36, false, 0, 0, 31⟩,⟨opM 11 41, false, 0, 0, 2047⟩]) .skip)) (.seq (.region [opL 42 4,opF 43 9 8,opL 44 43,opM 45 10,⟨some 46,.call (sT 42) [.tmp 44, .tmp 45],none⟩]) (.region [opL 47 4,opF 48 10 8,opL 49 48,opM 50 11,⟨some 51,.call (sT 47) [.tmp 49, .tmp 50],none⟩]))))))))) (.region [opY 52 .add 14 (.int .i64 1),opM 14 52])))))))
def r238 : List SRes := []
theorem c238 : Code1 Tryz.prog 58 s238 r238 53 := ⟨⟨Tryz.f58, _, Tryz.func58, rfl, rfl, by kernel_rfl, by kernel_rfl⟩, by kernel_rfl, by kernel_rfl⟩
def s239 : SCode := (.seq (.region [⟨some 1,.box (sT 0),none⟩,opW 2 (.nilmap)]) (.seq (.region [⟨some 10,.mkmap,none⟩,opM 3 10]) (.seq (.seq (.region [opW 4 (.bool true)]) (.block 0 (.loop (.seq (.seq (.region [opM 11 4]) (.cond (sT 11) .skip (.exit 0))) (.block 1 (.seq (.region [opW 4 (.bool false)]) (.seq (.region [opN 12 2 1,opC 13 47 [.tmp 12],opE 14 13,opW 15 (.int .i64 0)]) (.block 2 (.loop (.seq (.region [opB 16 .lss 15 14]) (.seq (.cond (sT 16) .skip (.exit 2)) (.seq (.block 3 (.seq (.region [opI 17 15 13 15,opN 18 15 17,⟨some 6,.alloc (.agg [.int .i64 0, .str ⟨#[]⟩, .str ⟨#[]⟩, .str ⟨#[]⟩, .str ⟨#[]⟩, .int .i64 0, .int .i64 0, .str ⟨#[]⟩, .nils, .nils, .nils, .str ⟨#[]⟩, .nils, .int .i64 0, .bool false]),none⟩,⟨none, .store 15 (sT 6) (sT 18),none⟩]) (.seq (.seq (.region [opF 19 13 6,opL 20 19,opY 21 .lss 20 (.int .i64 0)]) (.cond (sT 21) (.exit 3) .skip)) (.seq (.region [opF 22 0 6,opN 23 13 22,opC 24 49 [.tmp 23],opE 25 24,opW 26 (.int .i64 0)]) (.block 4 (.loop (.seq (.region [opB 27 .lss 26 25]) (.seq (.cond (sT 27) .skip (.exit 4)) (.seq (.block 5 (.seq (.region [opM 28 26,opI 29 1 24 26,opL 30 29,opM 7 28,opM 8 30]) (.seq (.seq (.region [opF 31 0 6,opF 32 0 31,opL 33 32,opY 34 .eql 33 (.int .i64 5),opM 35 34,opG 36 3 35 true,⟨some 37,.load true 2 (sT 1), (some (35, true))⟩,opK 38 0 6 35 true,opK 39 11 38 35 true,opH 40 39 35 true,⟨some 41,.call (.val (.clos 52 [] [])) [.tmp 37, .tmp 40], (some (35, true))⟩,opG 42 7 35 true,⟨some 43,.build [.int .i64 0, .int .i64 0] [(0, 1, .tmp 41), (1, 1, .tmp 42)], (some (35, true))⟩,⟨some 44,.mlook (true, [false, false]) false (.bool false) (sT 36) (sT 43), (some (35, true))⟩,⟨some 45,.un .not (sT 44), (some (35, true))⟩,⟨some 46,.pick (sT 35) (sT 45) (.val (.bool false)),none⟩]) (.cond (sT 46) (.exit 5) .skip)) (.seq (.qregion [⟨opF 47 13 6, false, 0, 1, 0⟩,⟨opL 48 47, false, 0, 1, 1⟩,⟨opF 49 0 1, false, 0, 1, 0⟩,⟨opL 50 49, false, 0, 1, 4⟩,⟨opF 51 13 6, false, 0, 1, 0⟩,⟨opL 52 51, false, 0, 1, 16⟩,⟨opI 53 3 50 52, false, 0, 1, 60⟩,⟨opF 54 1 53, false, 0, 1, 124⟩,⟨opL 55 54, false, 0, 1, 252⟩,⟨opM 56 8, false, 0, 1, 0⟩,⟨opC 57 124 [.tmp 55, .tmp 56], false, 0, 1, 1020⟩,⟨⟨some 58,.build [.int .i64 0, .int .i64 0] [(0, 1, .tmp 48), (1, 1, .tmp 57)],none⟩, false, 0, 1, 2047⟩,⟨⟨some 9,.alloc (.agg [.int .i64 0, .int .i64 0]),none⟩, true, 0, 0, 0⟩,⟨⟨none, .store 2 (sT 9) (sT 58),none⟩, true, 0, 0, 8191⟩]) (.seq (.region [opM 59 3,opN 60 2 9,⟨some 61,.mlook (true, [false, false]) false (.bool false) (sT 59) (sT 60),none⟩,⟨some 62,.un .not (sT 61),none⟩]) (.cond (sT 62) (.region [opM 63 3,opN 64 2 9,⟨none, .mset (true, [false, false]) (sT 63) (sT 64) (.val (.bool true)),none⟩,opW 4 (.bool true)]) .skip)))))) (.region [opY 65 .add 26 (.int .i64 1),opM 26 65])))))))))) (.region [opY 66 .add 15 (.int .i64 1),opM 15 66]))))))))))))) (.seq (.region [opM 67 3,opM 2 67])
 .ret))))
def r239 : List SRes := [.tmp 2]
theorem c239 : Code1 Tryz.prog 60 s239 r239 68 := ⟨⟨Tryz.f60, _, Tryz.func60, rfl, rfl, by kernel_rfl, by kernel_rfl⟩, by kernel_rfl, by kernel_rfl⟩
def s277 : SCode := (.seq (.region [⟨some 1,.box (sT 0),none⟩,opW 2 (.nilp)]) (.seq (.qregion [⟨opN 11 2 1, false, 0, 1, 0⟩,⟨opF 12 0 1, false, 0, 0, 0⟩,⟨opL 13 12, false, 0, 0, 2⟩,⟨opE 14 13, false, 0, 0, 6⟩,⟨⟨some 15,.mks (.bool false) (sT 14),none⟩, true, 0, 0, 14⟩,⟨⟨some 16,.build [.nils, .nils, .nils, .nils, .nils] [(0, 2, .tmp 11), (4, 1, .tmp 15)],none⟩, false, 1, 1, 31⟩,⟨⟨some 17,.box (sT 16),none⟩, true, 0, 0, 63⟩,⟨opM 3 17, false, 2, 2, 127⟩]) (.seq (.region [opW 4 (.int .i64 0)]) (.seq (.region [opM 19 3,opN 20 2 1,opF 21 1 1,opL 22 21,opC 23 179 [.tmp 20, .tmp 22, .val (.int .i64 0)],opM 18 23,⟨some 24,.extract (sT 18) 0,none⟩,⟨some 25,.extract (sT 18) 1,none⟩,⟨some 26,.nilc (sT 19),none⟩,opF 27 2 26,⟨none, .store 1 (sT 27) (sT 24),none⟩,opM 4 25]) (.seq (.seq (.region [opF 28 0 1,opL 29 28,opE 30 29,opW 31 (.int .i64 0)]) (.block 0 (.loop (.seq (.region [opB 32 .lss 31 30]) (.seq (.cond (sT 32) .skip (.exit 0)) (.seq (.block 1 (.seq (.region [opI 33 3 29 31,opN 34 3 33,⟨some 6,.alloc (.agg [.str ⟨#[]⟩, .nils, .nils]),none⟩,⟨none, .store 3 (sT 6) (sT 34),none⟩]) (.seq (.region [opW 7 (.nils)]) (.seq (.region [opN 36 2 1,opF 37 2 6,opL 38 37,opM 39 4,opC 40 179 [.tmp 36, .tmp 38, .tmp 39],opM 35 40,⟨some 41,.extract (sT 35) 0,none⟩,⟨some 42,.extract (sT 35) 1,none⟩,opM 7 41,opM 4 42]) (.region [opM 43 3,opM 44 3,⟨some 45,.nilc (sT 44),none⟩,opF 46 3 45,opL 47 46,opM 48 7,⟨some 49,.buildF 1 [.tmp 48],none⟩,⟨some 50,.append 1 24 (sT 47) (sT 49),none⟩,⟨some 51,.nilc (sT 43),none⟩,opF 52 3 51,⟨none, .store 1 (sT 52) (sT 50),none⟩]))))) (.region [opY 53 .add 31 (.int .i64 1),opM 31 53]))))))) (.seq (.seq (.region [opW 8 (.bool true)]) (.block 2 (.loop (.seq (.seq (.region [opM 54 8]) (.cond (sT 54) .skip (.exit 2))) (.block 3 (.seq (.region [opW 8 (.bool false)]) (.seq (.region [opM 55 3,⟨some 56,.nilc (sT 55),none⟩,opF 57 3 56,opL 58 57,opE 59 58,opW 60 (.int .i64 0)]) (.block 4 (.loop (.seq (.region [opB 61 .lss 60 59]) (.seq (.cond (sT 61) .skip (.exit 4)) (.seq (.block 5 (.seq (.region [opM 62 60,opI 63 1 58 60,opL 64 63,opM 9 62,opM 10 64]) (.seq (.region [opM 65 3,⟨some 66,.nilc (sT 65),none⟩,opF 67 4 66,opL 68 67,opM 69 9,opI 70 1 68 69,opL 71 70,⟨some 72,.un .not (sT 71),none⟩,opM 73 72,opG 74 3 73 true,opG 75 10 73 true,⟨some 76,.call (.val (.clos 42 [] [])) [.tmp 74, .tmp 75], (some (73, true))⟩,⟨some 77,.pick (sT 73) (sT 76) (.val (.bool false)),none⟩]) (.cond (sT 77) (.region [opM 78 3,⟨some 79,.nilc (sT 78),none⟩,opF 80 4 79,opL 81 80,opM 82 9,opI 83 1 81 82,⟨none, .store 1 (sT 83) (.val (.bool true)),none⟩,opW 8 (.bool true)]) .skip)))) (.region [opY 84 .add 60 (.int .i64 1),opM 60 84]))))))))))))) (.seq (.region [opM 85 3,opM 2 85])
 .ret)))))))
def r277 : List SRes := [.tmp 2]
theorem c277 : Code1 Tryz.prog 117 s277 r277 86 := ⟨⟨Tryz.f117, _, Tryz.func117, rfl, rfl, by kernel_rfl, by kernel_rfl⟩, by kernel_rfl, by kernel_rfl⟩
def s278 : SCode := (.seq (.region [opW 4 (.bool false)]) (.seq (.region [opM 5 0,opM 6 1,opC 7 180 [.tmp 5, .tmp 6],opY 8 .geq 7 (.int .i64 0),opM 4 8])
 .ret))
def r278 : List SRes := [.tmp 4]
theorem c278 : Code1 Tryz.prog 118 s278 r278 9 := ⟨⟨Tryz.f118, _, Tryz.func118, rfl, rfl, by kernel_rfl, by kernel_rfl⟩, by kernel_rfl, by kernel_rfl⟩
def s279 : SCode := (.seq (.region [⟨some 2,.box (sT 0),none⟩,opW 3 (.bool false)]) (.seq (.region [opL 4 1,opN 5 17 2,opC 6 120 [.tmp 4, .tmp 5],⟨some 7,.un .not (sT 6),none⟩,opM 3 7])
 .ret))
def r279 : List SRes := [.tmp 3]
theorem c279 : Code1 Tryz.prog 119 s279 r279 8 := ⟨⟨Tryz.f119, _, Tryz.func119, rfl, rfl, by kernel_rfl, by kernel_rfl⟩, by kernel_rfl, by kernel_rfl⟩
def s280 : SCode := (.seq (.region [⟨some 3,.box (sT 1),none⟩,opW 4 (.bool false)]) (.seq (.seq (.region [opF 5 1 3,opF 6 0 5,opL 7 6]) (.block 0 (.seq (.region [opY 9 .eql 7 (.int .i64 4),opM 8 9]) (.cond (sT 8) (.seq (.region [opM 10 0,opF 11 15 3,opL 12 11,opC 13 42 [.tmp 10, .tmp 12],opM 14 13,opG 15 0 14 false,opK 16 16 3 14 false,opH 17 16 14 false,⟨some 18,.call (.val (.clos 42 [] [])) [.tmp 15, .tmp 17], (some (14, false))⟩,⟨some 19,.pick (sT 14) (.val (.bool true)) (sT 18),none⟩,opM 4 19])
 .ret) (.seq (.region [opY 21 .eql 7 (.int .i64 5),opM 20 21]) (.cond (sT 20) (.seq (.qregion [⟨opM 22 0, false, 0, 0, 0⟩,⟨⟨some 23,.nilc (sT 22),none⟩, false, 0, 0, 1⟩,⟨opF 24 4 23, false, 0, 0, 3⟩,⟨opL 25 24, false, 0, 0, 7⟩,⟨opF 26 14 3, false, 0, 0, 0⟩,⟨opL 27 26, false, 0, 0, 16⟩,⟨opI 28 1 25 27, false, 0, 0, 63⟩,⟨opL 29 28, false, 0, 0, 127⟩,⟨opM 4 29, false, 0, 0, 255⟩])
 .ret) .skip)))))) (.seq (.region [opW 4 (.bool true)])
 .ret)))
def r280 : List SRes := [.tmp 4]
theorem c280 : Code1 Tryz.prog 120 s280 r280 30 := ⟨⟨Tryz.f120, _, Tryz.func120, rfl, rfl, by kernel_rfl, by kernel_rfl⟩, by kernel_rfl, by kernel_rfl⟩
def s281 : SCode := (.seq (.region [opM 6 1,opE 7 6,opW 8 (.int .i64 0)]) (.block 0 (.loop (.seq (.region [opB 9 .lss 8 7]) (.seq (.cond (sT 9) .skip (.exit 0)) (.seq (.block 1 (.seq (.region [opI 10 17 6 8,opN 11 17 10,⟨some 5,.alloc (.agg [.int .i64 0, .int .i64 0, .str ⟨#[]⟩, .str ⟨#[]⟩, .str ⟨#[]⟩, .str ⟨#[]⟩, .int .i64 0, .int .i64 0, .str ⟨#[]⟩, .nils, .nils, .nils, .str ⟨#[]⟩, .nils, .int .i64 0, .nils, .nils]),none⟩,⟨none, .store 17 (sT 5) (sT 11),none⟩]) (.seq (.qregion [⟨opM 12 0, false, 0, 0, 0⟩,⟨⟨some 13,.nilc (sT 12),none⟩, false, 0, 0, 1⟩,⟨opF 14 1 13, false, 0, 0, 3⟩,⟨opL 15 14, false, 0, 0, 7⟩,⟨opF 16 0 5, false, 0, 0, 0⟩,⟨opL 17 16, false, 0, 0, 16⟩,⟨⟨none, .mset (false, [false]) (sT 15) (sT 17) (.val (.bool true)),none⟩, true, 0, 0, 63⟩]) (.seq (.region [opM 18 0,opF 19 15 5,opL 20 19,opC 21 121 [.tmp 18, .tmp 20]]) (.seq (.region [opM 22 0,opF 23 16 5,opL 24 23,opC 25 121 [.tmp 22, .tmp 24]]) (.seq (.seq (.qregion [⟨opF 26 14 5, false, 0, 0, 0⟩,⟨opL 27 26, false, 0, 0, 1⟩,⟨opY 28 .geq 27 (.int .i64 0), false, 0, 0, 3⟩,⟨opM 29 28, false, 0, 0, 7⟩,⟨opG 30 0 29 true, false, 0, 0, 15⟩,⟨⟨some 31,.nilc (sT 30), (some (29, true))⟩, false, 0, 0, 31⟩,⟨opK 32 2 31 29 true, false, 0, 0, 63⟩,⟨opH 33 32 29 true, false, 0, 0, 127⟩,⟨opK 34 14 5 29 true, false, 0, 0, 15⟩,⟨opH 35 34 29 true, false, 0, 0, 271⟩,⟨⟨some 36,.iaddr 1 (sT 33) (sT 35), (some (29, true))⟩, false, 0, 0, 1023⟩,⟨opH 37 36 29 true, false, 0, 0, 2047⟩,⟨⟨some 38,.un .not (sT 37), (some (29, true))⟩, false, 0, 0, 4095⟩,⟨⟨some 39,.pick (sT 29) (sT 38) (.val (.bool false)),none⟩, false, 0, 0, 8191⟩]) (.cond (sT 39) (.seq (.qregion [⟨opM 40 0, false, 0, 0, 0⟩,⟨⟨some 41,.nilc (sT 40),none⟩, false, 0, 0, 1⟩,⟨opF 42 2 41, false, 0, 0, 3⟩,⟨opL 43 42, false, 0, 0, 7⟩,⟨opF 44 14 5, false, 0, 0, 0⟩,⟨opL 45 44, false, 0, 0, 16⟩,⟨opI 46 1 43 45, false, 0, 0, 63⟩,⟨⟨none, .store 1 (sT 46) (.val (.bool true)),none⟩, true, 0, 0, 127⟩]) (.qregion [⟨opM 47 0, false, 0, 0, 0⟩,⟨opM 48 0, false, 0, 0, 0⟩,⟨⟨some 49,.nilc (sT 48),none⟩, false, 0, 0, 2⟩,⟨opF 50 0 49, false, 0, 0, 6⟩,⟨opL 51 50, false, 0, 0, 14⟩,⟨⟨some 52,.nilc (sT 51),none⟩, false, 0, 0, 30⟩,⟨opF 53 3 52, false, 0, 0, 62⟩,⟨opL 54 53, false, 0, 0, 126⟩,⟨opF 55 14 5, false, 0, 0, 0⟩,⟨opL 56 55, false, 0, 0, 256⟩,⟨opI 57 1 54 56, false, 0, 0, 1022⟩,⟨opL 58 57, false, 0, 0, 2046⟩,⟨opC 59 121 [.tmp 47, .tmp 58], true, 0, 0, 4095⟩])) .skip)) (.seq (.qregion [⟨opM 60 0, false, 0, 0, 0⟩,⟨⟨some 61,.nilc (sT 60),none⟩, false, 0, 0, 1⟩,⟨opF 62 0 61, false, 0, 0, 3⟩,⟨opL 63 62, false, 0, 0, 7⟩,⟨opN 64 17 5, false, 0, 0, 0⟩,⟨opC 65 120 [.tmp 63, .tmp 64], false, 0, 0, 31⟩,⟨⟨some 66,.un .not (sT 65),none⟩, false, 0, 0, 63⟩]) (.cond (sT 66) .ret .skip)))))))) (.region [opY 67 .add 8 (.int .i64 1),opM 8 67])))))))
def r281 : List SRes := []
theorem c281 : Code1 Tryz.prog 121 s281 r281 68 := ⟨⟨Tryz.f121, _, Tryz.func121, rfl, rfl, by kernel_rfl, by kernel_rfl⟩, by kernel_rfl, by kernel_rfl⟩
def s282 : SCode := (.seq (.region [⟨some 3,.box (sT 0),none⟩,opW 4 (.bool false)]) (.seq (.seq (.region [opF 6 14 3,opL 7 6,opY 8 .geq 7 (.int .i64 0)]) (.cond (sT 8) (.seq (.region [opF 9 1 3,opF 10 12 9,opL 11 10,opL 12 1,opC 13 124 [.tmp 11, .tmp 12],opM 5 13]) (.seq (.region [opM 14 5,opY 15 .geq 14 (.int .i64 0),opM 16 15,opH 17 2 16 true,opK 18 14 3 16 true,opH 19 18 16 true,⟨some 20,.iaddr 1 (sT 17) (sT 19), (some (16, true))⟩,opH 21 20 16 true,opG 22 5 16 true,⟨some 23,.iaddr 1 (sT 21) (sT 22), (some (16, true))⟩,opH 24 23 16 true,⟨some 25,.pick (sT 16) (sT 24) (.val (.bool false)),none⟩,opM 4 25])
 .ret)) .skip)) (.seq (.qregion [⟨opF 26 1 3, false, 0, 0, 0⟩,⟨opN 27 13 26, false, 0, 0, 1⟩,⟨opC 28 125 [.tmp 27], false, 0, 0, 3⟩,⟨opL 29 1, false, 0, 0, 0⟩,⟨opC 30 51 [.tmp 28, .tmp 29], false, 0, 0, 15⟩,⟨opM 31 30, false, 0, 0, 31⟩,⟨opK 32 15 3 31 false, false, 0, 0, 63⟩,⟨opH 33 32 31 false, false, 0, 0, 127⟩,⟨opH 34 1 31 false, false, 0, 0, 63⟩,⟨opH 35 2 31 false, false, 0, 0, 63⟩,⟨⟨some 36,.call (.val (.clos 45 [] [])) [.tmp 33, .tmp 34, .tmp 35], (some (31, false))⟩, false, 0, 0, 1023⟩,⟨⟨some 37,.pick (sT 31) (.val (.bool true)) (sT 36),none⟩, false, 0, 0, 2047⟩,⟨opM 38 37, false, 0, 0, 4095⟩,⟨opK 39 16 3 38 false, false, 0, 0, 8191⟩,⟨opH 40 39 38 false, false, 0, 0, 16383⟩,⟨opH 41 1 38 false, false, 0, 0, 8191⟩,⟨opH 42 2 38 false, false, 0, 0, 8191⟩,⟨⟨some 43,.call (.val (.clos 45 [] [])) [.tmp 40, .tmp 41, .tmp 42], (some (38, false))⟩, false, 0, 0, 131071⟩,⟨⟨some 44,.pick (sT 38) (.val (.bool true)) (sT 43),none⟩, false, 0, 0, 262143⟩,⟨opM 4 44, false, 0, 0, 524287⟩])
 .ret)))
def r282 : List SRes := [.tmp 4]
theorem c282 : Code1 Tryz.prog 123 s282 r282 45 := ⟨⟨Tryz.f123, _, Tryz.func123, rfl, rfl, by kernel_rfl, by kernel_rfl⟩, by kernel_rfl, by kernel_rfl⟩
def s283 : SCode := (.seq (.region [⟨some 3,.box (sT 0),none⟩,opW 4 (.bool false)]) (.seq (.qregion [⟨opL 5 1, false, 0, 0, 0⟩,⟨opN 6 2 2, false, 0, 0, 0⟩,⟨opF 7 11 3, false, 0, 0, 0⟩,⟨opL 8 7, false, 0, 0, 4⟩,⟨opC 9 52 [.tmp 6, .tmp 8], false, 0, 0, 14⟩,⟨⟨some 10,.mlook (false, [false]) false (.bool false) (sT 5) (sT 9),none⟩, false, 0, 0, 31⟩,⟨opM 4 10, false, 0, 0, 63⟩])
 .ret))
def r283 : List SRes := [.tmp 4]
theorem c283 : Code1 Tryz.prog 131 s283 r283 11 := ⟨⟨Tryz.f131, _, Tryz.func131, rfl, rfl, by kernel_rfl, by kernel_rfl⟩, by kernel_rfl, by kernel_rfl⟩
def s284 : SCode := (.seq (.region [opW 4 (.bool false)]) (.seq (.region [opM 5 0,opM 6 1,opC 7 183 [.tmp 5, .tmp 6],opY 8 .geq 7 (.int .i64 0),opM 4 8])
 .ret))
def r284 : List SRes := [.tmp 4]
theorem c284 : Code1 Tryz.prog 132 s284 r284 9 := ⟨⟨Tryz.f132, _, Tryz.func132, rfl, rfl, by kernel_rfl, by kernel_rfl⟩, by kernel_rfl, by kernel_rfl⟩
def s285 : SCode := (.seq (.region [⟨some 4,.box (sT 0),none⟩,opW 5 (.bool false)]) (.seq (.block 0 (.seq (.region [opL 7 1,opN 8 13 4,⟨some 9,.call (sT 7) [.tmp 8],none⟩,opM 6 9]) (.cond (sT 6) (.seq (.region [opW 5 (.bool true)])
 .ret) (.seq (.region [opF 11 0 4,opL 12 11,opY 13 .eql 12 (.int .i64 4),opM 10 13]) (.cond (sT 10) (.seq (.region [opN 14 2 2,opF 15 9 4,opL 16 15,opL 17 3,opL 18 1,opC 19 54 [.tmp 14, .tmp 16, .tmp 17, .tmp 18],⟨some 20,.un .not (sT 19),none⟩,opM 21 20,⟨some 22,.load true 2 (sT 2), (some (21, true))⟩,opK 23 10 4 21 true,opH 24 23 21 true,opH 25 3 21 true,opH 26 1 21 true,⟨some 27,.call (.val (.clos 54 [] [])) [.tmp 22, .tmp 24, .tmp 25, .tmp 26], (some (21, true))⟩,⟨some 28,.un .not (sT 27), (some (21, true))⟩,⟨some 29,.pick (sT 21) (sT 28) (.val (.bool false)),none⟩,opM 5 29])
 .ret) (.seq (.region [opF 31 0 4,opL 32 31,opY 33 .eql 32 (.int .i64 5),opM 30 33]) (.cond (sT 30) (.seq (.region [opL 34 3,opN 35 13 4,⟨some 36,.call (sT 34) [.tmp 35],none⟩,⟨some 37,.un .not (sT 36),none⟩,opM 5 37])
 .ret) .skip))))))) (.seq (.region [opW 5 (.bool false)])
 .ret)))
def r285 : List SRes := [.tmp 5]
theorem c285 : Code1 Tryz.prog 133 s285 r285 38 := ⟨⟨Tryz.f133, _, Tryz.func133, rfl, rfl, by kernel_rfl, by kernel_rfl⟩, by kernel_rfl, by kernel_rfl⟩
def s286 : SCode := (.seq (.region [opL 4 1,opM 5 0,⟨some 6,.mlook (false, [false]) false (.bool false) (sT 4) (sT 5),none⟩,⟨some 7,.un .not (sT 6),none⟩]) (.cond (sT 7) (.seq (.region [opL 8 1,opM 9 0,⟨none, .mset (false, [false]) (sT 8) (sT 9) (.val (.bool true)),none⟩]) (.region [opL 10 2,opM 11 0,⟨some 12,.buildF 1 [.tmp 11],none⟩,⟨some 13,.append 1 8 (sT 10) (sT 12),none⟩,⟨none, .store 1 (sT 2) (sT 13),none⟩])) .skip))
def r286 : List SRes := []
theorem c286 : Code1 Tryz.prog 134 s286 r286 14 := ⟨⟨Tryz.f134, _, Tryz.func134, rfl, rfl, by kernel_rfl, by kernel_rfl⟩, by kernel_rfl, by kernel_rfl⟩
def s287 : SCode := (.seq (.region [⟨some 4,.box (sT 0),none⟩,⟨some 6,.box (sT 2),none⟩,opW 8 (.nils)]) (.seq (.region [opW 9 (.nils)]) (.seq (.seq (.region [opM 12 1,opE 13 12,opW 14 (.int .i64 0)]) (.block 0 (.loop (.seq (.region [opB 15 .lss 14 13]) (.seq (.cond (sT 15) .skip (.exit 0)) (.seq (.block 1 (.seq (.region [opI 16 13 12 14,opN 17 13 16,⟨some 11,.alloc (.agg [.int .i64 0, .str ⟨#[]⟩, .str ⟨#[]⟩, .str ⟨#[]⟩, .str ⟨#[]⟩, .int .i64 0, .int .i64 0, .str ⟨#[]⟩, .nils, .nils, .nils, .str ⟨#[]⟩, .nils]),none⟩,⟨none, .store 13 (sT 11) (sT 17),none⟩]) (.seq (.seq (.region [opF 18 0 11,opL 19 18,opY 20 .eql 19 (.int .i64 5)]) (.cond (sT 20) (.region [opM 21 3,opN 22 2 4,opF 23 11 11,opL 24 23,opC 25 52 [.tmp 22, .tmp 24],⟨some 26,.call (sT 21) [.tmp 25],none⟩]) .skip)) (.seq (.qregion [⟨opN 27 2 4, false, 0, 0, 0⟩,⟨opF 28 9 11, false, 0, 0, 0⟩,⟨opL 29 28, false, 0, 0, 2⟩,⟨opL 30 6, false, 0, 0, 0⟩,⟨opM 31 3, false, 0, 0, 0⟩,⟨opC 32 135 [.tmp 27, .tmp 29, .tmp 30, .tmp 31], true, 0, 0, 31⟩,⟨opN 33 2 4, false, 0, 1, 0⟩,⟨opF 34 10 11, false, 0, 1, 0⟩,⟨opL 35 34, false, 0, 1, 128⟩,⟨opL 36 6, false, 0, 1, 0⟩,⟨opM 37 3, false, 0, 1, 0⟩,⟨opC 38 135 [.tmp 33, .tmp 35, .tmp 36, .tmp 37], true, 0, 0, 2047⟩,⟨opF 39 9 11, false, 1, 2, 447⟩,⟨⟨none, .store 1 (sT 39) (sT 32),none⟩, true, 0, 0, 8191⟩,⟨opF 40 10 11, false, 3, 3, 16383⟩,⟨⟨none, .store 1 (sT 40) (sT 38),none⟩, true, 0, 0, 32767⟩]) (.seq (.region [opM 41 9,opN 42 13 11,⟨some 43,.buildF 13 [.tmp 42],none⟩,⟨some 44,.append 13 216 (sT 41) (sT 43),none⟩,opM 9 44]) (.seq (.region [opN 45 2 4,opN 46 13 11,⟨some 47,.buildF 13 [.tmp 46],none⟩,⟨some 48,.mkfn 184 [] [.tmp 6, .tmp 4],none⟩,⟨some 49,.call (.val (.clos 54 [] [])) [.tmp 45, .tmp 47, .tmp 48, .val (.clos 56 [] [])],none⟩,⟨some 50,.un .not (sT 49),none⟩]) (.cond (sT 50) (.exit 0) .skip))))))) (.region [opY 51 .add 14 (.int .i64 1),opM 14 51]))))))) (.seq (.region [opM 52 9,opM 8 52])
 .ret))))
def r287 : List SRes := [.tmp 8]
theorem c287 : Code1 Tryz.prog 135 s287 r287 53 := ⟨⟨Tryz.f135, _, Tryz.func135, rfl, rfl, by kernel_rfl, by kernel_rfl⟩, by kernel_rfl, by kernel_rfl⟩
def s289 : SCode := (.seq (.region [⟨some 1,.box (sT 0),none⟩,opW 2 (.nilf)]) (.seq (.region [⟨some 3,.mkfn 186 [] [.tmp 1],none⟩,opM 2 3])
 .ret))
def r289 : List SRes := [.tmp 2]
theorem c289 : Code1 Tryz.prog 137 s289 r289 4 := ⟨⟨Tryz.f137, _, Tryz.func137, rfl, rfl, by kernel_rfl, by kernel_rfl⟩, by kernel_rfl, by kernel_rfl⟩
def s317 : SCode := (.seq (.region [⟨some 3,.box (sT 0),none⟩,opW 6 (.nils),opW 7 (.int .i64 0)]) (.seq (.region [opW 8 (.nils)]) (.seq (.seq (.region [opM 12 1,opE 13 12,opW 14 (.int .i64 0)]) (.block 0 (.loop (.seq (.region [opB 15 .lss 14 13]) (.seq (.cond (sT 15) .skip (.exit 0)) (.seq (.block 1 (.seq (.region [opI 16 13 12 14,opN 17 13 16,⟨some 10,.alloc (.agg [.int .i64 0, .str ⟨#[]⟩, .str ⟨#[]⟩, .str ⟨#[]⟩, .str ⟨#[]⟩, .int .i64 0, .int .i64 0, .str ⟨#[]⟩, .nils, .nils, .nils, .str ⟨#[]⟩, .nils]),none⟩,⟨none, .store 13 (sT 10) (sT 17),none⟩]) (.seq (.region [opM 18 2,opN 19 13 10,⟨some 20,.build [.int .i64 0, .int .i64 0, .str ⟨#[]⟩, .str ⟨#[]⟩, .str ⟨#[]⟩, .str ⟨#[]⟩, .int .i64 0, .int .i64 0, .str ⟨#[]⟩, .nils, .nils, .nils, .str ⟨#[]⟩, .nils, .int .i64 0, .nils, .nils] [(0, 1, .tmp 18), (1, 13, .tmp 19), (14, 1, .val (.int .i64 (-1)))],none⟩,⟨some 11,.alloc (.agg [.int .i64 0, .int .i64 0, .str ⟨#[]⟩, .str ⟨#[]⟩, .str ⟨#[]⟩, .str ⟨#[]⟩, .int .i64 0, .int .i64 0, .str ⟨#[]⟩, .nils, .nils, .nils, .str ⟨#[]⟩, .nils, .int .i64 0, .nils, .nils]),none⟩,⟨none, .store 17 (sT 11) (sT 20),none⟩]) (.seq (.seq (.region [opF 21 0 10,opL 22 21,opY 23 .eql 22 (.int .i64 5)]) (.cond (sT 23) (.region [opN 24 2 3,opF 25 11 10,opL 26 25,opC 27 192 [.tmp 24, .tmp 26],opF 28 14 11,⟨none, .store 1 (sT 28) (sT 27),none⟩]) .skip)) (.seq (.region [opN 30 2 3,opF 31 9 10,opL 32 31,opM 33 2,opY 34 .add 33 (.int .i64 1),opC 35 179 [.tmp 30, .tmp 32, .tmp 34],opM 29 35,⟨some 36,.extract (sT 29) 0,none⟩,⟨some 37,.extract (sT 29) 1,none⟩,opF 38 15 11,⟨none, .store 1 (sT 38) (sT 36),none⟩,opM 2 37]) (.seq (.region [opN 40 2 3,opF 41 10 10,opL 42 41,opM 43 2,opC 44 179 [.tmp 40, .tmp 42, .tmp 43],opM 39 44,⟨some 45,.extract (sT 39) 0,none⟩,⟨some 46,.extract (sT 39) 1,none⟩,opF 47 16 11,⟨none, .store 1 (sT 47) (sT 45),none⟩,opM 2 46]) (.region [opM 48 8,opN 49 17 11,⟨some 50,.buildF 17 [.tmp 49],none⟩,⟨some 51,.append 17 280 (sT 48) (sT 50),none⟩,opM 8 51]))))))) (.region [opY 52 .add 14 (.int .i64 1),opM 14 52]))))))) (.seq (.region [opM 53 8,opM 54 2,opM 6 53,opM 7 54])
 .ret))))
def r317 : List SRes := [.tmp 6, .tmp 7]
theorem c317 : Code1 Tryz.prog 179 s317 r317 55 := ⟨⟨Tryz.f179, _, Tryz.func179, rfl, rfl, by kernel_rfl, by kernel_rfl⟩, by kernel_rfl, by kernel_rfl⟩
def s318 : SCode := (.seq (.region [opW 4 (.int .i64 0)]) (.seq (.seq (.region [opM 6 0,opE 7 6,opW 8 (.int .i64 0)]) (.block 0 (.loop (.seq (.region [opB 9 .lss 8 7]) (.seq (.cond (sT 9) .skip (.exit 0)) (.seq (.block 1 (.seq (.region [opM 10 8,opM 5 10]) (.seq (.region [opM 11 1,opM 12 0,opM 13 5,opI 14 17 12 13,opN 15 17 14,⟨some 16,.call (sT 11) [.tmp 15],none⟩]) (.cond (sT 16) (.seq (.region [opM 17 5,opM 4 17])
 .ret) .skip)))) (.region [opY 18 .add 8 (.int .i64 1),opM 8 18]))))))) (.seq (.region [opW 4 (.int .i64 (-1))])
 .ret)))
def r318 : List SRes := [.tmp 4]
theorem c318 : Code1 Tryz.prog 180 s318 r318 19 := ⟨⟨Tryz.f180, _, Tryz.func180, rfl, rfl, by kernel_rfl, by kernel_rfl⟩, by kernel_rfl, by kernel_rfl⟩
def s319 : SCode := (.seq (.region [opW 4 (.int .i64 0)]) (.seq (.seq (.region [opM 6 0,opE 7 6,opW 8 (.int .i64 0)]) (.block 0 (.loop (.seq (.region [opB 9 .lss 8 7]) (.seq (.cond (sT 9) .skip (.exit 0)) (.seq (.block 1 (.seq (.region [opM 10 8,opM 5 10]) (.seq (.region [opM 11 1,opM 12 0,opM 13 5,opI 14 13 12 13,opN 15 13 14,⟨some 16,.call (sT 11) [.tmp 15],none⟩]) (.cond (sT 16) (.seq (.region [opM 17 5,opM 4 17])
 .ret) .skip)))) (.region [opY 18 .add 8 (.int .i64 1),opM 8 18]))))))) (.seq (.region [opW 4 (.int .i64 (-1))])
 .ret)))
def r319 : List SRes := [.tmp 4]
theorem c319 : Code1 Tryz.prog 183 s319 r319 19 := ⟨⟨Tryz.f183, _, Tryz.func183, rfl, rfl, by kernel_rfl, by kernel_rfl⟩, by kernel_rfl, by kernel_rfl⟩
def s320 : SCode := (.seq (.region [⟨some 3,.box (sT 0),none⟩,opW 4 (.bool false)]) (.seq (.qregion [⟨opL 5 1, false, 0, 0, 0⟩,⟨opN 6 2 2, false, 0, 0, 0⟩,⟨opF 7 11 3, false, 0, 0, 0⟩,⟨opL 8 7, false, 0, 0, 4⟩,⟨opC 9 52 [.tmp 6, .tmp 8], false, 0, 0, 14⟩,⟨⟨some 10,.mlook (false, [false]) false (.bool false) (sT 5) (sT 9),none⟩, false, 0, 0, 31⟩,⟨opM 4 10, false, 0, 0, 63⟩])
 .ret))
def r320 : List SRes := [.tmp 4]
theorem c320 : Code1 Tryz.prog 184 s320 r320 11 := ⟨⟨Tryz.f184, _, Tryz.func184, rfl, rfl, by kernel_rfl, by kernel_rfl⟩, by kernel_rfl, by kernel_rfl⟩
def num : List St → Int → List (St × Int)
 | [], _ => []
 | s :: l, n => (s, n) :: num l (n + cnt s)
theorem num_append : ∀ (a b : List St) (n : Int), num (a ++ b) n = num a n ++ num b (n + cnts a)
 | [], b, n => by simp [num, cnts]
 | x :: a, b, n => by
  rw [List.cons_append, num, num, num_append a b, cnts, List.cons_append]
  congr 3; omega
theorem num_length : ∀ (l : List St) (n : Int), (num l n).length = l.length
 | [], n => rfl
 | x :: l, n => by simp [num, num_length l]
mutual
def encN' (X : List Pr) : St → Int → V
 | .mk k r t v l (.mk ek en es eas) a b p ps, n => .agg [.int .i64 n, .int .i64 k, .str r, .str t, .str v, .str l, .int .i64 ek, .int .i64 en, .str es, .fs (eas.map encE), .fs (a.map encS), .fs (b.map encS), .str p, .fs (ps.map .str), .int .i64 (kI X k p), .fs (encNs X a (n + 1)), .fs (encNs X b (n + 1 + cnts a))]
def encNs (X : List Pr) : List St → Int → List V
 | [], _ => []
 | s :: l, n => encN' X s n :: encNs X l (n + cnt s)
end
def encN (X : List Pr) (x : St × Int) : V := encN' X x.1 x.2
theorem encNs_num (X : List Pr) : ∀ (l : List St) (n : Int), encNs X l n = (num l n).map (encN X)
 | [], n => rfl
 | s :: l, n => by rw [encNs, num, List.map_cons, encNs_num X l]; rfl
theorem encN_mk (X : List Pr) (k : Int) (r t v l : ByteArray) (ek en : Int) (es : ByteArray) (eas : List Ex) (a b : List St) (p : ByteArray) (ps : List ByteArray) (n : Int) :
  encN X (.mk k r t v l (.mk ek en es eas) a b p ps, n) = .agg [.int .i64 n, .int .i64 k, .str r, .str t, .str v, .str l, .int .i64 ek, .int .i64 en, .str es, .fs (eas.map encE), .fs (a.map encS), .fs (b.map encS), .str p, .fs (ps.map .str), .int .i64 (kI X k p), .fs ((num a (n + 1)).map (encN X)), .fs ((num b (n + 1 + cnts a)).map (encN X))] := by
 rw [encN, encN', encNs_num, encNs_num]
mutual
theorem noref_encN' (X : List Pr) : ∀ (s : St) (n : Int), noref (encN' X s n) = true
 | .mk k r t v l (.mk ek en es eas) a b p ps, n => by simp [encN', noref, norefL, norefL_encE, norefL_encS, norefL_str, norefL_encNs X a, norefL_encNs X b]
theorem norefL_encNs (X : List Pr) : ∀ (l : List St) (n : Int), norefL (encNs X l n) = true
 | [], n => by simp [encNs, norefL]
 | s :: l, n => by simp [encNs, norefL, noref_encN' X s, norefL_encNs X l]
end
theorem noref_encN (X : List Pr) (x : St × Int) : noref (encN X x) = true := noref_encN' X x.1 x.2
theorem norefL_encN (X : List Pr) (l : List (St × Int)) : norefL (l.map (encN X)) = true := norefL_mapf (noref_encN X) l
theorem fz_encN (H : List Blk) (n : Nat) (X : List Pr) (x : St × Int) : fz H (n + 2) (encN X x) = some (encN X x) := by
 obtain ⟨s, i⟩ := x
 rcases s with ⟨k, r, t, v, l, ⟨ek, en, es, eas⟩, a, b, p, ps⟩
 simp [encN_mk, fz_agg, fzL_cons, fzL_nil, fz_int, fz_str, fz_fs, norefL_encE, norefL_encS, norefL_str, norefL_encN, fzC_some]
attribute [push_cast] norefL_encN fz_encN
attribute [simp] norefL_encN noref_encN
theorem headOk_N (X : List Pr) (l : List (St × Int)) : headOk 17 (l.map (encN X)) := by
 intro e he
 cases l with
 | nil => simp at he
 | cons x l =>
  simp at he; subst he
  obtain ⟨s, i⟩ := x
  rcases s with ⟨k, r, t, v, l, ⟨ek, en, es, eas⟩, a, b, p, ps⟩
  rw [encN_mk]; rfl
set_option maxRecDepth 20000 in
theorem t317s (P : Pla) (xs : List St) (n : Int) (hn0 : 0 ≤ n) (hn : n + cnts xs ≤ 1000000)
  (h : ∀ k r t v l e a b p ps, St.mk k r t v l e a b p ps ∈ xs → ∀ n : Int, 0 ≤ n →
   (n + cnts a ≤ 1000000 → PCall Tryz.prog 179 [encPl P, .fs (a.map encS), .int .i64 n] (·= .tup [.fs ((num a n).map (encN P.procs)), .int .i64 (n + cnts a)])) ∧
   (n + cnts b ≤ 1000000 → PCall Tryz.prog 179 [encPl P, .fs (b.map encS), .int .i64 n] (·= .tup [.fs ((num b n).map (encN P.procs)), .int .i64 (n + cnts b)]))) :
  PCall Tryz.prog 179 [encPl P, .fs (xs.map encS), .int .i64 n] (·= .tup [.fs ((num xs n).map (encN P.procs)), .int .i64 (n + cnts xs)]) := by
 have hlw := len_cnts xs
 have h65 := fun p => t65 P p
 simp only [encPl] at h h65 ⊢
 refine PCall.intro c317 400 (by simp) 20 ?_
 simp -implicitDefEqProofs only [s317, go_sem]
 intro hlen
 refine F_loop (fun m e H => ∃ pre post kv, xs = pre ++ post ∧ m = post.length ∧ e 2 = .int .i64 (n + cnts pre) ∧ e 3 = .ptr 0 0 0 ∧ e 8 = kv ∧ e 12 = .fs (xs.map encS) ∧ e 13 = .int .i64 xs.length ∧ e 14 = .int .i64 pre.length ∧ OV H kv ((num pre n).map (encN P.procs)) ∧ kvne kv 0 ∧ H[0]? = some (.row [.agg [.fs (P.procs.map encP), .fs (P.main.map encS)]])) xs.length ⟨[], xs, .nils, by simp [upd, env0, cnts], rfl, by simp [upd, env0, cnts], by simp [upd, env0], by simp [upd, env0], by simp [upd, env0], by simp [upd, env0], by simp [upd, env0], .inl ⟨rfl, rfl⟩, (fun a b h => by cases h), rfl⟩ ?_
 rintro m e H ⟨pre, post, kv, hxs, rfl, h2, h3, h8, h12, h13, h14, hov, hk0, hH0⟩
 cases post with
 | nil =>
  have hpx : pre = xs := by rw [hxs]; simp
  simp -implicitDefEqProofs only [h2, h3, h8, h12, h13, h14, mid_not hxs, go_sem]
  have hz : fz H 19 kv = _ := fz_OV (f := encN P.procs) (n := 17) (fun H x => fz_encN H 16 P.procs x) hov
  rw [hpx] at hz
  simp -implicitDefEqProofs only [r317, hz, push_cast, go_sem_proc]
  rw [hpx]
 | cons y post =>
  have hg := mid_get encS hxs
  have hcy : cnts xs = cnts pre + (cnt y + cnts post) := by rw [hxs, cnts_append, cnts]
  have hpl : pre.length ≤ xs.length := by rw [hxs]; simp
  have hnl := num_length pre n
  rcases y with ⟨k, r, t, v, l, ⟨ek, en, es, eas⟩, a, b, p, ps⟩
  have hfy : num (pre ++ [.mk k r t v l (.mk ek en es eas) a b p ps]) n = num pre n ++ [(.mk k r t v l (.mk ek en es eas) a b p ps, n + cnts pre)] := by
   rw [num_append]; rfl
  simp only [cnt] at hcy
  have hh := h k r t v l (.mk ek en es eas) a b p ps (by rw [hxs]; simp)
  have ha := (hh (n + cnts pre + 1) (by omega)).1 (by omega)
  have hb := (hh (n + cnts pre + 1 + cnts a) (by omega)).2 (by omega)
  have h65 := h65 p
  have hcc : cnts (pre ++ [.mk k r t v l (.mk ek en es eas) a b p ps]) = cnts pre + (1 + cnts a + cnts b) := by rw [cnts_append]; simp [cnts, cnt]
  have hen := encN_mk P.procs k r t v l ek en es eas a b p ps (n + cnts pre)
  have hki : kI P.procs k p = if k = 5 then procI P.procs p else -1 := rfl
  generalize kI P.procs k p = ki at *
  rw [encS_mk] at hg
  have w1 := wrap_int (x := n + cnts pre + 1) (by omega) (by omega)
  have hl0 : 0 < H.length := (List.getElem?_eq_some_iff.1 hH0).1
  have hHa : ∀ l : List Blk, (H ++ l)[0]? = some (.row [.agg [.fs (P.procs.map encP), .fs (P.main.map encS)]]) := fun l => by rw [List.getElem?_append_left hl0]; exact hH0
  simp -implicitDefEqProofs only [h2, h3, h8, h12, h13, h14, mid_lt hxs, mid_wrap hxs hlen, hg, w1, hH0, hHa, go_sem]
  repeat' (first | ((first | ((with_reducible first | refine cgR h65 ?_ ?_ | refine cgR ha ?_ ?_ | refine cgR hb ?_ ?_); (·simp [norefL, noref, nrb])) | ((with_reducible apply cgF); (·simp -implicitDefEqProofs only [List.map_cons, List.map_nil, push_cast, go_sem_proc] <;> rfl); (with_reducible first | exact h65 | exact ha | exact hb); (·rfl)) | (with_reducible refine F_q2 ?_)); simp -implicitDefEqProofs only [h2, h3, h8, h12, h13, h14, mid_lt hxs, mid_wrap hxs hlen, hg, w1, hH0, hHa, go_sem]) | (with_reducible refine Fork.mk ?_ ?_) | (with_reducible refine And.intro ?_ ?_) | ((with_reducible refine rpI ?_); simp -implicitDefEqProofs only [r317, push_cast, go_sem_proc]) | intro _)
  all_goals
   rename_i hk5
   first | rw [hki, if_pos (of_decide_eq_true hk5)] at hen | rw [hki, if_neg (of_decide_eq_false hk5)] at hen
   refine app_OV (hov.app _) (fun i o l h => by cases h) (headOk_N _ _) (by simp [hnl]; omega) ?_
   rintro kv' H' hov' hle hfr
   obtain ⟨hf0, hn0'⟩ := hfr 0 (by simp) hk0
   rw [hHa] at hf0
   simp -implicitDefEqProofs only [h2, h3, h8, h12, h13, h14, mid_lt hxs, mid_wrap hxs hlen, hg, hf0, go_sem]
   refine ⟨_, Nat.lt_succ_self _, pre ++ [.mk k r t v l (.mk ek en es eas) a b p ps], post, kv', by simp [hxs], rfl, ?_, rfl, by simp, ?_, hn0'⟩
   ·rw [hcc]; simp only [Int.natCast_add, Int.natCast_one]; congr 1; omega
   ·rw [hfy, List.map_append, List.map_cons, List.map_nil, hen]; exact hov'
theorem norefL_bool (E : List Bool) : norefL (E.map .bool) = true := norefL_mapf (fun x => by simp [noref]) E
attribute [simp] norefL_bool
theorem t318 (X : List Pr) (xs : List (St × Int)) (g : FuncId) (first caps : List V) (p : St × Int → Bool) (hn : norefL first = true) (hn' : norefL caps = true)
  (h : ∀ x ∈ xs, PCall Tryz.prog g (first ++ [encN X x] ++ caps) (·= .bool (p x))) : PCall Tryz.prog 180 [.fs (xs.map (encN X)), .clos g first caps] (·= .int .i64 (ixF p xs 0)) := by
 refine PCall.intro c318 200 (by simp) 20 ?_
 simp -implicitDefEqProofs only [s318, go_sem]
 intro hlen
 refine F_loop (fun m e H => ∃ pre post, xs = pre ++ post ∧ m = post.length ∧ (∀ y ∈ pre, p y = false) ∧ e 0 = .fs (xs.map (encN X)) ∧ e 1 = .clos g first caps ∧ e 7 = .int .i64 xs.length ∧ e 8 = .int .i64 pre.length) xs.length ⟨[], xs, by simp [upd, env0]⟩ ?_
 rintro m e H ⟨pre, post, hxs, rfl, hp, h0, h1, h7, h8⟩
 cases post with
 | nil =>
  simp -implicitDefEqProofs only [h0, h1, h7, h8, mid_not hxs, decide_false, go_sem]
  simp -implicitDefEqProofs only [r318, push_cast, go_sem_proc]
  rw [hxs, ixF_append _ pre [] 0 hp]; rfl
 | cons y post =>
  have hg := mid_get (encN X) hxs
  have hy := h y (by simp [hxs])
  have hyc : ∃ k r t v l ek en es eas a b q ps n, y = (.mk k r t v l (.mk ek en es eas) a b q ps, n) := by
   obtain ⟨s, n⟩ := y
   rcases s with ⟨k, r, t, v, l, ⟨ek, en, es, eas⟩, a, b, q, ps⟩
   exact ⟨_, _, _, _, _, _, _, _, _, _, _, _, _, _, rfl⟩
  obtain ⟨k, r, t, v, l, ek, en, es, eas, a, b, q, ps, n, rfl⟩ := hyc
  rw [encN_mk] at hg hy
  simp -implicitDefEqProofs only [h0, h1, h7, h8, mid_lt hxs, hg, mid_wrap hxs hlen, decide_true, go_sem]
  simp only [List.append_assoc, List.cons_append, List.nil_append] at hy
  refine call_eqR (by simp [norefL_app, norefL, noref, hn, hn', norefL_encE, norefL_encS, norefL_encN, norefL_str]) hy ?_
  simp -implicitDefEqProofs only [h0, h1, h7, h8, mid_lt hxs, hg, mid_wrap hxs hlen, decide_true, go_sem]
  refine ⟨fun hc => ?_, fun hc => ?_⟩
  ·simp -implicitDefEqProofs only [r318, push_cast, go_sem_proc]
   rw [hxs, ixF_append _ pre _ 0 hp, ixF, hc]; simp
  ·exact ⟨_, Nat.lt_succ_self _, pre ++ [_], post, by simp [hxs]; rfl, rfl, fun z hz => by rcases List.mem_append.1 hz with hz | hz; exact hp z hz; simp at hz; subst hz; exact hc, by simp⟩
theorem t278 (X : List Pr) (xs : List (St × Int)) (g : FuncId) (first caps : List V) (p : St × Int → Bool) (hn : norefL first = true) (hn' : norefL caps = true)
  (h : ∀ x ∈ xs, PCall Tryz.prog g (first ++ [encN X x] ++ caps) (·= .bool (p x))) : PCall Tryz.prog 118 [.fs (xs.map (encN X)), .clos g first caps] (·= .bool (xs.any p)) := by
 refine PCall.intro c278 200 (by simp) 20 ?_
 simp -implicitDefEqProofs only [s278, go_sem]
 refine call_eqR (by simp [norefL, noref, hn, hn', norefL_encN]) (t318 X xs g first caps p hn hn' h) ?_
 simp -implicitDefEqProofs only [go_sem]
 simp -implicitDefEqProofs only [r278, push_cast, go_sem_proc]
 exact ixF_nonneg _ _ _ (by omega)
def bkC (c0 c1 c2 c3 : V) (E : List Bool) : List V := [c0, c1, c2, c3, .fs (E.map .bool)]
mutual
def okS (X : List Pr) : St → Bool
 | .mk k _ _ _ _ _ a b p _ => (k != 5 || decide (0 ≤ procI X p)) && (okL X a && okL X b)
def okL (X : List Pr) : List St → Bool
 | [] => true
 | s :: l => okS X s && okL X l
end
theorem okL_mem {X : List Pr} : ∀ {l : List St}, okL X l = true → ∀ s ∈ l, okS X s = true
 | [], _, s, h => by simp at h
 | x :: l, h, s, hs => by
  simp only [okL, Bool.and_eq_true] at h
  rcases List.mem_cons.1 hs with rfl | hs
  ·exact h.1
  ·exact okL_mem h.2 s hs
theorem num_mem : ∀ {l : List St} {n : Int} {x : St × Int}, x ∈ num l n → x.1 ∈ l
 | [], n, x, h => by simp [num] at h
 | s :: l, n, x, h => by
  simp only [num, List.mem_cons] at h
  rcases h with rfl | h
  ·simp
  ·simp [num_mem h]
theorem procI_lt {X : List Pr} {p : ByteArray} (h : 0 ≤ procI X p) : (procI X p).toNat < X.length := by
 rcases ixF_zip (fun z : Pr => decide (z.name = p)) X 0 (by omega) with ⟨hI, _⟩ | ⟨pre, q, post, hxs, hI, _⟩
 ·rw [procI, hI] at h; omega
 ·rw [procI, hI, hxs]; simp
set_option maxRecDepth 20000 in
theorem t280s (X : List Pr) (E : List Bool) (hE : E.length = X.length) (c0 c1 c2 c3 : V) (h0 : noref c0 = true) (h1 : noref c1 = true) (h2 : noref c2 = true) (h3 : noref c3 = true)
  (k : Int) (r t v l : ByteArray) (ek en : Int) (es : ByteArray) (eas : List Ex) (a b : List St) (p : ByteArray) (ps : List ByteArray) (n : Int) (hok : okS X (.mk k r t v l (.mk ek en es eas) a b p ps) = true)
  (ha : PCall Tryz.prog 42 [.rptr (bkC c0 c1 c2 c3 E), .fs ((num a (n + 1)).map (encN X))] (·= .bool (thL (ecE X E) a)))
  (hb : PCall Tryz.prog 42 [.rptr (bkC c0 c1 c2 c3 E), .fs ((num b (n + 1 + cnts a)).map (encN X))] (·= .bool (thL (ecE X E) b))) :
  PCall Tryz.prog 120 [.rptr (bkC c0 c1 c2 c3 E), encN X (.mk k r t v l (.mk ek en es eas) a b p ps, n)] (·= .bool (thS (ecE X E) (.mk k r t v l (.mk ek en es eas) a b p ps))) := by
 simp only [bkC] at ha hb ⊢
 rw [encN_mk]
 simp only [okS, Bool.and_eq_true, Bool.or_eq_true, bne_iff_ne, ne_eq, decide_eq_true_eq] at hok
 refine PCall.intro c280 400 (by simp) 20 ?_
 by_cases h5 : k = 5
 ·subst h5
  have hp : 0 ≤ procI X p := by rcases hok.1 with h | h; exact absurd rfl h; exact h
  have hlt := procI_lt hp
  have hix : ixP (procI X p) E.length := ⟨hp, by omega⟩
  have hgb : (E.map V.bool).getD (procI X p).toNat .any = .bool (E.getD (procI X p).toNat false) := by
   simp [List.getD, List.getElem?_map, List.getElem?_eq_getElem (show (procI X p).toNat < E.length by omega)]
  have hki : kI X 5 p = procI X p := by simp [kI]
  have hec : ecE X E p = E.getD (procI X p).toNat false := by simp [ecE, show ¬ procI X p < 0 by omega]
  simp only [thS, hec, show ¬ (5 : Int) = 4 by decide, if_false, if_true]
  rw [hki]
  simp -implicitDefEqProofs only [s280, hgb, hix, Int.reduceEq, go_sem]
  repeat' (first | ((first | ((with_reducible first | refine cgR ha ?_ ?_ | refine cgR hb ?_ ?_); (·simp [norefL, noref, nrb, h0, h1, h2, h3])) | ((with_reducible apply cgF); (·simp -implicitDefEqProofs only [List.map_cons, List.map_nil, h0, h1, h2, h3, push_cast, go_sem_proc] <;> rfl); (with_reducible first | exact ha | exact hb); (·rfl)) | (with_reducible refine F_q2 ?_)); simp -implicitDefEqProofs only [hgb, hix, Int.reduceEq, go_sem]) | (with_reducible refine Fork.mk ?_ ?_) | (with_reducible refine And.intro ?_ ?_) | ((with_reducible refine rpI ?_); simp -implicitDefEqProofs only [r280, push_cast, go_sem_proc]) | intro _)
 ·have hki : kI X k p = -1 := by simp [kI, h5]
  simp only [thS, h5, if_false]
  simp -implicitDefEqProofs only [s280, h5, go_sem]
  repeat' (first | ((first | ((with_reducible first | refine cgR ha ?_ ?_ | refine cgR hb ?_ ?_); (·simp [norefL, noref, nrb, h0, h1, h2, h3])) | ((with_reducible apply cgF); (·simp -implicitDefEqProofs only [List.map_cons, List.map_nil, h0, h1, h2, h3, push_cast, go_sem_proc] <;> rfl); (with_reducible first | exact ha | exact hb); (·rfl)) | (with_reducible refine F_q2 ?_)); simp -implicitDefEqProofs only [h5, go_sem]) | (with_reducible refine Fork.mk ?_ ?_) | (with_reducible refine And.intro ?_ ?_) | ((with_reducible refine rpI ?_); simp -implicitDefEqProofs only [r280, push_cast, go_sem_proc]) | intro _)
  all_goals (try (generalize thL (ecE X E) a = A at *; generalize thL (ecE X E) b = B at *; simp_all))
theorem t230s (X : List Pr) (E : List Bool) (c0 c1 c2 c3 : V) (h0 : noref c0 = true) (h1 : noref c1 = true) (h2 : noref c2 = true) (h3 : noref c3 = true) (l : List St) (n : Int)
  (h : ∀ x ∈ num l n, PCall Tryz.prog 120 [.rptr (bkC c0 c1 c2 c3 E), encN X x] (·= .bool (thS (ecE X E) x.1))) :
  PCall Tryz.prog 42 [.rptr (bkC c0 c1 c2 c3 E), .fs ((num l n).map (encN X))] (·= .bool (thL (ecE X E) l)) := by
 simp only [bkC] at h ⊢
 have hbn : norefL (E.map V.bool) = true := norefL_mapf (fun x => by simp [noref]) E
 have h279 : ∀ x ∈ num l n, PCall Tryz.prog 119 ([] ++ [encN X x] ++ [.rptr [.rptr [c0, c1, c2, c3, .fs (E.map .bool)]]]) (·= .bool (!thS (ecE X E) x.1)) := by
  intro x hx
  have hx := h x hx
  obtain ⟨s, i⟩ := x
  rcases s with ⟨k, r, t, v, lb, ⟨ek, en, es, eas⟩, a, b, p, ps⟩
  rw [encN_mk] at hx ⊢
  simp only [List.nil_append, List.cons_append]
  refine PCall.intro c279 100 (by simp) 20 ?_
  simp -implicitDefEqProofs only [s279, go_sem]
  repeat' (first | ((first | ((with_reducible refine cgR hx ?_ ?_); (·simp [norefL, noref, nrb, h0, h1, h2, h3, hbn])) | ((with_reducible apply cgF); (·simp -implicitDefEqProofs only [List.map_cons, List.map_nil, h0, h1, h2, h3, hbn, push_cast, go_sem_proc] <;> rfl); (with_reducible exact hx); (·rfl)) | (with_reducible refine F_q2 ?_)); simp -implicitDefEqProofs only [go_sem]) | (with_reducible refine Fork.mk ?_ ?_) | (with_reducible refine And.intro ?_ ?_) | ((with_reducible refine rpI ?_); simp -implicitDefEqProofs only [r279, push_cast, go_sem_proc]) | intro _)
 have h278 := t278 X (num l n) 119 [] [.rptr [.rptr [c0, c1, c2, c3, .fs (E.map .bool)]]] (fun x => !thS (ecE X E) x.1) rfl (by simp [norefL, noref, h0, h1, h2, h3, hbn]) h279
 have hall : (num l n).any (fun x => !thS (ecE X E) x.1) = !thL (ecE X E) l := by
  rw [thL_all]
  clear h h279 h278
  induction l generalizing n with
  | nil => rfl
  | cons s l ih => simp only [num, List.any_cons, List.all_cons, ih, Bool.not_and]
 rw [hall] at h278
 refine PCall.intro c230 100 (by simp) 20 ?_
 simp -implicitDefEqProofs only [s230, go_sem]
 repeat' (first | ((first | ((with_reducible refine cgR h278 ?_ ?_); (·simp [norefL, noref, nrb, h0, h1, h2, h3, hbn])) | ((with_reducible apply cgF); (·simp -implicitDefEqProofs only [List.map_cons, List.map_nil, h0, h1, h2, h3, hbn, push_cast, go_sem_proc] <;> rfl); (with_reducible exact h278); (·rfl)) | (with_reducible refine F_q2 ?_)); simp -implicitDefEqProofs only [go_sem]) | (with_reducible refine Fork.mk ?_ ?_) | (with_reducible refine And.intro ?_ ?_) | ((with_reducible refine rpI ?_); simp -implicitDefEqProofs only [r230, push_cast, go_sem_proc]) | intro _)
 all_goals (try simp)
theorem t230 (X : List Pr) (E : List Bool) (hE : E.length = X.length) (c0 c1 c2 c3 : V) (h0 : noref c0 = true) (h1 : noref c1 = true) (h2 : noref c2 = true) (h3 : noref c3 = true) : ∀ (m : Nat) (l : List St), SizeOf.sizeOf l < m → okL X l = true → ∀ n : Int,
  PCall Tryz.prog 42 [.rptr (bkC c0 c1 c2 c3 E), .fs ((num l n).map (encN X))] (·= .bool (thL (ecE X E) l))
 | 0, l, h => absurd h (Nat.not_lt_zero _)
 | m + 1, l, hm => fun hok n => t230s X E c0 c1 c2 c3 h0 h1 h2 h3 l n (fun x hx => by
  have hmem := num_mem hx
  have hos := okL_mem hok _ hmem
  have hs := List.sizeOf_lt_of_mem hmem
  obtain ⟨s, i⟩ := x
  rcases s with ⟨k, r, t, v, lb, ⟨ek, en, es, eas⟩, a, b, p, ps⟩
  simp only [St.mk.sizeOf_spec] at hs
  have hos' := hos
  simp only [okS, Bool.and_eq_true] at hos'
  exact t280s X E hE c0 c1 c2 c3 h0 h1 h2 h3 k r t v lb ek en es eas a b p ps i hos (t230 X E hE c0 c1 c2 c3 h0 h1 h2 h3 m a (by omega) hos'.2.1 _) (t230 X E hE c0 c1 c2 c3 h0 h1 h2 h3 m b (by omega) hos'.2.2 _))
end Go.Proofs.YtdgoeblpcnjlbaaGreatDoor.Av
