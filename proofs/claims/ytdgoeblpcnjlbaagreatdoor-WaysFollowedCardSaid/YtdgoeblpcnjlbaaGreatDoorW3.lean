/- Proved: for every list of numbers the law WaysFollowed answers true and leaves its argument as it was (the tied card); no condition beyond the row's own. Text 3 of 15. -/
import Derived.Test.YtdgoeblpcnjlbaaGreatDoorW2
set_option linter.unusedVariables false
set_option linter.unusedSimpArgs false
set_option linter.unusedSectionVars false
set_option linter.all false
namespace Go.Proofs.YtdgoeblpcnjlbaaGreatDoor.Av
open Go.RowKit
mutual
def plain : V → Bool
  | .bool _ | .int _ _ | .str _ | .nilp | .nils | .emp | .nilmap | .nilf | .nili | .und | .any => true
  | .fs l => l.isEmpty
  | .agg l | .tup l => plainL l
  | _ => false
def plainL : List V → Bool
  | [] => true
  | v :: l => plain v && plainL l
end
mutual
theorem noref_rep {B B' : List Pl} {I : IM} : ∀ {x : V} {v : Value}, noref x = true → Rep B I x v → Rep B' I x v
  | .any, _, _, h => by simp [Rep]
  | .und, _, _, h => by simpa [Rep] using h
  | .bool _, _, _, h => by simpa [Rep] using h
  | .int _ _, _, _, h => by simpa [Rep] using h
  | .str _, _, _, h => by simpa [Rep] using h
  | .nilp, _, _, h => by simpa [Rep] using h
  | .ptr _ _ _, _, hn, _ => by simp [noref] at hn
  | .ms _ _ _, _, hn, _ => by simp [noref] at hn
  | .map _, _, hn, _ => by simp [noref] at hn
  | .rptr cells, _, hn, h => by
    simp only [Rep, noref] at *
    obtain ⟨b, o, h1, h2⟩ := h
    exact ⟨b, o, h1, noref_cells hn h2⟩
  | .nils, _, _, h => by simpa [Rep] using h
  | .emp, _, _, h => by simpa [Rep] using h
  | .fs elems, _, hn, h => by
    simp only [Rep, noref] at *
    obtain ⟨a, cap, h1, h2, h3, h4⟩ := h
    refine ⟨a, cap, h1, h2, h3, ?_⟩
    rcases h4 with h4 | ⟨b, o, sz, h5, h6⟩
    · exact .inl h4
    · exact .inr ⟨b, o, sz, h5, noref_elems hn h6⟩
  | .nilmap, _, _, h => by simpa [Rep] using h
  | .fmap ks vs, _, hn, h => by
    simp only [Rep, noref, Bool.and_eq_true] at *
    obtain ⟨b, es, clock, h1, h2, h0, h3, h4⟩ := h
    exact ⟨b, es, clock, h1, h2, h0, noref_repL hn.1 h3, noref_repL hn.2 h4⟩
  | .nilf, _, _, h => by simpa [Rep] using h
  | .clos f first caps, _, hn, h => by
    simp only [Rep, noref, Bool.and_eq_true] at *
    obtain ⟨fs, cs, h1, h2, h3⟩ := h
    exact ⟨fs, cs, h1, noref_repL hn.1 h2, noref_repL hn.2 h3⟩
  | .agg cells, _, hn, h => by
    simp only [Rep, noref] at *
    obtain ⟨cs, h1, h2⟩ := h
    exact ⟨cs, h1, noref_repL hn h2⟩
  | .tup cells, _, hn, h => by
    simp only [Rep, noref] at *
    obtain ⟨cs, h1, h2⟩ := h
    exact ⟨cs, h1, noref_repL hn h2⟩
  | .nili, _, _, h => by simpa [Rep] using h
  | .iface t x, _, hn, h => by
    simp only [Rep, noref] at *
    obtain ⟨u, h1, h2⟩ := h
    exact ⟨u, h1, noref_rep hn h2⟩
theorem noref_repL {B B' : List Pl} {I : IM} : ∀ {xs : List V} {l : List Value}, norefL xs = true → RepL B I xs l → RepL B' I xs l
  | [], _, _, h => by simpa [RepL] using h
  | c :: cs, _, hn, h => by
    simp only [RepL, norefL, Bool.and_eq_true] at *
    obtain ⟨v, vs, h1, h2, h3⟩ := h
    exact ⟨v, vs, h1, noref_rep hn.1 h2, noref_repL hn.2 h3⟩
theorem noref_cells {B B' : List Pl} {I : IM} : ∀ {xs : List V} {g : Nat → Option Value} {o : Nat}, norefL xs = true → CellsG B I xs g o → CellsG B' I xs g o
  | [], _, _, _, h => by simp [CellsG]
  | c :: cs, _, _, hn, h => by
    simp only [CellsG, norefL, Bool.and_eq_true] at *
    obtain ⟨⟨v, h1, h2⟩, h3⟩ := h
    exact ⟨⟨v, h1, noref_rep hn.1 h2⟩, noref_cells hn.2 h3⟩
theorem noref_elems {B B' : List Pl} {I : IM} : ∀ {xs : List V} {g : Nat → Option Value} {sz o : Nat}, norefL xs = true → ElemsG B I xs g sz o → ElemsG B' I xs g sz o
  | [], _, _, _, _, h => by simp [ElemsG]
  | .agg cs :: es, _, _, _, hn, h => by
    simp only [ElemsG, norefL, noref, Bool.and_eq_true] at *
    exact ⟨h.1, noref_cells hn.1 h.2.1, noref_elems hn.2 h.2.2⟩
  | e :: es, _, _, _, hn, h => by
    simp only [norefL, Bool.and_eq_true] at hn
    have he : ∀ v, Rep B I e v → Rep B' I e v := fun v hv => noref_rep hn.1 hv
    have hes := fun g sz o => noref_elems (B := B) (B' := B') (I := I) (xs := es) (g := g) (sz := sz) (o := o) hn.2
    cases e with
    | agg cs =>
      simp only [ElemsG, noref] at *
      exact ⟨h.1, noref_cells hn.1 h.2.1, hes _ _ _ h.2.2⟩
    | _ =>
      simp only [ElemsG] at *
      obtain ⟨h0, ⟨v, h1, h2⟩, h3⟩ := h
      exact ⟨h0, ⟨v, h1, he v h2⟩, hes _ _ _ h3⟩
end
mutual
theorem plain_rep {B B' : List Pl} {I I' : IM} : ∀ {x : V} {v : Value}, plain x = true → Rep B I x v → Rep B' I' x v
  | .any, _, _, h => by simp [Rep]
  | .und, _, _, h => by simpa [Rep] using h
  | .bool _, _, _, h => by simpa [Rep] using h
  | .int _ _, _, _, h => by simpa [Rep] using h
  | .str _, _, _, h => by simpa [Rep] using h
  | .nilp, _, _, h => by simpa [Rep] using h
  | .nils, _, _, h => by simpa [Rep] using h
  | .emp, _, _, h => by simpa [Rep] using h
  | .nilmap, _, _, h => by simpa [Rep] using h
  | .nilf, _, _, h => by simpa [Rep] using h
  | .nili, _, _, h => by simpa [Rep] using h
  | .fs elems, _, hn, h => by
    simp only [plain, List.isEmpty_iff] at hn
    subst hn
    simpa [Rep] using h
  | .agg cells, _, hn, h => by
    simp only [Rep, plain] at *
    obtain ⟨cs, h1, h2⟩ := h
    exact ⟨cs, h1, plain_repL hn h2⟩
  | .tup cells, _, hn, h => by
    simp only [Rep, plain] at *
    obtain ⟨cs, h1, h2⟩ := h
    exact ⟨cs, h1, plain_repL hn h2⟩
  | .ptr _ _ _, _, hn, _ => by simp [plain] at hn
  | .ms _ _ _, _, hn, _ => by simp [plain] at hn
  | .map _, _, hn, _ => by simp [plain] at hn
  | .rptr _, _, hn, _ => by simp [plain] at hn
  | .fmap _ _, _, hn, _ => by simp [plain] at hn
  | .clos _ _ _, _, hn, _ => by simp [plain] at hn
  | .iface _ _, _, hn, _ => by simp [plain] at hn
theorem plain_repL {B B' : List Pl} {I I' : IM} : ∀ {xs : List V} {l : List Value}, plainL xs = true → RepL B I xs l → RepL B' I' xs l
  | [], _, _, h => by simpa [RepL] using h
  | c :: cs, _, hn, h => by
    simp only [RepL, plainL, Bool.and_eq_true] at *
    obtain ⟨v, vs, h1, h2, h3⟩ := h
    exact ⟨v, vs, h1, plain_rep hn.1 h2, plain_repL hn.2 h3⟩
end
theorem fzL_spec {g : V → Option V} : ∀ {l l' : List V}, fzL g l = some l' → l'.length = l.length ∧ ∀ (j : Nat) x', l'[j]? = some x' → ∃ x, l[j]? = some x ∧ g x = some x'
  | [], l', h => by simp [fzL] at h; subst h; simp
  | v :: l, l', h => by
    simp only [fzL] at h
    split at h
    · rename_i x xs h1 h2
      cases h
      obtain ⟨h3, h4⟩ := fzL_spec h2
      refine ⟨by simp [h3], fun j x' hj => ?_⟩
      cases j with
      | zero => simp at hj; subst hj; exact ⟨v, by simp, h1⟩
      | succ j => simpa using h4 j x' (by simpa using hj)
    · cases h
theorem fz_rep {f : Fr} {B : List Pl} {I I2 : IM} {w : World} {H : List Blk} (hs : Sim f B I w H) (hI : ILe I I2)
    (hlive : ∀ (id : Nat) p b, B[id]? = some p → H[id]? = some b → b.live = true → I2 p.blk = w.heap[p.blk]?) : ∀ (n : Nat) {v v' : V} {x : Value}, fz H n v = some v' → Rep B I v x → Rep [] I2 v' x := by
  intro n
  induction n with
  | zero => intro v v' x h; simp [fz] at h
  | succ n ih =>
    have hl : ∀ {l l' : List V} {xs : List Value}, fzL (fz H n) l = some l' → RepL B I l xs → RepL [] I2 l' xs := by
      intro l l' xs h hr
      obtain ⟨h1, h2⟩ := fzL_spec h
      rw [repL_iff] at hr ⊢
      refine ⟨by rw [h1]; exact hr.1, fun j c hj => ?_⟩
      obtain ⟨y, h3, h4⟩ := h2 j c hj
      obtain ⟨u, h5, h6⟩ := hr.2 j y h3
      exact ⟨u, h5, ih h4 h6⟩
    have keep : ∀ {v v' : V} {x : Value}, (if noref v then some v else none) = some v' → Rep B I v x → Rep [] I2 v' x := by
      intro v v' x h hr
      split at h
      · rename_i hn; cases h; exact (noref_rep hn hr).mono (BLe.refl _) hI
      · cases h
    intro v v' x h hr
    cases v with
    | nils =>
      simp only [fz] at h; cases h
      simp only [Rep] at hr
      subst hr
      simp only [Rep]
      exact ⟨none, 0, rfl, by simp, by simp, by simp⟩
    | emp =>
      simp only [fz] at h; cases h
      simp only [Rep] at hr
      obtain ⟨a, rfl⟩ := hr
      simp only [Rep]
      exact ⟨a, 0, rfl, by simp, by simp, by simp⟩
    | ptr id i c =>
      simp only [fz] at h
      split at h
      · rename_i es hH
        split at h
        · rename_i hc
          cases hq : fzL (fz H n) ((cellsV (es.getD i .any)).drop c) with
          | none => rw [hq] at h; cases h
          | some l =>
            rw [hq] at h; cases h
            simp only [Rep] at hr ⊢
            obtain ⟨p, hp, hv⟩ := hr
            obtain ⟨carr, tt, hh, _, _, _, hcell⟩ := row_at (c := c) (n := 0) hs hp hH hc.1 (by omega)
            refine ⟨_, _, hv, ?_⟩
            obtain ⟨h1, h2⟩ := fzL_spec hq
            rw [cellsG_iff]
            intro j y hj
            obtain ⟨z, h3, h4⟩ := h2 j y hj
            rw [List.getElem?_drop] at h3
            obtain ⟨u, h5, h6⟩ := hcell _ z h3
            refine ⟨u, ?_, ih h4 h6⟩
            unfold icell
            rw [hlive id p _ hp hH rfl, hh]
            simp only
            rw [← h5]; congr 1; omega
        · cases h
      · cases h
    | ms id off len =>
      simp only [fz] at h
      split at h
      · rename_i es hH
        split at h
        · rename_i hc
          cases hq : fzL (fz H n) ((es.drop off).take len) with
          | none => rw [hq] at h; cases h
          | some l =>
            rw [hq] at h; cases h
            simp only [Rep] at hr ⊢
            obtain ⟨p, ad, cap, hp, hv, hadr, hlc, hcap, hroom⟩ := hr
            obtain ⟨h1, h2⟩ := fzL_spec hq
            have hll : l.length = len := by rw [h1, List.length_take, List.length_drop]; omega
            refine ⟨ad, cap, by rw [hll]; exact hv, by omega, hcap, ?_⟩
            by_cases hz : l = []
            · exact .inl hz
            · right
              have hpos : 0 < l.length := List.length_pos_iff.2 hz
              have had := hadr (by omega)
              refine ⟨p.blk, p.base + off * p.esz, p.esz, had, ?_⟩
              obtain ⟨carr, tt, hh, hsz, hcf, hce⟩ := hs.ok id p _ hp hH
              rw [elemsG_iff] at hce ⊢
              intro i y hi
              obtain ⟨z, h3, h4⟩ := h2 i y hi
              rw [List.getElem?_take] at h3
              split at h3
              · rw [List.getElem?_drop] at h3
                obtain ⟨h5, h6⟩ := hce _ z h3
                have hcells : (cellsV y).length = (cellsV z).length ∧ ∀ (j : Nat) c', (cellsV y)[j]? = some c' → ∃ c, (cellsV z)[j]? = some c ∧ ∀ u, Rep B I c u → Rep [] I2 c' u := by
                  have one : ∀ {z y : V}, fz H n z = some y → (∀ cs, z ≠ .agg cs) → (∀ cs, y ≠ .agg cs) := by
                    intro z y h hz cs hy
                    subst hy
                    cases n with
                    | zero => simp [fz] at h
                    | succ n =>
                      cases z <;> simp only [fz] at h <;> first
                        | exact hz _ rfl
                        | (split at h <;> first | (split at h <;> first | (cases hq : fzL (fz H n) _ <;> rw [hq] at h <;> cases h) | cases h) | cases h)
                        | (cases hq : fzL (fz H n) _ <;> rw [hq] at h <;> cases h)
                        | (split at h <;> cases h)
                        | cases h
                  by_cases hag : ∃ cs, z = .agg cs
                  · obtain ⟨cs, rfl⟩ := hag
                    cases n with
                    | zero => simp [fz] at h4
                    | succ n =>
                      simp only [fz] at h4
                      cases hq2 : fzL (fz H n) cs with
                      | none => rw [hq2] at h4; cases h4
                      | some l2 =>
                        rw [hq2] at h4; cases h4
                        obtain ⟨h7, h8⟩ := fzL_spec hq2
                        refine ⟨h7, fun j c' hj => ?_⟩
                        obtain ⟨c, h9, h10⟩ := h8 j c' hj
                        refine ⟨c, h9, fun u hu => ?_⟩
                        have : fz H (n + 1) (.agg [c]) = some (.agg [c']) := by simp [fz, fzL, h10]
                        have h11 := ih (v := .agg [c]) (v' := .agg [c']) (x := .agg #[u]) this (by simp only [Rep]; exact ⟨_, rfl, by simp only [RepL]; exact ⟨u, [], rfl, hu, rfl⟩⟩)
                        simp only [Rep, RepL] at h11
                        obtain ⟨cs2, h12, v2, vs2, h13, h14, h15⟩ := h11
                        cases h12
                        simp at h13
                        obtain ⟨rfl, _⟩ := h13
                        exact h14
                  · have hz' : ∀ cs, z ≠ .agg cs := fun cs h => hag ⟨cs, h⟩
                    have hy' := one h4 hz'
                    have e1 : cellsV z = [z] := by cases z <;> first | rfl | exact absurd rfl (hz' _)
                    have e2 : cellsV y = [y] := by cases y <;> first | rfl | exact absurd rfl (hy' _)
                    rw [e1, e2]
                    refine ⟨rfl, fun j c' hj => ?_⟩
                    cases j with
                    | zero => simp at hj; subst hj; exact ⟨z, by simp, fun u hu => ih h4 hu⟩
                    | succ j => simp at hj
                refine ⟨by rw [hcells.1]; exact h5, fun j c' hj => ?_⟩
                obtain ⟨c, h7, h8⟩ := hcells.2 j c' hj
                obtain ⟨u, h9, h10⟩ := h6 j c h7
                refine ⟨u, ?_, h8 u h10⟩
                unfold icell
                rw [hlive id p _ hp hH rfl, hh]
                simp only
                rw [← h9]; congr 1; rw [Nat.add_mul]; omega
              · cases h3
        · cases h
      · cases h
    | map id =>
      simp only [fz] at h
      split at h
      · rename_i ks vs hH
        split at h
        · rename_i a' b' ha hb
          cases h
          simp only [Rep] at hr ⊢
          obtain ⟨p, hp, hv⟩ := hr
          obtain ⟨es, clock, h1, h0, h2, h3⟩ := hs.ok id p _ hp hH
          exact ⟨p.blk, es, clock, hv, by rw [hlive id p _ hp hH rfl, h1], h0, hl ha h2, hl hb h3⟩
        · cases h
      · cases h
    | agg cs =>
      simp only [fz] at h
      cases hq : fzL (fz H n) cs with
      | none => rw [hq] at h; cases h
      | some l =>
        rw [hq] at h; cases h
        simp only [Rep] at hr ⊢
        obtain ⟨vs, h1, h2⟩ := hr
        exact ⟨vs, h1, hl hq h2⟩
    | tup cs =>
      simp only [fz] at h
      cases hq : fzL (fz H n) cs with
      | none => rw [hq] at h; cases h
      | some l =>
        rw [hq] at h; cases h
        simp only [Rep] at hr ⊢
        obtain ⟨vs, h1, h2⟩ := hr
        exact ⟨vs, h1, hl hq h2⟩
    | clos g a b =>
      simp only [fz] at h
      split at h
      · rename_i a' b' ha hb
        cases h
        simp only [Rep] at hr ⊢
        obtain ⟨fs, cs, h1, h2, h3⟩ := hr
        exact ⟨fs, cs, h1, hl ha h2, hl hb h3⟩
      · cases h
    | _ => simp only [fz] at h; exact keep h hr
theorem keepL_get (D : List Nat) (H : List Blk) (id : Nat) : (keepL D H)[id]? = (H[id]?).map fun b => if D.contains id then b else .dead := by
  simp [keepL]
theorem killL_length : ∀ (D : List Nat) (H : List Blk), (killL D H).length = H.length
  | [], H => rfl
  | d :: D, H => by rw [killL, killL_length D]; simp
theorem killL_get : ∀ (D : List Nat) (H : List Blk) (i : Nat), (killL D H)[i]? = if D.contains i = true ∧ i < H.length then some .dead else H[i]?
  | [], H, i => by simp [killL]
  | d :: D, H, i => by
    rw [killL, killL_get D, List.getElem?_set]
    by_cases hd : d = i
    · subst hd
      by_cases hl : d < H.length
      · simp [hl]
      · simp [hl]
    · have hd' : ¬ i = d := fun h => hd h.symm
      simp [hd, hd']
theorem Sim.mask {f : Fr} {B : List Pl} {I : IM} {w : World} {H H' : List Blk} (h : Sim f B I w H) (hl : H'.length = H.length) (hp : ∀ (i : Nat) b, H'[i]? = some b → b = .dead ∨ H[i]? = some b) : Sim f B I w H' where
  len := by rw [hl]; exact h.len
  imm := h.imm
  ile := h.ile
  ifresh := h.ifresh
  os := h.os
  tape := h.tape
  output := h.output
  size := h.size
  keep := h.keep
  ok i q c h1 h2 := by
    rcases hp i c h2 with rfl | h3
    · trivial
    · exact h.ok i q c h1 h3
  sep i j q r c d h1 h2 h3 h4 hc hd he := by
    rcases hp i c h3 with rfl | h5
    · cases hc
    · rcases hp j d h4 with rfl | h6
      · cases hd
      · exact h.sep i j q r c d h1 h2 h5 h6 hc hd he
  own i q c h1 h2 hl := by
    rcases hp i c h2 with rfl | h3
    · cases hl
    · exact h.own i q c h1 h3 hl
theorem Sim.freeze {f : Fr} {B : List Pl} {I : IM} {w : World} {H : List Blk} (hs : Sim f B I w H) (D : List Nat) :
    ∃ I2, ILe I I2 ∧ Sim f B I2 w (killL D H) ∧ ∀ (n : Nat) {v v' : V} {x : Value}, fz (keepL D H) n v = some v' → Rep B I v x → Rep [] I2 v' x := by
  classical
  let S : Nat → Prop := fun b => ∃ (id : Nat) (p : Pl) (c : Blk), D.contains id = true ∧ B[id]? = some p ∧ H[id]? = some c ∧ c.live = true ∧ p.blk = b
  let I2 : IM := fun b => if S b then w.heap[b]? else I b
  have hIS : ∀ b, S b → I b = none ∧ (f.w0.heap.size ≤ b ∨ f.M b) := by
    rintro b ⟨id, p, es, _, hp, hH, hc, rfl⟩
    obtain ⟨h1, h2, _⟩ := hs.own id p _ hp hH hc
    exact ⟨h1, h2⟩
  have hI : ILe I I2 := by
    intro b o hb
    show (if S b then w.heap[b]? else I b) = some o
    by_cases hS : S b
    · rw [(hIS b hS).1] at hb; cases hb
    · rw [if_neg hS]; exact hb
  have hs1 : Sim f B I w (killL D H) := hs.mask (killL_length D H) (fun i b hb => by
    rw [killL_get] at hb
    split at hb
    · cases hb; exact .inl rfl
    · exact .inr hb)
  have hs0 : Sim f B I w (keepL D H) := hs.mask (by simp [keepL]) (fun i b hb => by
    rw [keepL_get] at hb
    cases hH : H[i]? with
    | none => rw [hH] at hb; cases hb
    | some c =>
      rw [hH] at hb
      simp only [Option.map_some, Option.some.injEq] at hb
      split at hb
      · subst hb; exact .inr rfl
      · exact .inl hb.symm)
  refine ⟨I2, hI, ?_, ?_⟩
  · constructor
    · exact hs1.len
    · intro b o hb
      have hb : (if S b then w.heap[b]? else I b) = some o := hb
      split at hb
      · exact hb
      · exact hs.imm b o hb
    · exact hs.ile.trans hI
    · intro b h1 h2
      have h2 : (if S b then w.heap[b]? else I b) ≠ none := h2
      split at h2
      · rename_i hS; exact (hIS b hS).2
      · exact hs.ifresh b h1 h2
    · exact hs.os
    · exact hs.tape
    · exact hs.output
    · exact hs.size
    · exact hs.keep
    · intro i p b h1 h2
      exact (hs1.ok i p b h1 h2).mono (BLe.refl _) hI (fun _ => rfl)
    · exact hs1.sep
    · intro i p c h1 h2 hl
      obtain ⟨h3, h4, h5⟩ := hs1.own i p c h1 h2 hl
      refine ⟨?_, h4, h5⟩
      show (if S p.blk then w.heap[p.blk]? else I p.blk) = none
      rw [if_neg]
      · exact h3
      · rintro ⟨id, q, es, hD, hq, hH, hc, he⟩
        rw [killL_get] at h2
        split at h2
        · cases h2; cases hl
        · rename_i hni
          have := hs.sep id i q p _ c hq h1 hH h2 hc hl he
          subst this
          exact hni ⟨hD, (List.getElem?_eq_some_iff.1 hH).1⟩
  · intro n v v' x hf hr
    refine fz_rep hs0 hI ?_ n hf hr
    intro id p es hp hH hcl
    rw [keepL_get] at hH
    cases hH2 : H[id]? with
    | none => rw [hH2] at hH; cases hH
    | some c =>
      rw [hH2] at hH
      simp only [Option.map_some, Option.some.injEq] at hH
      split at hH
      · rename_i hD
        subst hH
        show (if S p.blk then w.heap[p.blk]? else I p.blk) = w.heap[p.blk]?
        rw [if_pos ⟨id, p, _, hD, hp, hH2, hcl, rfl⟩]
      · subst hH; cases hcl
inductive Kont where
  | post (K : Exit → Env → List Blk → Prop)
  | seq (b : SCode) (k : Kont)
  | block (id : Nat) (k : Kont)
  | loop (Inv : Nat → Env → List Blk → Prop) (m : Nat) (k : Kont)
inductive Cfg where
  | code (c : SCode) (e : Env) (H : List Blk) (k : Kont)
  | ops (l : List SOper) (e : Env) (H : List Blk) (k : Kont)
  | app (k : Kont) (x : Exit) (e : Env) (H : List Blk)
def ret2 (G : Cfg → Prop) (rest : List SOper) (d : Option Nat) (e : Env) (k : Kont) : V → List Blk → Prop := fun r H => G (.ops rest (updO e d r) H k)
def gEnd (P : Program) (G : Cfg → Prop) (ss : List QO) (k : Kont) : List (Env × V) → List (List Blk) → Env → List Blk → Prop :=
  fun tr Hs e H => stabL P ss tr Hs ∧ G (.app k .normal e H)
def pEnd (P : Program) (G : Cfg → Prop) (ss : List QO) (t : Nat) (z : V) (st : SOper) (k : Kont) : List (Env × V) → List (List Blk) → Env → List Blk → Prop :=
  fun tr Hs e H => stabL P ss tr Hs ∧ G (.ops [st] (upd e t (.ptr H.length 0 0)) (H ++ [.row [z]]) k)
def F (P : Program) : Nat → Cfg → Prop
  | 0 => fun _ => False
  | n + 1 => fun cfg => match cfg with
    | .code .skip e H k => F P n (.app k .normal e H)
    | .code (.region l) e H k => F P n (.ops l e H k)
    | .code (.qregion l) e H k => gRun P l e H [H] [] (gEnd P (F P n) l k)
    | .code (.pregion l t ia z st) e H k => gRun P l e H [H] [] (pEnd P (F P n) l t z st k)
    | .code (.seq a b) e H k => F P n (.code a e H (.seq b k))
    | .code (.cond c t f) e H k => match c, evX e c with
      | .tmp i, .bool b => Fork b (F P n (.code t (upd e i (.bool true)) H k)) (F P n (.code f (upd e i (.bool false)) H k))
      | .val _, .bool b => Fork b (F P n (.code t e H k)) (F P n (.code f e H k))
      | _, _ => False
    | .code (.block id c) e H k => F P n (.code c e H (.block id k))
    | .code (.loop c) e H k => ∃ (Inv : Nat → Env → List Blk → Prop) (m : Nat), Inv m e H ∧ ∀ m e H, Inv m e H → F P n (.code c e H (.loop Inv m k))
    | .code (.exit id) e H k => F P n (.app k (.exit id) e H)
    | .code .ret e H k => F P n (.app k .ret e H)
    | .ops [] e H k => F P n (.app k .normal e H)
    | .ops (o :: rest) e H k => match o.guard with
      | none => exOp P o.op e H (ret2 (F P n) rest o.dst e k)
      | some (t, want) => match e t with
        | .bool b => if want then Fork b (exOp P o.op (upd e t (.bool true)) H (ret2 (F P n) rest o.dst (upd e t (.bool true)) k)) (F P n (.ops rest (updO (upd e t (.bool false)) o.dst .und) H k))
            else Fork b (F P n (.ops rest (updO (upd e t (.bool true)) o.dst .und) H k)) (exOp P o.op (upd e t (.bool false)) H (ret2 (F P n) rest o.dst (upd e t (.bool false)) k))
        | .und => F P n (.ops rest (updO e o.dst .und) H k)
        | _ => False
    | .app (.post K) x e H => K x e H
    | .app (.seq b k) .normal e H => F P n (.code b e H k)
    | .app (.seq b k) x e H => F P n (.app k x e H)
    | .app (.block id k) (.exit i) e H => if i = id then F P n (.app k .normal e H) else F P n (.app k (.exit i) e H)
    | .app (.block id k) x e H => F P n (.app k x e H)
    | .app (.loop Inv m k) .normal e H => ∃ m', m' < m ∧ Inv m' e H
    | .app (.loop Inv m k) x e H => F P n (.app k x e H)
section
variable {P : Program} {n : Nat} {e : Env} {H : List Blk} {k : Kont}
theorem F_skip : F P (n + 1) (.code .skip e H k) = F P n (.app k .normal e H) := by rw [F]
theorem F_region {l : List SOper} : F P (n + 1) (.code (.region l) e H k) = F P n (.ops l e H k) := by rw [F]
theorem F_qregion {l : List QO} : F P (n + 1) (.code (.qregion l) e H k) = gRun P l e H [H] [] (gEnd P (F P n) l k) := by rw [F]
theorem F_pregion {l : List QO} {t ia : Nat} {z : V} {st : SOper} : F P (n + 1) (.code (.pregion l t ia z st) e H k) = gRun P l e H [H] [] (pEnd P (F P n) l t z st k) := by rw [F]
theorem pEnd_eq {G : Cfg → Prop} {ss : List QO} {t : Nat} {z : V} {st : SOper} {tr : List (Env × V)} {Hs : List (List Blk)} : pEnd P G ss t z st k tr Hs e H = (stabL P ss tr Hs ∧ G (.ops [st] (upd e t (.ptr H.length 0 0)) (H ++ [.row [z]]) k)) := rfl
theorem gEnd_eq {G : Cfg → Prop} {ss : List QO} {tr : List (Env × V)} {Hs : List (List Blk)} : gEnd P G ss k tr Hs e H = (stabL P ss tr Hs ∧ G (.app k .normal e H)) := rfl
theorem F_seq {a b : SCode} : F P (n + 1) (.code (.seq a b) e H k) = F P n (.code a e H (.seq b k)) := by rw [F]
theorem F_cond {i : Nat} {t f : SCode} : F P (n + 1) (.code (.cond (.tmp i) t f) e H k) = (match e i with
  | .bool b => Fork b (F P n (.code t (upd e i (.bool true)) H k)) (F P n (.code f (upd e i (.bool false)) H k))
  | _ => False) := by
  rw [F]
  show (match (SX.tmp i), evX e (.tmp i) with | .tmp i, .bool b => _ | .val _, .bool b => _ | _, _ => False) = _
  simp only [evX]
  cases e i <;> rfl
theorem F_block {id : Nat} {c : SCode} : F P (n + 1) (.code (.block id c) e H k) = F P n (.code c e H (.block id k)) := by rw [F]
theorem F_exit {id : Nat} : F P (n + 1) (.code (.exit id) e H k) = F P n (.app k (.exit id) e H) := by rw [F]
theorem F_ret : F P (n + 1) (.code .ret e H k) = F P n (.app k .ret e H) := by rw [F]
theorem F_nil : F P (n + 1) (.ops [] e H k) = F P n (.app k .normal e H) := by rw [F]
theorem F_op {d : Option Nat} {o : SOp} {rest : List SOper} : F P (n + 1) (.ops (⟨d, o, none⟩ :: rest) e H k) = exOp P o e H (ret2 (F P n) rest d e k) := by rw [F]
theorem F_opT {d : Option Nat} {o : SOp} {rest : List SOper} {t : Nat} : F P (n + 1) (.ops (⟨d, o, some (t, true)⟩ :: rest) e H k) = (match e t with
  | .bool b => Fork b (exOp P o (upd e t (.bool true)) H (ret2 (F P n) rest d (upd e t (.bool true)) k)) (F P n (.ops rest (updO (upd e t (.bool false)) d .und) H k))
  | .und => F P n (.ops rest (updO e d .und) H k)
  | _ => False) := by
  rw [F]
  show (match e t with | .bool b => _ | .und => _ | _ => False) = _
  cases e t <;> rfl
theorem F_opF {d : Option Nat} {o : SOp} {rest : List SOper} {t : Nat} : F P (n + 1) (.ops (⟨d, o, some (t, false)⟩ :: rest) e H k) = (match e t with
  | .bool b => Fork b (F P n (.ops rest (updO (upd e t (.bool true)) d .und) H k)) (exOp P o (upd e t (.bool false)) H (ret2 (F P n) rest d (upd e t (.bool false)) k))
  | .und => F P n (.ops rest (updO e d .und) H k)
  | _ => False) := by
  rw [F]
  show (match e t with | .bool b => _ | .und => _ | _ => False) = _
  cases e t <;> rfl
theorem F_post {K : Exit → Env → List Blk → Prop} {x : Exit} : F P (n + 1) (.app (.post K) x e H) = K x e H := by rw [F]
theorem F_seqN {b : SCode} : F P (n + 1) (.app (.seq b k) .normal e H) = F P n (.code b e H k) := by rw [F]
theorem F_seqR {b : SCode} : F P (n + 1) (.app (.seq b k) .ret e H) = F P n (.app k .ret e H) := by rw [F]
theorem F_seqE {b : SCode} {i : Nat} : F P (n + 1) (.app (.seq b k) (.exit i) e H) = F P n (.app k (.exit i) e H) := by rw [F]
theorem F_blockN {id : Nat} : F P (n + 1) (.app (.block id k) .normal e H) = F P n (.app k .normal e H) := by rw [F]
theorem F_blockR {id : Nat} : F P (n + 1) (.app (.block id k) .ret e H) = F P n (.app k .ret e H) := by rw [F]
theorem F_blockE {id i : Nat} : F P (n + 1) (.app (.block id k) (.exit i) e H) = if i = id then F P n (.app k .normal e H) else F P n (.app k (.exit i) e H) := by rw [F]
theorem F_loopN {Inv : Nat → Env → List Blk → Prop} {m : Nat} : F P (n + 1) (.app (.loop Inv m k) .normal e H) = ∃ m', m' < m ∧ Inv m' e H := by rw [F]
theorem F_loopR {Inv : Nat → Env → List Blk → Prop} {m : Nat} : F P (n + 1) (.app (.loop Inv m k) .ret e H) = F P n (.app k .ret e H) := by rw [F]
theorem F_loopE {Inv : Nat → Env → List Blk → Prop} {m i : Nat} : F P (n + 1) (.app (.loop Inv m k) (.exit i) e H) = F P n (.app k (.exit i) e H) := by rw [F]
theorem F_loop {c : SCode} (Inv : Nat → Env → List Blk → Prop) (m : Nat) (h0 : Inv m e H) (h : ∀ m e H, Inv m e H → F P n (.code c e H (.loop Inv m k))) : F P (n + 1) (.code (.loop c) e H k) := ⟨Inv, m, h0, h⟩
theorem ret2ueq {G : Cfg → Prop} {rest : List SOper} {d : Option Nat} {r : V} : ret2 G rest d e k r H = G (.ops rest (updO e d r) H k) := rfl
theorem Fork_true {p q : Prop} : Fork true p q = p := by simp [Fork]
theorem Fork_false {p q : Prop} : Fork false p q = q := by simp [Fork]
end
section
variable {P : Program} {f : Fr} {B : List Pl} {I : IM} {w : World} {H : List Blk} {K : V → List Blk → Prop} {a : Act} {env : Env} {o : Oper}
theorem op_out {s : SOp} (hc : chkOp P a.tmps.size o.op o.type s = true) (he : REnv B I env a.tmps) (hs : Sim f B I w H) (hk : exOp P s env H K) (hn : ∀ g as, s ≠ .call g as) :
    Out f B I K ((execOp a.eval o).run P w) := by
  cases s with
  | mov y =>
    cases ho : o.op <;> simp only [ho, chkOp, Bool.false_eq_true] at hc
    · exact s_mov (.inl ho) hc he hs hk
    · exact s_mov (.inr ho) hc he hs hk
  | pick c x y =>
    cases ho : o.op <;> simp only [ho, chkOp, Bool.false_eq_true, Bool.and_eq_true] at hc
    exact s_pick ho hc.1.1 hc.1.2 hc.2 he hs hk
  | alloc z =>
    cases ho : o.op <;> (rw [ho] at hc; first | (simp only [chkOp, Bool.false_eq_true] at hc; done) | skip)
    exact s_alloc ho hc hs hk
  | box x =>
    cases ho : o.op <;> simp only [ho, chkOp, Bool.false_eq_true] at hc
    exact s_box ho hc he hs hk
  | build z ps =>
    cases ho : o.op <;> (rw [ho] at hc; first | (simp only [chkOp, Bool.false_eq_true] at hc; done) | skip)
    exact s_build ho hc he hs hk
  | buildS esz xs =>
    cases ho : o.op <;> (rw [ho] at hc; first | (simp only [chkOp, Bool.false_eq_true] at hc; done) | skip)
    exact s_buildS ho hc he hs hk
  | load g m x =>
    cases ho : o.op <;> (rw [ho] at hc; first | (simp only [chkOp, Bool.false_eq_true] at hc; done) | skip)
    exact s_load ho hc he hs hk
  | store m x y =>
    cases ho : o.op <;> (rw [ho] at hc; first | (simp only [chkOp, Bool.false_eq_true] at hc; done) | skip)
    exact s_store ho hc he hs hk
  | nilc x =>
    cases ho : o.op <;> simp only [ho, chkOp, Bool.false_eq_true] at hc
    exact s_nilc ho hc he hs hk
  | bin op x y =>
    cases ho : o.op <;> simp only [ho, chkOp, Bool.false_eq_true, Bool.and_eq_true, decide_eq_true_eq] at hc
    obtain ⟨⟨rfl, h1⟩, h2⟩ := hc
    exact s_bin ho h1 h2 he hs hk
  | beq neg x y =>
    cases ho : o.op <;> (rw [ho] at hc; first | (simp only [chkOp, Bool.false_eq_true] at hc; done) | skip)
    rename_i op t x' y' u
    cases op <;> cases neg <;> simp only [chkOp, Bool.false_eq_true, Bool.and_eq_true] at hc <;> (
      obtain ⟨⟨h1, h2⟩, h3⟩ := hc
      split at h3
      · rename_i ht
        exact s_beq (neg := _) (by simpa using ho) h1 h2 ht he hs hk
      · cases h3)
  | un op x =>
    cases ho : o.op <;> simp only [ho, chkOp, Bool.false_eq_true, Bool.and_eq_true, decide_eq_true_eq] at hc
    obtain ⟨rfl, h1⟩ := hc
    exact s_un ho h1 he hs hk
  | conv k x =>
    cases ho : o.op <;> simp only [ho, chkOp, Bool.false_eq_true, Bool.and_eq_true, beq_iff_eq] at hc
    exact s_conv ho hc.1.1 hc.1.2 hc.2 he hs hk
  | convs x =>
    cases ho : o.op <;> simp only [ho, chkOp, Bool.false_eq_true, Bool.and_eq_true] at hc
    obtain ⟨⟨h1, h2⟩, h3⟩ := hc
    split at h2
    · rename_i hd; exact s_convs ho h1 hd h3 he hs hk
    · cases h2
  | mkfn g fs cs =>
    cases ho : o.op <;> (rw [ho] at hc; first | (simp only [chkOp, Bool.false_eq_true] at hc; done) | skip)
    rename_i fn fs' cs'
    cases fn <;> simp only [chkOp, Bool.false_eq_true, Bool.and_eq_true, beq_iff_eq] at hc
    obtain ⟨⟨rfl, h1⟩, h2⟩ := hc
    exact s_mkfn ho h1 h2 he hs hk
  | slice esz x lo hi =>
    cases ho : o.op <;> (rw [ho] at hc; first | (simp only [chkOp, Bool.false_eq_true] at hc; done) | skip)
    rename_i t x' lo' hi' mx
    cases mx with
    | some _ => simp [chkOp] at hc
    | none => exact s_slice ho hc he hs hk
  | strsl x lo hi => simp [exOp] at hk
  | faddr off x =>
    cases ho : o.op <;> (rw [ho] at hc; first | (simp only [chkOp, Bool.false_eq_true] at hc; done) | skip)
    exact s_faddr ho hc he hs hk
  | field g off n x =>
    cases ho : o.op <;> (rw [ho] at hc; first | (simp only [chkOp, Bool.false_eq_true] at hc; done) | skip)
    exact s_field ho hc he hs hk
  | iaddr esz x i =>
    cases ho : o.op <;> (rw [ho] at hc; first | (simp only [chkOp, Bool.false_eq_true] at hc; done) | skip)
    exact s_iaddr ho hc he hs hk
  | sidx x i =>
    cases ho : o.op <;> simp only [ho, chkOp, Bool.false_eq_true, Bool.and_eq_true] at hc
    obtain ⟨⟨h1, h2⟩, h3⟩ := hc
    split at h1
    · rename_i hd; exact s_sidx ho hd h2 h3 he hs hk
    · cases h1
  | extract x i =>
    cases ho : o.op <;> simp only [ho, chkOp, Bool.false_eq_true, Bool.and_eq_true, beq_iff_eq] at hc
    obtain ⟨rfl, h1⟩ := hc
    exact s_extract ho h1 he hs hk
  | call g as => exact absurd rfl (hn g as)
  | frz t => cases ho : o.op <;> (rw [ho] at hc; simp only [chkOp, Bool.false_eq_true] at hc)
  | buildF esz xs =>
    cases ho : o.op <;> (rw [ho] at hc; first | (simp only [chkOp, Bool.false_eq_true] at hc; done) | skip)
    exact s_buildF ho hc he hs hk
  | jalloc =>
    cases ho : o.op <;> (rw [ho] at hc; first | (simp only [chkOp, Bool.false_eq_true] at hc; done) | skip)
    exact s_jalloc ho hc hs hk
  | mkemp =>
    cases ho : o.op <;> (rw [ho] at hc; first | (simp only [chkOp, Bool.false_eq_true] at hc; done) | skip)
    exact s_mkemp ho hc hs hk
  | mks z x =>
    cases ho : o.op <;> (rw [ho] at hc; first | (simp only [chkOp, Bool.false_eq_true] at hc; done) | skip)
    exact s_mks ho hc he hs hk
  | mkmap =>
    cases ho : o.op <;> (rw [ho] at hc; first | (simp only [chkOp, Bool.false_eq_true] at hc; done) | skip)
    rename_i t rs
    cases rs with
    | none => exact s_mkmap ho hc hs hk
    | some r => simp [chkOp] at hc
  | mlook sh ok z x k =>
    cases ho : o.op <;> (rw [ho] at hc; first | (simp only [chkOp, Bool.false_eq_true] at hc; done) | skip)
    exact s_mlook ho hc he hs hk
  | mset sh x k v =>
    cases ho : o.op <;> (rw [ho] at hc; first | (simp only [chkOp, Bool.false_eq_true] at hc; done) | skip)
    exact s_mset ho hc he hs hk
  | snil neg x =>
    cases ho : o.op <;> (rw [ho] at hc; first | (simp only [chkOp, Bool.false_eq_true] at hc; done) | skip)
    exact s_snil ho hc he hs hk
  | len str x =>
    cases ho : o.op <;> (rw [ho] at hc; first | (simp only [chkOp, Bool.false_eq_true] at hc; done) | skip)
    exact s_len ho hc he hs hk
  | append esz bytes x y =>
    cases ho : o.op <;> (rw [ho] at hc; first | (simp only [chkOp, Bool.false_eq_true] at hc; done) | skip)
    exact s_append ho hc he hs hk
theorem op_call {fx : SX} {as : List SX} (hc : chkOp P a.tmps.size o.op o.type (.call fx as) = true) (he : REnv B I env a.tmps) (hs : Sim f B I w H) (hk : exOp P (.call fx as) env H K) :
    ∃ g args, (execOp a.eval o).run P w = .ok (.enter g args) w ∧ Calls P g args w (fun e w' => ∃ r v H' B' I', e = .returned v ∧ K r H' ∧ Sim f B' I' w' H' ∧ BLe B B' ∧ ILe I I' ∧ Rep B' I' r v) := by
  cases ho : o.op <;> (rw [ho] at hc; first | (simp only [chkOp, Bool.false_eq_true] at hc; done) | skip)
  rename_i c
  simp only [chkOp] at hc
  split at hc
  · rename_i g hcal
    simp only [Bool.and_eq_true] at hc
    obtain ⟨h1, h2⟩ := hc
    have hg := chkX_rep h1 he
    have has := chkXs_rep he h2
    simp only [exOp] at hk
    split at hk
    · rename_i gid first caps e
      rw [e] at hg
      simp only [Rep] at hg
      obtain ⟨fs, cs, hv, hf, hcp⟩ := hg
      obtain ⟨hcall, hk⟩ := hk
      refine ⟨gid, (fs ++ c.args.map a.eval) ++ cs, ?_, hk f B I w _ hs ?_⟩
      · unfold callable at hcall
        split at hcall
        · rename_i fn hfn
          simp only [Bool.and_eq_true, bne_iff_ne, ne_eq, Option.isSome_iff_exists] at hcall
          obtain ⟨⟨b, hb⟩, hname⟩ := hcall
          simp only [execOp, ho, resolve, hcal, hv, Deferred.ofValue, Sem.run_bind, Sem.run_pure, Result.andThen_ok, invoke, callFunc, run_program, hfn]
          rw [if_neg (by simpa using hname), if_neg (by simp [hb])]
          simp
        · cases hcall
      · simp only [Array.toList_append, Array.toList_map]
        exact (hf.append has).append hcp
    · exact hk.elim
  · cases hc
def SatK (P : Program) (f : Fr) (B : List Pl) (I : IM) (nt : Nat) (k : Kont) (Q : Exit → Act → World → Prop) : Prop :=
  ∀ n x e H B' I' a w, F P n (.app k x e H) → Sim f B' I' w H → BLe B B' → ILe I I' → REnv B' I' e a.tmps → a.defers = [] → a.tmps.size = nt → Q x a w
theorem SatK.mono {nt : Nat} {k : Kont} {Q : Exit → Act → World → Prop} {B' : List Pl} {I' : IM} (h : SatK P f B I nt k Q) (hB : BLe B B') (hI : ILe I I') : SatK P f B' I' nt k Q :=
  fun n x e H B2 I2 a w h1 h2 h3 h4 => h n x e H B2 I2 a w h1 h2 (hB.trans h3) (hI.trans h4)
theorem upd_self {e : Env} {t : Nat} {b c : Bool} (h : e t = .bool b) (hb : b = c) : upd e t (.bool c) = e := by
  funext i
  unfold upd
  split
  · rename_i hi; subst hi; rw [h, hb]
  · rfl
theorem und_rep : Rep B I .und undef := by simp [Rep]
theorem skip_env {e : Env} (he : REnv B I e a.tmps) (d : Option Nat) : REnv B I (updO e d .und) (a.put d undef).tmps := he.put d und_rep
theorem yielded_of {all : Array Oper} {j t : Nat} (hj : (all[j]?).bind (·.dst) = some t) (ht : t < a.tmps.size) (he : REnv B I env a.tmps) :
    ∀ {v : V}, env t = v → (∀ b, v = .bool b → yielded all a.tmps j = some b) ∧ (v = .und → yielded all a.tmps j = none) := by
  intro v hv
  have h1 := he t (a.tmps[t]) (by simp [ht])
  rw [hv] at h1
  constructor
  · rintro b rfl
    simp only [Rep] at h1
    simp [yielded, hj, ht, h1]
  · rintro rfl
    simp only [Rep] at h1
    simp [yielded, hj, ht, h1, undef]
theorem frz_step {n : Nat} {ss : List SOper} {t : Nat} {k : Kont} (hF : F P (n + 1) (.ops (⟨some t, .frz t, none⟩ :: ss) env H k)) (hs : Sim f B I w H) (he : REnv B I env a.tmps) :
    ∃ e' H' I2, F P n (.ops ss e' H' k) ∧ Sim f B I2 w H' ∧ ILe I I2 ∧ REnv B I2 e' a.tmps := by
  rw [F_op] at hF
  simp only [exOp, ret2ueq] at hF
  obtain ⟨D, v', hfz, hF⟩ := hF
  obtain ⟨I2, hI, hs2, hrep⟩ := hs.freeze D
  refine ⟨_, _, I2, hF, hs2, hI, ?_⟩
  intro i v hv
  have h1 := he i v hv
  show Rep B I2 (upd env t v' i) v
  unfold upd
  split
  · rename_i hi; subst hi
    exact (hrep 20 hfz h1).mono (fun i p h => by simp at h) (ILe.refl _)
  · exact h1.mono (BLe.refl _) hI
theorem isFrz_iff {s : SOper} (h : s.isFrz = true) : ∃ t, s = ⟨some t, .frz t, none⟩ := by
  obtain ⟨d, op, g⟩ := s
  cases d <;> cases op <;> cases g <;> simp [SOper.isFrz] at h
  subst h; exact ⟨_, rfl⟩
theorem ops_sound {all : Array Oper} {nt : Nat} {k : Kont} {Q : Exit → Act → World → Prop} : ∀ {l : List Oper} {ss : List SOper}, chkOps P nt all l (strip ss) = true → ∀ {n : Nat} {e : Env} {H : List Blk} {B : List Pl} {I : IM} {a : Act} {w : World},
    F P n (.ops ss e H k) → Sim f B I w H → REnv B I e a.tmps → a.defers = [] → a.tmps.size = nt → SatK P f B I nt k Q → wpList P all Q l a w
  | l, [], hc, n, e, H, B, I, a, w, hF, hs, he, hd, hn, hq => by
    cases l with
    | cons _ _ => simp [chkOps, strip] at hc
    | nil =>
      cases n with
      | zero => exact hF.elim
      | succ n => exact hq n .normal e H B I a w hF hs (BLe.refl _) (ILe.refl _) he hd hn
  | l, s :: ss, hc, n, e, H, B, I, a, w, hF, hs, he, hd, hn, hq => by
   by_cases hfr : s.isFrz = true
   · obtain ⟨t, rfl⟩ := isFrz_iff hfr
     cases n with
     | zero => exact hF.elim
     | succ n =>
       obtain ⟨e', H', I2, h1, h2, h3, h4⟩ := frz_step hF hs he
       simp only [strip, hfr, if_true] at hc
       exact ops_sound hc h1 h2 h4 hd hn (hq.mono (BLe.refl _) h3)
   · simp only [strip, hfr, if_false] at hc
     cases l with
     | nil => simp [chkOps] at hc
     | cons o l =>
       simp only [Bool.false_eq_true, if_false, chkOps, chkOper, Bool.and_eq_true] at hc
       obtain ⟨⟨⟨hdst, hg⟩, hop⟩, hrest⟩ := hc
       have hdd : o.dst = s.dst := by
         cases h1 : o.dst <;> cases h2 : s.dst <;> simp [h1, h2, chkDst] at hdst ⊢
         exact hdst.1
       have run : ∀ (e : Env) (G : Nat), REnv B I e a.tmps → exOp P s.op e H (ret2 (F P G) ss s.dst e k) → o.wp P a w (wpList P all Q l) Q := by
         intro e G he hk
         by_cases hcall : ∃ fx as, s.op = .call fx as
         · obtain ⟨fx, as, hsop⟩ := hcall
           rw [hsop] at hk hop
           obtain ⟨g, args, hrun, hcalls⟩ := op_call (by rw [hn]; exact hop) he hs hk
           unfold Oper.wp
           rw [hrun, Oper.upon_enter]
           refine hcalls.mono ?_
           rintro en w' ⟨r, v, H', B', I', rfl, hr, hs', hB, hI, hrep⟩
           simp only
           rw [ret2ueq] at hr
           rw [hdd]
           exact ops_sound hrest hr hs' ((he.mono hB hI).put _ hrep) (by rw [put_defers]; exact hd) (by rw [put_size]; exact hn) (hq.mono hB hI)
         · have hcall' : ∀ g as, s.op ≠ .call g as := fun g as h => hcall ⟨g, as, h⟩
           obtain ⟨v, w', x, H', B', I', hrun, hk, hs', hB, hI, hrep⟩ := op_out (by rw [hn]; exact hop) he hs hk hcall'
           unfold Oper.wp
           rw [ret2ueq] at hk
           have hgo : wpList P all Q l (a.put o.dst v) w' := by
             rw [hdd]
             exact ops_sound hrest hk hs' ((he.mono hB hI).put _ hrep) (by rw [put_defers]; exact hd) (by rw [put_size]; exact hn) (hq.mono hB hI)
           rcases hrun with hrun | ⟨hrun, rfl⟩
           · rw [hrun, Oper.upon_value]; exact hgo
           · rw [hrun, Oper.upon_skip]; exact hgo
       have skip : ∀ (e : Env) (G : Nat), REnv B I e a.tmps → F P G (.ops ss (updO e s.dst .und) H k) → wpList P all Q l (a.put o.dst undef) w := by
         intro e G he hk
         rw [hdd]
         exact ops_sound hrest hk hs (skip_env he _) (by rw [put_defers]; exact hd) (by rw [put_size]; exact hn) hq
       cases n with
       | zero => exact hF.elim
       | succ n =>
         obtain ⟨sd, sop, sg⟩ := s
         cases hog : o.guard with
         | none =>
           rw [hog] at hg
           cases sg with
           | some _ => simp [chkGuard] at hg
           | none =>
             rw [F_op] at hF
             unfold wpList
             rw [if_pos (by simp [Region.wanted, hog])]
             exact .inl (run e n he hF)
         | some jb =>
           obtain ⟨j, want⟩ := jb
           rw [hog] at hg
           cases sg with
           | none => simp [chkGuard] at hg
           | some tb =>
             obtain ⟨t, want'⟩ := tb
             simp only [chkGuard, Bool.and_eq_true, beq_iff_eq, decide_eq_true_eq] at hg
             obtain ⟨⟨rfl, hj⟩, ht⟩ := hg
             have hy := yielded_of (a := a) (env := e) hj (by omega) he (v := e t) rfl
             have hwant : ∀ b, e t = .bool b → (Region.wanted o (yielded all a.tmps) = decide (b = want)) := by
               intro b hb
               simp only [Region.wanted, hog, hy.1 b hb]
               cases b <;> cases want <;> rfl
             cases hv : e t with
             | bool b =>
               have hw := hwant b hv
               unfold wpList
               rw [hw]
               cases want with
               | true =>
                 rw [F_opT, hv] at hF
                 cases b with
                 | true => simp only [decide_true, if_true]; have := hF.1 rfl; rw [upd_self hv rfl] at this; exact .inl (run e n he this)
                 | false => simp only [Bool.false_eq_true, decide_false, if_false]; have := hF.2 rfl; rw [upd_self hv rfl] at this; exact skip e n he this
               | false =>
                 rw [F_opF, hv] at hF
                 cases b with
                 | true => simp only [Bool.true_eq_false, decide_false, if_false, Bool.false_eq_true]; have := hF.1 rfl; rw [upd_self hv rfl] at this; exact skip e n he this
                 | false => simp only [decide_true, if_true]; have := hF.2 rfl; rw [upd_self hv rfl] at this; exact .inl (run e n he this)
             | und =>
               unfold wpList
               have hw : Region.wanted o (yielded all a.tmps) = false := by
                 simp only [Region.wanted, hog, hy.2 hv]; rfl
               rw [hw]
               simp only [Bool.false_eq_true, if_false]
               cases want with
               | true => rw [F_opT, hv] at hF; exact skip e n he hF
               | false => rw [F_opF, hv] at hF; exact skip e n he hF
             | _ => cases want <;> first | (rw [F_opT, hv] at hF; exact hF.elim) | (rw [F_opF, hv] at hF; exact hF.elim)
end
def conf (a b : QO) : Bool :=   -- a stands before b in the text
  match a.o.dst with
  | some t => b.tmps.contains t || b.o.dst == some t || (match b.o.dst with | some u => a.tmps.contains u | none => false)
  | none => match b.o.dst with
    | some u => a.tmps.contains u
    | none => false
def edgeOK (all : Array Oper) (ss : List QO) (j : Nat) : Bool :=
  match all[j]?, ss[j]? with
  | some o, some q => o.after.toList.all (fun e => !Region.binds .any e || decide (e.on < j)) &&
      (List.range ss.length).all (fun i => !q.bs.testBit i || o.after.toList.any (fun e => Region.binds .any e && (e.on == i || (match ss[e.on]? with | some p => p.bs.testBit i | none => false))))
  | _, _ => false
def confOK (ss : List QO) (j : Nat) : Bool :=
  match ss[j]? with
  | some q => (List.range j).all fun i => match ss[i]? with
    | some p => !conf p q || q.bs.testBit i
    | none => false
  | none => false
def rankOK (ss : List QO) (j : Nat) : Bool :=
  match ss[j]? with
  | some q => match q.ld with
    | true => rk ss j == 0 || (List.range j).any fun i => match ss[i]? with
      | some p => p.ld && rk ss i + 1 == rk ss j && q.bs.testBit i
      | none => false
    | false => decide (q.lo ≤ rk ss j) && decide (rk ss j ≤ q.hi) && (q.lo == 0 || (List.range j).any fun i => match ss[i]? with
        | some p => p.ld && rk ss i + 1 == q.lo && q.bs.testBit i
        | none => false) &&
      (decide (rk ss ss.length ≤ q.hi) || (List.range ss.length).any fun i => match ss[i]? with
        | some p => p.ld && rk ss i == q.hi && p.bs.testBit j
        | none => false)
  | none => false
def chkQ (P : Program) (nt : Nat) (all : Array Oper) (ss : List QO) : Bool :=
  chkOps P nt all all.toList (ss.map (·.o)) && (List.range ss.length).all fun j => edgeOK all ss j && confOK ss j && rankOK ss j
section
variable {P : Program} {all : Array Oper} {ss : List QO}
def Closed (all : Array Oper) (N : Nat) (S : Nat → Prop) : Prop := ∀ (j : Nat) o, j < N → S j → all[j]? = some o → ∀ e ∈ o.after, Region.binds .any e = true → S e.on
theorem closed_bs {N : Nat} {S : Nat → Prop} (hN : ss.length = N) (hE : ∀ j, j < N → edgeOK all ss j = true) (hC : Closed all N S) : ∀ (j : Nat), j < N → ∀ q o, ss[j]? = some q → all[j]? = some o →
    (∀ e ∈ o.after, Region.binds .any e = true → S e.on) → ∀ i, i < N → q.bs.testBit i = true → S i := by
  intro j
  induction j using Nat.strongRecOn with
  | _ j ih =>
    intro hj q o hq ho hpre i hi hb
    have h := hE j hj
    simp only [edgeOK, ho, hq, Bool.and_eq_true, List.all_eq_true, List.mem_range, hN] at h
    obtain ⟨h1, h2⟩ := h
    have h3 := h2 i hi
    simp only [hb, Bool.not_true, Bool.false_or, List.any_eq_true, Bool.and_eq_true, Bool.or_eq_true, beq_iff_eq] at h3
    obtain ⟨e, he, hbind, h3⟩ := h3
    have he' : e ∈ o.after := by simpa using he
    rcases h3 with rfl | h3
    · exact hpre e he' hbind
    · have hlt : e.on < j := by
        have := h1 e he
        simpa [hbind] using this
      have hSe := hpre e he' hbind
      split at h3
      · rename_i p hp
        have hjN : e.on < N := by omega
        have hall : e.on < all.size := by
          have := hE e.on hjN
          unfold edgeOK at this
          cases ha : all[e.on]? with
          | none => rw [ha] at this; simp at this
          | some _ => exact (Array.getElem?_eq_some_iff.1 ha).1
        exact ih e.on hlt hjN p (all[e.on]) hp (by simp [hall]) (hC e.on _ hjN hSe (by simp [hall])) i hi h3
      · cases h3
noncomputable def eS (ss : List QO) (tr : List (Env × V)) (e0 : Env) (L : Nat → Bool) : Nat → Env
  | 0 => e0
  | k + 1 => match L k, ss[k]? with
    | true, some q => updO (eS ss tr e0 L k) q.o.dst (vsOf tr k)
    | _, _ => eS ss tr e0 L k
theorem updO_ne {e : Env} {d : Option Nat} {v : V} {t : Nat} (h : d ≠ some t) : updO e d v t = e t := by
  cases d with
  | none => rfl
  | some d =>
    show (if t = d then v else e t) = e t
    rw [if_neg (fun hh => h (by rw [hh]))]
theorem conf_of {p q : QO} {t : Nat} (h : conf p q = false) : (p.o.dst = some t → t ∉ q.tmps ∧ q.o.dst ≠ some t) ∧ (q.o.dst = some t → t ∉ p.tmps ∧ p.o.dst ≠ some t) := by
  unfold conf at h
  constructor
  · intro hp
    rw [hp] at h
    simp only [Bool.or_eq_false_iff] at h
    obtain ⟨⟨h1, h2⟩, _⟩ := h
    exact ⟨by simpa using h1, by simpa using h2⟩
  · intro hq
    cases hd : p.o.dst with
    | none => rw [hd, hq] at h; exact ⟨by simpa using h, by simp⟩
    | some u =>
      rw [hd, hq] at h
      simp only [Bool.or_eq_false_iff] at h
      obtain ⟨⟨_, h2⟩, h3⟩ := h
      refine ⟨by simpa using h3, ?_⟩
      intro hh
      cases hh
      simp at h2
def un (L : Nat → Bool) : Nat → Nat
  | 0 => 0
  | k + 1 => un L k + (if L k then 0 else 1)
theorem un_set {L : Nat → Bool} {i : Nat} (h : L i = false) : ∀ k, un L k = un (fun j => if j = i then true else L j) k + (if i < k then 1 else 0)
  | 0 => by simp [un]
  | k + 1 => by
    have := un_set h k
    simp only [un]
    by_cases hk : k = i
    · subst hk
      rw [if_neg (Nat.lt_irrefl k)] at this
      have e1 : (if L k = true then 0 else 1) = 1 := if_neg (by simp [h])
      have e2 : (if (if k = k then true else L k) = true then 0 else 1) = 0 := if_pos (if_pos rfl)
      have e3 : (if k < k + 1 then 1 else 0) = 1 := if_pos (by omega)
      omega
    · simp only [hk, if_false]
      by_cases hik : i < k
      · rw [if_pos hik] at this; rw [if_pos (show i < k + 1 by omega)]; omega
      · rw [if_neg hik] at this; rw [if_neg (show ¬ i < k + 1 by omega)]; omega
theorem un_zero {L : Nat → Bool} : ∀ k, un L k = 0 → ∀ i, i < k → L i = true
  | k + 1, h, i, hi => by
    simp only [un] at h
    by_cases hik : i = k
    · subst hik
      cases hL : L i with
      | true => rfl
      | false => rw [hL] at h; simp at h
    · exact un_zero k (by omega) i (by omega)
theorem rk_exists : ∀ (k r : Nat), r < rk ss k → ∃ (i : Nat) (p : QO), i < k ∧ ss[i]? = some p ∧ p.ld = true ∧ rk ss i = r
  | 0, r, h => by rw [rk_zero] at h; omega
  | k + 1, r, h => by
    cases hk : ss[k]? with
    | none =>
      have : rk ss (k + 1) = rk ss k := by
        unfold rk; rw [List.take_add_one, hk]; simp
      obtain ⟨i, p, h1, h2⟩ := rk_exists k r (by omega)
      exact ⟨i, p, by omega, h2⟩
    | some q =>
      rw [rk_succ hk] at h
      by_cases hr : r < rk ss k
      · obtain ⟨i, p, h1, h2⟩ := rk_exists k r hr
        exact ⟨i, p, by omega, h2⟩
      · cases hq : q.ld with
        | true => rw [hq] at h; simp at h; exact ⟨k, q, by omega, hk, hq, by omega⟩
        | false => rw [hq] at h; simp at h; omega
theorem any_sound {R : (Nat → Bool) → Fr → Act → Prop} {B : List Pl} {I : IM} {nt : Nat} {Q : Exit → Act → World → Prop} {tr : List (Env × V)} {e0 e' : Env} {H0 : List Blk} {Hs : List (List Blk)} {H' : List Blk}
    (hN : ss.length ≤ all.size) (hops : chkOps P nt all (all.toList.take ss.length) (ss.map (·.o)) = true) (hE : ∀ j, j < ss.length → edgeOK all ss j = true) (hCf : ∀ j, j < ss.length → confOK ss j = true) (hR : ∀ j, j < ss.length → rankOK ss j = true)
    (hlast : ∀ (j : Nat) (o : Oper), all[j]? = some o → ss.length ≤ j → ∀ i, i < ss.length → ∃ e ∈ o.after, Region.binds .any e = true ∧ e.on = i)
    (hGR : GR P ss e0 H0 tr Hs e' H') (hstab : stabL P ss tr (H0 :: Hs))
    (hJg : ∀ (j : Nat) (q : QO), ss[j]? = some q → q.o.op = .jalloc → q.o.guard = none)
    (hR1 : ∀ (L : Nat → Bool) (f : Fr) (a : Act) (j : Nat) (q : QO) (v : Value), ss[j]? = some q → L j = false → q.o.op ≠ .jalloc → R L f a → R (fun i => if i = j then true else L i) f (a.put q.o.dst v))
    (hR2 : ∀ (L : Nat → Bool) (f : Fr) (a : Act) (j : Nat) (q : QO) (o : Oper) (B : List Pl) (I : IM) (w : World) (H : List Blk), ss[j]? = some q → all[j]? = some o → L j = false → chkOper P nt all o q.o = true → q.o.op = .jalloc → R L f a → Sim f B I w H → a.tmps.size = nt →
      ∃ v w' f', (execOp a.eval o).run P w = .ok (.value v) w' ∧ Sim f' B I w' H ∧ R (fun i => if i = j then true else L i) f' (a.put q.o.dst v))
    (hQ : ∀ (f : Fr) (B' : List Pl) (I' : IM) (a : Act) (w : World) (fuel : Nat) (listed : Array Bool), R (fun i => listed.getD i false) f a → Sim f B' I' w H' → BLe B B' → ILe I I' → REnv B' I' e' a.tmps → a.defers = [] → a.tmps.size = nt → listed.size = all.size →
      (∀ i, i < ss.length → listed.getD i false = true) → (∀ i, ss.length ≤ i → listed.getD i false = false) → all.size ≤ ss.length + fuel → wpAny P .any all Q fuel listed a w) :
    ∀ (fuel : Nat) (listed : Array Bool) (q0 : Nat) (f : Fr) (B' : List Pl) (I' : IM) (a : Act) (w : World), listed.size = all.size → (Closed all ss.length fun i => listed.getD i false = true) → (∀ i, ss.length ≤ i → listed.getD i false = false) →
      (∀ (i : Nat) p, ss[i]? = some p → p.ld = true → (listed.getD i false = true ↔ rk ss i < q0)) → q0 ≤ rk ss ss.length →
      un (fun i => listed.getD i false) ss.length + (all.size - ss.length) ≤ fuel → R (fun i => listed.getD i false) f a →
      Sim f B' I' w ((H0 :: Hs).getD q0 []) → BLe B B' → ILe I I' → REnv B' I' (eS ss tr e0 (fun i => listed.getD i false) ss.length) a.tmps → a.defers = [] → a.tmps.size = nt → wpAny P .any all Q fuel listed a w := by
  have hchk : ∀ (j : Nat) o q, all[j]? = some o → ss[j]? = some q → chkOper P nt all o q.o = true := by
    have : ∀ (l : List Oper) (m : List SOper), chkOps P nt all l m = true → ∀ (j : Nat) o s, l[j]? = some o → m[j]? = some s → chkOper P nt all o s = true := by
      intro l
      induction l with
      | nil => intro m _ j o s h; simp at h
      | cons x l ih => intro m h j o s h1 h2; cases m with
        | nil => simp at h2
        | cons y m =>
          simp only [chkOps, Bool.and_eq_true] at h
          cases j with
          | zero => simp at h1 h2; subst h1; subst h2; exact h.1
          | succ j => exact ih m h.2 j o s (by simpa using h1) (by simpa using h2)
    intro j o q h1 h2
    have hj : j < ss.length := (List.getElem?_eq_some_iff.1 h2).1
    exact this _ _ hops j o q.o (by rw [List.getElem?_take, if_pos hj]; simpa using h1) (by simp [h2])
  have htl := hGR.length
  have agree : ∀ (L : Nat → Bool), (Closed all ss.length fun i => L i = true) → ∀ (j : Nat) q o, ss[j]? = some q → all[j]? = some o → L j = false → (∀ e ∈ o.after, Region.binds .any e = true → L e.on = true) →
      ∀ t ∈ q.tmps, eS ss tr e0 L ss.length t = esOf tr e' j t := by
    intro L hcl j q o hq ho hLj hpre t ht
    have hjN : j < ss.length := (List.getElem?_eq_some_iff.1 hq).1
    have key : ∀ k, k ≤ ss.length → eS ss tr e0 L k t = esOf tr e' (min k j) t := by
      intro k
      induction k with
      | zero => intro _; rw [Nat.zero_min, hGR.at0]; rfl
      | succ k ih =>
        intro hk
        have ih' := ih (by omega)
        obtain ⟨p, hp⟩ : ∃ p, ss[k]? = some p := ⟨ss[k], List.getElem?_eq_getElem (by omega)⟩
        simp only [eS, hp]
        rcases Nat.lt_trichotomy k j with hkj | hkj | hkj
        · have hstep := (hGR.step k p hp).2
          rw [show min (k + 1) j = k + 1 by omega, hstep]
          rw [show min k j = k by omega] at ih'
          cases hL : L k with
          | true =>
            simp only
            by_cases hd : p.o.dst = some t
            · rw [hd]; simp [updO, upd]
            · rw [updO_ne hd, updO_ne hd]; exact ih'
          | false =>
            simp only
            have hno : p.o.dst ≠ some t := by
              intro hd
              have hc := hCf j hjN
              simp only [confOK, hq, List.all_eq_true, List.mem_range] at hc
              have hc := hc k hkj
              rw [hp] at hc
              simp only [Bool.or_eq_true, Bool.not_eq_true'] at hc
              rcases hc with hc | hc
              · exact ((conf_of hc).1 hd).1 ht
              · have := closed_bs rfl hE hcl j hjN q o hq ho hpre k (by omega) hc
                rw [hL] at this; cases this
            rw [updO_ne hno]; exact ih'
        · subst hkj
          rw [hLj]
          rw [show min (k + 1) k = min k k by omega]; exact ih'
        · rw [show min (k + 1) j = min k j by omega, ← ih']
          cases hL : L k with
          | false => rfl
          | true =>
            simp only
            have hno : p.o.dst ≠ some t := by
              intro hd
              have hkN : k < ss.length := by omega
              have hc := hCf k hkN
              simp only [confOK, hp, List.all_eq_true, List.mem_range] at hc
              have hc := hc j hkj
              rw [hq] at hc
              simp only [Bool.or_eq_true, Bool.not_eq_true'] at hc
              rcases hc with hc | hc
              · exact ((conf_of hc).2 hd).1 ht
              · have hka : k < all.size := by omega
                have := closed_bs rfl hE hcl k hkN p all[k] hp (by simp [hka]) (hcl k _ hkN hL (by simp [hka])) j hjN hc
                rw [hLj] at this; cases this
            rw [updO_ne hno]
    have := key ss.length (Nat.le_refl _)
    rwa [show min ss.length j = j by omega] at this
  have after : ∀ (L : Nat → Bool), (Closed all ss.length fun i => L i = true) → ∀ (j : Nat) q o, ss[j]? = some q → all[j]? = some o → L j = false →
      eS ss tr e0 (fun i => if i = j then true else L i) ss.length = updO (eS ss tr e0 L ss.length) q.o.dst (vsOf tr j) := by
    intro L hcl j q o hq ho hLj
    have hjN : j < ss.length := (List.getElem?_eq_some_iff.1 hq).1
    funext t
    have key : ∀ k, k ≤ ss.length → eS ss tr e0 (fun i => if i = j then true else L i) k t = if k ≤ j then eS ss tr e0 L k t else updO (eS ss tr e0 L k) q.o.dst (vsOf tr j) t := by
      intro k
      induction k with
      | zero => intro _; simp [eS]
      | succ k ih =>
        intro hk
        have ih' := ih (by omega)
        obtain ⟨p, hp⟩ : ∃ p, ss[k]? = some p := ⟨ss[k], List.getElem?_eq_getElem (by omega)⟩
        simp only [eS, hp]
        rcases Nat.lt_trichotomy k j with hkj | hkj | hkj
        · rw [if_pos (show k + 1 ≤ j by omega), if_neg (show ¬ k = j by omega)]
          rw [if_pos (show k ≤ j by omega)] at ih'
          cases hL : L k with
          | true =>
            simp only
            by_cases hd : p.o.dst = some t
            · rw [hd]; simp [updO, upd]
            · rw [updO_ne hd, updO_ne hd]; exact ih'
          | false => exact ih'
        · subst hkj
          rw [if_neg (show ¬ k + 1 ≤ k by omega), if_pos rfl, hLj]
          rw [if_pos (Nat.le_refl k)] at ih'
          rw [hq] at hp; cases hp
          simp only
          by_cases hd : q.o.dst = some t
          · rw [hd]; simp [updO, upd]
          · rw [updO_ne hd, updO_ne hd]; exact ih'
        · rw [if_neg (show ¬ k + 1 ≤ j by omega), if_neg (show ¬ k = j by omega)]
          rw [if_neg (show ¬ k ≤ j by omega)] at ih'
          cases hL : L k with
          | false => simp only; exact ih'
          | true =>
            simp only
            by_cases hd : p.o.dst = some t
            · have hno : q.o.dst ≠ some t := by
                intro hdq
                have hkN : k < ss.length := by omega
                have hc := hCf k hkN
                simp only [confOK, hp, List.all_eq_true, List.mem_range] at hc
                have hc := hc j hkj
                rw [hq] at hc
                simp only [Bool.or_eq_true, Bool.not_eq_true'] at hc
                rcases hc with hc | hc
                · exact ((conf_of hc).2 hd).2 hdq
                · have hka : k < all.size := by omega
                  have := closed_bs rfl hE hcl k hkN p all[k] hp (by simp [hka]) (hcl k _ hkN hL (by simp [hka])) j hjN hc
                  rw [hLj] at this; cases this
              rw [updO_ne hno, hd]; simp [updO, upd]
            · rw [updO_ne hd, ih']
              by_cases hdq : q.o.dst = some t
              · rw [hdq]; simp [updO, upd]
              · rw [updO_ne hdq, updO_ne hdq, updO_ne hd]
    have := key ss.length (Nat.le_refl _)
    rwa [if_neg (by omega)] at this
  have full : ∀ (L : Nat → Bool), (∀ i, i < ss.length → L i = true) → eS ss tr e0 L ss.length = e' := by
    intro L hL
    have key : ∀ k, k ≤ ss.length → eS ss tr e0 L k = esOf tr e' k := by
      intro k
      induction k with
      | zero => intro _; rw [hGR.at0]; rfl
      | succ k ih =>
        intro hk
        obtain ⟨p, hp⟩ : ∃ p, ss[k]? = some p := ⟨ss[k], List.getElem?_eq_getElem (by omega)⟩
        simp only [eS, hp, hL k (by omega), ih (by omega)]
        exact ((hGR.step k p hp).2).symm
    rw [key _ (Nat.le_refl _), hGR.final.1]
  have done : ∀ (fuel : Nat) (listed : Array Bool) (q0 : Nat) (f : Fr) (B' : List Pl) (I' : IM) (a : Act) (w : World), listed.size = all.size → (∀ i, i < ss.length → listed.getD i false = true) → (∀ i, ss.length ≤ i → listed.getD i false = false) → all.size ≤ ss.length + fuel →
      (∀ (i : Nat) p, ss[i]? = some p → p.ld = true → (listed.getD i false = true ↔ rk ss i < q0)) → q0 ≤ rk ss ss.length → R (fun i => listed.getD i false) f a →
      Sim f B' I' w ((H0 :: Hs).getD q0 []) → BLe B B' → ILe I I' → REnv B' I' (eS ss tr e0 (fun i => listed.getD i false) ss.length) a.tmps → a.defers = [] → a.tmps.size = nt → wpAny P .any all Q fuel listed a w := by
    intro fuel listed q0 f B' I' a w hsz hall hlN hfu hld hq0 hRf hsim hB hI he hd hn
    have hq : q0 = rk ss ss.length := by
      by_cases h : q0 < rk ss ss.length
      · obtain ⟨i, p, h1, h2, h3, h4⟩ := rk_exists ss.length q0 h
        have := (hld i p h2 h3).1 (hall i h1)
        omega
      · omega
    rw [hq, hGR.final.2] at hsim
    rw [full _ hall] at he
    exact hQ f B' I' a w fuel listed hRf hsim hB hI he hd hn hsz hall hlN hfu
  have noneReady : ∀ (listed : Array Bool), listed.size = all.size → Region.ready .any all listed = [] → ∀ i, i < ss.length → listed.getD i false = true := by
    intro listed hsz hr i
    induction i using Nat.strongRecOn with
    | _ i ih =>
      intro hi
      cases hL : listed.getD i false with
      | true => rfl
      | false =>
        exfalso
        have hia : i < all.size := by omega
        have : i ∈ Region.ready .any all listed := by
          rw [mem_ready]
          refine ⟨?_, all[i], by simp [hia], fun e he hb => ?_⟩
          · have : i < listed.size := by omega
            simp [Array.getD, this] at hL ⊢; exact hL
          · have h := hE i hi
            have hq : ss[i]? = some ss[i] := List.getElem?_eq_getElem hi
            simp only [edgeOK, hq, show all[i]? = some all[i] by simp [hia], Bool.and_eq_true, List.all_eq_true] at h
            have h1 := h.1 e (by simpa using he)
            rw [hb] at h1
            simp at h1
            exact ih e.on h1 (by omega)
        rw [hr] at this; cases this
  intro fuel
  induction fuel with
  | zero =>
    intro listed q0 f B' I' a w hsz hcl hlN hld hq0 hun hRf hsim hB hI he hd hn
    have hall := un_zero ss.length (by omega) (L := fun i => listed.getD i false)
    exact done 0 listed q0 f B' I' a w hsz hall hlN (by omega) hld hq0 hRf hsim hB hI he hd hn
  | succ fuel ih =>
    intro listed q0 f B' I' a w hsz hcl hlN hld hq0 hun hRf hsim hB hI he hd hn
    by_cases hall : ∀ i, i < ss.length → listed.getD i false = true
    · exact done (fuel + 1) listed q0 f B' I' a w hsz hall hlN (by omega) hld hq0 hRf hsim hB hI he hd hn
    refine ⟨fun hr => absurd (noneReady listed hsz hr) hall, ?_⟩
    intro j hj
    rw [mem_ready] at hj
    obtain ⟨hj1, o, ho, hpre⟩ := hj
    have hjN : j < ss.length := by
      by_cases h : j < ss.length
      · exact h
      · exfalso; refine hall fun i hi => ?_
        obtain ⟨e, he1, he2, rfl⟩ := hlast j o ho (by omega) i hi
        exact hpre e he1 he2
    have hja := (Array.getElem?_eq_some_iff.1 ho).1
    have hjl : j < listed.size := by omega
    have hLj : listed.getD j false = false := by simp [Array.getD, hjl] at hj1 ⊢; exact hj1
    obtain ⟨q, hq⟩ : ∃ q, ss[j]? = some q := ⟨ss[j], List.getElem?_eq_getElem hjN⟩
    have hag := agree (fun i => listed.getD i false) hcl j q o hq ho hLj hpre
    have haf := after (fun i => listed.getD i false) hcl j q o hq ho hLj
    have hbs : ∀ i, i < ss.length → q.bs.testBit i = true → listed.getD i false = true := fun i hi hb => closed_bs rfl hE hcl j hjN q o hq ho hpre i hi hb
    obtain ⟨hstep, _⟩ := hGR.step j q hq
    have hrk := rk_succ hq
    have hrank := hR j hjN
    simp only [rankOK, hq] at hrank
    have hgs : gstep P q.o (eS ss tr e0 (fun i => listed.getD i false) ss.length) ((H0 :: Hs).getD q0 []) (vsOf tr j) ((H0 :: Hs).getD (q0 + if q.ld then 1 else 0) []) ∧ (q.ld = true → rk ss j = q0) := by
      refine ⟨?_, ?_⟩
      · refine gstep_congr (e := esOf tr e' j) (fun t ht => (hag t ht).symm) ?_
        cases hl : q.ld with
        | true =>
          rw [hl] at hrank hrk
          have hjq : rk ss j = q0 := by
            have h1 : ¬ rk ss j < q0 := fun h => by have := (hld j q hq hl).2 h; rw [hLj] at this; cases this
            simp only [Bool.or_eq_true, beq_iff_eq, List.any_eq_true, List.mem_range] at hrank
            rcases hrank with h0 | ⟨i, hi, h2⟩
            · omega
            · split at h2
              · rename_i p hp
                simp only [Bool.and_eq_true, beq_iff_eq] at h2
                have := (hld i p hp h2.1.1).1 (hbs i (by omega) h2.2)
                omega
              · cases h2
          rw [if_pos rfl] at hrk ⊢
          rw [← hjq, ← hrk]; exact hstep
        | false =>
          rw [hl] at hrank hrk
          rw [if_neg (by simp)] at hrk ⊢
          simp only [Bool.and_eq_true, decide_eq_true_eq, Bool.or_eq_true, beq_iff_eq, List.any_eq_true, List.mem_range] at hrank
          obtain ⟨⟨⟨h1, h2⟩, h3⟩, h4⟩ := hrank
          have hlo : q.lo ≤ q0 := by
            rcases h3 with h0 | ⟨i, hi, h3⟩
            · omega
            · split at h3
              · rename_i p hp
                simp only [Bool.and_eq_true, beq_iff_eq] at h3
                have := (hld i p hp h3.1.1).1 (hbs i (by omega) h3.2)
                omega
              · cases h3
          have hhi : q0 ≤ q.hi := by
            rcases h4 with h0 | ⟨i, hi, h4⟩
            · omega
            · split at h4
              · rename_i p hp
                simp only [Bool.and_eq_true, beq_iff_eq] at h4
                by_cases hLi : listed.getD i false = true
                · have hia : i < all.size := by omega
                  have := closed_bs rfl hE hcl i hi p all[i] hp (by simp [hia]) (hcl i _ hi hLi (by simp [hia])) j hjN h4.2
                  rw [hLj] at this; cases this
                · have : ¬ rk ss i < q0 := fun h => hLi ((hld i p hp h4.1.1).2 h)
                  omega
              · cases h4
          have hv : tr[j]? = some (esOf tr e' j, vsOf tr j) := by
            have : j < tr.length := by omega
            simp [esOf, vsOf, List.getElem?_eq_getElem this]
          by_cases hne : q.lo = q.hi
          · have : rk ss j = q0 := by omega
            have h5 := hstep
            rw [hrk, Nat.add_zero, this] at h5; exact h5
          · exact stabL_spec htl hstab j q _ _ hq hv hl hne q0 hlo hhi
      · intro hl
        rw [hl] at hrank
        have h1 : ¬ rk ss j < q0 := fun h => by have := (hld j q hq hl).2 h; rw [hLj] at this; cases this
        simp only [Bool.or_eq_true, beq_iff_eq, List.any_eq_true, List.mem_range] at hrank
        rcases hrank with h0 | ⟨i, hi, h2⟩
        · omega
        · split at h2
          · rename_i p hp
            simp only [Bool.and_eq_true, beq_iff_eq] at h2
            have := (hld i p hp h2.1.1).1 (hbs i (by omega) h2.2)
            omega
          · cases h2
    obtain ⟨hgs, hjq⟩ := hgs
    have hset : ∀ i, (listed.setIfInBounds j true).getD i false = if i = j then true else listed.getD i false := by
      intro i
      by_cases hij : i = j
      · subst hij; rw [if_pos rfl]; simp [Array.getD, hjl]
      · rw [if_neg hij]; exact getD_set_ne false (fun h => hij h.symm)
    have hsetF : (fun i => (listed.setIfInBounds j true).getD i false) = fun i => if i = j then true else listed.getD i false := funext hset
    have next : ∀ (f2 : Fr) (a' : Act) (w' : World) (B2 : List Pl) (I2 : IM), R (fun i => if i = j then true else listed.getD i false) f2 a' → Sim f2 B2 I2 w' ((H0 :: Hs).getD (q0 + if q.ld then 1 else 0) []) → BLe B' B2 → ILe I' I2 →
        REnv B2 I2 (updO (eS ss tr e0 (fun i => listed.getD i false) ss.length) q.o.dst (vsOf tr j)) a'.tmps → a'.defers = [] → a'.tmps.size = nt →
        wpAny P .any all Q fuel (listed.setIfInBounds j true) a' w' := by
      intro f2 a' w' B2 I2 hR2' hs2 hB2 hI2 he2 hd2 hn2
      refine ih (listed.setIfInBounds j true) (q0 + if q.ld then 1 else 0) f2 B2 I2 a' w' (by simpa using hsz) ?_ ?_ ?_ ?_ ?_ (by rw [hsetF]; exact hR2') hs2 (hB.trans hB2) (hI.trans hI2) ?_ hd2 hn2
      · intro i oi hi hLi hoi e hee hbe
        rw [hset] at hLi ⊢
        split
        · rfl
        · split at hLi
          · rename_i h1; subst h1
            rw [ho] at hoi; cases hoi
            exact hpre e hee hbe
          · exact hcl i oi hi hLi hoi e hee hbe
      · intro i hi; rw [hset, if_neg (by omega)]; exact hlN i hi
      · intro i p hp hpl
        rw [hset]
        by_cases hij : i = j
        · subst hij
          rw [hq] at hp; cases hp
          have := hjq hpl
          simp [hpl]; omega
        · rw [if_neg hij, hld i p hp hpl]
          cases hl : q.ld with
          | false => simp
          | true =>
            have h1 := hjq hl
            have hne : rk ss i ≠ rk ss j := by
              intro he1
              rcases Nat.lt_or_gt_of_ne hij with h2 | h2
              · have h3 := rk_succ hp; rw [hpl, if_pos rfl] at h3
                have := rk_mono (ss := ss) (show i + 1 ≤ j by omega); omega
              · have h3 := hrk; rw [hl, if_pos rfl] at h3
                have := rk_mono (ss := ss) (show j + 1 ≤ i by omega); omega
            rw [if_pos rfl]; omega
      · cases hl : q.ld with
        | false => simpa using hq0
        | true =>
          have h1 := hjq hl
          have h3 := hrk; rw [hl, if_pos rfl] at h3
          have := rk_mono (ss := ss) (show j + 1 ≤ ss.length by omega)
          rw [if_pos rfl]; omega
      · rw [hsetF]
        have := un_set (L := fun i => listed.getD i false) hLj ss.length
        rw [if_pos hjN] at this
        omega
      · rw [hsetF, haf]; exact he2
    have hco0 := hchk j o q ho hq
    have hco := hco0
    simp only [chkOper, Bool.and_eq_true] at hco
    obtain ⟨⟨hdst, hg⟩, hop⟩ := hco
    have hdd : o.dst = q.o.dst := by
      cases h1 : o.dst <;> cases h2 : q.o.dst <;> simp [h1, h2, chkDst] at hdst ⊢
      exact hdst.1
    have run : ∀ H1, exOp P q.o.op (eS ss tr e0 (fun i => listed.getD i false) ss.length) ((H0 :: Hs).getD q0 []) (ret1 (vsOf tr j) H1) → H1 = ((H0 :: Hs).getD (q0 + if q.ld then 1 else 0) []) →
        o.wp P a w (wpAny P .any all Q fuel (listed.setIfInBounds j true)) Q := by
      intro H1 hk hH1
      by_cases hz : q.o.op = .jalloc
      · obtain ⟨v, w', f', hrun, hs2, hR2'⟩ := hR2 _ f a j q o B' I' w _ hq ho hLj hco0 hz hRf hsim hn
        rw [hz] at hk
        simp only [exOp, ret1] at hk
        obtain ⟨hv, rfl⟩ := hk
        unfold Oper.wp
        rw [hrun, Oper.upon_value]
        rw [hH1] at hs2
        exact next f' _ _ B' I' (by rw [hdd]; exact hR2') hs2 (BLe.refl _) (ILe.refl _) (by rw [hdd, ← hv]; exact he.put _ trivial) (by rw [put_defers]; exact hd) (by rw [put_size]; exact hn)
      have hnj : q.o.op ≠ .jalloc := hz
      by_cases hcall : ∃ fx as, q.o.op = .call fx as
      · obtain ⟨fx, as, hsop⟩ := hcall
        rw [hsop] at hk hop
        obtain ⟨g, args, hrun, hcalls⟩ := op_call (by rw [hn]; exact hop) he hsim hk
        unfold Oper.wp
        rw [hrun, Oper.upon_enter]
        refine hcalls.mono ?_
        rintro en w' ⟨r, v, H2, B2, I2, rfl, ⟨rfl, rfl⟩, hs', hB2, hI2, hrep⟩
        simp only
        rw [hH1] at hs'
        exact next f _ _ B2 I2 (by rw [hdd]; exact hR1 _ f a j q _ hq hLj hnj hRf) hs' hB2 hI2 (by rw [hdd]; exact (he.mono hB2 hI2).put _ hrep) (by rw [put_defers]; exact hd) (by rw [put_size]; exact hn)
      · have hcall' : ∀ g as, q.o.op ≠ .call g as := fun g as h => hcall ⟨g, as, h⟩
        obtain ⟨v, w', x, H2, B2, I2, hrun, ⟨rfl, rfl⟩, hs', hB2, hI2, hrep⟩ := op_out (by rw [hn]; exact hop) he hsim hk hcall'
        unfold Oper.wp
        rw [hH1] at hs'
        have hgo : wpAny P .any all Q fuel (listed.setIfInBounds j true) (a.put o.dst v) w' :=
          next f _ _ B2 I2 (by rw [hdd]; exact hR1 _ f a j q _ hq hLj hnj hRf) hs' hB2 hI2 (by rw [hdd]; exact (he.mono hB2 hI2).put _ hrep) (by rw [put_defers]; exact hd) (by rw [put_size]; exact hn)
        rcases hrun with hrun | ⟨hrun, rfl⟩
        · rw [hrun, Oper.upon_value]; exact hgo
        · rw [hrun, Oper.upon_skip]; exact hgo
    have skip : q.o.guard ≠ none → vsOf tr j = .und → ((H0 :: Hs).getD (q0 + if q.ld then 1 else 0) []) = ((H0 :: Hs).getD q0 []) → wpAny P .any all Q fuel (listed.setIfInBounds j true) (a.put o.dst undef) w := by
      intro hgn hv hH
      have hnj : q.o.op ≠ .jalloc := fun h => hgn (hJg j q hq h)
      exact next f _ _ B' I' (by rw [hdd]; exact hR1 _ f a j q _ hq hLj hnj hRf) (by rw [hH]; exact hsim) (BLe.refl _) (ILe.refl _) (by rw [hdd, hv]; exact skip_env he _) (by rw [put_defers]; exact hd) (by rw [put_size]; exact hn)
    unfold wpOp
    rw [ho]
    simp only
    unfold gstep at hgs
    cases hog : o.guard with
    | none =>
      rw [hog] at hg
      cases hqg : q.o.guard with
      | some _ => rw [hqg] at hg; simp [chkGuard] at hg
      | none =>
        rw [hqg] at hgs
        rw [if_pos (by simp [Region.wanted, hog])]
        exact .inl (run _ hgs rfl)
    | some jb =>
      obtain ⟨jj, want⟩ := jb
      rw [hog] at hg
      cases hqg : q.o.guard with
      | none => rw [hqg] at hg; simp [chkGuard] at hg
      | some tb =>
        obtain ⟨t, want'⟩ := tb
        rw [hqg] at hg hgs
        simp only [chkGuard, Bool.and_eq_true, beq_iff_eq, decide_eq_true_eq] at hg
        obtain ⟨⟨rfl, hjj⟩, ht⟩ := hg
        simp only at hgs
        have hy := yielded_of (a := a) hjj (by omega) he (v := eS ss tr e0 (fun i => listed.getD i false) ss.length t) rfl
        cases hv : eS ss tr e0 (fun i => listed.getD i false) ss.length t with
        | bool b =>
          rw [hv] at hgs
          simp only at hgs
          have hw : Region.wanted o (yielded all a.tmps) = decide (b = want) := by
            simp only [Region.wanted, hog, hy.1 b hv]
            cases b <;> cases want <;> rfl
          rw [hw]
          by_cases hb : b = want
          · rw [if_pos hb] at hgs
            rw [if_pos (by simpa using hb)]
            exact .inl (run _ hgs rfl)
          · rw [if_neg hb] at hgs
            rw [if_neg (by simpa using hb)]
            exact skip (by rw [hqg]; simp) hgs.1 hgs.2
        | und =>
          rw [hv] at hgs
          have hw : Region.wanted o (yielded all a.tmps) = false := by
            simp only [Region.wanted, hog, hy.2 hv]; rfl
          rw [hw]
          simp only [Bool.false_eq_true, if_false]
          exact skip (by rw [hqg]; simp) hgs.1 hgs.2
        | _ => rw [hv] at hgs; exact hgs.elim
end
def chkP (P : Program) (n : Nat) (all : Array Oper) (ss : List QO) (t ia : Nat) (z : V) (st : SOper) : Bool :=
  all.size == ss.length + 1 && chkOps P n all (all.toList.take ss.length) (ss.map (·.o)) && ((List.range ss.length).all fun j => edgeOK all ss j && confOK ss j && rankOK ss j) &&
  (match all[ss.length]? with
    | some o => ((List.range ss.length).all fun i => o.after.toList.any fun e => Region.binds .any e && e.on == i) && (o.after.toList.all fun e => !Region.binds .any e || decide (e.on < ss.length)) && o.guard.isNone && st.guard.isNone && chkOper P n all o st && (match st.op with | .call _ _ => false | _ => true)
    | none => false) &&
  (match all[ia]? with
    | some o => (match o.op with | .alloc ty => (match zeroOf P ty with | some v => relVal v z | none => false) | _ => false)
    | none => false) && decide (ia < ss.length) && decide (t < n) &&
  ((List.range ss.length).all fun j => match ss[j]? with
    | some q => (match q.o.op with | .jalloc => j == ia && q.o.dst == some t && q.o.guard.isNone | _ => !(q.o.dst == some t))
    | none => false) && (match ss[ia]? with | some q => (match q.o.op with | .jalloc => true | _ => false) | none => false)
def chkCode (P : Program) (n : Nat) : Code → SCode → Bool
  | .skip, .skip => true
  | .region _ ops false, .region ss => chkOps P n ops ops.toList (strip ss)
  | .region _ ops true, .qregion ss => chkQ P n ops ss && ss.all fun q => match q.o.op with | .jalloc => false | _ => true
  | .region _ ops true, .pregion ss t ia z st => chkP P n ops ss t ia z st
  | .seq a b, .seq a' b' => chkCode P n a a' && chkCode P n b b'
  | .cond c t e, .cond c' t' e' => chkX n c c' && chkCode P n t t' && chkCode P n e e'
  | .block i c, .block j c' => i == j && chkCode P n c c'
  | .loop c, .loop c' => chkCode P n c c'
  | .exit i, .exit j => i == j
  | .ret, .ret => true
  | _, _ => false
section
variable {P : Program} {f : Fr}
theorem wp_region_nodraw {id : Nat} {ops : Array Oper} {Q : Exit → Act → World → Prop} {a : Act} {w : World} (h : wpList P ops Q ops.toList a w) : (Code.region id ops false).wp P Q a w := wp_region_list h
structure PF (f f' : Fr) (p : Nat) (z : V) : Prop where
  blk : ∃ carr ty, f'.w0.heap[p]? = some (.cells carr ty (0, 0)) ∧ (cellsV z).length ≤ carr.size ∧ ∀ B I, ElemsG B I [z] (fun o => carr[o]?) (cellsV z).length 0
  nM : ¬ f'.M p
  nI : f'.I0 p = none
  ge : f.w0.heap.size ≤ p
  tr : ∀ B I w H, Sim f' B I w H → Sim f B I w H
def liveAt (B : List Pl) (H : List Blk) (k : Nat) : Prop := ∃ (i : Nat) (p : Pl) (b : Blk), B[i]? = some p ∧ H[i]? = some b ∧ b.live = true ∧ p.blk = k
theorem Sim.self {B : List Pl} {I : IM} {w : World} {H : List Blk} (h : Sim f B I w H) : Sim ⟨w, liveAt B H, I⟩ B I w H where
  len := h.len
  imm := h.imm
  ile := ILe.refl _
  ifresh b h1 h2 := absurd h1 h2
  os := rfl
  tape := rfl
  output := rfl
  size := Nat.le_refl _
  keep _ _ _ := rfl
  ok := h.ok
  sep := h.sep
  own i p b h1 h2 h3 := ⟨(h.own i p b h1 h2 h3).1, .inr ⟨i, p, b, h1, h2, h3, rfl⟩, (h.own i p b h1 h2 h3).2.2⟩
theorem Sim.reframe {B B2 : List Pl} {I I2 : IM} {w w2 : World} {H H2 : List Blk} (h : Sim f B I w H) (g : Sim ⟨w, liveAt B H, I⟩ B2 I2 w2 H2) : Sim f B2 I2 w2 H2 := by
  have hl : ∀ k, liveAt B H k → f.w0.heap.size ≤ k ∨ f.M k := by
    rintro k ⟨i, p, b, h1, h2, h3, rfl⟩
    exact (h.own i p b h1 h2 h3).2.1
  exact {
    len := g.len
    imm := g.imm
    ile := h.ile.trans g.ile
    ifresh := fun b h0 h1 => by
      by_cases hb : I b = none
      · rcases g.ifresh b hb h1 with h2 | h2
        · exact .inl (Nat.le_trans h.size h2)
        · exact hl b h2
      · exact h.ifresh b h0 hb
    os := g.os.trans h.os
    tape := g.tape.trans h.tape
    output := g.output.trans h.output
    size := Nat.le_trans h.size g.size
    keep := fun k hk hm => (g.keep k (Nat.lt_of_lt_of_le hk h.size) (fun hk2 => (hl k hk2).elim (fun h => by omega) hm)).trans (h.keep k hk hm)
    ok := g.ok
    sep := g.sep
    own := fun i p b h1 h2 h3 => by
      obtain ⟨h4, h5, h6⟩ := g.own i p b h1 h2 h3
      refine ⟨h4, ?_, h6⟩
      rcases h5 with h5 | h5
      · exact .inl (Nat.le_trans h.size h5)
      · exact hl _ h5 }
theorem PF.mk' {B : List Pl} {I : IM} {w : World} {H : List Blk} (h : Sim f B I w H) (v : Value) (ty : TypeId) {z : V} (hz : relVal v z = true) :
    Sim ⟨w.alloc (.cells v.cells ty), liveAt B H, I⟩ B I (w.alloc (.cells v.cells ty)) H ∧ PF f ⟨w.alloc (.cells v.cells ty), liveAt B H, I⟩ w.heap.size z := by
  have hj := h.junk (.cells v.cells ty)
  refine ⟨hj.self, ⟨v.cells, ty, by show (w.heap.push _)[w.heap.size]? = _; simp, ?_, fun B I => one_elem (rel_rep hz) (rel_notAny hz)⟩, ?_, ?_, h.size, fun _ _ _ _ g => hj.reframe g⟩
  · have := (cells_rep (rel_rep (B := []) (I := fun _ => none) hz) (rel_notAny hz)).length
    simp at this ⊢; omega
  · rintro ⟨i, p, b, h1, h2, h3, h4⟩
    have := (h.own i p b h1 h2 h3).2.2
    omega
  · show I _ = none
    cases hx : I w.heap.size with
    | none => rfl
    | some o => have := h.ilt (b := w.heap.size) (by rw [hx]; simp); omega
theorem PF.adopt {f' : Fr} {p : Nat} {z : V} (h : PF f f' p z) {B : List Pl} {I : IM} {w : World} {H : List Blk} (g : Sim f' B I w H) :
    ∃ q : Pl, Sim f (B ++ [q]) I w (H ++ [.row [z]]) ∧ Rep (B ++ [q]) I (.ptr H.length 0 0) (.pointer (some ⟨p, 0, none⟩)) := by
  obtain ⟨carr, ty, h1, h2, h3⟩ := h.blk
  have hlt : p < f'.w0.heap.size := (Array.getElem?_eq_some_iff.1 h1).1
  have hni : I p = none := by
    cases hx : I p with
    | none => rfl
    | some o => rcases g.ifresh p h.nI (by rw [hx]; simp) with h4 | h4
                · omega
                · exact absurd h4 h.nM
  refine ⟨⟨p, 0, carr.size, (cellsV z).length⟩, (h.tr _ _ _ _ g).push _ _ ?_ ?_ ?_, ?_⟩
  · exact ⟨carr, ty, (g.keep p hlt h.nM).trans h1, rfl, by simpa using h2, h3 _ _⟩
  · intro i q c h4 h5 h6 h7
    rcases (g.own i q c h4 h5 h6).2.1 with h8 | h8
    · simp at h7; omega
    · simp at h7; rw [h7] at h8; exact h.nM h8
  · exact ⟨hni, .inl h.ge, Nat.lt_of_lt_of_le hlt g.size⟩
  · simp only [Rep]
    exact ⟨_, by rw [← g.len, getElem?_append_one, if_pos rfl], by simp⟩
theorem un_le : ∀ (L : Nat → Bool) (k : Nat), un L k ≤ k := by
  intro L k
  induction k with
  | zero => simp [un]
  | succ k ih => simp only [un]; split <;> omega
theorem eS_none (ss : List QO) (tr : List (Env × V)) (e : Env) (n : Nat) : ∀ k, eS ss tr e (fun i => (Array.replicate n false).getD i false) k = e := by
  intro k
  induction k with
  | zero => rfl
  | succ k ih =>
    simp only [eS]
    rw [show (Array.replicate n false).getD k false = false by simp [Array.getD]]
    exact ih
theorem ready_none {all : Array Oper} {listed : Array Bool} (hsz : listed.size = all.size) (h : ∀ i, i < all.size → listed.getD i false = true) : Region.ready .any all listed = [] := by
  cases hr : Region.ready .any all listed with
  | nil => rfl
  | cons j l =>
    exfalso
    have hj : j ∈ Region.ready .any all listed := by rw [hr]; simp
    rw [mem_ready] at hj
    obtain ⟨h1, o, ho, _⟩ := hj
    have hja := (Array.getElem?_eq_some_iff.1 ho).1
    have h2 := h j hja
    have : j < listed.size := by omega
    simp [Array.getD, this] at h1 h2
    rw [h1] at h2; cases h2
theorem wpAny_end {all : Array Oper} {Q : Exit → Act → World → Prop} {listed : Array Bool} {a : Act} {w : World} (hr : Region.ready .any all listed = []) (hq : Q .normal a w) : ∀ fuel, wpAny P .any all Q fuel listed a w
  | 0 => ⟨hr, hq⟩
  | fuel + 1 => ⟨fun _ => hq, fun i hi => by rw [hr] at hi; cases hi⟩
theorem chkOps_len {n : Nat} {all : Array Oper} : ∀ (l : List Oper) (m : List SOper), chkOps P n all l m = true → l.length = m.length
  | [], [], _ => rfl
  | [], _ :: _, h => by simp [chkOps] at h
  | _ :: _, [], h => by simp [chkOps] at h
  | x :: l, y :: m, h => by simp only [chkOps, Bool.and_eq_true] at h; simp [chkOps_len l m h.2]
theorem code_sound (hm : P.follows .mixedOrders = true) {nt : Nat} : ∀ (c : Code) (s : SCode), chkCode P nt c s = true → ∀ (n : Nat) (e : Env) (H : List Blk) (k : Kont) (B : List Pl) (I : IM) (a : Act) (w : World) (Q : Exit → Act → World → Prop),
    F P n (.code s e H k) → Sim f B I w H → REnv B I e a.tmps → a.defers = [] → a.tmps.size = nt → SatK P f B I nt k Q → c.wp P Q a w := by
  intro c
  induction c with
  | skip =>
    intro s hc n e H k B I a w Q hF hs he hd hn hq
    cases s <;> simp only [chkCode, Bool.false_eq_true] at hc
    cases n with
    | zero => exact hF.elim
    | succ n => exact wp_skip (hq n _ e H B I a w hF hs (BLe.refl _) (ILe.refl _) he hd hn)
  | region id ops draw =>
    intro s hc n e H k B I a w Q hF hs he hd hn hq
    cases n with
    | zero => exact hF.elim
    | succ n =>
      cases draw with
      | false =>
        cases s <;> simp only [chkCode, Bool.false_eq_true] at hc
        rename_i ss
        exact wp_region_nodraw (ops_sound hc hF hs he hd hn hq)
      | true =>
        cases s <;> simp only [chkCode, Bool.false_eq_true] at hc
        case qregion ss =>
          rw [Bool.and_eq_true] at hc
          obtain ⟨hc, hnj⟩ := hc
          simp only [chkQ, Bool.and_eq_true, List.all_eq_true, List.mem_range] at hc
          obtain ⟨hops, hall⟩ := hc
          rw [F_qregion] at hF
          obtain ⟨tr, Hs, e', H', hg, hstab, hk⟩ := GR.of_run hF
          refine wp_region_any hm ?_
          have hs' := hs.drew
          have hlen : ops.size = ss.length := by simpa using chkOps_len _ _ hops
          refine any_sound (R := fun _ g _ => g = f) (B := B) (I := I) (Q := Q) (Nat.le_of_eq hlen.symm) (by rw [← hlen, List.take_of_length_le (by simp)]; exact hops) (fun j hj => (hall j hj).1.1) (fun j hj => (hall j hj).1.2) (fun j hj => (hall j hj).2)
            (fun j o hj hh => absurd (Array.getElem?_eq_some_iff.1 hj).1 (by omega)) hg hstab ?_ (fun _ _ _ _ _ _ _ _ _ h => h) ?_ ?_ ops.size _ 0 f B I a w.drew (by simp) ?_ ?_ ?_ (Nat.zero_le _) ?_ rfl hs' (BLe.refl _) (ILe.refl _) ?_ hd hn
          · intro j q hj hz
            have := List.all_eq_true.1 hnj q (List.mem_of_getElem? hj)
            rw [hz] at this; simp at this
          · intro L g a' j q o B' I' w' H' hj ho hL hco hz
            have := List.all_eq_true.1 hnj q (List.mem_of_getElem? hj)
            rw [hz] at this; simp at this
          · rintro _ B' I' a' w' fuel listed rfl h1 h2 h3 h4 h5 h6 h7 h8 h9 h10
            exact wpAny_end (ready_none h7 (fun i hi => h8 i (by omega))) (hq n _ e' H' B' I' a' w' hk h1 h2 h3 h4 h5 h6) fuel
          · intro j o hj hL
            simp [Array.getD] at hL
          · intro i hi; simp [Array.getD]
          · intro i p hi hl
            constructor
            · intro hL; simp [Array.getD] at hL
            · intro h; omega
          · have := un_le (fun i => (Array.replicate ops.size false).getD i false) ss.length
            omega
          · rw [eS_none]; exact he
        case pregion ss t ia z st =>
          simp only [chkP, Bool.and_eq_true, List.all_eq_true, List.mem_range, beq_iff_eq, decide_eq_true_eq] at hc
          obtain ⟨⟨⟨⟨⟨⟨⟨⟨hsz, hops⟩, hall⟩, hla⟩, hal⟩, hia⟩, htn⟩, hjs⟩, hji⟩ := hc
          split at hla
          case h_2 => cases hla
          rename_i oz hoz
          simp only [Bool.and_eq_true, List.all_eq_true, List.mem_range, Option.isNone_iff_eq_none] at hla
          obtain ⟨⟨⟨⟨⟨hz1, hz0⟩, hz2⟩, hz3⟩, hz4⟩, hz5⟩ := hla
          have hzE : ∀ ed ∈ oz.after, Region.binds .any ed = true → ed.on < ss.length := by
            intro ed h1 h2
            have := hz0 ed (by simpa using h1)
            simpa [h2] using this
          split at hal
          case h_2 => cases hal
          rename_i oa hoa
          split at hal
          case h_2 => cases hal
          rename_i ty hty
          split at hal
          case h_2 => cases hal
          rename_i vz hvz
          rw [F_pregion] at hF
          obtain ⟨tr, Hs, e', H', hg, hstab, hk⟩ := GR.of_run hF
          refine wp_region_any hm ?_
          have hs' := hs.drew
          have hjx : ∀ (j : Nat) (q : QO), ss[j]? = some q → (q.o.op = .jalloc → j = ia ∧ q.o.dst = some t ∧ q.o.guard = none) ∧ (q.o.op ≠ .jalloc → q.o.dst ≠ some t) := by
            intro j q hj
            have hj2 := hjs j (List.getElem?_eq_some_iff.1 hj).1
            rw [hj] at hj2
            simp only at hj2
            constructor
            · intro hz
              rw [hz] at hj2
              simp only [Bool.and_eq_true, beq_iff_eq, Option.isNone_iff_eq_none] at hj2
              exact ⟨hj2.1.1, hj2.1.2, hj2.2⟩
            · intro hz hd
              rw [hd] at hj2
              split at hj2
              · rename_i h; exact hz h
              · simp at hj2
          refine any_sound (R := fun L g a => (L ia = false ∧ g = f) ∨ (L ia = true ∧ ∃ p, PF f g p z ∧ a.tmps[t]? = some (.pointer (some ⟨p, 0, none⟩)))) (B := B) (I := I) (Q := Q) (by omega) hops (fun j hj => (hall j hj).1.1) (fun j hj => (hall j hj).1.2) (fun j hj => (hall j hj).2)
            ?_ hg hstab ?_ ?_ ?_ ?_ ops.size _ 0 f B I a w.drew (by simp) ?_ ?_ ?_ (Nat.zero_le _) ?_ (.inl ⟨by simp [Array.getD], rfl⟩) hs' (BLe.refl _) (ILe.refl _) ?_ hd hn
          · intro j o hj hle i hi
            have hj' := (Array.getElem?_eq_some_iff.1 hj).1
            obtain rfl : j = ss.length := by omega
            rw [hoz] at hj; cases hj
            have := hz1 i hi
            simp only [List.any_eq_true, Bool.and_eq_true, beq_iff_eq] at this
            obtain ⟨ed, h1, h2, h3⟩ := this
            exact ⟨ed, by simpa using h1, h2, h3⟩
          · intro j q hj hz; exact ((hjx j q hj).1 hz).2.2
          · intro L g a' j q v hj hL hz hR
            have hne := (hjx j q hj).2 hz
            have hji' : j ≠ ia := by
              rintro rfl
              rw [hj] at hji
              simp only at hji
              exact absurd hji (by simp)
            rcases hR with ⟨h1, h2⟩ | ⟨h1, p, h2, h3⟩
            · exact .inl ⟨by simp [Ne.symm hji', h1], h2⟩
            · refine .inr ⟨by simp [Ne.symm hji', h1], p, h2, ?_⟩
              cases hd : q.o.dst with
              | none => exact h3
              | some d =>
                rw [hd] at hne
                have : d ≠ t := fun h => hne (by rw [h])
                simp only [Act.put, Array.getElem?_setIfInBounds, if_neg this]; exact h3
          · intro L g a' j q o B' I' w' H' hj ho hL hco hz hR hsim hn'
            obtain ⟨rfl, hd, hgn⟩ := (hjx j q hj).1 hz
            rw [hoa] at ho; cases ho
            rcases hR with ⟨h1, rfl⟩ | ⟨h1, _⟩
            · obtain ⟨h2, h3⟩ := PF.mk' hsim vz ty hal
              refine ⟨_, _, _, jalloc_run hty hvz, h2, .inr ⟨by simp, _, h3, ?_⟩⟩
              rw [hd]
              simp [Act.put, Array.getElem?_setIfInBounds, hn', htn]
            · rw [hL] at h1; cases h1
          · intro g B' I' a' w' fuel listed hR h1 h2 h3 h4 h5 h6 h7 h8 h9 h10
            have hLi := h8 ia hia
            rcases hR with ⟨hR, _⟩ | ⟨_, p, hp, ht⟩
            · simp only [hLi] at hR; cases hR
            obtain ⟨pl, hs2, hr2⟩ := hp.adopt h1
            have hen : REnv (B' ++ [pl]) I' (upd e' t (.ptr H'.length 0 0)) a'.tmps := by
              intro i v hv
              unfold upd
              split
              · rename_i h; subst h
                rw [ht] at hv; cases hv; exact hr2
              · exact (h4 i v hv).mono (BLe.append _ _) (ILe.refl _)
            obtain ⟨fuel, rfl⟩ : ∃ m, fuel = m + 1 := ⟨fuel - 1, by omega⟩
            refine ⟨fun hr => ?_, fun i hi => ?_⟩
            · exfalso
              have hm : ss.length ∈ Region.ready .any ops listed := by
                rw [mem_ready]
                have hlt : ss.length < listed.size := by omega
                refine ⟨?_, oz, hoz, fun ed he' hb => ?_⟩
                · have := h9 ss.length (Nat.le_refl _)
                  simp [Array.getD, hlt] at this ⊢; exact this
                · have hEz := hzE ed he' hb
                  exact h8 ed.on hEz
              rw [hr] at hm; cases hm
            · rw [mem_ready] at hi
              obtain ⟨hi1, o, ho, _⟩ := hi
              have hio := (Array.getElem?_eq_some_iff.1 ho).1
              have hil : i < listed.size := by omega
              obtain rfl : i = ss.length := by
                by_cases h : i < ss.length
                · have := h8 i h
                  simp [Array.getD, hil] at this hi1
                  rw [this] at hi1; cases hi1
                · omega
              rw [hoz] at ho; cases ho
              cases n with
              | zero => exact hk.elim
              | succ n =>
                obtain ⟨sd, so, sg⟩ := st
                simp only at hz3 hz5
                subst hz3
                rw [F_op] at hk
                simp only [chkOper, Bool.and_eq_true] at hz4
                obtain ⟨⟨hdst, _⟩, hop⟩ := hz4
                have hdd : oz.dst = sd := by
                  cases h1 : oz.dst <;> cases h2 : sd <;> simp [h1, h2, chkDst] at hdst ⊢
                  exact hdst.1
                have hnc : ∀ g as, so ≠ .call g as := by
                  rintro g as rfl
                  simp at hz5
                obtain ⟨v, w2, x, H2, B2, I2, hrun, hk2, hs3, hB3, hI3, hrep⟩ := op_out (by rw [h6]; exact hop) hen hs2 hk hnc
                have hfin : wpAny P .any ops Q fuel (listed.setIfInBounds ss.length true) (a'.put oz.dst v) w2 := by
                  cases n with
                  | zero => exact hk2.elim
                  | succ n =>
                    rw [ret2ueq, F_nil] at hk2
                    refine wpAny_end (ready_none (by simpa using h7) fun i hi => ?_) (hq n _ _ H2 B2 I2 _ w2 hk2 hs3 ((h2.trans (BLe.append _ _)).trans hB3) (h3.trans hI3) (by rw [hdd]; exact (hen.mono hB3 hI3).put _ hrep) (by rw [put_defers]; exact h5) (by rw [put_size]; exact h6)) fuel
                    by_cases hij : i = ss.length
                    · subst hij; simp [Array.getD, hil]
                    · rw [getD_set_ne false (fun h => hij h.symm)]; exact h8 i (by omega)
                unfold wpOp
                rw [hoz]
                simp only
                rw [if_pos (by simp [Region.wanted, hz2])]
                refine .inl ?_
                unfold Oper.wp
                rcases hrun with hrun | ⟨hrun, rfl⟩
                · rw [hrun, Oper.upon_value]; exact hfin
                · rw [hrun, Oper.upon_skip]; exact hfin
          · intro j o hj hL
            simp [Array.getD] at hL
          · intro i hi; simp [Array.getD]
          · intro i p hi hl
            constructor
            · intro hL; simp [Array.getD] at hL
            · intro h; omega
          · have := un_le (fun i => (Array.replicate ops.size false).getD i false) ss.length
            omega
          · rw [eS_none]; exact he
  | seq x y ihx ihy =>
    intro s hc n e H k B I a w Q hF hs he hd hn hq
    cases s <;> simp only [chkCode, Bool.false_eq_true, Bool.and_eq_true] at hc
    rename_i s1 s2
    cases n with
    | zero => exact hF.elim
    | succ n =>
      refine wp_seq (ihx s1 hc.1 n e H (.seq s2 k) B I a w _ hF hs he hd hn ?_)
      intro m x e' H' B' I' a' w' hF' hs' hB hI he' hd' hn'
      cases m with
      | zero => exact hF'.elim
      | succ m =>
        cases x with
        | normal => exact ihy s2 hc.2 m e' H' k B' I' a' w' Q hF' hs' he' hd' hn' (hq.mono hB hI)
        | _ => exact hq m _ e' H' B' I' a' w' hF' hs' hB hI he' hd' hn'
  | cond c x y ihx ihy =>
    intro s hc n e H k B I a w Q hF hs he hd hn hq
    cases s <;> simp only [chkCode, Bool.false_eq_true, Bool.and_eq_true] at hc
    rename_i c' s1 s2
    obtain ⟨⟨h1, h2⟩, h3⟩ := hc
    have hr := chkX_rep (by rw [hn]; exact h1) he
    cases n with
    | zero => exact hF.elim
    | succ n =>
      cases c' with
      | tmp i =>
        rw [F_cond] at hF
        simp only [evX] at hr
        cases hv : e i with
        | bool b =>
          rw [hv] at hF hr
          simp only [Rep] at hr
          refine wp_cond hr ?_
          cases b with
          | true => have := hF.1 rfl; rw [upd_self hv rfl] at this; exact ihx s1 h2 n e H k B I a w Q this hs he hd hn hq
          | false => have := hF.2 rfl; rw [upd_self hv rfl] at this; exact ihy s2 h3 n e H k B I a w Q this hs he hd hn hq
        | _ => rw [hv] at hF; exact hF.elim
      | val v =>
        have hF2 : (match v with
          | .bool b => Fork b (F P n (.code s1 e H k)) (F P n (.code s2 e H k))
          | _ => False) := by
          have : F P (n + 1) (.code (.cond (.val v) s1 s2) e H k) = (match v with
            | .bool b => Fork b (F P n (.code s1 e H k)) (F P n (.code s2 e H k))
            | _ => False) := by cases v <;> rfl
          rw [this] at hF; exact hF
        simp only [evX] at hr
        cases v with
        | bool b =>
          simp only [Rep] at hr
          refine wp_cond hr ?_
          cases b with
          | true => exact ihx s1 h2 n e H k B I a w Q (hF2.1 rfl) hs he hd hn hq
          | false => exact ihy s2 h3 n e H k B I a w Q (hF2.2 rfl) hs he hd hn hq
        | _ => exact hF2.elim
  | block id x ih =>
    intro s hc n e H k B I a w Q hF hs he hd hn hq
    cases s <;> simp only [chkCode, Bool.false_eq_true, Bool.and_eq_true, beq_iff_eq] at hc
    rename_i j s1
    obtain ⟨rfl, hc⟩ := hc
    cases n with
    | zero => exact hF.elim
    | succ n =>
      refine wp_block (ih s1 hc n e H (.block id k) B I a w _ hF hs he hd hn ?_)
      intro m x e' H' B' I' a' w' hF' hs' hB hI he' hd' hn'
      cases m with
      | zero => exact hF'.elim
      | succ m =>
        cases x with
        | exit i =>
          rw [F_blockE] at hF'
          show (if i = id then Q .normal a' w' else Q (.exit i) a' w')
          split
          · rename_i h; rw [if_pos h] at hF'; exact hq m _ e' H' B' I' a' w' hF' hs' hB hI he' hd' hn'
          · rename_i h; rw [if_neg h] at hF'; exact hq m _ e' H' B' I' a' w' hF' hs' hB hI he' hd' hn'
        | _ => exact hq m _ e' H' B' I' a' w' hF' hs' hB hI he' hd' hn'
  | loop x ih =>
    intro s hc n e H k B I a w Q hF hs he hd hn hq
    cases s <;> simp only [chkCode, Bool.false_eq_true] at hc
    rename_i s1
    cases n with
    | zero => exact hF.elim
    | succ n =>
      obtain ⟨Inv, m0, h0, hround⟩ := hF
      refine wp_loop_ghost (fun m a w => ∃ e H B' I', Inv m e H ∧ Sim f B' I' w H ∧ BLe B B' ∧ ILe I I' ∧ REnv B' I' e a.tmps ∧ a.defers = [] ∧ a.tmps.size = nt) m0
        ⟨e, H, B, I, h0, hs, BLe.refl _, ILe.refl _, he, hd, hn⟩ ?_
      rintro m a w ⟨e, H, B', I', hi, hs', hB, hI, he', hd', hn'⟩
      refine ih s1 hc n e H (.loop Inv m k) B' I' a w _ (hround m e H hi) hs' he' hd' hn' ?_
      intro l x e2 H2 B2 I2 a2 w2 hF' hs2 hB2 hI2 he2 hd2 hn2
      cases l with
      | zero => exact hF'.elim
      | succ l =>
        cases x with
        | normal =>
          obtain ⟨m', hlt, hi'⟩ := hF'
          exact ⟨m', hlt, e2, H2, B2, I2, hi', hs2, hB.trans hB2, hI.trans hI2, he2, hd2, hn2⟩
        | _ => exact hq l _ e2 H2 B2 I2 a2 w2 hF' hs2 (hB.trans hB2) (hI.trans hI2) he2 hd2 hn2
  | exit id =>
    intro s hc n e H k B I a w Q hF hs he hd hn hq
    cases s <;> simp only [chkCode, Bool.false_eq_true, beq_iff_eq] at hc
    subst hc
    cases n with
    | zero => exact hF.elim
    | succ n => exact wp_exit (hq n _ e H B I a w hF hs (BLe.refl _) (ILe.refl _) he hd hn)
  | ret =>
    intro s hc n e H k B I a w Q hF hs he hd hn hq
    cases s <;> simp only [chkCode, Bool.false_eq_true] at hc
    cases n with
    | zero => exact hF.elim
    | succ n => exact wp_ret (hq n _ e H B I a w hF hs (BLe.refl _) (ILe.refl _) he hd hn)
  | _ => intro s hc; cases s <;> simp [chkCode] at hc
end
end Go.Proofs.YtdgoeblpcnjlbaaGreatDoor.Av
