/- Proved: for every list of numbers the law WaysFollowed answers true and leaves its argument as it was (the tied card); no condition beyond the row's own. Text 2 of 15. -/
import Derived.Laws.Append
import Derived.Laws.StructEq
import Derived.MapKept
import Derived.Laws.MakeOwn
import Derived.Test.YtdgoeblpcnjlbaaGreatDoorW1
set_option linter.unusedVariables false
set_option linter.unusedSimpArgs false
set_option linter.unusedSectionVars false
set_option linter.all false
namespace Go.Proofs.YtdgoeblpcnjlbaaGreatDoor.Av
open Go.RowKit
section
variable {P : Program} {f : Fr} {B : List Pl} {I : IM} {w : World} {H : List Blk} {K : V → List Blk → Prop} {a : Act} {env : Nat → V} {o : Oper}
theorem fold_set (off : Nat) : ∀ (l : List Value) (s : Nat) (cells : Array Value) (k : Nat), off + s + l.length ≤ cells.size →
    ((l.zipIdx s).foldl (fun cs (x : Value × Nat) => cs.setIfInBounds (off + x.2) x.1) cells)[k]? = if k < off + s then cells[k]? else if k < off + s + l.length then l[k - (off + s)]? else cells[k]?
  | [], s, cells, k, h => by simp; intro h1 h2; omega
  | v :: l, s, cells, k, h => by
    simp only [List.zipIdx_cons, List.foldl_cons]
    rw [fold_set off l (s + 1) _ k (by simp at h ⊢; omega)]
    simp only [Array.getElem?_setIfInBounds, List.length_cons]
    simp only [List.length_cons] at h
    by_cases h1 : k < off + s
    · rw [if_pos (by omega), if_pos h1, if_neg (by omega)]
    · rw [if_neg h1]
      by_cases h2 : k = off + s
      · subst h2
        rw [if_pos (by omega), if_pos rfl, if_pos (by omega), if_pos (by omega)]
        simp
      · rw [if_neg (by omega)]
        by_cases h3 : k < off + s + (l.length + 1)
        · rw [if_pos (by omega), if_pos (by omega), show k - (off + s) = (k - (off + (s + 1))) + 1 by omega]
          simp
        · rw [if_neg (by omega), if_neg (by omega), if_neg (by omega)]
theorem fill_one {cs vs : List V} {zc : Array Value} {u : Value} {off : Nat} (hcs : RepL B I cs zc.toList) (hvs : RepL B I vs u.cells.toList) (h : off + vs.length ≤ cs.length) :
    RepL B I (splice cs off vs) (u.cells.zipIdx.foldl (fun cs (x : Value × Nat) => cs.setIfInBounds (off + x.2) x.1) zc).toList := by
  have e : u.cells.zipIdx.foldl (fun cs (x : Value × Nat) => cs.setIfInBounds (off + x.2) x.1) zc = (u.cells.toList.zipIdx 0).foldl (fun cs (x : Value × Nat) => cs.setIfInBounds (off + x.2) x.1) zc := by
    rw [← Array.foldl_toList, Array.toList_zipIdx]
  have hl := hcs.length
  have hv := hvs.length
  have hz : zc.toList.length = zc.size := by simp
  have hget := fun k => fold_set off u.cells.toList 0 zc k (by omega)
  rw [e]
  generalize hR : ((u.cells.toList.zipIdx 0).foldl (fun cs (x : Value × Nat) => cs.setIfInBounds (off + x.2) x.1) zc) = R at *
  have hsz : R.size = zc.size := by
    have h1 := hget zc.size
    have h2 : R[zc.size]? = none := by rw [h1]; split; · omega
                                       · split; · omega
                                         · simp
    have h3 : zc.size = 0 ∨ R[zc.size - 1]? ≠ none := by
      by_cases h0 : zc.size = 0
      · exact .inl h0
      · right
        rw [hget]
        split
        · simp; omega
        · split
          · rw [List.getElem?_eq_getElem (by omega)]; simp
          · simp; omega
    have h4 : R.size ≤ zc.size := by
      have := Array.getElem?_eq_none_iff.1 h2; omega
    rcases h3 with h3 | h3
    · omega
    · have : ¬ R.size ≤ zc.size - 1 := fun hh => h3 (Array.getElem?_eq_none hh)
      omega
  rw [repL_iff]
  refine ⟨by unfold splice; rw [length_splice _ _ _ h]; simp; omega, fun j c hj => ?_⟩
  unfold splice at hj
  rw [get_splice _ _ _ _ h] at hj
  rw [show R.toList[j]? = R[j]? by simp, hget]
  simp only [Nat.add_zero]
  split at hj
  · rename_i h1
    rw [if_pos h1]
    simpa using hcs.get hj
  · rename_i h1
    rw [if_neg h1]
    split at hj
    · rename_i h2
      rw [if_pos (by omega)]
      exact hvs.get hj
    · rename_i h2
      rw [if_neg (by omega)]
      simpa using hcs.get hj
theorem fill_sound {place place' : Nat → Option (Nat × Nat)} (hpl : ∀ i, place i ≠ none → place' i = place i) (he : REnv B I env a.tmps) {k : List V → Prop} : ∀ (parts : List (Nat × Operand)) (ps : List (Nat × Nat × SX)) (zc : Array Value) (cs : List V),
    chkParts a.tmps.size place parts ps = true → RepL B I cs zc.toList → fillP cs (ps.map fun p => (p.1, p.2.1, evX env p.2.2)) k →
    ∃ cells cs', Instr.fill place' zc (parts.map fun p => (p.1, a.eval p.2)) = some cells ∧ RepL B I cs' cells.toList ∧ k cs'
  | [], [], zc, cs, _, hr, hk => ⟨zc, cs, by simp [Instr.fill], hr, by simpa [fillP] using hk⟩
  | (i, x) :: r, (off, sz, y) :: s, zc, cs, hc, hr, hk => by
    simp only [chkParts, Bool.and_eq_true, beq_iff_eq] at hc
    obtain ⟨⟨hp, hx⟩, hc⟩ := hc
    simp only [List.map_cons, fillP] at hk
    obtain ⟨⟨h1, h2, h3⟩, hk⟩ := hk
    have hv := cells_rep (chkX_rep hx he) h1
    have hl := hr.length
    have hvl := hv.length
    simp only [List.map_cons, Instr.fill, hpl i (by rw [hp]; simp), hp]
    have e : (((a.eval x).cells.size ≠ sz) || decide (off + (a.eval x).cells.size > zc.size)) = false := by
      simp at hl hvl ⊢; omega
    rw [if_neg (by simpa using e)]
    exact fill_sound hpl he r s _ _ hc (fill_one hr hv (by omega)) hk
  | [], _ :: _, _, _, h, _, _ => by simp [chkParts] at h
  | _ :: _, [], _, _, h, _, _ => by simp [chkParts] at h
theorem s_build {t : TypeId} {parts : Array (Nat × Operand)} {z : List V} {ps : List (Nat × Nat × SX)} (ho : o.op = .build t parts) (hc : chkOp P a.tmps.size (.build t parts) o.type (.build z ps) = true) (he : REnv B I env a.tmps) (hs : Sim f B I w H)
    (hk : exOp P (.build z ps) env H K) : Out f B I K ((execOp a.eval o).run P w) := by
  simp only [chkOp] at hc
  split at hc
  · rename_i fs v ht hz
    simp only [Bool.and_eq_true] at hc
    obtain ⟨⟨hz', hps⟩, hall⟩ := hc
    simp only [exOp] at hk
    obtain ⟨it, hit, hitz⟩ : ∃ it, P.info? t = some it ∧ it.zero = some (.agg v) := by
      unfold zeroOf at hz
      cases hi : P.info? t with
      | none => rw [hi] at hz; cases hz
      | some it => rw [hi] at hz; exact ⟨it, rfl, hz⟩
    obtain ⟨places, hplaces, hpl⟩ : ∃ places, fs.toList.mapM (fun f => (P.info? f.type).map fun i => (f.offset, i.size)) = some places ∧ ∀ i : Nat, places[i]? = fieldPl P fs i := by
      have key : ∀ l : List Field, (l.all fun f => (szOf P f.type).isSome) = true → ∃ places, l.mapM (fun f => (P.info? f.type).map fun i => (f.offset, i.size)) = some places ∧ ∀ i : Nat, places[i]? = Option.bind (l[i]?) (fun (f : Field) => (szOf P f.type).map fun s => (f.offset, s)) := by
        intro l
        induction l with
        | nil => intro _; exact ⟨[], by simp, by simp⟩
        | cons x l ih =>
          intro h
          simp only [List.all_cons, Bool.and_eq_true] at h
          obtain ⟨pl, h1, h2⟩ := ih h.2
          obtain ⟨s, hs⟩ := Option.isSome_iff_exists.1 h.1
          unfold szOf at hs
          cases hi : P.info? x.type with
          | none => rw [hi] at hs; cases hs
          | some ii =>
            rw [hi] at hs
            refine ⟨(x.offset, ii.size) :: pl, by simp [hi, h1], fun i => ?_⟩
            cases i with
            | zero => simp [szOf, hi]
            | succ i => simpa using h2 i
      obtain ⟨pl, h1, h2⟩ := key fs.toList hall
      exact ⟨pl, h1, fun i => by rw [h2]; simp [fieldPl]⟩
    obtain ⟨cells, cs', hf, hr, hk⟩ := fill_sound (place := fieldPl P fs) (place' := (places.toArray[·]?)) (by intro i hi; simp [hpl]) he parts.toList ps v z hps (relL_rep hz') hk
    refine Out.quiet (v := .agg cells) ?_ hk hs (by simp only [Rep]; exact ⟨cells, rfl, hr⟩)
    have hb : P.built t (parts.map fun (i, x) => (i, a.eval x)).toList = some cells := by
      unfold Program.built
      rw [hit, ht]
      simp only [hitz, hplaces, Value.cells]
      simpa using hf
    have := run_build (P := P) w t _ cells hb
    simp [execOp, ho, this]
  · cases hc
end
section
variable {P : Program} {f : Fr} {B : List Pl} {I : IM} {w : World} {H : List Blk} {K : V → List Blk → Prop} {a : Act} {env : Nat → V} {o : Oper}
theorem elemsG_of_flat {sz : Nat} {g : Nat → Option Value} : ∀ {es : List V} {l : List Value} {o : Nat}, (∀ e ∈ es, (cellsV e).length = sz) → RepL B I (es.flatMap cellsV) l →
    (∀ (j : Nat) v, l[j]? = some v → g (o + j) = some v) → ElemsG B I es g sz o
  | [], _, _, _, _, _ => by simp [ElemsG]
  | e :: es, l, o, hl, hr, hg => by
    rw [elemsG_cons]
    have h0 := hl e (by simp)
    rw [List.flatMap_cons] at hr
    have h1 := hr.take (cellsV e).length
    have h2 := hr.drop (cellsV e).length
    rw [List.take_left] at h1
    rw [List.drop_left] at h2
    refine ⟨h0, cellsG_of_repL h1 (fun j v hj => ?_), elemsG_of_flat (fun x hx => hl x (by simp [hx])) h2 (fun j v hj => ?_)⟩
    · rw [List.getElem?_take] at hj
      split at hj
      · exact hg j v hj
      · cases hj
    · rw [List.getElem?_drop] at hj
      have := hg _ v hj
      rwa [h0, show o + (sz + j) = o + sz + j by omega] at this
theorem flat_of_elemsG {sz : Nat} {g : Nat → Option Value} : ∀ {es : List V} {o : Nat}, ElemsG B I es g sz o → ∃ l : List Value, RepL B I (es.flatMap cellsV) l ∧ l.length = es.length * sz ∧ ∀ (j : Nat) v, l[j]? = some v → g (o + j) = some v
  | [], o, _ => ⟨[], by simp [RepL], by simp, by simp⟩
  | e :: es, o, h => by
    rw [elemsG_cons] at h
    obtain ⟨h0, h1, h2⟩ := h
    obtain ⟨l, h3, h4⟩ := repL_of_cellsG h1
    obtain ⟨m, h5, h6, h7⟩ := flat_of_elemsG h2
    have hl := h3.length
    refine ⟨l ++ m, by rw [List.flatMap_cons]; exact h3.append h5, by rw [List.length_append, List.length_cons, Nat.add_mul]; omega, fun j v hj => ?_⟩
    by_cases hlt : j < l.length
    · rw [List.getElem?_append_left hlt] at hj; exact h4 j v hj
    · rw [List.getElem?_append_right (by omega)] at hj
      have := h7 _ v hj
      rwa [show o + sz + (j - l.length) = o + j by omega] at this
theorem repL_any : ∀ (l : List Value), RepL B I (List.replicate l.length V.any) l
  | [] => by simp [RepL]
  | v :: l => by simp only [List.length_cons, List.replicate_succ, RepL]; exact ⟨v, l, rfl, by simp [Rep], repL_any l⟩
theorem fillS {esz : Nat} (he : REnv B I env a.tmps) : ∀ (parts : List (Nat × Operand)) (xs : List SX) (j : Nat) (zc : Array Value) (pre : List V), chkPartsE a.tmps.size j parts xs = true →
    ((xs.map (evX env)).all (fun v => !v.isAny && (cellsV v).length == esz) = true) → pre.length = j * esz → RepL B I (pre ++ List.replicate (xs.length * esz) V.any) zc.toList →
    ∃ cells, Instr.fill (fun i => some (i * esz, esz)) zc (parts.map fun p => (p.1, a.eval p.2)) = some cells ∧ RepL B I (pre ++ (xs.map (evX env)).flatMap cellsV) cells.toList
  | [], [], j, zc, pre, _, _, _, hr => ⟨zc, by simp [Instr.fill], by simpa using hr⟩
  | (i, x) :: r, y :: s, j, zc, pre, hc, hall, hp, hr => by
    simp only [chkPartsE, Bool.and_eq_true, beq_iff_eq] at hc
    obtain ⟨⟨rfl, hx⟩, hc⟩ := hc
    simp only [List.map_cons, List.all_cons, Bool.and_eq_true, Bool.not_eq_true', beq_iff_eq] at hall
    obtain ⟨⟨h1, h2⟩, hall⟩ := hall
    have hv := cells_rep (chkX_rep hx he) h1
    have hl := hr.length
    have hvl := hv.length
    simp only [List.length_append, List.length_replicate, List.length_cons, Array.length_toList] at hl hvl
    rw [Nat.add_mul] at hl
    simp only [List.map_cons, Instr.fill]
    rw [if_neg (by simp; omega)]
    have hone := fill_one (off := i * esz) hr hv (by simp [Nat.add_mul]; omega)
    have hsp : splice (pre ++ List.replicate ((y :: s).length * esz) V.any) (i * esz) (cellsV (evX env y)) = (pre ++ cellsV (evX env y)) ++ List.replicate (s.length * esz) V.any := by
      unfold splice
      rw [← hp, List.take_left, List.append_assoc, List.append_assoc]
      congr 2
      rw [List.drop_append, List.drop_eq_nil_of_le (by omega), List.nil_append, List.drop_replicate]
      congr 1
      simp [Nat.add_mul]; omega
    rw [hsp] at hone
    obtain ⟨cells, h3, h4⟩ := fillS he r s (i + 1) _ _ hc (by simpa using hall) (by simp [Nat.add_mul]; omega) hone
    exact ⟨cells, h3, by simpa using h4⟩
  | [], _ :: _, _, _, _, h, _, _, _ => by simp [chkPartsE] at h
  | _ :: _, [], _, _, _, h, _, _, _ => by simp [chkPartsE] at h
theorem s_buildS {t : TypeId} {len : Nat} {parts : Array (Nat × Operand)} {esz : Nat} {xs : List SX} (ho : o.op = .buildSlice t len parts) (hc : chkOp P a.tmps.size (.buildSlice t len parts) o.type (.buildS esz xs) = true) (he : REnv B I env a.tmps) (hs : Sim f B I w H)
    (hk : exOp P (.buildS esz xs) env H K) : Out f B I K ((execOp a.eval o).run P w) := by
  simp only [chkOp] at hc
  split at hc
  · rename_i el hel
    simp only [Bool.and_eq_true, beq_iff_eq, decide_eq_true_eq] at hc
    obtain ⟨⟨⟨⟨⟨⟨hsz, hlen⟩, hbig⟩, hpos⟩, hps⟩, hz⟩, hlpos⟩ := hc
    have ht := elT_eq hel
    have hse := run_szOf (P := P) (w := w) hsz
    obtain ⟨z, hz⟩ := Option.isSome_iff_exists.1 hz
    have hzv := run_zero (P := P) (w := w) hz
    simp only [exOp] at hk
    obtain ⟨hall, hk⟩ := hk
    have hz0 : ((Array.range (len * esz)).map (z.cells[· % z.cells.size]!)).toList.length = xs.length * esz := by simp [hlen]
    obtain ⟨cells, hf, hr⟩ := fillS (B := B) (I := I) (esz := esz) he parts.toList xs 0 ((Array.range (len * esz)).map (z.cells[· % z.cells.size]!)) [] hps hall (by simp)
      (by rw [List.nil_append, ← hz0]; exact repL_any _)
    rw [List.nil_append] at hr
    have hne : ¬ len * esz = 0 := by have := Nat.mul_pos hlpos hpos; omega
    have hrun : (execOp a.eval o).run P w = .ok (.value (.slice (some ⟨w.heap.size, 0, none⟩) len len)) (w.alloc (.cells cells el)) := by
      simp only [execOp, ho, run_v, Instr.buildSlice, Sem.run_bind, run_underlying ht, Result.andThen_ok, hse]
      rw [if_neg (by omega)]
      simp only [Sem.run_bind, Sem.run_pure, Result.andThen_ok, if_neg hne, hzv]
      simp only [Array.toList_map]
      rw [hf]
      simp [newRow]
    have hcl : cells.size = xs.length * esz := by
      have h1 := hr.length
      have h2 : ((xs.map (evX env)).flatMap cellsV).length = xs.length * esz := by
        have key : ∀ l : List V, (l.all (fun v => !v.isAny && (cellsV v).length == esz) = true) → (l.flatMap cellsV).length = l.length * esz := by
          intro l
          induction l with
          | nil => simp
          | cons x l ih =>
            intro h
            simp only [List.all_cons, Bool.and_eq_true, beq_iff_eq] at h
            rw [List.flatMap_cons, List.length_append, ih h.2, h.1.2, List.length_cons, Nat.add_mul]; omega
        rw [key _ hall]; simp
      simp at h1; simp at h2; omega
    have hes : ∀ e ∈ xs.map (evX env), (cellsV e).length = esz := by
      intro e hm
      have := List.all_eq_true.1 hall e hm
      simp at this
      exact this.2
    refine ⟨_, _, _, _, _, _, .inl hrun, hk, hs.alloc cells el (xs.map (evX env)) esz (by simp [hcl]) (elemsG_of_flat hes hr (by simp)), BLe.append _ _, ILe.refl _, ?_⟩
    simp only [Rep]
    refine ⟨_, _, len, by rw [← hs.len, getElem?_append_one, if_pos rfl], by rw [hlen], fun _ => by simp, by omega, ?_, ?_⟩
    · have : len ≤ len * esz := Nat.le_mul_of_pos_right _ hpos
      simp [maxLen]; omega
    · simp [hcl, hlen]
  · cases hc
theorem s_buildF {t : TypeId} {len : Nat} {parts : Array (Nat × Operand)} {esz : Nat} {xs : List SX} (ho : o.op = .buildSlice t len parts) (hc : chkOp P a.tmps.size (.buildSlice t len parts) o.type (.buildF esz xs) = true) (he : REnv B I env a.tmps) (hs : Sim f B I w H)
    (hk : exOp P (.buildF esz xs) env H K) : Out f B I K ((execOp a.eval o).run P w) := by
  simp only [chkOp] at hc
  split at hc
  · rename_i el hel
    simp only [Bool.and_eq_true, beq_iff_eq, decide_eq_true_eq] at hc
    obtain ⟨⟨⟨⟨⟨⟨hsz, hlen⟩, hbig⟩, hpos⟩, hps⟩, hz⟩, hlpos⟩ := hc
    have ht := elT_eq hel
    have hse := run_szOf (P := P) (w := w) hsz
    obtain ⟨z, hz⟩ := Option.isSome_iff_exists.1 hz
    have hzv := run_zero (P := P) (w := w) hz
    simp only [exOp] at hk
    obtain ⟨hall, hk⟩ := hk
    have hz0 : ((Array.range (len * esz)).map (z.cells[· % z.cells.size]!)).toList.length = xs.length * esz := by simp [hlen]
    obtain ⟨cells, hf, hr⟩ := fillS (B := B) (I := I) (esz := esz) he parts.toList xs 0 ((Array.range (len * esz)).map (z.cells[· % z.cells.size]!)) [] hps hall (by simp)
      (by rw [List.nil_append, ← hz0]; exact repL_any _)
    rw [List.nil_append] at hr
    have hne : ¬ len * esz = 0 := by have := Nat.mul_pos hlpos hpos; omega
    have hrun : (execOp a.eval o).run P w = .ok (.value (.slice (some ⟨w.heap.size, 0, none⟩) len len)) (w.alloc (.cells cells el)) := by
      simp only [execOp, ho, run_v, Instr.buildSlice, Sem.run_bind, run_underlying ht, Result.andThen_ok, hse]
      rw [if_neg (by omega)]
      simp only [Sem.run_bind, Sem.run_pure, Result.andThen_ok, if_neg hne, hzv]
      simp only [Array.toList_map]
      rw [hf]
      simp [newRow]
    have hcl : cells.size = xs.length * esz := by
      have h1 := hr.length
      have h2 : ((xs.map (evX env)).flatMap cellsV).length = xs.length * esz := by
        have key : ∀ l : List V, (l.all (fun v => !v.isAny && (cellsV v).length == esz) = true) → (l.flatMap cellsV).length = l.length * esz := by
          intro l
          induction l with
          | nil => simp
          | cons x l ih =>
            intro h
            simp only [List.all_cons, Bool.and_eq_true, beq_iff_eq] at h
            rw [List.flatMap_cons, List.length_append, ih h.2, h.1.2, List.length_cons, Nat.add_mul]; omega
        rw [key _ hall]; simp
      simp at h1; simp at h2; omega
    have hes : ∀ e ∈ xs.map (evX env), (cellsV e).length = esz := by
      intro e hm
      have := List.all_eq_true.1 hall e hm
      simp at this
      exact this.2
    have hs2 := hs.alloc cells el (xs.map (evX env)) esz (by simp [hcl]) (elemsG_of_flat hes hr (by simp))
    have hbnd : len ≤ maxLen := by
      have : len ≤ len * esz := Nat.le_mul_of_pos_right _ hpos
      simp [maxLen]; omega
    have hI : ILe I (fun b => if b = w.heap.size then (w.alloc (.cells cells el)).heap[b]? else I b) := by
      intro b o hb
      have : b ≠ w.heap.size := by have := hs.ilt (b := b) (by rw [hb]; simp); omega
      simp only [if_neg this]; exact hb
    refine ⟨_, _, _, H, B, (fun b => if b = w.heap.size then (w.alloc (.cells cells el)).heap[b]? else I b), .inl hrun, hk, ?_, BLe.refl _, hI, ?_⟩
    · constructor
      · exact hs.len
      · intro b o hb
        try simp only at hb
        split at hb
        · exact hb
        · exact (hs.junk (.cells cells el)).imm b o hb
      · exact hs.ile.trans hI
      · intro b h1 h2
        try simp only at h2
        split at h2
        · rename_i e; subst e; exact .inl hs.size
        · exact hs.ifresh b h1 h2
      · exact (hs.junk (.cells cells el)).os
      · exact (hs.junk (.cells cells el)).tape
      · exact (hs.junk (.cells cells el)).output
      · exact (hs.junk (.cells cells el)).size
      · exact (hs.junk (.cells cells el)).keep
      · intro i p b h1 h2
        exact ((hs.junk (.cells cells el)).ok i p b h1 h2).mono (BLe.refl _) hI (fun _ => rfl)
      · exact hs.sep
      · intro i p b h1 h2 hl
        obtain ⟨h3, h4, h5⟩ := hs.own i p b h1 h2 hl
        refine ⟨?_, h4, by have := (hs.junk (.cells cells el)).own i p b h1 h2 hl; exact this.2.2⟩
        try simp only
        rw [if_neg (by omega)]; exact h3
    · simp only [Rep]
      refine ⟨_, len, by rw [List.length_map, hlen], by rw [List.length_map, hlen]; exact Nat.le_refl _, hbnd, .inr ⟨w.heap.size, 0, esz, rfl, ?_⟩⟩
      have he2 := elemsG_of_flat (B := B) (I := I) (g := fun o => cells[o]?) (o := 0) hes hr (by simp)
      have he3 := ElemsG.mono (BLe.refl B) hI he2
      refine elemsG_mono_g (fun o' v hv => ?_) he3
      unfold icell
      simp only [if_true]
      have : (w.alloc (.cells cells el)).heap[w.heap.size]? = some (.cells cells el (0, 0)) := by show (w.heap.push _)[w.heap.size]? = _; simp
      rw [this]; exact hv
  · cases hc
theorem s_mkemp {t : TypeId} {len : Nat} {parts : Array (Nat × Operand)} (ho : o.op = .buildSlice t len parts) (hc : chkOp P a.tmps.size (.buildSlice t len parts) o.type .mkemp = true) (hs : Sim f B I w H)
    (hk : exOp P .mkemp env H K) : Out f B I K ((execOp a.eval o).run P w) := by
  simp only [chkOp, Bool.and_eq_true, beq_iff_eq] at hc
  obtain ⟨⟨h1, rfl⟩, h3⟩ := hc
  split at h1
  · rename_i el hel
    obtain ⟨sz, hsz⟩ := Option.isSome_iff_exists.1 h1
    have ht := elT_eq hel
    have hse := run_szOf (P := P) (w := w) hsz
    have hp : parts.toList = [] := by simpa using h3
    have hrun : (execOp a.eval o).run P w = .ok (.value (.slice (some ⟨w.heap.size, 0, none⟩) 0 0)) (w.alloc (.cells #[] el)) := by
      simp only [execOp, ho, run_v, Instr.buildSlice, Sem.run_bind, run_underlying ht, Result.andThen_ok, hse]
      rw [if_neg (by omega)]
      have h0 : Array.map (fun x => (default : Value)) (Array.range 0) = #[] := by simp
      simp [hp, Instr.fill, newRow, h0]
    simp only [exOp] at hk
    refine ⟨_, _, _, _, _, _, .inl hrun, hk, hs.junk (.cells #[] el), BLe.refl _, ILe.refl _, ?_⟩
    simp only [Rep]
    exact ⟨_, rfl⟩
  · cases h1
theorem src_cells (hs : Sim f B I w H) {Y : V} {yv : Value} {src : List V} {esz : Nat} (hr : Rep B I Y yv) (hsrc : srcE H Y = some src) (hpos : 0 < esz) (hes : ∀ e ∈ src, (cellsV e).length = esz) :
    ∃ ad cap, yv = .slice ad src.length cap ∧ (src = [] ∨ ∃ b o' news, ad = some ⟨b, o', none⟩ ∧ RepL B I (src.flatMap cellsV) news ∧ news.length = src.length * esz ∧ (∀ (j : Nat) v, news[j]? = some v → w.cell? ⟨b, o' + j, none⟩ = some v) ∧
      (∀ p id, B[id]? = some p → (∃ es, H[id]? = some (.row es)) → (∀ i o l, Y = .ms i o l → i ≠ id) → b ≠ p.blk)) := by
  unfold srcE at hsrc
  split at hsrc
  · rename_i es
    cases hsrc
    simp only [Rep] at hr
    obtain ⟨ad, cap, hv, hl, hcap, hh⟩ := hr
    refine ⟨ad, cap, hv, ?_⟩
    rcases hh with h | ⟨b, o', sz, rfl, hel⟩
    · exact .inl h
    · by_cases he : src = []
      · exact .inl he
      · right
        have hsz : sz = esz := by
          cases src with
          | nil => exact absurd rfl he
          | cons x xs =>
            rw [elemsG_cons] at hel
            have := hes x (by simp)
            omega
        subst hsz
        obtain ⟨news, h1, h2, h3⟩ := flat_of_elemsG hel
        refine ⟨b, o', news, rfl, h1, h2, fun j v hj => ?_, ?_⟩
        · have := h3 j v hj
          unfold icell at this
          cases hI : I b with
          | none => rw [hI] at this; cases this
          | some ob =>
            rw [hI] at this
            cases ob with
            | cells cc tt fr => rw [cell_of_heap (hs.imm b _ hI)]; exact this
            | _ => cases this
        · intro p id hp hH _ hb
          obtain ⟨es, hH⟩ := hH
          have hlen : 0 < news.length := by
            rw [h2]; exact Nat.mul_pos (List.length_pos_iff.2 he) hpos
          have := h3 0 _ (List.getElem?_eq_getElem hlen)
          have hn := (hs.own id p _ hp hH rfl).1
          unfold icell at this
          rw [hb, hn] at this
          cases this
  · cases hsrc
    simp only [Rep] at hr
    exact ⟨none, 0, hr, .inl rfl⟩
  · cases hsrc
    simp only [Rep] at hr
    obtain ⟨ad, hr⟩ := hr
    exact ⟨ad, 0, hr, .inl rfl⟩
  · rename_i id off len
    simp only [Rep] at hr
    obtain ⟨p, ad, cap, hp, hv, hadr, hl, hcap, hroom⟩ := hr
    split at hsrc
    · rename_i es hH
      split at hsrc
      · rename_i hol
        cases hsrc
        have hlen : ((es.drop off).take len).length = len := by rw [List.length_take, List.length_drop]; omega
        refine ⟨ad, cap, by rw [hlen]; exact hv, ?_⟩
        by_cases he : (es.drop off).take len = []
        · exact .inl he
        · right
          have hlp : 0 < len := by rw [← hlen]; exact List.length_pos_iff.2 he
          have had := hadr (by omega)
          subst had
          obtain ⟨carr, t, h1, h2, h3, h4⟩ := hs.ok id p _ hp hH
          have hpe : p.esz = esz := by
            rw [elemsG_iff] at h4
            obtain ⟨h5, _⟩ := h4 off (es.getD off .any) (by simp; rw [List.getElem?_eq_getElem (by omega)]; simp)
            have := hes (es.getD off .any) (by
              have : ((es.drop off).take len)[0]? = some (es.getD off .any) := by
                rw [List.getElem?_take, if_pos hlp, List.getElem?_drop]; simp; rw [List.getElem?_eq_getElem (by omega)]; simp
              exact List.mem_of_getElem? this)
            omega
          have hsub : ElemsG B I ((es.drop off).take len) (fun o => carr[o]?) p.esz (p.base + off * p.esz) := by
            rw [elemsG_iff] at h4 ⊢
            intro i x hi
            rw [List.getElem?_take] at hi
            split at hi
            · rw [List.getElem?_drop] at hi
              obtain ⟨h5, h6⟩ := h4 _ x hi
              refine ⟨h5, fun j c hj => ?_⟩
              obtain ⟨v, h7, h8⟩ := h6 j c hj
              exact ⟨v, by rw [← h7]; congr 1; rw [Nat.add_mul]; omega, h8⟩
            · cases hi
          obtain ⟨news, h5, h6, h7⟩ := flat_of_elemsG hsub
          refine ⟨p.blk, _, news, rfl, h5, by rw [h6, hpe], fun j v hj => by rw [cell_of_heap h1]; exact h7 j v hj, ?_⟩
          intro q id' hq hH' hne hb
          obtain ⟨es', hH'⟩ := hH'
          exact hne id off len rfl (hs.sep id id' p q _ _ hp hq hH hH' rfl rfl hb)
      · cases hsrc
    · cases hsrc
  · cases hsrc
end
section
variable {P : Program} {f : Fr} {B : List Pl} {I : IM} {w : World} {H : List Blk} {K : V → List Blk → Prop} {a : Act} {env : Nat → V} {o : Oper}
theorem flat_length {esz : Nat} : ∀ {l : List V}, (∀ e ∈ l, (cellsV e).length = esz) → (l.flatMap cellsV).length = l.length * esz
  | [], _ => by simp
  | x :: l, h => by
    rw [List.flatMap_cons, List.length_append, flat_length (fun e he => h e (by simp [he])), h x (by simp), List.length_cons, Nat.add_mul]; omega
theorem Sim.grown {es : List V} {carr : Array Value} {l : List Value} {esz : Nat} (hs : Sim f B I w H) (t : TypeId) (hes : ∀ e ∈ es, (cellsV e).length = esz) (hr : RepL B I (es.flatMap cellsV) l)
    (hc : ∀ (j : Nat) v, l[j]? = some v → carr[j]? = some v) (hsz : es.length * esz ≤ carr.size) :
    Sim f (B ++ [⟨w.heap.size, 0, carr.size, esz⟩]) I (w.drew.alloc (.cells carr t)) (H ++ [.row es]) := by
  have := hs.drew.alloc carr t es esz hsz (elemsG_of_flat hes hr (by simpa using hc))
  simpa using this
theorem Sim.shift {id off : Nat} {p : Pl} {es : List V} (hs : Sim f B I w H) (hp : B[id]? = some p) (hH : H[id]? = some (.row es)) (ho : off ≤ es.length) :
    Sim f (B ++ [⟨p.blk, p.base + off * p.esz, p.size, p.esz⟩]) I w (H.set id .dead ++ [.row (es.drop off)]) := by
  refine (hs.kill id).push _ _ ?_ ?_ ?_
  · obtain ⟨carr, t, h1, h2, h3, h4⟩ := hs.ok id p _ hp hH
    refine ⟨carr, t, h1, h2, ?_, ?_⟩
    · have : off * p.esz + (es.drop off).length * p.esz = es.length * p.esz := by rw [← Nat.add_mul, List.length_drop]; congr 1; omega
      simp only; omega
    · rw [elemsG_iff] at h4 ⊢
      intro i x hi
      rw [List.getElem?_drop] at hi
      obtain ⟨h5, h6⟩ := h4 _ x hi
      refine ⟨h5, fun j c hj => ?_⟩
      obtain ⟨v, h7, h8⟩ := h6 j c hj
      exact ⟨v, by rw [← h7]; congr 1; rw [Nat.add_mul]; simp only; omega, h8⟩
  · intro i q c h1 h2 hl
    rw [lset_get] at h2
    split at h2
    · split at h2 <;> cases h2; cases hl
    · rename_i hne
      intro hb
      exact hne (hs.sep id i p q _ _ hp h1 hH h2 rfl hl hb.symm)
  · exact hs.own id p _ hp hH rfl
theorem run_append_at (t ty e : TypeId) (i : TypeInfo) (ht : P.underlying t = some (.slice e)) (hi : P.info? e = some i)
    (g o sLen sCap : Nat) (cur : Array Value) (tt : TypeId) (hg : w.heap[g]? = some (.cells cur tt (0, 0)))
    (x : Value) (m : Nat) (hm : (Builtin.lenOf x).run P w = .ok m w) (news : List Value) (hfc : (Builtin.firstCells i.size m x).run P w = .ok news.toArray w) (h1 : ∀ u ∈ news, u.oneCell' = true)
    (hroom : sLen + m ≤ sCap) (hfit : o + sLen * i.size + news.length ≤ cur.size) :
    (Builtin.append_ #[t, t] ty #[.slice (some ⟨g, o, none⟩) sLen sCap, x]).run P w =
      .ok (.slice (some ⟨g, o, none⟩) (sLen + m) sCap) (w.setRow g (cur.toList.take (o + sLen * i.size) ++ news ++ cur.toList.drop (o + sLen * i.size + news.length)).toArray) := by
  have hst := run_storeCells_at (P := P) g (o + sLen * i.size) tt news 0 cur w hg (by omega) h1
  simp only [Nat.add_zero] at hst
  simp [Builtin.append_, run_underlying ht, sizeOf, typeInfo, hi, hm, hroom, hfc, addr_add, hst, -List.append_assoc]
theorem repL_one {cs : List V} {l : List Value} (h : RepL B I cs l) (h1 : cs.all V.one = true) : ∀ u ∈ l, u.oneCell' = true := by
  intro u hu
  obtain ⟨j, hj⟩ := List.getElem?_of_mem hu
  have hjl := (List.getElem?_eq_some_iff.1 hj).1
  have := h.length
  have hc' : cs[j]? = some (cs[j]'(by omega)) := List.getElem?_eq_getElem _
  obtain ⟨v', h2, h3⟩ := h.get hc'
  rw [hj] at h2; cases h2
  exact one_rep h3 (List.all_eq_true.1 h1 _ (List.getElem_mem _))
theorem zeroVal_info {t : TypeId} {z : Value} (h : zeroOf P t = some z) : ∃ i, P.info? t = some i ∧ i.zero = some z := by
  unfold zeroOf at h
  cases hi : P.info? t with
  | none => rw [hi] at h; cases h
  | some i => rw [hi] at h; exact ⟨i, rfl, h⟩
theorem s_append {c : Call} {esz bytes : Nat} {x' y' : SX} (ho : o.op = .call c) (hc : chkOp P a.tmps.size (.call c) o.type (.append esz bytes x' y') = true) (he : REnv B I env a.tmps) (hs : Sim f B I w H)
    (hk : exOp P (.append esz bytes x' y') env H K) : Out f B I K ((execOp a.eval o).run P w) := by
  simp only [chkOp] at hc
  split at hc
  · rename_i x y t u hcal hargs htys
    split at hc
    · rename_i el hel
      simp only [Bool.and_eq_true, beq_iff_eq, decide_eq_true_eq] at hc
      obtain ⟨⟨⟨⟨⟨⟨⟨rfl, hsz⟩, hpos⟩, hby⟩, hbpos⟩, hz⟩, hx⟩, hy⟩ := hc
      have ht := elT_eq hel
      obtain ⟨z, hz, hzsz⟩ : ∃ z, zeroOf P el = some z ∧ z.cells.size = esz := by
        split at hz
        · rename_i z hq; exact ⟨z, hq, by simpa using hz⟩
        · cases hz
      obtain ⟨inf, hi, hiz⟩ := zeroVal_info hz
      have hisz : inf.size = esz := by unfold szOf at hsz; rw [hi] at hsz; simpa using hsz
      have hiby : inf.bytes = bytes := by rw [hi] at hby; simpa using hby
      have ha : c.args = #[x, y] := by apply Array.toList_inj.1; simpa using hargs
      have hT : c.argTypes = #[t, t] := by apply Array.toList_inj.1; simpa using htys
      have hrx := chkX_rep hx he
      have hry := chkX_rep hy he
      have hrun : ∀ r w', (Builtin.append_ #[t, t] o.type #[a.eval x, a.eval y]).run P w = .ok r w' → (execOp a.eval o).run P w = .ok (.value r) w' := by
        intro r w' h
        simp [execOp, ho, resolve, hcal, ha, hT, invoke, builtin, h]
      simp only [exOp] at hk
      split at hk
      · exact hk.elim
      · rename_i src hsrc
        obtain ⟨hall, hk⟩ := hk
        unfold appK at hk
        have hes : ∀ e ∈ src, (cellsV e).length = esz := by
          intro e hm
          have := List.all_eq_true.1 hall e hm
          simp at this
          exact this.1.1
        have hones : (src.flatMap cellsV).all V.one = true := by
          rw [List.all_eq_true]
          intro v hv
          obtain ⟨e, hm, hv⟩ := List.mem_flatMap.1 hv
          have := List.all_eq_true.1 hall e hm
          simp only [Bool.and_eq_true] at this
          exact List.all_eq_true.1 this.2 v hv
        obtain ⟨yad, ycap, hyv, hyc⟩ := src_cells hs hry hsrc hpos hes
        have hlenOf : (Builtin.lenOf (a.eval y)).run P w = .ok src.length w := by rw [hyv]; simp [Builtin.lenOf]
        have hfl := flat_length hes
        have hfc : ∃ news : List Value, RepL B I (src.flatMap cellsV) news ∧ (Builtin.firstCells inf.size src.length (a.eval y)).run P w = .ok news.toArray w := by
          rcases hyc with h0 | ⟨b, o', news, hb, h1, h2, h3, _⟩
          · subst h0
            refine ⟨[], by simp [RepL], ?_⟩
            rw [hyv]
            cases yad with
            | none => simp [Builtin.firstCells]
            | some q => simp [Builtin.firstCells, loadCells, loadCellsFrom]
          · refine ⟨news, h1, ?_⟩
            rw [hyv, hb]
            exact run_firstCells_some w _ _ _ _ _ news (by rw [h2, hisz]) (fun j v hj => by rw [addr_add]; exact h3 j v hj)
        obtain ⟨news, hnr, hnews⟩ := hfc
        have hnl : news.length = src.length * esz := by rw [← hnr.length, hfl]
        split at hk
        · rename_i e
          rw [e] at hrx
          simp only [Rep] at hrx
          obtain ⟨xad, hrx⟩ := hrx
          by_cases h0 : src = []
          · refine Out.quiet (v := .slice xad 0 0) (hrun _ _ ?_) (hk.1 h0) hs (by simp [Rep])
            have h1 : (Builtin.lenOf (a.eval y)).run P w = .ok 0 w := by simpa [h0] using hlenOf
            have h2 : (Builtin.firstCells inf.size 0 (a.eval y)).run P w = .ok news.toArray w := by simpa [h0] using hnews
            rw [hrx]
            have hn0 : news = [] := List.eq_nil_of_length_eq_zero (by rw [hnl, h0]; simp)
            cases xad <;> simp [Builtin.append_, run_underlying ht, sizeOf, typeInfo, hi, h1, h2, hn0, storeCells]
          · obtain ⟨hbig, hk⟩ := hk.2 h0
            rcases hyc with h1 | ⟨b, o', news', hb, h1, h2, h3, _⟩
            · exact absurd h1 h0
            · have hp0 : 0 < src.length := List.length_pos_iff.2 h0
              have hn1 : src.length ≤ src.length * bytes := Nat.le_mul_of_pos_right _ hbpos
              have happ0 := run_append_nil (P := P) w t o.type el inf z ht hi hiz ⟨b, o', none⟩ src.length ycap news' (by rw [h2, hisz]) (fun j v hj => by rw [addr_add]; exact h3 j v hj) hp0 (by omega) (by rw [hiby]; omega)
              have happ : (Builtin.append_ #[t, t] o.type #[.slice xad 0 0, .slice (some ⟨b, o', none⟩) src.length ycap]).run P w =
                  .ok (.slice (some ⟨w.heap.size, 0, none⟩) src.length (grownCap w src.length 0 el)) (w.drew.alloc (.cells (news'.toArray ++ Builtin.zeroCells z.cells (grownCap w src.length 0 el - src.length)) el)) := by
                cases xad with
                | none => exact happ0
                | some bb =>
                  have := run_append_grow (P := P) w t o.type el inf z ht hi hiz bb 0 0 [] (by simp) (by simp) ⟨b, o', none⟩ src.length ycap news' (by rw [h2, hisz]) (fun j v hj => by rw [addr_add]; exact h3 j v hj) (by omega) (by omega)
                    (by rw [hiby, Nat.zero_add, nextslicecap_zero hp0]; omega)
                  simpa using this
              have hcap := grownCap_ge w src.length 0 el
              have hcap2 := grownCap_le_maxLen w src.length 0 el (by simp [maxLen]; omega)
              generalize grownCap w src.length 0 el = cap at *
              have hcs : (news'.toArray ++ Builtin.zeroCells z.cells (cap - src.length)).size = cap * esz := by
                rw [Array.size_append, size_zeroCells, hzsz, List.size_toArray, h2, ← Nat.add_mul]; congr 1; omega
              refine ⟨_, _, _, _, _, _, .inl (hrun _ _ (by rw [hrx, hyv, hb]; exact happ)), hk, hs.grown (es := src) (l := news') (esz := esz) el hes h1 (fun j v hj => ?_) ?_, BLe.append _ _, ILe.refl _, ?_⟩
              · have hjl := (List.getElem?_eq_some_iff.1 hj).1
                rw [Array.getElem?_append_left (by simpa using hjl)]; simpa using hj
              · rw [hcs]; exact Nat.mul_le_mul_right _ hcap
              · simp only [Rep]
                refine ⟨_, _, cap, by rw [← hs.len, getElem?_append_one, if_pos rfl], rfl, fun _ => by simp, hcap, hcap2, ?_⟩
                simp only [hcs]; simp
        · rename_i e
          rw [e] at hrx
          simp only [Rep] at hrx
          by_cases h0 : src = []
          · refine Out.quiet (v := .slice none 0 0) (hrun _ _ ?_) (hk.1 h0) hs (by simp [Rep])
            have h1 : (Builtin.lenOf (a.eval y)).run P w = .ok 0 w := by simpa [h0] using hlenOf
            have h2 : (Builtin.firstCells inf.size 0 (a.eval y)).run P w = .ok news.toArray w := by simpa [h0] using hnews
            rw [hrx]
            simp [Builtin.append_, run_underlying ht, sizeOf, typeInfo, hi, h1, h2]
          · obtain ⟨hbig, hk⟩ := hk.2 h0
            rcases hyc with h1 | ⟨b, o', news', hb, h1, h2, h3, _⟩
            · exact absurd h1 h0
            · have hp0 : 0 < src.length := List.length_pos_iff.2 h0
              have hn1 : src.length ≤ src.length * bytes := Nat.le_mul_of_pos_right _ hbpos
              have happ := run_append_nil (P := P) w t o.type el inf z ht hi hiz ⟨b, o', none⟩ src.length ycap news' (by rw [h2, hisz]) (fun j v hj => by rw [addr_add]; exact h3 j v hj) hp0 (by omega) (by rw [hiby]; omega)
              have hcap := grownCap_ge w src.length 0 el
              have hcap2 := grownCap_le_maxLen w src.length 0 el (by simp [maxLen]; omega)
              generalize grownCap w src.length 0 el = cap at *
              have hcs : (news'.toArray ++ Builtin.zeroCells z.cells (cap - src.length)).size = cap * esz := by
                rw [Array.size_append, size_zeroCells, hzsz, List.size_toArray, h2, ← Nat.add_mul]; congr 1; omega
              refine ⟨_, _, _, _, _, _, .inl (hrun _ _ (by rw [hrx, hyv, hb]; exact happ)), hk, hs.grown (es := src) (l := news') (esz := esz) el hes h1 (fun j v hj => ?_) ?_, BLe.append _ _, ILe.refl _, ?_⟩
              · have hjl := (List.getElem?_eq_some_iff.1 hj).1
                rw [Array.getElem?_append_left (by simpa using hjl)]; simpa using hj
              · rw [hcs]; exact Nat.mul_le_mul_right _ hcap
              · simp only [Rep]
                refine ⟨_, _, cap, by rw [← hs.len, getElem?_append_one, if_pos rfl], rfl, fun _ => by simp, hcap, hcap2, ?_⟩
                simp only [hcs]; simp
        · rename_i id off len e
          have hX := hrx
          rw [e] at hrx
          simp only [Rep] at hrx
          obtain ⟨p, ad, cap, hp, hv, hadr, hlc, hcap, hroom⟩ := hrx
          split at hk
          · rename_i es hH
            obtain ⟨⟨hol, hes0, hhead, hne, hbig⟩, hk⟩ := hk
            obtain ⟨carr, tt, hh, hcsz, hcf, hce⟩ := hs.ok id p _ hp hH
            have hpe : p.esz = esz := by
              cases es with
              | nil => exact absurd rfl hes0
              | cons q qs =>
                rw [elemsG_cons] at hce
                have := hhead q rfl
                omega
            have hesall : ∀ e ∈ es, (cellsV e).length = esz := by
              intro q hq
              obtain ⟨j, hj⟩ := List.getElem?_of_mem hq
              rw [elemsG_iff] at hce
              have := (hce j q hj).1
              omega
            have hn1 : len + src.length ≤ (len + src.length) * bytes := Nat.le_mul_of_pos_right _ hbpos
            by_cases hfit : len + src.length ≤ cap
            · by_cases hc0 : cap = 0
              · have hl0 : len = 0 := by omega
                have hs0 : src = [] := List.eq_nil_of_length_eq_zero (by omega)
                have h1 : (Builtin.lenOf (a.eval y)).run P w = .ok 0 w := by simpa [hs0] using hlenOf
                have h2 : (Builtin.firstCells inf.size 0 (a.eval y)).run P w = .ok news.toArray w := by simpa [hs0] using hnews
                have hn0 : news = [] := List.eq_nil_of_length_eq_zero (by rw [hnl, hs0]; simp)
                have happ : (Builtin.append_ #[t, t] o.type #[a.eval x, a.eval y]).run P w = .ok (.slice ad 0 0) w := by
                  rw [hv, hl0, hc0]
                  cases ad <;> simp [Builtin.append_, run_underlying ht, sizeOf, typeInfo, hi, h1, h2, hn0, storeCells]
                have hsim0 := hs.shift (off := off) hp hH (by omega)
                rw [hs0, List.append_nil] at hk
                refine ⟨_, _, _, _, _, _, .inl (hrun _ _ happ), hk, hsim0, BLe.append _ _, ILe.refl _, ?_⟩
                simp only [Rep]
                refine ⟨_, _, 0, by have := hs.len; rw [show H.length = B.length from this.symm, getElem?_append_one, if_pos rfl], by rw [hl0]; rfl, fun h => by omega, by rw [hl0]; simp, by simp, ?_⟩
                simp only; have := Nat.mul_le_mul_right p.esz (show off ≤ off + cap by omega); omega
              · have had := hadr (by omega)
                subst had
                have hm1 : (off + len + src.length) * esz ≤ (off + cap) * esz := Nat.mul_le_mul_right _ (by omega)
                rw [hpe] at hroom hcf
                have e1 : (off + len + src.length) * esz = off * esz + len * esz + src.length * esz := by rw [Nat.add_mul, Nat.add_mul]
                have e2 : es.length * esz = off * esz + len * esz := by rw [← hol, Nat.add_mul]
                have happ := run_append_at (P := P) (w := w) t o.type el inf ht hi p.blk (p.base + off * esz) len cap carr tt hh (a.eval y) src.length hlenOf news hnews (repL_one hnr hones) hfit (by rw [hisz]; omega)
                rw [hisz] at happ
                have hfit2 : p.base + off * esz + len * esz + news.length ≤ carr.toList.length := by simp; omega
                have hget : ∀ q, ((carr.toList.take (p.base + off * esz + len * esz) ++ news ++ carr.toList.drop (p.base + off * esz + len * esz + news.length)).toArray)[q]? = if q < p.base + off * esz + len * esz then carr[q]? else if q < p.base + off * esz + len * esz + news.length then news[q - (p.base + off * esz + len * esz)]? else carr[q]? := by
                  intro q
                  rw [List.getElem?_toArray, get_splice _ _ _ _ hfit2]; simp
                have hsim := hs.rewrite (es' := es ++ src) hp hH hh (carr' := (carr.toList.take (p.base + off * esz + len * esz) ++ news ++ carr.toList.drop (p.base + off * esz + len * esz + news.length)).toArray)
                  (by rw [List.size_toArray, length_splice _ _ _ hfit2]; simp) (by rw [hpe, List.length_append, Nat.add_mul]; omega) (by
                    rw [hpe]
                    rw [hpe] at hce
                    have g1 : ElemsG B I es (fun o => ((carr.toList.take (p.base + off * esz + len * esz) ++ news ++ carr.toList.drop (p.base + off * esz + len * esz + news.length)).toArray)[o]?) esz p.base := by
                      rw [elemsG_iff] at hce ⊢
                      intro i q hi'
                      obtain ⟨h5, h6⟩ := hce i q hi'
                      refine ⟨h5, fun j c hj => ?_⟩
                      have hjl := (List.getElem?_eq_some_iff.1 hj).1
                      have hil := (List.getElem?_eq_some_iff.1 hi').1
                      have : i * esz + esz ≤ es.length * esz := by rw [← Nat.succ_mul]; exact Nat.mul_le_mul_right _ hil
                      rw [hget, if_pos (by omega)]; exact h6 j c hj
                    have g2 : ElemsG B I src (fun o => ((carr.toList.take (p.base + off * esz + len * esz) ++ news ++ carr.toList.drop (p.base + off * esz + len * esz + news.length)).toArray)[o]?) esz (p.base + es.length * esz) := by
                      refine elemsG_of_flat hes hnr (fun j v hj => ?_)
                      have hjl := (List.getElem?_eq_some_iff.1 hj).1
                      rw [hget, if_neg (by omega), if_pos (by omega), ← hj]; congr 1; omega
                    rw [elemsG_iff] at g1 g2 ⊢
                    intro i q hi'
                    by_cases hlt : i < es.length
                    · rw [List.getElem?_append_left hlt] at hi'; exact g1 i q hi'
                    · rw [List.getElem?_append_right (by omega)] at hi'
                      obtain ⟨h5, h6⟩ := g2 _ q hi'
                      refine ⟨h5, fun j c hj => ?_⟩
                      obtain ⟨v', h7, h8⟩ := h6 j c hj
                      refine ⟨v', ?_, h8⟩
                      rw [← h7]; congr 1
                      have : i * esz = es.length * esz + (i - es.length) * esz := by rw [← Nat.add_mul]; congr 1; omega
                      omega)
                have hH' : (H.set id (.row (es ++ src)))[id]? = some (.row (es ++ src)) := by
                  rw [lset_get, if_pos rfl, if_pos (List.getElem?_eq_some_iff.1 hH).1]
                have hsim2 := hsim.shift (off := off) hp hH' (by rw [List.length_append]; omega)
                rw [List.set_set, List.drop_append_of_le_length (by omega)] at hsim2
                refine ⟨_, _, _, _, _, _, .inl (hrun _ _ (by rw [hv, hpe]; exact happ)), hk, hsim2, BLe.append _ _, ILe.refl _, ?_⟩
                simp only [Rep]
                refine ⟨_, _, cap, by have := hs.len; rw [show H.length = B.length from this.symm, getElem?_append_one, if_pos rfl], rfl, fun _ => by simp [hpe], hfit, hcap, ?_⟩
                simp only [hpe, Nat.zero_add]; rw [Nat.add_mul] at hroom; omega
            · obtain ⟨xad, xcap, hxv, hxc⟩ := src_cells (src := es.drop off) hs hX (by rw [e]; simp only [srcE, hH]; rw [if_pos (by omega), List.take_of_length_le (by rw [List.length_drop]; omega)]) hpos (fun q hq => hesall q (List.mem_of_mem_drop hq))
              rw [hv] at hxv
              have hdl : (es.drop off).length = len := by rw [List.length_drop]; omega
              rw [hdl] at hxv
              cases hxv
              have hdes : ∀ q ∈ es.drop off, (cellsV q).length = esz := fun q hq => hesall q (List.mem_of_mem_drop hq)
              rcases hyc with h1 | ⟨b, o', news', hb, h1, h2, h3, _⟩
              · rw [h1] at hfit; simp at hfit; omega
              · have hpl : 0 < src.length := by omega
                have hall2 : ∀ q ∈ es.drop off ++ src, (cellsV q).length = esz := by
                  intro q hq
                  rcases List.mem_append.1 hq with hq | hq
                  · exact hdes q hq
                  · exact hes q hq
                obtain ⟨olds, ho1, ho2, ho3⟩ : ∃ olds : List Value, RepL B I ((es.drop off).flatMap cellsV) olds ∧ olds.length = len * esz ∧ ∀ b, ad = some b → ∀ (j : Nat) v, olds[j]? = some v → w.cell? (b.add j) = some v := by
                  rcases hxc with h4 | ⟨b', o2, nx, hb', h5, h6, h7, _⟩
                  · rw [h4] at hdl ⊢
                    simp at hdl
                    subst hdl
                    exact ⟨[], by simp [RepL], by simp, by simp⟩
                  · refine ⟨nx, h5, by rw [h6, hdl], fun b hbb j v hj => ?_⟩
                    rw [hb'] at hbb; cases hbb
                    rw [addr_add]; exact h7 j v hj
                have hcapge := grownCap_ge w (len + src.length) cap el
                have hcapmax := grownCap_le_maxLen w (len + src.length) cap el (by simp [maxLen]; omega)
                have hdl2 : (es.drop off ++ src).length = len + src.length := by rw [List.length_append, hdl]
                have hrl : RepL B I ((es.drop off ++ src).flatMap cellsV) (olds ++ news') := by rw [List.flatMap_append]; exact ho1.append h1
                have hcs : ∀ gc, len + src.length ≤ gc → (olds.toArray ++ news'.toArray ++ Builtin.zeroCells z.cells (gc - (len + src.length))).size = gc * esz := by
                  intro gc hgc
                  rw [Array.size_append, Array.size_append, size_zeroCells, hzsz, List.size_toArray, List.size_toArray, h2, ho2, ← Nat.add_mul, ← Nat.add_mul]; congr 1; omega
                obtain ⟨gc, carr', happ, hgc1, hgc2, hgc3, hgc4⟩ : ∃ gc carr', (Builtin.append_ #[t, t] o.type #[a.eval x, a.eval y]).run P w = .ok (.slice (some ⟨w.heap.size, 0, none⟩) (len + src.length) gc) (w.drew.alloc (.cells carr' el)) ∧
                    len + src.length ≤ gc ∧ gc ≤ maxLen ∧ carr'.size = gc * esz ∧ (∀ (j : Nat) v, (olds ++ news')[j]? = some v → carr'[j]? = some v) := by
                  rw [hv, hyv, hb]
                  cases ad with
                  | none =>
                    have hc0 : cap = 0 := by
                      by_cases h0 : 0 < cap
                      · have := hadr h0; cases this
                      · omega
                    have hl0 : len = 0 := by omega
                    subst hc0 hl0
                    have hon : olds = [] := List.eq_nil_of_length_eq_zero (by rw [ho2]; simp)
                    subst hon
                    have happ := run_append_nil (P := P) w t o.type el inf z ht hi hiz ⟨b, o', none⟩ src.length ycap news' (by rw [h2, hisz]) (fun j v hj => by rw [addr_add]; exact h3 j v hj) hpl (by omega) (by rw [hiby]; simp at hbig; omega)
                    refine ⟨_, _, by rw [Nat.zero_add]; exact happ, by simpa using hcapge, by simpa using hcapmax, ?_, fun j v hj => ?_⟩
                    · have := hcs (grownCap w src.length 0 el) (by simpa using hcapge)
                      simpa using this
                    · have hjl := (List.getElem?_eq_some_iff.1 hj).1
                      rw [Array.getElem?_append_left (by simpa using hjl)]; simpa using hj
                  | some bb =>
                    have happ := run_append_grow (P := P) w t o.type el inf z ht hi hiz bb len cap olds (by rw [ho2, hisz]) (ho3 bb rfl) ⟨b, o', none⟩ src.length ycap news' (by rw [h2, hisz]) (fun j v hj => by rw [addr_add]; exact h3 j v hj) (by omega) (by omega)
                      (by rw [hiby]; exact growslice_fits (by omega) hbig)
                    refine ⟨_, _, happ, hcapge, hcapmax, hcs _ hcapge, fun j v hj => ?_⟩
                    have hjl := (List.getElem?_eq_some_iff.1 hj).1
                    rw [Array.getElem?_append_left (by simpa using hjl)]; simpa using hj
                have hsim := (hs.kill id).grown (es := es.drop off ++ src) (l := olds ++ news') (esz := esz) (carr := carr') el hall2 hrl hgc4 (by rw [hgc3, hdl2]; exact Nat.mul_le_mul_right _ hgc1)
                refine ⟨_, _, _, _, _, _, .inl (hrun _ _ happ), hk, hsim, BLe.append _ _, ILe.refl _, ?_⟩
                simp only [Rep]
                refine ⟨_, _, gc, by have := hs.len; rw [show H.length = B.length from this.symm, getElem?_append_one, if_pos rfl], rfl, fun _ => by simp, hgc1, hgc2, ?_⟩
                simp only [hgc3]; simp
          · exact hk.elim
        · exact hk.elim
    · cases hc
  · cases hc
end
section
variable {P : Program} {f : Fr} {B : List Pl} {I : IM} {w : World} {H : List Blk} {K : V → List Blk → Prop} {a : Act} {env : Nat → V} {o : Oper}
theorem s_mkmap {t : TypeId} (ho : o.op = .makeMap t none) (hc : chkOp P a.tmps.size (.makeMap t none) o.type .mkmap = true) (hs : Sim f B I w H) (hk : exOp P .mkmap env H K) :
    Out f B I K ((execOp a.eval o).run P w) := by
  simp only [exOp] at hk
  refine ⟨.map (some w.heap.size), w.alloc (.map #[] 0), _, _, _, _, .inl ?_, hk, hs.allocM, BLe.append _ _, ILe.refl _, ?_⟩
  · simp [execOp, ho, Instr.makeMap, Sem.run_bind, Result.andThen]
  · simp only [Rep]
    exact ⟨⟨w.heap.size, 0, 0, 0⟩, by rw [← hs.len]; simp, rfl⟩
theorem made_one {zc : Array Value} {v : Value} (h : zc = #[v]) (n : Nat) : madeCells zc n = Array.replicate n v := by
  subst h
  apply Array.ext
  · simp [size_madeCells]
  · intro i h1 h2
    simp [madeCells, Nat.mod_one]
theorem s_mks {t : TypeId} {x y : Operand} {z : V} {x' : SX} (ho : o.op = .makeSlice t x y) (hc : chkOp P a.tmps.size (.makeSlice t x y) o.type (.mks z x') = true) (he : REnv B I env a.tmps) (hs : Sim f B I w H)
    (hk : exOp P (.mks z x') env H K) : Out f B I K ((execOp a.eval o).run P w) := by
  simp only [chkOp, Bool.and_eq_true] at hc
  obtain ⟨⟨hc, h1⟩, h2⟩ := hc
  split at hc
  · rename_i e hel
    simp only [Bool.and_eq_true, beq_iff_eq] at hc
    obtain ⟨⟨⟨hsz, hz⟩, hcz⟩, hb⟩ := hc
    split at hz
    · rename_i zv hzv
      simp only [Bool.and_eq_true, beq_iff_eq] at hz
      obtain ⟨hz, hz1⟩ := hz
      split at hb
      · rename_i i hi
        have hb : i.bytes ≤ 4096 := by simpa using hb
        have hx := chkX_rep h1 he
        have hy := chkX_rep h2 he
        simp only [exOp] at hk
        split at hk
        · rename_i k n hX
          rw [hX] at hx hy
          simp only [Rep] at hx hy
          obtain ⟨⟨hn0, hn1⟩, hK⟩ := hk
          have ht := elT_eq hel
          obtain ⟨i', hi', hiz⟩ := zeroVal_info hzv
          rw [hi] at hi'; cases hi'
          have hsize : i.size = 1 := by unfold szOf at hsz; rw [hi] at hsz; simpa using hsz
          have hbn : (i.bytes : Int) * n ≤ 281474976710656 := by
            have : (i.bytes : Int) * n ≤ 4096 * 1000000000 := Int.mul_le_mul (by omega) hn1 hn0 (by omega)
            omega
          have hrun := run_make (P := P) w t e i zv ht hi hiz k k n n hn0 (Int.le_refl _) hbn (by omega)
          obtain ⟨u, hu⟩ : ∃ u, zv.cells = #[u] := by
            generalize zv.cells = zc at hz1 ⊢
            rcases zc with ⟨l⟩
            cases l with
            | nil => simp at hz1
            | cons u l => cases l with
              | nil => exact ⟨u, rfl⟩
              | cons => simp at hz1
          have hzr : Rep B I z zv := rel_rep hz
          have hzc := cells_rep hzr (rel_notAny hz)
          rw [hu] at hzc
          rw [hsize, Nat.mul_one, made_one hu] at hrun
          have hal := hs.alloc (Array.replicate n.toNat u) e (List.replicate n.toNat z) 1 (by simp) (by
            rw [elemsG_iff]
            intro i x hx
            rw [List.getElem?_replicate] at hx
            split at hx
            · rename_i hin
              cases hx
              refine ⟨hcz, fun j c hj => ?_⟩
              obtain ⟨v, h3, h4⟩ := hzc.get hj
              have hj0 : j = 0 := by have := (List.getElem?_eq_some_iff.1 hj).1; omega
              subst hj0
              simp at h3; subst h3
              exact ⟨u, by simp [hin], h4⟩
            · cases hx)
          refine ⟨.slice (some ⟨w.heap.size, 0, none⟩) n.toNat n.toNat, w.alloc (.cells (Array.replicate n.toNat u) e), _, _, _, _, .inl ?_, hK, hal, BLe.append _ _, ILe.refl _, ?_⟩
          · simp only [execOp, ho, run_v, hx, hy, hrun, Result.andThen_ok]
          · show Rep _ I (.ms H.length 0 n.toNat) _
            rw [Rep]
            refine ⟨⟨w.heap.size, 0, (Array.replicate n.toNat u).size, 1⟩, some ⟨w.heap.size, 0, none⟩, n.toNat, by rw [← hs.len, getElem?_append_one, if_pos rfl], rfl, fun _ => by simp, Nat.le_refl _, ?_, by simp⟩
            simp [maxLen]; omega
        · exact hk.elim
      · cases hb
    · cases hz
  · cases hc
theorem keq1uval {c : Bool} {k q : V} {kv qv : Value} {b : Bool} (hf : kfit1 c k = true) (hk : Rep B I k kv) (hq : Rep B I q qv) (he : keq1 k q = some b) :
    (c = false ∧ ∃ j x y, kv = .int j x ∧ qv = .int j y ∧ b = decide (x = y)) ∨ (c = true ∧ ∃ x y, kv = .string x ∧ qv = .string y ∧ b = decide (x = y)) := by
  cases c <;> cases k <;> simp only [kfit1, Bool.false_eq_true] at hf <;> cases q <;> simp only [keq1] at he <;> try (cases he; done)
  · split at he
    · rename_i e
      cases he
      simp only [Rep] at hk hq
      subst e
      exact .inl ⟨rfl, _, _, _, hk, hq, rfl⟩
    · cases he
  · cases he
    simp only [Rep] at hk hq
    exact .inr ⟨rfl, _, _, hk.1, hq.1, rfl⟩
theorem beq_ba (x y : ByteArray) : (x == y) = decide (x = y) := by
  rw [beq_toListBytes, toList_eq_iff]
theorem kt1ui {t : TypeId} (ht : kt1 P t false = true) : ∃ k, P.underlying t = some (.int k) := by
  simp only [kt1] at ht
  split at ht
  · exact ⟨_, by assumption⟩
  · cases ht
theorem kt1us {t : TypeId} (ht : kt1 P t true = true) : P.underlying t = some .string := by
  simp only [kt1] at ht
  split at ht
  · assumption
  · cases ht
theorem equalIn_1 {t : TypeId} {c : Bool} {k q : V} {kv qv : Value} {b : Bool} (d : Nat) (ht : kt1 P t c = true) (hf : kfit1 c k = true) (hk : Rep B I k kv) (hq : Rep B I q qv) (he : keq1 k q = some b) :
    (Op.equalIn (d + 1) t kv qv).run P w = .ok b w := by
  rcases keq1uval hf hk hq he with ⟨rfl, j, x, y, rfl, rfl, rfl⟩ | ⟨rfl, x, y, rfl, rfl, rfl⟩
  · obtain ⟨κ, hu⟩ := kt1ui ht
    simp [Op.equalIn, Sem.run_bind, run_underlying hu, Result.andThen, Sem.run_ite]
    by_cases h : x = y <;> simp [h]
  · have hu := kt1us ht
    simp [Op.equalIn, Sem.run_bind, run_underlying hu, Result.andThen, beq_ba]
theorem eqFields_ok : ∀ {fs : List Field} {bs : List Bool} {i : Nat} {cs qs : List V} {l m pre prq : List Value} {b : Bool} (d : Nat), ktFs P i fs bs = true → kfitL bs cs = true →
    RepL B I cs l → RepL B I qs m → pre.length = i → prq.length = i → keqL cs qs = some b → (Op.eqFields (d + 1) (pre ++ l).toArray (prq ++ m).toArray fs).run P w = .ok b w
  | [], bs, i, cs, qs, l, m, pre, prq, b, d, ht, hf, hl, hm, hp, hq, he => by
    cases bs with
    | cons => simp [ktFs] at ht
    | nil =>
      cases cs with
      | cons => simp [kfitL] at hf
      | nil => cases qs with
        | cons => simp [keqL] at he
        | nil => simp [keqL] at he; subst he; simp [Op.eqFields]
  | f :: fs, bs, i, cs, qs, l, m, pre, prq, b, d, ht, hf, hl, hm, hp, hq, he => by
    cases bs with
    | nil => simp [ktFs] at ht
    | cons c bs =>
    cases cs with
    | nil => simp [kfitL] at hf
    | cons k cs =>
    cases qs with
    | nil => simp [keqL] at he
    | cons q qs =>
    simp only [ktFs, Bool.and_eq_true, bne_iff_ne, ne_eq, beq_iff_eq] at ht
    obtain ⟨⟨⟨⟨⟨h1, h2⟩, h3⟩, h4⟩, h5⟩, h6⟩ := ht
    simp only [kfitL, Bool.and_eq_true] at hf
    simp only [RepL] at hl hm
    obtain ⟨kv, l', rfl, hk, hl⟩ := hl
    obtain ⟨qv, m', rfl, hqv, hm⟩ := hm
    simp only [keqL] at he
    split at he
    · rename_i x y e1 e2
      cases he
      have r1 : (part f.type (pre ++ kv :: l').toArray f.offset).run P w = .ok kv w := by
        rw [run_part h5 h4 (.inr rfl) _ _ (by rw [h3, ← hp]; simp), h3, ← hp]; simp
      have r2 : (part f.type (prq ++ qv :: m').toArray f.offset).run P w = .ok qv w := by
        rw [run_part h5 h4 (.inr rfl) _ _ (by rw [h3, ← hq]; simp), h3, ← hq]; simp
      have r3 := equalIn_1 (w := w) d h2 hf.1 hk hqv e1
      have ih := eqFields_ok (pre := pre ++ [kv]) (prq := prq ++ [qv]) (i := i + 1) d h6 hf.2 hl hm (by simp [hp]) (by simp [hq]) e2
      simp only [List.append_assoc, List.cons_append, List.nil_append] at ih
      simp only [Op.eqFields, h1, ne_eq, not_false_eq_true, if_true, Sem.run_bind, r1, r2, r3, Result.andThen_ok, Sem.run_ite]
      cases x
      · simp
      · simp [ih]
    · cases he
theorem equal_ok {t : TypeId} {sh : Bool × List Bool} {k q : V} {kv qv : Value} {b : Bool} (ht : ktOk P t sh = true) (hf : kfit sh k = true) (hk : Rep B I k kv) (hq : Rep B I q qv) (he : keq k q = some b) :
    (Op.equal t kv qv).run P w = .ok b w := by
  obtain ⟨g, l⟩ := sh
  cases g
  · cases l with
    | nil => simp [ktOk] at ht
    | cons c l =>
      cases l with
      | cons => simp [ktOk] at ht
      | nil =>
        simp only [ktOk] at ht
        simp only [kfit] at hf
        have he' : keq1 k q = some b := by
          cases c <;> cases k <;> simp only [kfit1, Bool.false_eq_true] at hf <;> cases q <;> simpa [keq] using he
        exact equalIn_1 9999 ht hf hk hq he'
  · simp only [ktOk] at ht
    split at ht
    · rename_i fs hu
      simp only [Bool.and_eq_true, Bool.not_eq_true'] at ht
      cases k <;> simp only [kfit, Bool.false_eq_true] at hf
      rename_i cs
      cases q <;> simp only [keq] at he <;> try (cases he; done)
      rename_i qs
      simp only [Rep] at hk hq
      obtain ⟨cv, rfl, hk⟩ := hk
      obtain ⟨qv, rfl, hq⟩ := hq
      have hfs : P.underlying t = some (.struct (P.fieldsOf t)) := by simp [Program.fieldsOf, hu]
      have hfe : P.fieldsOf t = fs := by simp [Program.fieldsOf, hu]
      show (Op.equalIn (9999 + 1) t (.agg cv) (.agg qv)).run P w = _
      rw [run_equalIn_struct w 9999 t cv qv hfs ht.1, hfe]
      have := eqFields_ok (w := w) (pre := []) (prq := []) 9998 ht.2 hf hk hq rfl rfl he
      simpa using this
    · cases ht
theorem findAsking_ok {t : TypeId} {sh : Bool × List Bool} {k : V} {kv : Value} (ht : ktOk P t sh = true) (hf : kfit sh k = true) (hk : Rep B I k kv) : ∀ {es : List MapEntry} {ks : List V} (i : Nat), RepL B I ks (es.map (·.key)) → ks.all (fun q => (keq k q).isSome) = true →
    ∃ r, (Instr.findAsking t kv es i).run P w = .ok r w ∧ (match r with
      | none => ∀ q ∈ ks, keq k q = some false
      | some (n, v) => ∃ j e, n = i + j ∧ es[j]? = some e ∧ v = e.val ∧ (∃ q, ks[j]? = some q ∧ keq k q = some true) ∧ ∀ j' q, j' < j → ks[j']? = some q → keq k q = some false)
  | [], ks, i, hr, ha => by
    simp only [List.map_nil] at hr
    have : ks = [] := by cases ks with | nil => rfl | cons => simp [RepL] at hr
    subst this
    exact ⟨none, by simp [Instr.findAsking], by simp⟩
  | e :: es, ks, i, hr, ha => by
    cases ks with
    | nil => simp [RepL] at hr
    | cons q ks =>
      simp only [List.map_cons, RepL] at hr
      obtain ⟨qv, l, e1, hq, hr⟩ := hr
      cases e1
      simp only [List.all_cons, Bool.and_eq_true] at ha
      obtain ⟨b, hb⟩ := Option.isSome_iff_exists.1 ha.1
      have r1 := equal_ok (w := w) ht hf hk hq hb
      cases b with
      | true =>
        refine ⟨some (i, e.val), by simp [Instr.findAsking, Sem.run_bind, r1, Result.andThen], 0, e, by simp, by simp, rfl, ⟨q, by simp, hb⟩, fun j' q h => by omega⟩
      | false =>
        obtain ⟨r, h1, h2⟩ := findAsking_ok ht hf hk (es := es) (ks := ks) (i + 1) hr ha.2
        refine ⟨r, by simp [Instr.findAsking, Sem.run_bind, r1, Result.andThen, h1], ?_⟩
        cases r with
        | none =>
          intro q' hq'
          rcases List.mem_cons.1 hq' with rfl | hq'
          · exact hb
          · exact h2 q' hq'
        | some r =>
          obtain ⟨n, v⟩ := r
          obtain ⟨j, e', h3, h4, h5, ⟨q', h6, h7⟩, h8⟩ := h2
          refine ⟨j + 1, e', by omega, by simpa using h4, h5, ⟨q', by simpa using h6, h7⟩, fun j' q'' hj hq'' => ?_⟩
          cases j' with
          | zero => simp at hq''; subst hq''; exact hb
          | succ j' => exact h8 j' q'' (by omega) (by simpa using hq'')
theorem sameNow_ok {t : TypeId} {c : Bool} {d : TypeDesc} {k q : V} {kv qv : Value} {b : Bool} (hd : P.underlying t = some d) (ht : kt1 P t c = true) (hf : kfit1 c k = true) (hk : Rep B I k kv) (hq : Rep B I q qv) (he : keq1 k q = some b) :
    Instr.sameNow d kv qv = some b := by
  rcases keq1uval hf hk hq he with ⟨rfl, j, x, y, rfl, rfl, rfl⟩ | ⟨rfl, x, y, rfl, rfl, rfl⟩
  · obtain ⟨κ, hu⟩ := kt1ui ht
    rw [hd] at hu; cases hu
    simp only [Instr.sameNow, if_true]
    by_cases h : x = y <;> simp [h]
  · have hu := kt1us ht
    rw [hd] at hu; cases hu
    simp [Instr.sameNow, beq_ba]
theorem findNow_ok {t : TypeId} {c : Bool} {d : TypeDesc} {k : V} {kv : Value} (hd : P.underlying t = some d) (ht : kt1 P t c = true) (hf : kfit1 c k = true) (hk : Rep B I k kv) : ∀ {es : List MapEntry} {ks : List V} (i : Nat), RepL B I ks (es.map (·.key)) → ks.all (fun q => (keq1 k q).isSome) = true →
    ∃ r, Instr.findNow d kv es i = some r ∧ (match r with
      | none => ∀ q ∈ ks, keq1 k q = some false
      | some (n, v) => ∃ j e, n = i + j ∧ es[j]? = some e ∧ v = e.val ∧ (∃ q, ks[j]? = some q ∧ keq1 k q = some true) ∧ ∀ j' q, j' < j → ks[j']? = some q → keq1 k q = some false)
  | [], ks, i, hr, ha => by
    simp only [List.map_nil] at hr
    have : ks = [] := by cases ks with | nil => rfl | cons => simp [RepL] at hr
    subst this
    exact ⟨none, by simp [Instr.findNow], by simp⟩
  | e :: es, ks, i, hr, ha => by
    cases ks with
    | nil => simp [RepL] at hr
    | cons q ks =>
      simp only [List.map_cons, RepL] at hr
      obtain ⟨qv, l, e1, hq, hr⟩ := hr
      cases e1
      simp only [List.all_cons, Bool.and_eq_true] at ha
      obtain ⟨b, hb⟩ := Option.isSome_iff_exists.1 ha.1
      have r1 := sameNow_ok hd ht hf hk hq hb
      cases b with
      | true =>
        refine ⟨some (i, e.val), by simp [Instr.findNow, r1], 0, e, by simp, by simp, rfl, ⟨q, by simp, hb⟩, fun j' q h => by omega⟩
      | false =>
        obtain ⟨r, h1, h2⟩ := findNow_ok hd ht hf hk (es := es) (ks := ks) (i + 1) hr ha.2
        refine ⟨r, by simp [Instr.findNow, r1, h1], ?_⟩
        cases r with
        | none =>
          intro q' hq'
          rcases List.mem_cons.1 hq' with rfl | hq'
          · exact hb
          · exact h2 q' hq'
        | some r =>
          obtain ⟨n, v⟩ := r
          obtain ⟨j, e', h3, h4, h5, ⟨q', h6, h7⟩, h8⟩ := h2
          refine ⟨j + 1, e', by omega, by simpa using h4, h5, ⟨q', by simpa using h6, h7⟩, fun j' q'' hj hq'' => ?_⟩
          cases j' with
          | zero => simp at hq''; subst hq''; exact hb
          | succ j' => exact h8 j' q'' (by omega) (by simpa using hq'')
theorem keq_of1 {c : Bool} {k q : V} (hf : kfit1 c k = true) : keq k q = keq1 k q := by
  cases c <;> cases k <;> simp only [kfit1, Bool.false_eq_true] at hf <;> cases q <;> rfl
theorem findKey_ok {t : TypeId} {sh : Bool × List Bool} {k : V} {kv : Value} {es : List MapEntry} {ks : List V} (ht : ktOk P t sh = true) (hf : kfit sh k = true) (hk : Rep B I k kv) (hr : RepL B I ks (es.map (·.key))) (ha : ks.all (fun q => (keq k q).isSome) = true) :
    ∃ r, (Instr.findKey t kv es).run P w = .ok r w ∧ (match r with
      | none => ∀ q ∈ ks, keq k q = some false
      | some (n, v) => ∃ e, es[n]? = some e ∧ v = e.val ∧ (∃ q, ks[n]? = some q ∧ keq k q = some true) ∧ ∀ j' q, j' < n → ks[j']? = some q → keq k q = some false) := by
  obtain ⟨g, l⟩ := sh
  have fin : (∃ r, (Instr.findAsking t kv es 0).run P w = .ok r w ∧ (match r with
      | none => ∀ q ∈ ks, keq k q = some false
      | some (n, v) => ∃ e, es[n]? = some e ∧ v = e.val ∧ (∃ q, ks[n]? = some q ∧ keq k q = some true) ∧ ∀ j' q, j' < n → ks[j']? = some q → keq k q = some false)) := by
    obtain ⟨r, h1, h2⟩ := findAsking_ok (w := w) ht hf hk 0 hr ha
    refine ⟨r, h1, ?_⟩
    cases r with
    | none => exact h2
    | some r =>
      obtain ⟨n, v⟩ := r
      obtain ⟨j, e, h3, h4, h5⟩ := h2
      obtain rfl : n = j := by omega
      exact ⟨e, h4, h5⟩
  cases g
  · cases l with
    | nil => simp [ktOk] at ht
    | cons c l =>
      cases l with
      | cons => simp [ktOk] at ht
      | nil =>
        simp only [ktOk] at ht
        simp only [kfit] at hf
        obtain ⟨d, hd⟩ : ∃ d, P.underlying t = some d := by
          cases c
          · obtain ⟨k, h⟩ := kt1ui ht; exact ⟨_, h⟩
          · exact ⟨_, kt1us ht⟩
        have e1 : ∀ q, keq k q = keq1 k q := fun q => keq_of1 hf
        simp only [e1] at ha ⊢
        obtain ⟨r, h1, h2⟩ := findNow_ok hd ht hf hk 0 hr ha
        refine ⟨r, by simp [Instr.findKey, Sem.run_bind, run_underlying hd, Result.andThen, h1], ?_⟩
        cases r with
        | none => exact h2
        | some r =>
          obtain ⟨n, v⟩ := r
          obtain ⟨j, e, h3, h4, h5⟩ := h2
          obtain rfl : n = j := by omega
          exact ⟨e, h4, h5⟩
  · have ht' := ht
    simp only [ktOk] at ht'
    split at ht'
    · rename_i fs hu
      cases es with
      | nil =>
        refine ⟨none, by simp [Instr.findKey, Sem.run_bind, run_underlying hu, Result.andThen, Instr.findNow], ?_⟩
        have : ks = [] := by cases ks with | nil => rfl | cons => simp [RepL] at hr
        subst this
        simp
      | cons e es =>
        obtain ⟨r, h1, h2⟩ := fin
        refine ⟨r, ?_, h2⟩
        simp [Instr.findKey, Sem.run_bind, run_underlying hu, Result.andThen, Instr.findNow, Instr.sameNow, h1]
    · cases ht'
theorem isKey1 {t : TypeId} {c : Bool} {k : V} {kv : Value} (n : Nat) (e : Bool) (ht : kt1 P t c = true) (hf : kfit1 c k = true) (hk : Rep B I k kv) : (Instr.checkKey e (n + 1) t kv).run P w = .ok () w := by
  cases c <;> cases k <;> simp only [kfit1, Bool.false_eq_true] at hf
  · obtain ⟨κ, hu⟩ := kt1ui ht
    simp only [Rep] at hk; subst hk
    simp [Instr.checkKey, Sem.run_bind, run_underlying hu, Result.andThen]
  · have hu := kt1us ht
    simp only [Rep] at hk; obtain ⟨rfl, _⟩ := hk
    simp [Instr.checkKey, Sem.run_bind, run_underlying hu, Result.andThen]
theorem checkFs {n : Nat} {e : Bool} : ∀ {fs : List Field} {bs : List Bool} {i : Nat} {cs : List V} {l pre : List Value}, ktFs P i fs bs = true → kfitL bs cs = true → RepL B I cs l → pre.length = i →
    (forIn fs PUnit.unit (fun (f : Field) (_ : PUnit) => (do
        if f.name ≠ "_" then Instr.checkKey e (n + 1) f.type (← part f.type (pre ++ l).toArray f.offset)
        pure (ForInStep.yield PUnit.unit) : Sem (ForInStep PUnit)))).run P w = .ok PUnit.unit w
  | [], bs, i, cs, l, pre, ht, hf, hl, hp => by simp
  | f :: fs, bs, i, cs, l, pre, ht, hf, hl, hp => by
    cases bs with
    | nil => simp [ktFs] at ht
    | cons c bs =>
    cases cs with
    | nil => simp [kfitL] at hf
    | cons k cs =>
    simp only [ktFs, Bool.and_eq_true, bne_iff_ne, ne_eq, beq_iff_eq] at ht
    obtain ⟨⟨⟨⟨⟨h1, h2⟩, h3⟩, h4⟩, h5⟩, h6⟩ := ht
    simp only [kfitL, Bool.and_eq_true] at hf
    simp only [RepL] at hl
    obtain ⟨kv, l', rfl, hk, hl⟩ := hl
    have r1 : (part f.type (pre ++ kv :: l').toArray f.offset).run P w = .ok kv w := by
      rw [run_part h5 h4 (.inr rfl) _ _ (by rw [h3, ← hp]; simp), h3, ← hp]; simp
    have r3 := isKey1 (w := w) n e h2 hf.1 hk
    have ih := checkFs (n := n) (e := e) (pre := pre ++ [kv]) (i := i + 1) h6 hf.2 hl (by simp [hp])
    simp only [List.append_assoc, List.cons_append, List.nil_append] at ih
    simp only [List.forIn_cons, Sem.run_bind, h1, ne_eq, not_false_eq_true, if_true, r1, r3, Result.andThen_ok, Sem.run_pure]
    exact ih
theorem checkKey_ok {t : TypeId} {sh : Bool × List Bool} {k : V} {kv : Value} (e : Bool) (ht : ktOk P t sh = true) (hf : kfit sh k = true) (hk : Rep B I k kv) : (Instr.checkKey e 10000 t kv).run P w = .ok () w := by
  obtain ⟨g, l⟩ := sh
  cases g
  · cases l with
    | nil => simp [ktOk] at ht
    | cons c l =>
      cases l with
      | cons => simp [ktOk] at ht
      | nil => exact isKey1 9999 e (by simpa [ktOk] using ht) (by simpa [kfit] using hf) hk
  · simp only [ktOk] at ht
    split at ht
    · rename_i fs hu
      simp only [Bool.and_eq_true] at ht
      cases k <;> simp only [kfit, Bool.false_eq_true] at hf
      rename_i cs
      simp only [Rep] at hk
      obtain ⟨cv, rfl, hk⟩ := hk
      show (Instr.checkKey e (9999 + 1) t (.agg cv)).run P w = _
      rw [Instr.checkKey]
      simp only [Sem.run_bind, run_underlying hu, Result.andThen_ok]
      rw [← Array.forIn_toList]
      have := checkFs (w := w) (n := 9998) (e := e) (pre := []) ht.2 hf hk rfl
      simp at this ⊢
      rw [this]; rfl
    · cases ht
theorem mget_none {k : V} : ∀ {ks vs : List V}, (∀ q ∈ ks, keq k q = some false) → mget ks vs k = none
  | [], vs, h => by simp [mget]
  | q :: ks, [], h => by simp [mget]
  | q :: ks, v :: vs, h => by
    rw [mget, h q (by simp), mget_none (fun q' hq => h q' (by simp [hq]))]; simp
theorem mget_some {k : V} : ∀ {ks vs : List V} {n : Nat} {q v : V}, ks[n]? = some q → vs[n]? = some v → keq k q = some true → (∀ j q, j < n → ks[j]? = some q → keq k q = some false) → mget ks vs k = some v
  | [], vs, n, q, v, h, _, _, _ => by simp at h
  | q' :: ks, [], n, q, v, _, h, _, _ => by simp at h
  | q' :: ks, v' :: vs, n, q, v, h1, h2, h3, h4 => by
    cases n with
    | zero =>
      simp at h1 h2; subst h1 h2
      rw [mget, if_pos h3]
    | succ n =>
      rw [mget, h4 0 q' (by omega) (by simp), if_neg (by simp)]
      exact mget_some (by simpa using h1) (by simpa using h2) h3 (fun j q hj hq => h4 (j + 1) q (by omega) (by simpa using hq))
theorem s_mlook {t : TypeId} {x k : Operand} {ok ok' : Bool} {sh : Bool × List Bool} {z : V} {x' k' : SX} (ho : o.op = .lookup t x k ok) (hc : chkOp P a.tmps.size (.lookup t x k ok) o.type (.mlook sh ok' z x' k') = true) (he : REnv B I env a.tmps) (hs : Sim f B I w H)
    (hk : exOp P (.mlook sh ok' z x' k') env H K) : Out f B I K ((execOp a.eval o).run P w) := by
  simp only [chkOp, Bool.and_eq_true, beq_iff_eq] at hc
  obtain ⟨⟨⟨hc, rfl⟩, h1⟩, h2⟩ := hc
  split at hc
  · rename_i kt e hu
    simp only [Bool.and_eq_true] at hc
    obtain ⟨hkt, hz⟩ := hc
    split at hz
    · rename_i zv hzv
      have hx := chkX_rep h1 he
      have hkr := chkX_rep h2 he
      have hzr : Rep B I z zv := rel_rep hz
      have hzrun : (zeroValue e).run P w = .ok zv w := run_zero hzv
      simp only [exOp] at hk
      generalize evX env x' = X at *
      generalize evX env k' = k0 at *
      have main : ∀ (es : List MapEntry) (ks vs : List V) (xv : Value), RepL B I ks (es.map (·.key)) → RepL B I vs (es.map (·.val)) → kOk sh ks k0 = true → K (mres ok z (mget ks vs k0)) H →
          a.eval x = xv → ((xv = .map none ∧ es = []) ∨ ∃ r clock, xv = .map (some r) ∧ w.heap[r]? = some (.map es.toArray clock)) → Out f B I K ((execOp a.eval o).run P w) := by
        intro es ks vs xv hks hvs hok hK hxe hxv
        simp only [kOk, Bool.and_eq_true] at hok
        have hck := fun e => checkKey_ok (w := w) e hkt hok.1 hkr
        obtain ⟨r, hr1, hr2⟩ := findKey_ok (w := w) hkt hok.1 hkr hks hok.2
        have hrun : ∃ v, (Instr.lookup t xv (a.eval k) ok).run P w = .ok v w ∧ Rep B I (mres ok z (mget ks vs k0)) v := by
          cases r with
          | none =>
            rw [mget_none hr2]
            refine ⟨if ok then .tuple #[zv, .bool false] else zv, ?_, ?_⟩
            · rcases hxv with ⟨rfl, rfl⟩ | ⟨r, clock, rfl, hh⟩
              · simp only [Instr.lookup, Sem.run_bind, run_underlying hu, Result.andThen_ok, Sem.run_pure, hck, hzrun]
                simp only [show (#[] : Array MapEntry).toList = [] from rfl, hr1, Result.andThen_ok, Sem.run_bind, hzrun, Sem.run_pure]
              · simp only [Instr.lookup, Sem.run_bind, run_underlying hu, Result.andThen_ok, Sem.run_pure, hck, MapKept.run_getObj_map hh]
                simp only [hr1, Result.andThen_ok, Sem.run_bind, hzrun, Sem.run_pure]
            · cases ok
              · simpa [mres] using hzr
              · simp only [mres, if_true, Rep]
                exact ⟨_, rfl, by simp [RepL, Rep]; exact hzr⟩
          | some r =>
            obtain ⟨n, v⟩ := r
            obtain ⟨en, h3, rfl, ⟨q, h4, h5⟩, h6⟩ := hr2
            have hlen : ks.length = vs.length := by have := hks.length; have := hvs.length; simp_all
            obtain ⟨v, hv⟩ : ∃ v, vs[n]? = some v := by
              have := (List.getElem?_eq_some_iff.1 h4).1
              exact ⟨vs[n], List.getElem?_eq_getElem (by omega)⟩
            rw [mget_some h4 hv h5 h6]
            have hvr : Rep B I v en.val := by
              obtain ⟨u, h7, h8⟩ := hvs.get hv
              rw [List.getElem?_map, h3] at h7
              simp at h7; subst h7; exact h8
            refine ⟨if ok then .tuple #[en.val, .bool true] else en.val, ?_, ?_⟩
            · rcases hxv with ⟨rfl, rfl⟩ | ⟨r, clock, rfl, hh⟩
              · simp at h3
              · simp only [Instr.lookup, Sem.run_bind, run_underlying hu, Result.andThen_ok, Sem.run_pure, hck, MapKept.run_getObj_map hh]
                simp only [hr1, Result.andThen_ok, Sem.run_bind, Sem.run_pure]
            · cases ok
              · simpa [mres] using hvr
              · simp only [mres, if_true, Rep]
                exact ⟨_, rfl, by simp [RepL, Rep]; exact hvr⟩
        obtain ⟨v, hv1, hv2⟩ := hrun
        refine Out.quiet (v := v) ?_ hK hs hv2
        subst hxe
        simp [execOp, ho, Sem.run_bind, hv1, Result.andThen]
      split at hk
      · simp only [Rep] at hx
        exact main [] [] [] _ (by simp [RepL]) (by simp [RepL]) hk.1 (by simpa [mget] using hk.2) rfl (.inl ⟨hx, rfl⟩)
      · rename_i ks vs
        simp only [Rep] at hx
        obtain ⟨b, es, clock, hx, h3, _, h4, h5⟩ := hx
        exact main es.toList ks vs _ h4 h5 hk.1 hk.2 rfl (.inr ⟨b, clock, hx, by simpa using hs.imm _ _ h3⟩)
      · rename_i id
        split at hk
        · rename_i ks vs hH
          simp only [Rep] at hx
          obtain ⟨p, hp, hx⟩ := hx
          obtain ⟨es, clock, h3, _, h4, h5⟩ := hs.ok _ _ _ hp hH
          exact main es.toList ks vs _ h4 h5 hk.1 hk.2 rfl (.inr ⟨p.blk, clock, hx, by simpa using h3⟩)
        · exact hk.elim
      · exact hk.elim
    · cases hz
  · cases hc
theorem keq1usame {k q : V} {kv qv : Value} (hk : Rep B I k kv) (hq : Rep B I q qv) (he : keq1 k q = some true) : kv = qv ∧ ∀ n, Instr.sameBits n qv kv = true := by
  cases k <;> cases q <;> simp only [keq1] at he <;> try (cases he; done)
  · split at he
    · rename_i e; subst e
      simp only [Option.some.injEq, decide_eq_true_eq] at he; subst he
      simp only [Rep] at hk hq; subst hk hq
      exact ⟨rfl, fun n => by cases n <;> simp [Instr.sameBits]⟩
    · cases he
  · simp only [Option.some.injEq, decide_eq_true_eq] at he; subst he
    simp only [Rep] at hk hq
    obtain ⟨rfl, _⟩ := hk; obtain ⟨rfl, _⟩ := hq
    exact ⟨rfl, fun n => by cases n <;> simp [Instr.sameBits, beq_ba]⟩
theorem keqL_same : ∀ {ks qs : List V} {kl ql : List Value}, RepL B I ks kl → RepL B I qs ql → keqL ks qs = some true → kl = ql ∧ ∀ n, (ql.zip kl).all (fun x => Instr.sameBits n x.1 x.2) = true
  | [], [], kl, ql, hk, hq, he => by
    simp only [RepL] at hk hq; subst hk hq; simp
  | k :: ks, q :: qs, kl, ql, hk, hq, he => by
    simp only [RepL] at hk hq
    obtain ⟨kv, kl, rfl, hk, hkl⟩ := hk
    obtain ⟨qv, ql, rfl, hq, hql⟩ := hq
    simp only [keqL] at he
    split at he
    · rename_i x y e1 e2
      simp only [Option.some.injEq, Bool.and_eq_true] at he
      obtain ⟨rfl, rfl⟩ := he
      obtain ⟨rfl, h1⟩ := keq1usame hk hq e1
      obtain ⟨rfl, h2⟩ := keqL_same hkl hql e2
      exact ⟨rfl, fun n => by simp [h1, h2 n]⟩
    · cases he
  | [], _ :: _, _, _, _, _, he => by simp [keqL] at he
  | _ :: _, [], _, _, _, _, he => by simp [keqL] at he
theorem keq_same {k q : V} {kv qv : Value} (hk : Rep B I k kv) (hq : Rep B I q qv) (he : keq k q = some true) : kv = qv ∧ Instr.sameBits 10000 qv kv = true := by
  by_cases hag : ∃ xs, k = .agg xs
  · obtain ⟨xs, rfl⟩ := hag
    cases q <;> simp only [keq] at he <;> try (cases he; done)
    simp only [Rep] at hk hq
    obtain ⟨kc, rfl, hk⟩ := hk
    obtain ⟨qc, rfl, hq⟩ := hq
    obtain ⟨h1, h2⟩ := keqL_same hk hq he
    have h1 : kc = qc := by cases kc; cases qc; simp_all
    subst h1
    refine ⟨rfl, ?_⟩
    show Instr.sameBits (9999 + 1) _ _ = true
    rw [Instr.sameBits]
    simpa using h2 9999
  · have : keq k q = keq1 k q := by cases k <;> first | rfl | (exact absurd ⟨_, rfl⟩ hag) | (cases q <;> rfl)
    rw [this] at he
    exact ⟨(keq1usame hk hq he).1, (keq1usame hk hq he).2 _⟩
theorem mput_new {k x : V} : ∀ {ks vs : List V}, ks.length = vs.length → (∀ q ∈ ks, keq k q = some false) → mputK ks k = ks ++ [k] ∧ mputV ks vs k x = vs ++ [x]
  | [], [], _, h => by simp [mputK, mputV]
  | q :: ks, v :: vs, hl, h => by
    obtain ⟨h1, h2⟩ := mput_new (k := k) (x := x) (ks := ks) (vs := vs) (by simpa using hl) (fun q' hq => h q' (by simp [hq]))
    refine ⟨?_, by rw [mputV, h q (by simp), if_neg (by simp), h2]; rfl⟩
    rw [mputK, if_neg]
    simp only [List.any_eq_true, not_exists, not_and, beq_iff_eq]
    intro q' hq' he
    rw [h q' hq'] at he; cases he
theorem mput_old {k x : V} : ∀ {ks vs : List V} {n : Nat} {q : V}, ks.length = vs.length → ks[n]? = some q → keq k q = some true → (∀ j q, j < n → ks[j]? = some q → keq k q = some false) → mputK ks k = ks ∧ mputV ks vs k x = vs.set n x
  | [], vs, n, q, hl, h1, h2, h3 => by simp at h1
  | q' :: ks, [], n, q, hl, h1, h2, h3 => by simp at hl
  | q' :: ks, v :: vs, n, q, hl, h1, h2, h3 => by
    refine ⟨?_, ?_⟩
    · rw [mputK, if_pos]
      rw [List.any_eq_true]
      exact ⟨q, List.mem_of_getElem? h1, by simp [h2]⟩
    · cases n with
      | zero => simp at h1; subst h1; rw [mputV, if_pos h2]; rfl
      | succ n =>
        rw [mputV, h3 0 q' (by omega) (by simp), if_neg (by simp), (mput_old (ks := ks) (by simpa using hl) (by simpa using h1) h2 (fun j q hj hq => h3 (j + 1) q (by omega) (by simpa using hq))).2]
        rfl
theorem repL_set : ∀ {xs : List V} {l : List Value} {n : Nat} {x : V} {v : Value}, RepL B I xs l → Rep B I x v → RepL B I (xs.set n x) (l.set n v)
  | [], l, n, x, v, h, hx => by simp only [RepL] at h; subst h; simp [RepL]
  | y :: xs, l, n, x, v, h, hx => by
    simp only [RepL] at h
    obtain ⟨u, us, rfl, h1, h2⟩ := h
    cases n with
    | zero => simp only [List.set_cons_zero, RepL]; exact ⟨_, _, rfl, hx, h2⟩
    | succ n => simp only [List.set_cons_succ, RepL]; exact ⟨_, _, rfl, h1, repL_set h2 hx⟩
theorem s_mset {t : TypeId} {x k v : Operand} {sh : Bool × List Bool} {x' k' v' : SX} (ho : o.op = .mapUpdate t x k v) (hc : chkOp P a.tmps.size (.mapUpdate t x k v) o.type (.mset sh x' k' v') = true) (he : REnv B I env a.tmps) (hs : Sim f B I w H)
    (hk : exOp P (.mset sh x' k' v') env H K) : Out f B I K ((execOp a.eval o).run P w) := by
  simp only [chkOp, Bool.and_eq_true] at hc
  obtain ⟨⟨⟨hc, h1⟩, h2⟩, h3⟩ := hc
  split at hc
  · rename_i kt e hu
    have hx := chkX_rep h1 he
    have hkr := chkX_rep h2 he
    have hvr := chkX_rep h3 he
    simp only [exOp] at hk
    generalize evX env k' = k0 at *
    generalize evX env v' = v0 at *
    split at hk
    · rename_i id hX
      rw [hX] at hx
      split at hk
      · rename_i ks vs hH
        obtain ⟨hok, hK⟩ := hk
        simp only [Rep] at hx
        obtain ⟨p, hp, hx⟩ := hx
        have hb := hs.ok _ _ _ hp hH
        obtain ⟨es, clock, h4, hbn, h5, h6⟩ := hb
        simp only [kOk, Bool.and_eq_true] at hok
        have hck := checkKey_ok (w := w) false hc hok.1 hkr
        obtain ⟨r, hr1, hr2⟩ := findKey_ok (w := w) hc hok.1 hkr h5 hok.2
        have hlen : ks.length = vs.length := by have := h5.length; have := h6.length; simp_all
        have hown := (hs.own _ _ _ hp hH rfl).2.2
        cases r with
        | none =>
          obtain ⟨e1, e2⟩ := mput_new (x := v0) hlen hr2
          rw [e1, e2] at hK
          refine ⟨undef, { w with heap := w.heap.setIfInBounds p.blk (.map (es.push { key := a.eval k, val := a.eval v, born := clock }) (clock + 1)) }, .any, _, B, I, .inr ⟨?_, rfl⟩, hK, ?_, BLe.refl _, ILe.refl _, by simp [Rep]⟩
          · simp only [execOp, ho, hx, Instr.mapUpdate, Sem.run_bind, run_underlying hu, Result.andThen_ok, MapKept.run_getObj_map h4, hck, hr1, MapKept.run_setObj_map _ h4, Sem.run_pure]
          · refine hs.rewriteO hp hH rfl hown ⟨_, _, by show (w.heap.setIfInBounds _ _)[_]? = _; simp [hown]; exact ⟨rfl, rfl⟩, ?_, ?_, ?_⟩
            · obtain ⟨b1, b2⟩ := hbn
              refine ⟨fun x hx => ?_, ?_⟩
              · simp at hx; rcases hx with hx | rfl
                · have := b1 x (by simpa using hx); omega
                · simp
              · simp only [Array.toList_push, List.map_append, List.map_cons, List.map_nil, List.nodup_append]
                refine ⟨b2, by simp, fun a ha b hb => ?_⟩
                simp at hb; subst hb
                obtain ⟨x, hx, rfl⟩ := List.mem_map.1 ha
                have := b1 x hx; omega
            · simpa using h5.append (l := es.toList.map (·.key)) (m := [a.eval k]) (by simp [RepL]; exact hkr)
            · simpa using h6.append (l := es.toList.map (·.val)) (m := [a.eval v]) (by simp [RepL]; exact hvr)
        | some r =>
          obtain ⟨n, u⟩ := r
          obtain ⟨en, g1, rfl, ⟨q, g2, g3⟩, g4⟩ := hr2
          obtain ⟨e1, e2⟩ := mput_old (x := v0) hlen g2 g3 g4
          rw [e1, e2] at hK
          have hqv : Rep B I q en.key := by
            obtain ⟨u, h7, h8⟩ := h5.get g2
            rw [List.getElem?_map, g1] at h7
            simp at h7; subst h7; exact h8
          obtain ⟨hkq, hsb⟩ := keq_same hkr hqv g3
          have hen : es[n]? = some en := by simpa using g1
          refine ⟨undef, { w with heap := w.heap.setIfInBounds p.blk (.map (es.modify n fun e => { e with key := a.eval k, val := a.eval v }) clock) }, .any, _, B, I, .inr ⟨?_, rfl⟩, hK, ?_, BLe.refl _, ILe.refl _, by simp [Rep]⟩
          · simp only [execOp, ho, hx, Instr.mapUpdate, Sem.run_bind, run_underlying hu, Result.andThen_ok, MapKept.run_getObj_map h4, hck, hr1, Instr.keyThatStays, hen, Option.map_some, Option.getD_some, hsb, if_true, MapKept.run_setObj_map _ h4, Sem.run_pure]
          · have hks' : ks.set n k0 = ks.set n k0 := rfl
            refine hs.rewriteO hp hH rfl hown ⟨_, _, by show (w.heap.setIfInBounds _ _)[_]? = _; simp [hown]; exact ⟨rfl, rfl⟩, ?_, ?_, ?_⟩
            · obtain ⟨b1, b2⟩ := hbn
              have e0 : (es.modify n fun e => { e with key := a.eval k, val := a.eval v }).toList.map (·.born) = es.toList.map (·.born) := by
                apply List.ext_getElem?
                intro i
                simp only [List.getElem?_map, Array.getElem?_toList, Array.getElem?_modify]
                split
                · rename_i e; subst e; rw [hen]; simp
                · rfl
              refine ⟨fun x hx => ?_, by rw [e0]; exact b2⟩
              have : x.born ∈ es.toList.map (·.born) := by rw [← e0]; exact List.mem_map.2 ⟨x, hx, rfl⟩
              obtain ⟨y, hy, hyx⟩ := List.mem_map.1 this
              rw [← hyx]; exact b1 y hy
            · have e3 : (es.modify n fun e => { e with key := a.eval k, val := a.eval v }).toList.map (·.key) = es.toList.map (·.key) := by
                apply List.ext_getElem?
                intro i
                simp only [List.getElem?_map, Array.getElem?_toList, Array.getElem?_modify]
                split
                · rename_i e; subst e; rw [hen]; simp [hkq]
                · rfl
              rw [e3]; exact h5
            · have e3 : (es.modify n fun e => { e with key := a.eval k, val := a.eval v }).toList.map (·.val) = (es.toList.map (·.val)).set n (a.eval v) := by
                apply List.ext_getElem?
                intro i
                rw [List.getElem?_set]
                simp only [List.getElem?_map, Array.getElem?_toList, Array.getElem?_modify]
                split
                · rename_i e; subst e; rw [hen]
                  have := (Array.getElem?_eq_some_iff.1 hen).1
                  simp [this]
                · rfl
              rw [e3]; exact repL_set h6 hvr
      · exact hk.elim
    · exact hk.elim
  · cases hc
end
def SX.tm : SX → List Nat
  | .tmp t => [t]
  | .val _ => []
def oTm : Option SX → List Nat
  | none => []
  | some x => x.tm
def SOp.tmps : SOp → List Nat
  | .mov x | .box x | .nilc x | .un _ x | .conv _ x | .convs x | .faddr _ x | .field _ _ _ x | .extract x _ | .len _ x | .load _ _ x => x.tm
  | .pick c a b => c.tm ++ a.tm ++ b.tm
  | .alloc _ => []
  | .frz t => [t]
  | .mkemp => []
  | .jalloc => []
  | .snil _ x => x.tm
  | .mkmap => []
  | .mks _ x => x.tm
  | .mlook _ _ _ x k => x.tm ++ k.tm
  | .mset _ x k v => x.tm ++ k.tm ++ v.tm
  | .buildF _ xs => xs.flatMap SX.tm
  | .build _ ps => ps.flatMap fun p => p.2.2.tm
  | .buildS _ xs => xs.flatMap SX.tm
  | .store _ a x => a.tm ++ x.tm
  | .bin _ x y | .beq _ x y | .iaddr _ x y | .sidx x y | .append _ _ x y => x.tm ++ y.tm
  | .mkfn _ a b => a.flatMap SX.tm ++ b.flatMap SX.tm
  | .slice _ x lo hi | .strsl x lo hi => x.tm ++ oTm lo ++ oTm hi
  | .call f as => f.tm ++ as.flatMap SX.tm
abbrev Env := Nat → V
theorem evX_congr {e e' : Env} {x : SX} (h : ∀ t ∈ x.tm, e t = e' t) : evX e x = evX e' x := by
  cases x with
  | tmp t => exact h t (by simp [SX.tm])
  | val v => rfl
theorem evXs_congr {e e' : Env} {xs : List SX} (h : ∀ t ∈ xs.flatMap SX.tm, e t = e' t) : xs.map (evX e) = xs.map (evX e') := by
  apply List.map_congr_left
  intro x hx
  exact evX_congr fun t ht => h t (List.mem_flatMap.2 ⟨x, hx, ht⟩)
theorem ixO_congr {e e' : Env} {d : Int} {x : Option SX} (h : ∀ t ∈ oTm x, e t = e' t) : ixO e d x = ixO e' d x := by
  cases x with
  | none => rfl
  | some x => simp only [ixO, evX_congr (x := x) h]
theorem exOp_congr {P : Program} {o : SOp} {e e' : Env} {H : List Blk} {K : V → List Blk → Prop} (h : ∀ t ∈ o.tmps, e t = e' t) (hx : exOp P o e H K) : exOp P o e' H K := by
  cases o with
  | mov x | box x | nilc x | un op x | conv k x | convs x | faddr off x | field g off n x | extract x i | len s x | load g n x =>
    simp only [exOp, evX_congr (x := x) h] at hx ⊢; exact hx
  | pick c a b =>
    simp only [SOp.tmps, List.mem_append] at h
    simp only [exOp, evX_congr (x := c) (fun t ht => h t (.inl (.inl ht))), evX_congr (x := a) (fun t ht => h t (.inl (.inr ht))), evX_congr (x := b) (fun t ht => h t (.inr ht))] at hx ⊢; exact hx
  | alloc z => exact hx
  | build z ps =>
    have : (ps.map fun p => (p.1, p.2.1, evX e p.2.2)) = ps.map fun p => (p.1, p.2.1, evX e' p.2.2) := by
      apply List.map_congr_left
      intro p hp
      rw [evX_congr fun t ht => h t (List.mem_flatMap.2 ⟨p, hp, ht⟩)]
    simp only [exOp, this] at hx ⊢; exact hx
  | buildS esz xs => simp only [exOp, evXs_congr (xs := xs) h] at hx ⊢; exact hx
  | store n a x =>
    simp only [SOp.tmps, List.mem_append] at h
    simp only [exOp, evX_congr (x := a) (fun t ht => h t (.inl ht)), evX_congr (x := x) (fun t ht => h t (.inr ht))] at hx ⊢; exact hx
  | bin op x y | beq op x y | iaddr op x y | sidx x y | append esz bytes x y =>
    simp only [SOp.tmps, List.mem_append] at h
    simp only [exOp, evX_congr (x := x) (fun t ht => h t (.inl ht)), evX_congr (x := y) (fun t ht => h t (.inr ht))] at hx ⊢; exact hx
  | mkfn g a b =>
    simp only [SOp.tmps, List.mem_append] at h
    simp only [exOp, evXs_congr (xs := a) (fun t ht => h t (.inl ht)), evXs_congr (xs := b) (fun t ht => h t (.inr ht))] at hx ⊢; exact hx
  | slice esz x lo hi =>
    simp only [SOp.tmps, List.mem_append] at h
    simp only [exOp, evX_congr (x := x) (fun t ht => h t (.inl (.inl ht))), fun d => ixO_congr (d := d) (x := lo) (fun t ht => h t (.inl (.inr ht))), fun d => ixO_congr (d := d) (x := hi) (fun t ht => h t (.inr ht))] at hx ⊢; exact hx
  | strsl x lo hi => exact hx
  | mkemp => exact hx
  | mkmap => exact hx
  | mks z x => simp only [exOp, evX_congr (x := x) h] at hx ⊢; exact hx
  | mlook sh ok z x k =>
    simp only [SOp.tmps, List.mem_append] at h
    simp only [exOp, evX_congr (x := x) (fun t ht => h t (.inl ht)), evX_congr (x := k) (fun t ht => h t (.inr ht))] at hx ⊢; exact hx
  | mset sh x k v =>
    simp only [SOp.tmps, List.mem_append] at h
    simp only [exOp, evX_congr (x := x) (fun t ht => h t (.inl (.inl ht))), evX_congr (x := k) (fun t ht => h t (.inl (.inr ht))), evX_congr (x := v) (fun t ht => h t (.inr ht))] at hx ⊢; exact hx
  | jalloc => exact hx
  | snil neg x => simp only [exOp, evX_congr (x := x) h] at hx ⊢; exact hx
  | frz t => simp only [exOp, h t (by simp [SOp.tmps])] at hx ⊢; exact hx
  | buildF esz xs => simp only [exOp, evXs_congr (xs := xs) h] at hx ⊢; exact hx
  | call f as =>
    simp only [SOp.tmps, List.mem_append] at h
    simp only [exOp, evX_congr (x := f) (fun t ht => h t (.inl ht)), evXs_congr (xs := as) (fun t ht => h t (.inr ht))] at hx ⊢; exact hx
def ret1 (v : V) (H1 : List Blk) : V → List Blk → Prop := fun r H => r = v ∧ H = H1
def gstep (P : Program) (o : SOper) (e : Env) (H : List Blk) (v : V) (H1 : List Blk) : Prop :=
  match o.guard with
  | none => exOp P o.op e H (ret1 v H1)
  | some (t, want) => match e t with
    | .bool b => if b = want then exOp P o.op e H (ret1 v H1) else v = .und ∧ H1 = H
    | .und => v = .und ∧ H1 = H
    | _ => False
def QO.tmps (q : QO) : List Nat := (match q.o.guard with | none => [] | some (t, _) => [t]) ++ q.o.op.tmps
theorem gstep_congr {P : Program} {q : QO} {e e' : Env} {H H1 : List Blk} {v : V} (h : ∀ t ∈ q.tmps, e t = e' t) (hx : gstep P q.o e H v H1) : gstep P q.o e' H v H1 := by
  have hop : ∀ K, exOp P q.o.op e H K → exOp P q.o.op e' H K := fun K => exOp_congr fun t ht => h t (by simp [QO.tmps, ht])
  unfold gstep at *
  cases hg : q.o.guard with
  | none => rw [hg] at hx; exact hop _ hx
  | some tw =>
    obtain ⟨t, want⟩ := tw
    rw [hg] at hx
    have ht := h t (by simp [QO.tmps, hg])
    simp only at hx ⊢
    rw [← ht]
    cases hv : e t <;> rw [hv] at hx <;> first | exact hx | exact hx.elim | skip
    simp only at hx ⊢
    split
    · rename_i hb; rw [if_pos hb] at hx; exact hop _ hx
    · rename_i hb; rw [if_neg hb] at hx; exact hx
def gRun (P : Program) : List QO → Env → List Blk → List (List Blk) → List (Env × V) → (List (Env × V) → List (List Blk) → Env → List Blk → Prop) → Prop
  | [], e, H, Hs, tr, k => k tr Hs e H
  | q :: rest, e, H, Hs, tr, k => match q.ld with
    | true => ∃ v H1, gstep P q.o e H v H1 ∧ gRun P rest (updO e q.o.dst v) H1 (Hs ++ [H1]) (tr ++ [(e, v)]) k
    | false => ∃ v, gstep P q.o e H v H ∧ gRun P rest (updO e q.o.dst v) H Hs (tr ++ [(e, v)]) k
def stabR (P : Program) (q : QO) (e : Env) (v : V) (Hs : List (List Blk)) : Nat → Nat → Prop
  | 0, r => gstep P q.o e (Hs.getD r []) v (Hs.getD r [])
  | c + 1, r => gstep P q.o e (Hs.getD r []) v (Hs.getD r []) ∧ stabR P q e v Hs c (r + 1)
def stabL (P : Program) : List QO → List (Env × V) → List (List Blk) → Prop
  | q :: qs, (e, v) :: tr, Hs => (match q.ld || q.lo == q.hi with | true => True | false => stabR P q e v Hs (q.hi - q.lo) q.lo) ∧ stabL P qs tr Hs
  | _, _, _ => True
inductive GR (P : Program) : List QO → Env → List Blk → List (Env × V) → List (List Blk) → Env → List Blk → Prop
  | nil {e H} : GR P [] e H [] [] e H
  | loud {q rest e H v H1 tr Hs e' H'} : q.ld = true → gstep P q.o e H v H1 → GR P rest (updO e q.o.dst v) H1 tr Hs e' H' → GR P (q :: rest) e H ((e, v) :: tr) (H1 :: Hs) e' H'
  | quiet {q rest e H v tr Hs e' H'} : q.ld = false → gstep P q.o e H v H → GR P rest (updO e q.o.dst v) H tr Hs e' H' → GR P (q :: rest) e H ((e, v) :: tr) Hs e' H'
theorem GR.of_run {P : Program} : ∀ {ss : List QO} {e : Env} {H : List Blk} {Hs0 : List (List Blk)} {tr0 : List (Env × V)} {k : List (Env × V) → List (List Blk) → Env → List Blk → Prop},
    gRun P ss e H Hs0 tr0 k → ∃ tr Hs e' H', GR P ss e H tr Hs e' H' ∧ k (tr0 ++ tr) (Hs0 ++ Hs) e' H'
  | [], e, H, Hs0, tr0, k, h => ⟨[], [], e, H, .nil, by simpa [gRun] using h⟩
  | q :: rest, e, H, Hs0, tr0, k, h => by
    simp only [gRun] at h
    cases hl : q.ld with
    | true =>
      rw [hl] at h
      obtain ⟨v, H1, hs, h⟩ := h
      obtain ⟨tr, Hs, e', H', hg, hk⟩ := GR.of_run h
      exact ⟨(e, v) :: tr, H1 :: Hs, e', H', .loud hl hs hg, by simpa using hk⟩
    | false =>
      rw [hl] at h
      obtain ⟨v, hs, h⟩ := h
      obtain ⟨tr, Hs, e', H', hg, hk⟩ := GR.of_run h
      exact ⟨(e, v) :: tr, Hs, e', H', .quiet hl hs hg, by simpa using hk⟩
def rk (ss : List QO) (i : Nat) : Nat := ((ss.take i).filter (·.ld)).length
theorem rk_zero (ss : List QO) : rk ss 0 = 0 := by simp [rk]
theorem rk_succ {ss : List QO} {j : Nat} {q : QO} (h : ss[j]? = some q) : rk ss (j + 1) = rk ss j + (if q.ld then 1 else 0) := by
  unfold rk
  rw [List.take_add_one, h]
  cases hq : q.ld <;> simp [List.filter_append, hq]
theorem rk_mono {ss : List QO} {i j : Nat} (h : i ≤ j) : rk ss i ≤ rk ss j := by
  unfold rk
  have : ss.take i = (ss.take j).take i := by rw [List.take_take, Nat.min_eq_left h]
  rw [this]
  have h2 := List.Sublist.filter (·.ld) (List.take_sublist i (ss.take j))
  exact h2.length_le
def esOf (tr : List (Env × V)) (e' : Env) (j : Nat) : Env := match tr[j]? with
  | some p => p.1
  | none => e'
def vsOf (tr : List (Env × V)) (j : Nat) : V := match tr[j]? with
  | some p => p.2
  | none => .any
theorem GR.length {P : Program} {ss : List QO} {e e' : Env} {H H' : List Blk} {tr : List (Env × V)} {Hs : List (List Blk)} (h : GR P ss e H tr Hs e' H') : tr.length = ss.length := by
  induction h with
  | nil => rfl
  | loud _ _ _ ih => simp [ih]
  | quiet _ _ _ ih => simp [ih]
theorem GR.at0 {P : Program} {ss : List QO} {e e' : Env} {H H' : List Blk} {tr : List (Env × V)} {Hs : List (List Blk)} (h : GR P ss e H tr Hs e' H') : esOf tr e' 0 = e := by
  cases h <;> rfl
theorem rk_cons {q : QO} {ss : List QO} {j : Nat} : rk (q :: ss) (j + 1) = (if q.ld then 1 else 0) + rk ss j := by
  unfold rk
  cases hq : q.ld <;> simp [hq]; omega
theorem GR.step {P : Program} {ss : List QO} {e e' : Env} {H H' : List Blk} {tr : List (Env × V)} {Hs : List (List Blk)} (h : GR P ss e H tr Hs e' H') :
    ∀ (j : Nat) q, ss[j]? = some q → gstep P q.o (esOf tr e' j) ((H :: Hs).getD (rk ss j) []) (vsOf tr j) ((H :: Hs).getD (rk ss (j + 1)) []) ∧ esOf tr e' (j + 1) = updO (esOf tr e' j) q.o.dst (vsOf tr j) := by
  induction h with
  | nil => intro j q hq; simp at hq
  | @loud q rest e H v H1 tr Hs e' H' hl hs hg ih =>
    intro j x hx
    cases j with
    | zero =>
      simp at hx; subst hx
      refine ⟨?_, ?_⟩
      · have : rk (q :: rest) (0 + 1) = 1 := by rw [rk_cons, rk_zero, hl]; rfl
        rw [this, rk_zero]
        exact hs
      · have := hg.at0
        exact this
    | succ j =>
      obtain ⟨h1, h2⟩ := ih j x (by simpa using hx)
      refine ⟨?_, h2⟩
      rw [rk_cons, rk_cons, hl]
      have e1 : ∀ r, (H :: H1 :: Hs).getD ((if true = true then 1 else 0) + r) [] = (H1 :: Hs).getD r [] := by
        intro r; rw [if_pos rfl, Nat.add_comm]; rfl
      rw [e1, e1]; exact h1
  | @quiet q rest e H v tr Hs e' H' hl hs hg ih =>
    intro j x hx
    cases j with
    | zero =>
      simp at hx; subst hx
      refine ⟨?_, hg.at0⟩
      have : rk (q :: rest) (0 + 1) = 0 := by rw [rk_cons, rk_zero, hl]; rfl
      rw [this, rk_zero]
      exact hs
    | succ j =>
      obtain ⟨h1, h2⟩ := ih j x (by simpa using hx)
      refine ⟨?_, h2⟩
      rw [rk_cons, rk_cons, hl]
      have e1 : ∀ r, (H :: Hs).getD ((if false = true then 1 else 0) + r) [] = (H :: Hs).getD r [] := by
        intro r; simp
      rw [e1, e1]; exact h1
theorem GR.final {P : Program} {ss : List QO} {e e' : Env} {H H' : List Blk} {tr : List (Env × V)} {Hs : List (List Blk)} (h : GR P ss e H tr Hs e' H') :
    esOf tr e' ss.length = e' ∧ (H :: Hs).getD (rk ss ss.length) [] = H' := by
  induction h with
  | nil => exact ⟨rfl, rfl⟩
  | @loud q rest e H v H1 tr Hs e' H' hl hs hg ih =>
    refine ⟨ih.1, ?_⟩
    rw [List.length_cons, rk_cons, hl, if_pos rfl, Nat.add_comm]
    exact ih.2
  | @quiet q rest e H v tr Hs e' H' hl hs hg ih =>
    refine ⟨ih.1, ?_⟩
    rw [List.length_cons, rk_cons, hl]
    simpa using ih.2
theorem stabR_spec {P : Program} {q : QO} {e : Env} {v : V} {Hs : List (List Blk)} : ∀ {c r0 : Nat}, stabR P q e v Hs c r0 → ∀ r, r0 ≤ r → r ≤ r0 + c → gstep P q.o e (Hs.getD r []) v (Hs.getD r [])
  | 0, r0, h, r, h1, h2 => by
    have : r = r0 := by omega
    subst this; exact h
  | c + 1, r0, h, r, h1, h2 => by
    by_cases hr : r = r0
    · subst hr; exact h.1
    · exact stabR_spec h.2 r (by omega) (by omega)
theorem stabL_spec {P : Program} {Hs : List (List Blk)} : ∀ {ss : List QO} {tr : List (Env × V)}, tr.length = ss.length → stabL P ss tr Hs → ∀ (j : Nat) q e v, ss[j]? = some q → tr[j]? = some (e, v) → q.ld = false → q.lo ≠ q.hi →
    ∀ r, q.lo ≤ r → r ≤ q.hi → gstep P q.o e (Hs.getD r []) v (Hs.getD r [])
  | [], _, _, _, j, q, e, v, h1, _, _, _, _, _, _ => by simp at h1
  | q0 :: qs, [], hl, _, _, _, _, _, _, h2, _, _, _, _, _ => by simp at h2
  | q0 :: qs, (e0, v0) :: tr, hl, hs, j, q, e, v, h1, h2, hld, hne, r, hr1, hr2 => by
    cases j with
    | zero =>
      simp at h1 h2
      obtain ⟨rfl, rfl⟩ := h2
      subst h1
      have h3 := hs.1
      have : (q0.ld || q0.lo == q0.hi) = false := by simp [hld, hne]
      rw [this] at h3
      exact stabR_spec h3 r hr1 (by omega)
    | succ j => exact stabL_spec (by simpa using hl) hs.2 j q e v (by simpa using h1) (by simpa using h2) hld hne r hr1 hr2
end Go.Proofs.YtdgoeblpcnjlbaaGreatDoor.Av
