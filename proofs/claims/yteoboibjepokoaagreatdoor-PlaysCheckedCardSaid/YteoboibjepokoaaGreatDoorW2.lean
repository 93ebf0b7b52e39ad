/- Proved: for every list of numbers the law PlaysChecked answers true and leaves its argument as it was (the tied card); no condition beyond the row's own. Text 2 of 14. -/
import Derived.Laws.Append
import Derived.Test.YteoboibjepokoaaGreatDoorW1
set_option linter.unusedVariables false
set_option linter.unusedSimpArgs false
set_option linter.unusedSectionVars false
set_option linter.all false
namespace Go.Proofs.YteoboibjepokoaaGreatDoor.Av
open Go.RowKit
section
variable {P : Program} {f : Fr} {B : List Pl} {I : IM} {w : World} {H : List Blk} {K : V → List Blk → Prop} {a : Act} {env : Nat → V} {o : Oper}
theorem elemsG_of_flat {sz : Nat} {g : Nat → Option Value} : ∀ {es : List V} {l : List Value} {o : Nat}, (∀ e ∈ es, (cellsV e).length = sz) → RepL B I (es.flatMap cellsV) l →
    (∀ (j : Nat) v, l[j]? = some v → g (o + j) = some v) → ElemsG B I es g sz o
  | [], _, _, _, _, _ => by simp [ElemsG]
  | e :: es, l, o, hl, hr, hg => by
    rw [elemsG_cons]
    have h0 := hl e (by simp)
    rw [List.flatMap_cons] at hr
    have h1 := hr.take (cellsV e).length
    have h2 := hr.drop (cellsV e).length
    rw [List.take_left] at h1
    rw [List.drop_left] at h2
    refine ⟨h0, cellsG_of_repL h1 (fun j v hj => ?_), elemsG_of_flat (fun x hx => hl x (by simp [hx])) h2 (fun j v hj => ?_)⟩
    · rw [List.getElem?_take] at hj
      split at hj
      · exact hg j v hj
      · cases hj
    · rw [List.getElem?_drop] at hj
      have := hg _ v hj
      rwa [h0, show o + (sz + j) = o + sz + j by omega] at this
theorem flat_of_elemsG {sz : Nat} {g : Nat → Option Value} : ∀ {es : List V} {o : Nat}, ElemsG B I es g sz o → ∃ l : List Value, RepL B I (es.flatMap cellsV) l ∧ l.length = es.length * sz ∧ ∀ (j : Nat) v, l[j]? = some v → g (o + j) = some v
  | [], o, _ => ⟨[], by simp [RepL], by simp, by simp⟩
  | e :: es, o, h => by
    rw [elemsG_cons] at h
    obtain ⟨h0, h1, h2⟩ := h
    obtain ⟨l, h3, h4⟩ := repL_of_cellsG h1
    obtain ⟨m, h5, h6, h7⟩ := flat_of_elemsG h2
    have hl := h3.length
    refine ⟨l ++ m, by rw [List.flatMap_cons]; exact h3.append h5, by rw [List.length_append, List.length_cons, Nat.add_mul]; omega, fun j v hj => ?_⟩
    by_cases hlt : j < l.length
    · rw [List.getElem?_append_left hlt] at hj; exact h4 j v hj
    · rw [List.getElem?_append_right (by omega)] at hj
      have := h7 _ v hj
      rwa [show o + sz + (j - l.length) = o + j by omega] at this
theorem repL_any : ∀ (l : List Value), RepL B I (List.replicate l.length V.any) l
  | [] => by simp [RepL]
  | v :: l => by simp only [List.length_cons, List.replicate_succ, RepL]; exact ⟨v, l, rfl, by simp [Rep], repL_any l⟩
theorem fillS {esz : Nat} (he : REnv B I env a.tmps) : ∀ (parts : List (Nat × Operand)) (xs : List SX) (j : Nat) (zc : Array Value) (pre : List V), chkPartsE a.tmps.size j parts xs = true →
    ((xs.map (evX env)).all (fun v => !v.isAny && (cellsV v).length == esz) = true) → pre.length = j * esz → RepL B I (pre ++ List.replicate (xs.length * esz) V.any) zc.toList →
    ∃ cells, Instr.fill (fun i => some (i * esz, esz)) zc (parts.map fun p => (p.1, a.eval p.2)) = some cells ∧ RepL B I (pre ++ (xs.map (evX env)).flatMap cellsV) cells.toList
  | [], [], j, zc, pre, _, _, _, hr => ⟨zc, by simp [Instr.fill], by simpa using hr⟩
  | (i, x) :: r, y :: s, j, zc, pre, hc, hall, hp, hr => by
    simp only [chkPartsE, Bool.and_eq_true, beq_iff_eq] at hc
    obtain ⟨⟨rfl, hx⟩, hc⟩ := hc
    simp only [List.map_cons, List.all_cons, Bool.and_eq_true, Bool.not_eq_true', beq_iff_eq] at hall
    obtain ⟨⟨h1, h2⟩, hall⟩ := hall
    have hv := cells_rep (chkX_rep hx he) h1
    have hl := hr.length
    have hvl := hv.length
    simp only [List.length_append, List.length_replicate, List.length_cons, Array.length_toList] at hl hvl
    rw [Nat.add_mul] at hl
    simp only [List.map_cons, Instr.fill]
    rw [if_neg (by simp; omega)]
    have hone := fill_one (off := i * esz) hr hv (by simp [Nat.add_mul]; omega)
    have hsp : splice (pre ++ List.replicate ((y :: s).length * esz) V.any) (i * esz) (cellsV (evX env y)) = (pre ++ cellsV (evX env y)) ++ List.replicate (s.length * esz) V.any := by
      unfold splice
      rw [← hp, List.take_left, List.append_assoc, List.append_assoc]
      congr 2
      rw [List.drop_append, List.drop_eq_nil_of_le (by omega), List.nil_append, List.drop_replicate]
      congr 1
      simp [Nat.add_mul]; omega
    rw [hsp] at hone
    obtain ⟨cells, h3, h4⟩ := fillS he r s (i + 1) _ _ hc (by simpa using hall) (by simp [Nat.add_mul]; omega) hone
    exact ⟨cells, h3, by simpa using h4⟩
  | [], _ :: _, _, _, _, h, _, _, _ => by simp [chkPartsE] at h
  | _ :: _, [], _, _, _, h, _, _, _ => by simp [chkPartsE] at h
theorem s_buildS {t : TypeId} {len : Nat} {parts : Array (Nat × Operand)} {esz : Nat} {xs : List SX} (ho : o.op = .buildSlice t len parts) (hc : chkOp P a.tmps.size (.buildSlice t len parts) o.type (.buildS esz xs) = true) (he : REnv B I env a.tmps) (hs : Sim f B I w H)
    (hk : exOp P (.buildS esz xs) env H K) : Out f B I K ((execOp a.eval o).run P w) := by
  simp only [chkOp] at hc
  split at hc
  · rename_i el hel
    simp only [Bool.and_eq_true, beq_iff_eq, decide_eq_true_eq] at hc
    obtain ⟨⟨⟨⟨⟨⟨hsz, hlen⟩, hbig⟩, hpos⟩, hps⟩, hz⟩, hlpos⟩ := hc
    have ht := elT_eq hel
    have hse := run_szOf (P := P) (w := w) hsz
    obtain ⟨z, hz⟩ := Option.isSome_iff_exists.1 hz
    have hzv := run_zero (P := P) (w := w) hz
    simp only [exOp] at hk
    obtain ⟨hall, hk⟩ := hk
    have hz0 : ((Array.range (len * esz)).map (z.cells[· % z.cells.size]!)).toList.length = xs.length * esz := by simp [hlen]
    obtain ⟨cells, hf, hr⟩ := fillS (B := B) (I := I) (esz := esz) he parts.toList xs 0 ((Array.range (len * esz)).map (z.cells[· % z.cells.size]!)) [] hps hall (by simp)
      (by rw [List.nil_append, ← hz0]; exact repL_any _)
    rw [List.nil_append] at hr
    have hne : ¬ len * esz = 0 := by have := Nat.mul_pos hlpos hpos; omega
    have hrun : (execOp a.eval o).run P w = .ok (.value (.slice (some ⟨w.heap.size, 0, none⟩) len len)) (w.alloc (.cells cells el)) := by
      simp only [execOp, ho, run_v, Instr.buildSlice, Sem.run_bind, run_underlying ht, Result.andThen_ok, hse]
      rw [if_neg (by omega)]
      simp only [Sem.run_bind, Sem.run_pure, Result.andThen_ok, if_neg hne, hzv]
      simp only [Array.toList_map]
      rw [hf]
      simp [newRow]
    have hcl : cells.size = xs.length * esz := by
      have h1 := hr.length
      have h2 : ((xs.map (evX env)).flatMap cellsV).length = xs.length * esz := by
        have key : ∀ l : List V, (l.all (fun v => !v.isAny && (cellsV v).length == esz) = true) → (l.flatMap cellsV).length = l.length * esz := by
          intro l
          induction l with
          | nil => simp
          | cons x l ih =>
            intro h
            simp only [List.all_cons, Bool.and_eq_true, beq_iff_eq] at h
            rw [List.flatMap_cons, List.length_append, ih h.2, h.1.2, List.length_cons, Nat.add_mul]; omega
        rw [key _ hall]; simp
      simp at h1; simp at h2; omega
    have hes : ∀ e ∈ xs.map (evX env), (cellsV e).length = esz := by
      intro e hm
      have := List.all_eq_true.1 hall e hm
      simp at this
      exact this.2
    refine ⟨_, _, _, _, _, _, .inl hrun, hk, hs.alloc cells el (xs.map (evX env)) esz (by simp [hcl]) (elemsG_of_flat hes hr (by simp)), BLe.append _ _, ILe.refl _, ?_⟩
    simp only [Rep]
    refine ⟨_, _, len, by rw [← hs.len, getElem?_append_one, if_pos rfl], by rw [hlen], fun _ => by simp, by omega, ?_, ?_⟩
    · have : len ≤ len * esz := Nat.le_mul_of_pos_right _ hpos
      simp [maxLen]; omega
    · simp [hcl, hlen]
  · cases hc
theorem s_buildF {t : TypeId} {len : Nat} {parts : Array (Nat × Operand)} {esz : Nat} {xs : List SX} (ho : o.op = .buildSlice t len parts) (hc : chkOp P a.tmps.size (.buildSlice t len parts) o.type (.buildF esz xs) = true) (he : REnv B I env a.tmps) (hs : Sim f B I w H)
    (hk : exOp P (.buildF esz xs) env H K) : Out f B I K ((execOp a.eval o).run P w) := by
  simp only [chkOp] at hc
  split at hc
  · rename_i el hel
    simp only [Bool.and_eq_true, beq_iff_eq, decide_eq_true_eq] at hc
    obtain ⟨⟨⟨⟨⟨⟨hsz, hlen⟩, hbig⟩, hpos⟩, hps⟩, hz⟩, hlpos⟩ := hc
    have ht := elT_eq hel
    have hse := run_szOf (P := P) (w := w) hsz
    obtain ⟨z, hz⟩ := Option.isSome_iff_exists.1 hz
    have hzv := run_zero (P := P) (w := w) hz
    simp only [exOp] at hk
    obtain ⟨hall, hk⟩ := hk
    have hz0 : ((Array.range (len * esz)).map (z.cells[· % z.cells.size]!)).toList.length = xs.length * esz := by simp [hlen]
    obtain ⟨cells, hf, hr⟩ := fillS (B := B) (I := I) (esz := esz) he parts.toList xs 0 ((Array.range (len * esz)).map (z.cells[· % z.cells.size]!)) [] hps hall (by simp)
      (by rw [List.nil_append, ← hz0]; exact repL_any _)
    rw [List.nil_append] at hr
    have hne : ¬ len * esz = 0 := by have := Nat.mul_pos hlpos hpos; omega
    have hrun : (execOp a.eval o).run P w = .ok (.value (.slice (some ⟨w.heap.size, 0, none⟩) len len)) (w.alloc (.cells cells el)) := by
      simp only [execOp, ho, run_v, Instr.buildSlice, Sem.run_bind, run_underlying ht, Result.andThen_ok, hse]
      rw [if_neg (by omega)]
      simp only [Sem.run_bind, Sem.run_pure, Result.andThen_ok, if_neg hne, hzv]
      simp only [Array.toList_map]
      rw [hf]
      simp [newRow]
    have hcl : cells.size = xs.length * esz := by
      have h1 := hr.length
      have h2 : ((xs.map (evX env)).flatMap cellsV).length = xs.length * esz := by
        have key : ∀ l : List V, (l.all (fun v => !v.isAny && (cellsV v).length == esz) = true) → (l.flatMap cellsV).length = l.length * esz := by
          intro l
          induction l with
          | nil => simp
          | cons x l ih =>
            intro h
            simp only [List.all_cons, Bool.and_eq_true, beq_iff_eq] at h
            rw [List.flatMap_cons, List.length_append, ih h.2, h.1.2, List.length_cons, Nat.add_mul]; omega
        rw [key _ hall]; simp
      simp at h1; simp at h2; omega
    have hes : ∀ e ∈ xs.map (evX env), (cellsV e).length = esz := by
      intro e hm
      have := List.all_eq_true.1 hall e hm
      simp at this
      exact this.2
    have hs2 := hs.alloc cells el (xs.map (evX env)) esz (by simp [hcl]) (elemsG_of_flat hes hr (by simp))
    have hbnd : len ≤ maxLen := by
      have : len ≤ len * esz := Nat.le_mul_of_pos_right _ hpos
      simp [maxLen]; omega
    have hI : ILe I (fun b => if b = w.heap.size then (w.alloc (.cells cells el)).heap[b]? else I b) := by
      intro b o hb
      have : b ≠ w.heap.size := by have := hs.ilt (b := b) (by rw [hb]; simp); omega
      simp only [if_neg this]; exact hb
    refine ⟨_, _, _, H, B, (fun b => if b = w.heap.size then (w.alloc (.cells cells el)).heap[b]? else I b), .inl hrun, hk, ?_, BLe.refl _, hI, ?_⟩
    · constructor
      · exact hs.len
      · intro b o hb
        try simp only at hb
        split at hb
        · exact hb
        · exact (hs.junk (.cells cells el)).imm b o hb
      · exact hs.ile.trans hI
      · intro b h1 h2
        try simp only at h2
        split at h2
        · rename_i e; subst e; exact .inl hs.size
        · exact hs.ifresh b h1 h2
      · exact (hs.junk (.cells cells el)).os
      · exact (hs.junk (.cells cells el)).tape
      · exact (hs.junk (.cells cells el)).output
      · exact (hs.junk (.cells cells el)).size
      · exact (hs.junk (.cells cells el)).keep
      · intro i p b h1 h2
        exact ((hs.junk (.cells cells el)).ok i p b h1 h2).mono (BLe.refl _) hI (fun _ => rfl)
      · exact hs.sep
      · intro i p b h1 h2 hl
        obtain ⟨h3, h4, h5⟩ := hs.own i p b h1 h2 hl
        refine ⟨?_, h4, by have := (hs.junk (.cells cells el)).own i p b h1 h2 hl; exact this.2.2⟩
        try simp only
        rw [if_neg (by omega)]; exact h3
    · simp only [Rep]
      refine ⟨_, len, by rw [List.length_map, hlen], by rw [List.length_map, hlen]; exact Nat.le_refl _, hbnd, .inr ⟨w.heap.size, 0, esz, rfl, ?_⟩⟩
      have he2 := elemsG_of_flat (B := B) (I := I) (g := fun o => cells[o]?) (o := 0) hes hr (by simp)
      have he3 := ElemsG.mono (BLe.refl B) hI he2
      refine elemsG_mono_g (fun o' v hv => ?_) he3
      unfold icell
      simp only [if_true]
      have : (w.alloc (.cells cells el)).heap[w.heap.size]? = some (.cells cells el (0, 0)) := by show (w.heap.push _)[w.heap.size]? = _; simp
      rw [this]; exact hv
  · cases hc
theorem s_mkemp {t : TypeId} {len : Nat} {parts : Array (Nat × Operand)} (ho : o.op = .buildSlice t len parts) (hc : chkOp P a.tmps.size (.buildSlice t len parts) o.type .mkemp = true) (hs : Sim f B I w H)
    (hk : exOp P .mkemp env H K) : Out f B I K ((execOp a.eval o).run P w) := by
  simp only [chkOp, Bool.and_eq_true, beq_iff_eq] at hc
  obtain ⟨⟨h1, rfl⟩, h3⟩ := hc
  split at h1
  · rename_i el hel
    obtain ⟨sz, hsz⟩ := Option.isSome_iff_exists.1 h1
    have ht := elT_eq hel
    have hse := run_szOf (P := P) (w := w) hsz
    have hp : parts.toList = [] := by simpa using h3
    have hrun : (execOp a.eval o).run P w = .ok (.value (.slice (some ⟨w.heap.size, 0, none⟩) 0 0)) (w.alloc (.cells #[] el)) := by
      simp only [execOp, ho, run_v, Instr.buildSlice, Sem.run_bind, run_underlying ht, Result.andThen_ok, hse]
      rw [if_neg (by omega)]
      have h0 : Array.map (fun x => (default : Value)) (Array.range 0) = #[] := by simp
      simp [hp, Instr.fill, newRow, h0]
    simp only [exOp] at hk
    refine ⟨_, _, _, _, _, _, .inl hrun, hk, hs.junk (.cells #[] el), BLe.refl _, ILe.refl _, ?_⟩
    simp only [Rep]
    exact ⟨_, rfl⟩
  · cases h1
theorem src_cells (hs : Sim f B I w H) {Y : V} {yv : Value} {src : List V} {esz : Nat} (hr : Rep B I Y yv) (hsrc : srcE H Y = some src) (hpos : 0 < esz) (hes : ∀ e ∈ src, (cellsV e).length = esz) :
    ∃ ad cap, yv = .slice ad src.length cap ∧ (src = [] ∨ ∃ b o' news, ad = some ⟨b, o', none⟩ ∧ RepL B I (src.flatMap cellsV) news ∧ news.length = src.length * esz ∧ (∀ (j : Nat) v, news[j]? = some v → w.cell? ⟨b, o' + j, none⟩ = some v) ∧
      (∀ p id, B[id]? = some p → (∃ es, H[id]? = some (.row es)) → (∀ i o l, Y = .ms i o l → i ≠ id) → b ≠ p.blk)) := by
  unfold srcE at hsrc
  split at hsrc
  · rename_i es
    cases hsrc
    simp only [Rep] at hr
    obtain ⟨ad, cap, hv, hl, hcap, hh⟩ := hr
    refine ⟨ad, cap, hv, ?_⟩
    rcases hh with h | ⟨b, o', sz, rfl, hel⟩
    · exact .inl h
    · by_cases he : src = []
      · exact .inl he
      · right
        have hsz : sz = esz := by
          cases src with
          | nil => exact absurd rfl he
          | cons x xs =>
            rw [elemsG_cons] at hel
            have := hes x (by simp)
            omega
        subst hsz
        obtain ⟨news, h1, h2, h3⟩ := flat_of_elemsG hel
        refine ⟨b, o', news, rfl, h1, h2, fun j v hj => ?_, ?_⟩
        · have := h3 j v hj
          unfold icell at this
          cases hI : I b with
          | none => rw [hI] at this; cases this
          | some ob =>
            rw [hI] at this
            cases ob with
            | cells cc tt fr => rw [cell_of_heap (hs.imm b _ hI)]; exact this
            | _ => cases this
        · intro p id hp hH _ hb
          obtain ⟨es, hH⟩ := hH
          have hlen : 0 < news.length := by
            rw [h2]; exact Nat.mul_pos (List.length_pos_iff.2 he) hpos
          have := h3 0 _ (List.getElem?_eq_getElem hlen)
          have hn := (hs.own id p _ hp hH rfl).1
          unfold icell at this
          rw [hb, hn] at this
          cases this
  · cases hsrc
    simp only [Rep] at hr
    exact ⟨none, 0, hr, .inl rfl⟩
  · cases hsrc
    simp only [Rep] at hr
    obtain ⟨ad, hr⟩ := hr
    exact ⟨ad, 0, hr, .inl rfl⟩
  · rename_i id off len
    simp only [Rep] at hr
    obtain ⟨p, ad, cap, hp, hv, hadr, hl, hcap, hroom⟩ := hr
    split at hsrc
    · rename_i es hH
      split at hsrc
      · rename_i hol
        cases hsrc
        have hlen : ((es.drop off).take len).length = len := by rw [List.length_take, List.length_drop]; omega
        refine ⟨ad, cap, by rw [hlen]; exact hv, ?_⟩
        by_cases he : (es.drop off).take len = []
        · exact .inl he
        · right
          have hlp : 0 < len := by rw [← hlen]; exact List.length_pos_iff.2 he
          have had := hadr (by omega)
          subst had
          obtain ⟨carr, t, h1, h2, h3, h4⟩ := hs.ok id p _ hp hH
          have hpe : p.esz = esz := by
            rw [elemsG_iff] at h4
            obtain ⟨h5, _⟩ := h4 off (es.getD off .any) (by simp; rw [List.getElem?_eq_getElem (by omega)]; simp)
            have := hes (es.getD off .any) (by
              have : ((es.drop off).take len)[0]? = some (es.getD off .any) := by
                rw [List.getElem?_take, if_pos hlp, List.getElem?_drop]; simp; rw [List.getElem?_eq_getElem (by omega)]; simp
              exact List.mem_of_getElem? this)
            omega
          have hsub : ElemsG B I ((es.drop off).take len) (fun o => carr[o]?) p.esz (p.base + off * p.esz) := by
            rw [elemsG_iff] at h4 ⊢
            intro i x hi
            rw [List.getElem?_take] at hi
            split at hi
            · rw [List.getElem?_drop] at hi
              obtain ⟨h5, h6⟩ := h4 _ x hi
              refine ⟨h5, fun j c hj => ?_⟩
              obtain ⟨v, h7, h8⟩ := h6 j c hj
              exact ⟨v, by rw [← h7]; congr 1; rw [Nat.add_mul]; omega, h8⟩
            · cases hi
          obtain ⟨news, h5, h6, h7⟩ := flat_of_elemsG hsub
          refine ⟨p.blk, _, news, rfl, h5, by rw [h6, hpe], fun j v hj => by rw [cell_of_heap h1]; exact h7 j v hj, ?_⟩
          intro q id' hq hH' hne hb
          obtain ⟨es', hH'⟩ := hH'
          exact hne id off len rfl (hs.sep id id' p q _ _ hp hq hH hH' rfl rfl hb)
      · cases hsrc
    · cases hsrc
  · cases hsrc
end
section
variable {P : Program} {f : Fr} {B : List Pl} {I : IM} {w : World} {H : List Blk} {K : V → List Blk → Prop} {a : Act} {env : Nat → V} {o : Oper}
theorem flat_length {esz : Nat} : ∀ {l : List V}, (∀ e ∈ l, (cellsV e).length = esz) → (l.flatMap cellsV).length = l.length * esz
  | [], _ => by simp
  | x :: l, h => by
    rw [List.flatMap_cons, List.length_append, flat_length (fun e he => h e (by simp [he])), h x (by simp), List.length_cons, Nat.add_mul]; omega
theorem Sim.grown {es : List V} {carr : Array Value} {l : List Value} {esz : Nat} (hs : Sim f B I w H) (t : TypeId) (hes : ∀ e ∈ es, (cellsV e).length = esz) (hr : RepL B I (es.flatMap cellsV) l)
    (hc : ∀ (j : Nat) v, l[j]? = some v → carr[j]? = some v) (hsz : es.length * esz ≤ carr.size) :
    Sim f (B ++ [⟨w.heap.size, 0, carr.size, esz⟩]) I (w.drew.alloc (.cells carr t)) (H ++ [.row es]) := by
  have := hs.drew.alloc carr t es esz hsz (elemsG_of_flat hes hr (by simpa using hc))
  simpa using this
theorem Sim.shift {id off : Nat} {p : Pl} {es : List V} (hs : Sim f B I w H) (hp : B[id]? = some p) (hH : H[id]? = some (.row es)) (ho : off ≤ es.length) :
    Sim f (B ++ [⟨p.blk, p.base + off * p.esz, p.size, p.esz⟩]) I w (H.set id .dead ++ [.row (es.drop off)]) := by
  refine (hs.kill id).push _ _ ?_ ?_ ?_
  · obtain ⟨carr, t, h1, h2, h3, h4⟩ := hs.ok id p _ hp hH
    refine ⟨carr, t, h1, h2, ?_, ?_⟩
    · have : off * p.esz + (es.drop off).length * p.esz = es.length * p.esz := by rw [← Nat.add_mul, List.length_drop]; congr 1; omega
      simp only; omega
    · rw [elemsG_iff] at h4 ⊢
      intro i x hi
      rw [List.getElem?_drop] at hi
      obtain ⟨h5, h6⟩ := h4 _ x hi
      refine ⟨h5, fun j c hj => ?_⟩
      obtain ⟨v, h7, h8⟩ := h6 j c hj
      exact ⟨v, by rw [← h7]; congr 1; rw [Nat.add_mul]; simp only; omega, h8⟩
  · intro i q c h1 h2 hl
    rw [lset_get] at h2
    split at h2
    · split at h2 <;> cases h2; cases hl
    · rename_i hne
      intro hb
      exact hne (hs.sep id i p q _ _ hp h1 hH h2 rfl hl hb.symm)
  · exact hs.own id p _ hp hH rfl
theorem run_append_at (t ty e : TypeId) (i : TypeInfo) (ht : P.underlying t = some (.slice e)) (hi : P.info? e = some i)
    (g o sLen sCap : Nat) (cur : Array Value) (tt : TypeId) (hg : w.heap[g]? = some (.cells cur tt (0, 0)))
    (x : Value) (m : Nat) (hm : (Builtin.lenOf x).run P w = .ok m w) (news : List Value) (hfc : (Builtin.firstCells i.size m x).run P w = .ok news.toArray w) (h1 : ∀ u ∈ news, u.oneCell' = true)
    (hroom : sLen + m ≤ sCap) (hfit : o + sLen * i.size + news.length ≤ cur.size) :
    (Builtin.append_ #[t, t] ty #[.slice (some ⟨g, o, none⟩) sLen sCap, x]).run P w =
      .ok (.slice (some ⟨g, o, none⟩) (sLen + m) sCap) (w.setRow g (cur.toList.take (o + sLen * i.size) ++ news ++ cur.toList.drop (o + sLen * i.size + news.length)).toArray) := by
  have hst := run_storeCells_at (P := P) g (o + sLen * i.size) tt news 0 cur w hg (by omega) h1
  simp only [Nat.add_zero] at hst
  simp [Builtin.append_, run_underlying ht, sizeOf, typeInfo, hi, hm, hroom, hfc, addr_add, hst, -List.append_assoc]
theorem repL_one {cs : List V} {l : List Value} (h : RepL B I cs l) (h1 : cs.all V.one = true) : ∀ u ∈ l, u.oneCell' = true := by
  intro u hu
  obtain ⟨j, hj⟩ := List.getElem?_of_mem hu
  have hjl := (List.getElem?_eq_some_iff.1 hj).1
  have := h.length
  have hc' : cs[j]? = some (cs[j]'(by omega)) := List.getElem?_eq_getElem _
  obtain ⟨v', h2, h3⟩ := h.get hc'
  rw [hj] at h2; cases h2
  exact one_rep h3 (List.all_eq_true.1 h1 _ (List.getElem_mem _))
theorem zeroVal_info {t : TypeId} {z : Value} (h : zeroOf P t = some z) : ∃ i, P.info? t = some i ∧ i.zero = some z := by
  unfold zeroOf at h
  cases hi : P.info? t with
  | none => rw [hi] at h; cases h
  | some i => rw [hi] at h; exact ⟨i, rfl, h⟩
theorem s_append {c : Call} {esz bytes : Nat} {x' y' : SX} (ho : o.op = .call c) (hc : chkOp P a.tmps.size (.call c) o.type (.append esz bytes x' y') = true) (he : REnv B I env a.tmps) (hs : Sim f B I w H)
    (hk : exOp P (.append esz bytes x' y') env H K) : Out f B I K ((execOp a.eval o).run P w) := by
  simp only [chkOp] at hc
  split at hc
  · rename_i x y t u hcal hargs htys
    split at hc
    · rename_i el hel
      simp only [Bool.and_eq_true, beq_iff_eq, decide_eq_true_eq] at hc
      obtain ⟨⟨⟨⟨⟨⟨⟨rfl, hsz⟩, hpos⟩, hby⟩, hbpos⟩, hz⟩, hx⟩, hy⟩ := hc
      have ht := elT_eq hel
      obtain ⟨z, hz, hzsz⟩ : ∃ z, zeroOf P el = some z ∧ z.cells.size = esz := by
        split at hz
        · rename_i z hq; exact ⟨z, hq, by simpa using hz⟩
        · cases hz
      obtain ⟨inf, hi, hiz⟩ := zeroVal_info hz
      have hisz : inf.size = esz := by unfold szOf at hsz; rw [hi] at hsz; simpa using hsz
      have hiby : inf.bytes = bytes := by rw [hi] at hby; simpa using hby
      have ha : c.args = #[x, y] := by apply Array.toList_inj.1; simpa using hargs
      have hT : c.argTypes = #[t, t] := by apply Array.toList_inj.1; simpa using htys
      have hrx := chkX_rep hx he
      have hry := chkX_rep hy he
      have hrun : ∀ r w', (Builtin.append_ #[t, t] o.type #[a.eval x, a.eval y]).run P w = .ok r w' → (execOp a.eval o).run P w = .ok (.value r) w' := by
        intro r w' h
        simp [execOp, ho, resolve, hcal, ha, hT, invoke, builtin, h]
      simp only [exOp] at hk
      split at hk
      · exact hk.elim
      · rename_i src hsrc
        obtain ⟨hall, hk⟩ := hk
        unfold appK at hk
        have hes : ∀ e ∈ src, (cellsV e).length = esz := by
          intro e hm
          have := List.all_eq_true.1 hall e hm
          simp at this
          exact this.1.1
        have hones : (src.flatMap cellsV).all V.one = true := by
          rw [List.all_eq_true]
          intro v hv
          obtain ⟨e, hm, hv⟩ := List.mem_flatMap.1 hv
          have := List.all_eq_true.1 hall e hm
          simp only [Bool.and_eq_true] at this
          exact List.all_eq_true.1 this.2 v hv
        obtain ⟨yad, ycap, hyv, hyc⟩ := src_cells hs hry hsrc hpos hes
        have hlenOf : (Builtin.lenOf (a.eval y)).run P w = .ok src.length w := by rw [hyv]; simp [Builtin.lenOf]
        have hfl := flat_length hes
        have hfc : ∃ news : List Value, RepL B I (src.flatMap cellsV) news ∧ (Builtin.firstCells inf.size src.length (a.eval y)).run P w = .ok news.toArray w := by
          rcases hyc with h0 | ⟨b, o', news, hb, h1, h2, h3, _⟩
          · subst h0
            refine ⟨[], by simp [RepL], ?_⟩
            rw [hyv]
            cases yad with
            | none => simp [Builtin.firstCells]
            | some q => simp [Builtin.firstCells, loadCells, loadCellsFrom]
          · refine ⟨news, h1, ?_⟩
            rw [hyv, hb]
            exact run_firstCells_some w _ _ _ _ _ news (by rw [h2, hisz]) (fun j v hj => by rw [addr_add]; exact h3 j v hj)
        obtain ⟨news, hnr, hnews⟩ := hfc
        have hnl : news.length = src.length * esz := by rw [← hnr.length, hfl]
        split at hk
        · rename_i e
          rw [e] at hrx
          simp only [Rep] at hrx
          obtain ⟨xad, hrx⟩ := hrx
          by_cases h0 : src = []
          · refine Out.quiet (v := .slice xad 0 0) (hrun _ _ ?_) (hk.1 h0) hs (by simp [Rep])
            have h1 : (Builtin.lenOf (a.eval y)).run P w = .ok 0 w := by simpa [h0] using hlenOf
            have h2 : (Builtin.firstCells inf.size 0 (a.eval y)).run P w = .ok news.toArray w := by simpa [h0] using hnews
            rw [hrx]
            have hn0 : news = [] := List.eq_nil_of_length_eq_zero (by rw [hnl, h0]; simp)
            cases xad <;> simp [Builtin.append_, run_underlying ht, sizeOf, typeInfo, hi, h1, h2, hn0, storeCells]
          · obtain ⟨hbig, hk⟩ := hk.2 h0
            rcases hyc with h1 | ⟨b, o', news', hb, h1, h2, h3, _⟩
            · exact absurd h1 h0
            · have hp0 : 0 < src.length := List.length_pos_iff.2 h0
              have hn1 : src.length ≤ src.length * bytes := Nat.le_mul_of_pos_right _ hbpos
              have happ0 := run_append_nil (P := P) w t o.type el inf z ht hi hiz ⟨b, o', none⟩ src.length ycap news' (by rw [h2, hisz]) (fun j v hj => by rw [addr_add]; exact h3 j v hj) hp0 (by omega) (by rw [hiby]; omega)
              have happ : (Builtin.append_ #[t, t] o.type #[.slice xad 0 0, .slice (some ⟨b, o', none⟩) src.length ycap]).run P w =
                  .ok (.slice (some ⟨w.heap.size, 0, none⟩) src.length (grownCap w src.length 0 el)) (w.drew.alloc (.cells (news'.toArray ++ Builtin.zeroCells z.cells (grownCap w src.length 0 el - src.length)) el)) := by
                cases xad with
                | none => exact happ0
                | some bb =>
                  have := run_append_grow (P := P) w t o.type el inf z ht hi hiz bb 0 0 [] (by simp) (by simp) ⟨b, o', none⟩ src.length ycap news' (by rw [h2, hisz]) (fun j v hj => by rw [addr_add]; exact h3 j v hj) (by omega) (by omega)
                    (by rw [hiby, Nat.zero_add, nextslicecap_zero hp0]; omega)
                  simpa using this
              have hcap := grownCap_ge w src.length 0 el
              have hcap2 := grownCap_le_maxLen w src.length 0 el (by simp [maxLen]; omega)
              generalize grownCap w src.length 0 el = cap at *
              have hcs : (news'.toArray ++ Builtin.zeroCells z.cells (cap - src.length)).size = cap * esz := by
                rw [Array.size_append, size_zeroCells, hzsz, List.size_toArray, h2, ← Nat.add_mul]; congr 1; omega
              refine ⟨_, _, _, _, _, _, .inl (hrun _ _ (by rw [hrx, hyv, hb]; exact happ)), hk, hs.grown (es := src) (l := news') (esz := esz) el hes h1 (fun j v hj => ?_) ?_, BLe.append _ _, ILe.refl _, ?_⟩
              · have hjl := (List.getElem?_eq_some_iff.1 hj).1
                rw [Array.getElem?_append_left (by simpa using hjl)]; simpa using hj
              · rw [hcs]; exact Nat.mul_le_mul_right _ hcap
              · simp only [Rep]
                refine ⟨_, _, cap, by rw [← hs.len, getElem?_append_one, if_pos rfl], rfl, fun _ => by simp, hcap, hcap2, ?_⟩
                simp only [hcs]; simp
        · rename_i e
          rw [e] at hrx
          simp only [Rep] at hrx
          by_cases h0 : src = []
          · refine Out.quiet (v := .slice none 0 0) (hrun _ _ ?_) (hk.1 h0) hs (by simp [Rep])
            have h1 : (Builtin.lenOf (a.eval y)).run P w = .ok 0 w := by simpa [h0] using hlenOf
            have h2 : (Builtin.firstCells inf.size 0 (a.eval y)).run P w = .ok news.toArray w := by simpa [h0] using hnews
            rw [hrx]
            simp [Builtin.append_, run_underlying ht, sizeOf, typeInfo, hi, h1, h2]
          · obtain ⟨hbig, hk⟩ := hk.2 h0
            rcases hyc with h1 | ⟨b, o', news', hb, h1, h2, h3, _⟩
            · exact absurd h1 h0
            · have hp0 : 0 < src.length := List.length_pos_iff.2 h0
              have hn1 : src.length ≤ src.length * bytes := Nat.le_mul_of_pos_right _ hbpos
              have happ := run_append_nil (P := P) w t o.type el inf z ht hi hiz ⟨b, o', none⟩ src.length ycap news' (by rw [h2, hisz]) (fun j v hj => by rw [addr_add]; exact h3 j v hj) hp0 (by omega) (by rw [hiby]; omega)
              have hcap := grownCap_ge w src.length 0 el
              have hcap2 := grownCap_le_maxLen w src.length 0 el (by simp [maxLen]; omega)
              generalize grownCap w src.length 0 el = cap at *
              have hcs : (news'.toArray ++ Builtin.zeroCells z.cells (cap - src.length)).size = cap * esz := by
                rw [Array.size_append, size_zeroCells, hzsz, List.size_toArray, h2, ← Nat.add_mul]; congr 1; omega
              refine ⟨_, _, _, _, _, _, .inl (hrun _ _ (by rw [hrx, hyv, hb]; exact happ)), hk, hs.grown (es := src) (l := news') (esz := esz) el hes h1 (fun j v hj => ?_) ?_, BLe.append _ _, ILe.refl _, ?_⟩
              · have hjl := (List.getElem?_eq_some_iff.1 hj).1
                rw [Array.getElem?_append_left (by simpa using hjl)]; simpa using hj
              · rw [hcs]; exact Nat.mul_le_mul_right _ hcap
              · simp only [Rep]
                refine ⟨_, _, cap, by rw [← hs.len, getElem?_append_one, if_pos rfl], rfl, fun _ => by simp, hcap, hcap2, ?_⟩
                simp only [hcs]; simp
        · rename_i id off len e
          have hX := hrx
          rw [e] at hrx
          simp only [Rep] at hrx
          obtain ⟨p, ad, cap, hp, hv, hadr, hlc, hcap, hroom⟩ := hrx
          split at hk
          · rename_i es hH
            obtain ⟨⟨hol, hes0, hhead, hne, hbig⟩, hk⟩ := hk
            obtain ⟨carr, tt, hh, hcsz, hcf, hce⟩ := hs.ok id p _ hp hH
            have hpe : p.esz = esz := by
              cases es with
              | nil => exact absurd rfl hes0
              | cons q qs =>
                rw [elemsG_cons] at hce
                have := hhead q rfl
                omega
            have hesall : ∀ e ∈ es, (cellsV e).length = esz := by
              intro q hq
              obtain ⟨j, hj⟩ := List.getElem?_of_mem hq
              rw [elemsG_iff] at hce
              have := (hce j q hj).1
              omega
            have hn1 : len + src.length ≤ (len + src.length) * bytes := Nat.le_mul_of_pos_right _ hbpos
            by_cases hfit : len + src.length ≤ cap
            · by_cases hc0 : cap = 0
              · have hl0 : len = 0 := by omega
                have hs0 : src = [] := List.eq_nil_of_length_eq_zero (by omega)
                have h1 : (Builtin.lenOf (a.eval y)).run P w = .ok 0 w := by simpa [hs0] using hlenOf
                have h2 : (Builtin.firstCells inf.size 0 (a.eval y)).run P w = .ok news.toArray w := by simpa [hs0] using hnews
                have hn0 : news = [] := List.eq_nil_of_length_eq_zero (by rw [hnl, hs0]; simp)
                have happ : (Builtin.append_ #[t, t] o.type #[a.eval x, a.eval y]).run P w = .ok (.slice ad 0 0) w := by
                  rw [hv, hl0, hc0]
                  cases ad <;> simp [Builtin.append_, run_underlying ht, sizeOf, typeInfo, hi, h1, h2, hn0, storeCells]
                have hsim0 := hs.shift (off := off) hp hH (by omega)
                rw [hs0, List.append_nil] at hk
                refine ⟨_, _, _, _, _, _, .inl (hrun _ _ happ), hk, hsim0, BLe.append _ _, ILe.refl _, ?_⟩
                simp only [Rep]
                refine ⟨_, _, 0, by have := hs.len; rw [show H.length = B.length from this.symm, getElem?_append_one, if_pos rfl], by rw [hl0]; rfl, fun h => by omega, by rw [hl0]; simp, by simp, ?_⟩
                simp only; have := Nat.mul_le_mul_right p.esz (show off ≤ off + cap by omega); omega
              · have had := hadr (by omega)
                subst had
                have hm1 : (off + len + src.length) * esz ≤ (off + cap) * esz := Nat.mul_le_mul_right _ (by omega)
                rw [hpe] at hroom hcf
                have e1 : (off + len + src.length) * esz = off * esz + len * esz + src.length * esz := by rw [Nat.add_mul, Nat.add_mul]
                have e2 : es.length * esz = off * esz + len * esz := by rw [← hol, Nat.add_mul]
                have happ := run_append_at (P := P) (w := w) t o.type el inf ht hi p.blk (p.base + off * esz) len cap carr tt hh (a.eval y) src.length hlenOf news hnews (repL_one hnr hones) hfit (by rw [hisz]; omega)
                rw [hisz] at happ
                have hfit2 : p.base + off * esz + len * esz + news.length ≤ carr.toList.length := by simp; omega
                have hget : ∀ q, ((carr.toList.take (p.base + off * esz + len * esz) ++ news ++ carr.toList.drop (p.base + off * esz + len * esz + news.length)).toArray)[q]? = if q < p.base + off * esz + len * esz then carr[q]? else if q < p.base + off * esz + len * esz + news.length then news[q - (p.base + off * esz + len * esz)]? else carr[q]? := by
                  intro q
                  rw [List.getElem?_toArray, get_splice _ _ _ _ hfit2]; simp
                have hsim := hs.rewrite (es' := es ++ src) hp hH hh (carr' := (carr.toList.take (p.base + off * esz + len * esz) ++ news ++ carr.toList.drop (p.base + off * esz + len * esz + news.length)).toArray)
                  (by rw [List.size_toArray, length_splice _ _ _ hfit2]; simp) (by rw [hpe, List.length_append, Nat.add_mul]; omega) (by
                    rw [hpe]
                    rw [hpe] at hce
                    have g1 : ElemsG B I es (fun o => ((carr.toList.take (p.base + off * esz + len * esz) ++ news ++ carr.toList.drop (p.base + off * esz + len * esz + news.length)).toArray)[o]?) esz p.base := by
                      rw [elemsG_iff] at hce ⊢
                      intro i q hi'
                      obtain ⟨h5, h6⟩ := hce i q hi'
                      refine ⟨h5, fun j c hj => ?_⟩
                      have hjl := (List.getElem?_eq_some_iff.1 hj).1
                      have hil := (List.getElem?_eq_some_iff.1 hi').1
                      have : i * esz + esz ≤ es.length * esz := by rw [← Nat.succ_mul]; exact Nat.mul_le_mul_right _ hil
                      rw [hget, if_pos (by omega)]; exact h6 j c hj
                    have g2 : ElemsG B I src (fun o => ((carr.toList.take (p.base + off * esz + len * esz) ++ news ++ carr.toList.drop (p.base + off * esz + len * esz + news.length)).toArray)[o]?) esz (p.base + es.length * esz) := by
                      refine elemsG_of_flat hes hnr (fun j v hj => ?_)
                      have hjl := (List.getElem?_eq_some_iff.1 hj).1
                      rw [hget, if_neg (by omega), if_pos (by omega), ← hj]; congr 1; omega
                    rw [elemsG_iff] at g1 g2 ⊢
                    intro i q hi'
                    by_cases hlt : i < es.length
                    · rw [List.getElem?_append_left hlt] at hi'; exact g1 i q hi'
                    · rw [List.getElem?_append_right (by omega)] at hi'
                      obtain ⟨h5, h6⟩ := g2 _ q hi'
                      refine ⟨h5, fun j c hj => ?_⟩
                      obtain ⟨v', h7, h8⟩ := h6 j c hj
                      refine ⟨v', ?_, h8⟩
                      rw [← h7]; congr 1
                      have : i * esz = es.length * esz + (i - es.length) * esz := by rw [← Nat.add_mul]; congr 1; omega
                      omega)
                have hH' : (H.set id (.row (es ++ src)))[id]? = some (.row (es ++ src)) := by
                  rw [lset_get, if_pos rfl, if_pos (List.getElem?_eq_some_iff.1 hH).1]
                have hsim2 := hsim.shift (off := off) hp hH' (by rw [List.length_append]; omega)
                rw [List.set_set, List.drop_append_of_le_length (by omega)] at hsim2
                refine ⟨_, _, _, _, _, _, .inl (hrun _ _ (by rw [hv, hpe]; exact happ)), hk, hsim2, BLe.append _ _, ILe.refl _, ?_⟩
                simp only [Rep]
                refine ⟨_, _, cap, by have := hs.len; rw [show H.length = B.length from this.symm, getElem?_append_one, if_pos rfl], rfl, fun _ => by simp [hpe], hfit, hcap, ?_⟩
                simp only [hpe, Nat.zero_add]; rw [Nat.add_mul] at hroom; omega
            · obtain ⟨xad, xcap, hxv, hxc⟩ := src_cells (src := es.drop off) hs hX (by rw [e]; simp only [srcE, hH]; rw [if_pos (by omega), List.take_of_length_le (by rw [List.length_drop]; omega)]) hpos (fun q hq => hesall q (List.mem_of_mem_drop hq))
              rw [hv] at hxv
              have hdl : (es.drop off).length = len := by rw [List.length_drop]; omega
              rw [hdl] at hxv
              cases hxv
              have hdes : ∀ q ∈ es.drop off, (cellsV q).length = esz := fun q hq => hesall q (List.mem_of_mem_drop hq)
              rcases hyc with h1 | ⟨b, o', news', hb, h1, h2, h3, _⟩
              · rw [h1] at hfit; simp at hfit; omega
              · have hpl : 0 < src.length := by omega
                have hall2 : ∀ q ∈ es.drop off ++ src, (cellsV q).length = esz := by
                  intro q hq
                  rcases List.mem_append.1 hq with hq | hq
                  · exact hdes q hq
                  · exact hes q hq
                obtain ⟨olds, ho1, ho2, ho3⟩ : ∃ olds : List Value, RepL B I ((es.drop off).flatMap cellsV) olds ∧ olds.length = len * esz ∧ ∀ b, ad = some b → ∀ (j : Nat) v, olds[j]? = some v → w.cell? (b.add j) = some v := by
                  rcases hxc with h4 | ⟨b', o2, nx, hb', h5, h6, h7, _⟩
                  · rw [h4] at hdl ⊢
                    simp at hdl
                    subst hdl
                    exact ⟨[], by simp [RepL], by simp, by simp⟩
                  · refine ⟨nx, h5, by rw [h6, hdl], fun b hbb j v hj => ?_⟩
                    rw [hb'] at hbb; cases hbb
                    rw [addr_add]; exact h7 j v hj
                have hcapge := grownCap_ge w (len + src.length) cap el
                have hcapmax := grownCap_le_maxLen w (len + src.length) cap el (by simp [maxLen]; omega)
                have hdl2 : (es.drop off ++ src).length = len + src.length := by rw [List.length_append, hdl]
                have hrl : RepL B I ((es.drop off ++ src).flatMap cellsV) (olds ++ news') := by rw [List.flatMap_append]; exact ho1.append h1
                have hcs : ∀ gc, len + src.length ≤ gc → (olds.toArray ++ news'.toArray ++ Builtin.zeroCells z.cells (gc - (len + src.length))).size = gc * esz := by
                  intro gc hgc
                  rw [Array.size_append, Array.size_append, size_zeroCells, hzsz, List.size_toArray, List.size_toArray, h2, ho2, ← Nat.add_mul, ← Nat.add_mul]; congr 1; omega
                obtain ⟨gc, carr', happ, hgc1, hgc2, hgc3, hgc4⟩ : ∃ gc carr', (Builtin.append_ #[t, t] o.type #[a.eval x, a.eval y]).run P w = .ok (.slice (some ⟨w.heap.size, 0, none⟩) (len + src.length) gc) (w.drew.alloc (.cells carr' el)) ∧
                    len + src.length ≤ gc ∧ gc ≤ maxLen ∧ carr'.size = gc * esz ∧ (∀ (j : Nat) v, (olds ++ news')[j]? = some v → carr'[j]? = some v) := by
                  rw [hv, hyv, hb]
                  cases ad with
                  | none =>
                    have hc0 : cap = 0 := by
                      by_cases h0 : 0 < cap
                      · have := hadr h0; cases this
                      · omega
                    have hl0 : len = 0 := by omega
                    subst hc0 hl0
                    have hon : olds = [] := List.eq_nil_of_length_eq_zero (by rw [ho2]; simp)
                    subst hon
                    have happ := run_append_nil (P := P) w t o.type el inf z ht hi hiz ⟨b, o', none⟩ src.length ycap news' (by rw [h2, hisz]) (fun j v hj => by rw [addr_add]; exact h3 j v hj) hpl (by omega) (by rw [hiby]; simp at hbig; omega)
                    refine ⟨_, _, by rw [Nat.zero_add]; exact happ, by simpa using hcapge, by simpa using hcapmax, ?_, fun j v hj => ?_⟩
                    · have := hcs (grownCap w src.length 0 el) (by simpa using hcapge)
                      simpa using this
                    · have hjl := (List.getElem?_eq_some_iff.1 hj).1
                      rw [Array.getElem?_append_left (by simpa using hjl)]; simpa using hj
                  | some bb =>
                    have happ := run_append_grow (P := P) w t o.type el inf z ht hi hiz bb len cap olds (by rw [ho2, hisz]) (ho3 bb rfl) ⟨b, o', none⟩ src.length ycap news' (by rw [h2, hisz]) (fun j v hj => by rw [addr_add]; exact h3 j v hj) (by omega) (by omega)
                      (by rw [hiby]; exact growslice_fits (by omega) hbig)
                    refine ⟨_, _, happ, hcapge, hcapmax, hcs _ hcapge, fun j v hj => ?_⟩
                    have hjl := (List.getElem?_eq_some_iff.1 hj).1
                    rw [Array.getElem?_append_left (by simpa using hjl)]; simpa using hj
                have hsim := (hs.kill id).grown (es := es.drop off ++ src) (l := olds ++ news') (esz := esz) (carr := carr') el hall2 hrl hgc4 (by rw [hgc3, hdl2]; exact Nat.mul_le_mul_right _ hgc1)
                refine ⟨_, _, _, _, _, _, .inl (hrun _ _ happ), hk, hsim, BLe.append _ _, ILe.refl _, ?_⟩
                simp only [Rep]
                refine ⟨_, _, gc, by have := hs.len; rw [show H.length = B.length from this.symm, getElem?_append_one, if_pos rfl], rfl, fun _ => by simp, hgc1, hgc2, ?_⟩
                simp only [hgc3]; simp
          · exact hk.elim
        · exact hk.elim
    · cases hc
  · cases hc
end
def SX.tm : SX → List Nat
  | .tmp t => [t]
  | .val _ => []
def oTm : Option SX → List Nat
  | none => []
  | some x => x.tm
def SOp.tmps : SOp → List Nat
  | .mov x | .box x | .nilc x | .un _ x | .conv _ x | .convs x | .faddr _ x | .field _ _ _ x | .extract x _ | .len _ x | .load _ _ x => x.tm
  | .pick c a b => c.tm ++ a.tm ++ b.tm
  | .alloc _ => []
  | .frz t => [t]
  | .mkemp => []
  | .jalloc => []
  | .snil _ x => x.tm
  | .buildF _ xs => xs.flatMap SX.tm
  | .build _ ps => ps.flatMap fun p => p.2.2.tm
  | .buildS _ xs => xs.flatMap SX.tm
  | .store _ a x => a.tm ++ x.tm
  | .bin _ x y | .beq _ x y | .iaddr _ x y | .sidx x y | .append _ _ x y => x.tm ++ y.tm
  | .mkfn _ a b => a.flatMap SX.tm ++ b.flatMap SX.tm
  | .slice _ x lo hi | .strsl x lo hi => x.tm ++ oTm lo ++ oTm hi
  | .call f as => f.tm ++ as.flatMap SX.tm
abbrev Env := Nat → V
theorem evX_congr {e e' : Env} {x : SX} (h : ∀ t ∈ x.tm, e t = e' t) : evX e x = evX e' x := by
  cases x with
  | tmp t => exact h t (by simp [SX.tm])
  | val v => rfl
theorem evXs_congr {e e' : Env} {xs : List SX} (h : ∀ t ∈ xs.flatMap SX.tm, e t = e' t) : xs.map (evX e) = xs.map (evX e') := by
  apply List.map_congr_left
  intro x hx
  exact evX_congr fun t ht => h t (List.mem_flatMap.2 ⟨x, hx, ht⟩)
theorem ixO_congr {e e' : Env} {d : Int} {x : Option SX} (h : ∀ t ∈ oTm x, e t = e' t) : ixO e d x = ixO e' d x := by
  cases x with
  | none => rfl
  | some x => simp only [ixO, evX_congr (x := x) h]
theorem exOp_congr {P : Program} {o : SOp} {e e' : Env} {H : List Blk} {K : V → List Blk → Prop} (h : ∀ t ∈ o.tmps, e t = e' t) (hx : exOp P o e H K) : exOp P o e' H K := by
  cases o with
  | mov x | box x | nilc x | un op x | conv k x | convs x | faddr off x | field g off n x | extract x i | len s x | load g n x =>
    simp only [exOp, evX_congr (x := x) h] at hx ⊢; exact hx
  | pick c a b =>
    simp only [SOp.tmps, List.mem_append] at h
    simp only [exOp, evX_congr (x := c) (fun t ht => h t (.inl (.inl ht))), evX_congr (x := a) (fun t ht => h t (.inl (.inr ht))), evX_congr (x := b) (fun t ht => h t (.inr ht))] at hx ⊢; exact hx
  | alloc z => exact hx
  | build z ps =>
    have : (ps.map fun p => (p.1, p.2.1, evX e p.2.2)) = ps.map fun p => (p.1, p.2.1, evX e' p.2.2) := by
      apply List.map_congr_left
      intro p hp
      rw [evX_congr fun t ht => h t (List.mem_flatMap.2 ⟨p, hp, ht⟩)]
    simp only [exOp, this] at hx ⊢; exact hx
  | buildS esz xs => simp only [exOp, evXs_congr (xs := xs) h] at hx ⊢; exact hx
  | store n a x =>
    simp only [SOp.tmps, List.mem_append] at h
    simp only [exOp, evX_congr (x := a) (fun t ht => h t (.inl ht)), evX_congr (x := x) (fun t ht => h t (.inr ht))] at hx ⊢; exact hx
  | bin op x y | beq op x y | iaddr op x y | sidx x y | append esz bytes x y =>
    simp only [SOp.tmps, List.mem_append] at h
    simp only [exOp, evX_congr (x := x) (fun t ht => h t (.inl ht)), evX_congr (x := y) (fun t ht => h t (.inr ht))] at hx ⊢; exact hx
  | mkfn g a b =>
    simp only [SOp.tmps, List.mem_append] at h
    simp only [exOp, evXs_congr (xs := a) (fun t ht => h t (.inl ht)), evXs_congr (xs := b) (fun t ht => h t (.inr ht))] at hx ⊢; exact hx
  | slice esz x lo hi =>
    simp only [SOp.tmps, List.mem_append] at h
    simp only [exOp, evX_congr (x := x) (fun t ht => h t (.inl (.inl ht))), fun d => ixO_congr (d := d) (x := lo) (fun t ht => h t (.inl (.inr ht))), fun d => ixO_congr (d := d) (x := hi) (fun t ht => h t (.inr ht))] at hx ⊢; exact hx
  | strsl x lo hi => exact hx
  | mkemp => exact hx
  | jalloc => exact hx
  | snil neg x => simp only [exOp, evX_congr (x := x) h] at hx ⊢; exact hx
  | frz t => simp only [exOp, h t (by simp [SOp.tmps])] at hx ⊢; exact hx
  | buildF esz xs => simp only [exOp, evXs_congr (xs := xs) h] at hx ⊢; exact hx
  | call f as =>
    simp only [SOp.tmps, List.mem_append] at h
    simp only [exOp, evX_congr (x := f) (fun t ht => h t (.inl ht)), evXs_congr (xs := as) (fun t ht => h t (.inr ht))] at hx ⊢; exact hx
def ret1 (v : V) (H1 : List Blk) : V → List Blk → Prop := fun r H => r = v ∧ H = H1
def gstep (P : Program) (o : SOper) (e : Env) (H : List Blk) (v : V) (H1 : List Blk) : Prop :=
  match o.guard with
  | none => exOp P o.op e H (ret1 v H1)
  | some (t, want) => match e t with
    | .bool b => if b = want then exOp P o.op e H (ret1 v H1) else v = .und ∧ H1 = H
    | .und => v = .und ∧ H1 = H
    | _ => False
def QO.tmps (q : QO) : List Nat := (match q.o.guard with | none => [] | some (t, _) => [t]) ++ q.o.op.tmps
theorem gstep_congr {P : Program} {q : QO} {e e' : Env} {H H1 : List Blk} {v : V} (h : ∀ t ∈ q.tmps, e t = e' t) (hx : gstep P q.o e H v H1) : gstep P q.o e' H v H1 := by
  have hop : ∀ K, exOp P q.o.op e H K → exOp P q.o.op e' H K := fun K => exOp_congr fun t ht => h t (by simp [QO.tmps, ht])
  unfold gstep at *
  cases hg : q.o.guard with
  | none => rw [hg] at hx; exact hop _ hx
  | some tw =>
    obtain ⟨t, want⟩ := tw
    rw [hg] at hx
    have ht := h t (by simp [QO.tmps, hg])
    simp only at hx ⊢
    rw [← ht]
    cases hv : e t <;> rw [hv] at hx <;> first | exact hx | exact hx.elim | skip
    simp only at hx ⊢
    split
    · rename_i hb; rw [if_pos hb] at hx; exact hop _ hx
    · rename_i hb; rw [if_neg hb] at hx; exact hx
def gRun (P : Program) : List QO → Env → List Blk → List (List Blk) → List (Env × V) → (List (Env × V) → List (List Blk) → Env → List Blk → Prop) → Prop
  | [], e, H, Hs, tr, k => k tr Hs e H
  | q :: rest, e, H, Hs, tr, k => match q.ld with
    | true => ∃ v H1, gstep P q.o e H v H1 ∧ gRun P rest (updO e q.o.dst v) H1 (Hs ++ [H1]) (tr ++ [(e, v)]) k
    | false => ∃ v, gstep P q.o e H v H ∧ gRun P rest (updO e q.o.dst v) H Hs (tr ++ [(e, v)]) k
def stabR (P : Program) (q : QO) (e : Env) (v : V) (Hs : List (List Blk)) : Nat → Nat → Prop
  | 0, r => gstep P q.o e (Hs.getD r []) v (Hs.getD r [])
  | c + 1, r => gstep P q.o e (Hs.getD r []) v (Hs.getD r []) ∧ stabR P q e v Hs c (r + 1)
def stabL (P : Program) : List QO → List (Env × V) → List (List Blk) → Prop
  | q :: qs, (e, v) :: tr, Hs => (match q.ld || q.lo == q.hi with | true => True | false => stabR P q e v Hs (q.hi - q.lo) q.lo) ∧ stabL P qs tr Hs
  | _, _, _ => True
inductive GR (P : Program) : List QO → Env → List Blk → List (Env × V) → List (List Blk) → Env → List Blk → Prop
  | nil {e H} : GR P [] e H [] [] e H
  | loud {q rest e H v H1 tr Hs e' H'} : q.ld = true → gstep P q.o e H v H1 → GR P rest (updO e q.o.dst v) H1 tr Hs e' H' → GR P (q :: rest) e H ((e, v) :: tr) (H1 :: Hs) e' H'
  | quiet {q rest e H v tr Hs e' H'} : q.ld = false → gstep P q.o e H v H → GR P rest (updO e q.o.dst v) H tr Hs e' H' → GR P (q :: rest) e H ((e, v) :: tr) Hs e' H'
theorem GR.of_run {P : Program} : ∀ {ss : List QO} {e : Env} {H : List Blk} {Hs0 : List (List Blk)} {tr0 : List (Env × V)} {k : List (Env × V) → List (List Blk) → Env → List Blk → Prop},
    gRun P ss e H Hs0 tr0 k → ∃ tr Hs e' H', GR P ss e H tr Hs e' H' ∧ k (tr0 ++ tr) (Hs0 ++ Hs) e' H'
  | [], e, H, Hs0, tr0, k, h => ⟨[], [], e, H, .nil, by simpa [gRun] using h⟩
  | q :: rest, e, H, Hs0, tr0, k, h => by
    simp only [gRun] at h
    cases hl : q.ld with
    | true =>
      rw [hl] at h
      obtain ⟨v, H1, hs, h⟩ := h
      obtain ⟨tr, Hs, e', H', hg, hk⟩ := GR.of_run h
      exact ⟨(e, v) :: tr, H1 :: Hs, e', H', .loud hl hs hg, by simpa using hk⟩
    | false =>
      rw [hl] at h
      obtain ⟨v, hs, h⟩ := h
      obtain ⟨tr, Hs, e', H', hg, hk⟩ := GR.of_run h
      exact ⟨(e, v) :: tr, Hs, e', H', .quiet hl hs hg, by simpa using hk⟩
def rk (ss : List QO) (i : Nat) : Nat := ((ss.take i).filter (·.ld)).length
theorem rk_zero (ss : List QO) : rk ss 0 = 0 := by simp [rk]
theorem rk_succ {ss : List QO} {j : Nat} {q : QO} (h : ss[j]? = some q) : rk ss (j + 1) = rk ss j + (if q.ld then 1 else 0) := by
  unfold rk
  rw [List.take_add_one, h]
  cases hq : q.ld <;> simp [List.filter_append, hq]
theorem rk_mono {ss : List QO} {i j : Nat} (h : i ≤ j) : rk ss i ≤ rk ss j := by
  unfold rk
  have : ss.take i = (ss.take j).take i := by rw [List.take_take, Nat.min_eq_left h]
  rw [this]
  have h2 := List.Sublist.filter (·.ld) (List.take_sublist i (ss.take j))
  exact h2.length_le
def esOf (tr : List (Env × V)) (e' : Env) (j : Nat) : Env := match tr[j]? with
  | some p => p.1
  | none => e'
def vsOf (tr : List (Env × V)) (j : Nat) : V := match tr[j]? with
  | some p => p.2
  | none => .any
theorem GR.length {P : Program} {ss : List QO} {e e' : Env} {H H' : List Blk} {tr : List (Env × V)} {Hs : List (List Blk)} (h : GR P ss e H tr Hs e' H') : tr.length = ss.length := by
  induction h with
  | nil => rfl
  | loud _ _ _ ih => simp [ih]
  | quiet _ _ _ ih => simp [ih]
theorem GR.at0 {P : Program} {ss : List QO} {e e' : Env} {H H' : List Blk} {tr : List (Env × V)} {Hs : List (List Blk)} (h : GR P ss e H tr Hs e' H') : esOf tr e' 0 = e := by
  cases h <;> rfl
theorem rk_cons {q : QO} {ss : List QO} {j : Nat} : rk (q :: ss) (j + 1) = (if q.ld then 1 else 0) + rk ss j := by
  unfold rk
  cases hq : q.ld <;> simp [hq]; omega
theorem GR.step {P : Program} {ss : List QO} {e e' : Env} {H H' : List Blk} {tr : List (Env × V)} {Hs : List (List Blk)} (h : GR P ss e H tr Hs e' H') :
    ∀ (j : Nat) q, ss[j]? = some q → gstep P q.o (esOf tr e' j) ((H :: Hs).getD (rk ss j) []) (vsOf tr j) ((H :: Hs).getD (rk ss (j + 1)) []) ∧ esOf tr e' (j + 1) = updO (esOf tr e' j) q.o.dst (vsOf tr j) := by
  induction h with
  | nil => intro j q hq; simp at hq
  | @loud q rest e H v H1 tr Hs e' H' hl hs hg ih =>
    intro j x hx
    cases j with
    | zero =>
      simp at hx; subst hx
      refine ⟨?_, ?_⟩
      · have : rk (q :: rest) (0 + 1) = 1 := by rw [rk_cons, rk_zero, hl]; rfl
        rw [this, rk_zero]
        exact hs
      · have := hg.at0
        exact this
    | succ j =>
      obtain ⟨h1, h2⟩ := ih j x (by simpa using hx)
      refine ⟨?_, h2⟩
      rw [rk_cons, rk_cons, hl]
      have e1 : ∀ r, (H :: H1 :: Hs).getD ((if true = true then 1 else 0) + r) [] = (H1 :: Hs).getD r [] := by
        intro r; rw [if_pos rfl, Nat.add_comm]; rfl
      rw [e1, e1]; exact h1
  | @quiet q rest e H v tr Hs e' H' hl hs hg ih =>
    intro j x hx
    cases j with
    | zero =>
      simp at hx; subst hx
      refine ⟨?_, hg.at0⟩
      have : rk (q :: rest) (0 + 1) = 0 := by rw [rk_cons, rk_zero, hl]; rfl
      rw [this, rk_zero]
      exact hs
    | succ j =>
      obtain ⟨h1, h2⟩ := ih j x (by simpa using hx)
      refine ⟨?_, h2⟩
      rw [rk_cons, rk_cons, hl]
      have e1 : ∀ r, (H :: Hs).getD ((if false = true then 1 else 0) + r) [] = (H :: Hs).getD r [] := by
        intro r; simp
      rw [e1, e1]; exact h1
theorem GR.final {P : Program} {ss : List QO} {e e' : Env} {H H' : List Blk} {tr : List (Env × V)} {Hs : List (List Blk)} (h : GR P ss e H tr Hs e' H') :
    esOf tr e' ss.length = e' ∧ (H :: Hs).getD (rk ss ss.length) [] = H' := by
  induction h with
  | nil => exact ⟨rfl, rfl⟩
  | @loud q rest e H v H1 tr Hs e' H' hl hs hg ih =>
    refine ⟨ih.1, ?_⟩
    rw [List.length_cons, rk_cons, hl, if_pos rfl, Nat.add_comm]
    exact ih.2
  | @quiet q rest e H v tr Hs e' H' hl hs hg ih =>
    refine ⟨ih.1, ?_⟩
    rw [List.length_cons, rk_cons, hl]
    simpa using ih.2
theorem stabR_spec {P : Program} {q : QO} {e : Env} {v : V} {Hs : List (List Blk)} : ∀ {c r0 : Nat}, stabR P q e v Hs c r0 → ∀ r, r0 ≤ r → r ≤ r0 + c → gstep P q.o e (Hs.getD r []) v (Hs.getD r [])
  | 0, r0, h, r, h1, h2 => by
    have : r = r0 := by omega
    subst this; exact h
  | c + 1, r0, h, r, h1, h2 => by
    by_cases hr : r = r0
    · subst hr; exact h.1
    · exact stabR_spec h.2 r (by omega) (by omega)
theorem stabL_spec {P : Program} {Hs : List (List Blk)} : ∀ {ss : List QO} {tr : List (Env × V)}, tr.length = ss.length → stabL P ss tr Hs → ∀ (j : Nat) q e v, ss[j]? = some q → tr[j]? = some (e, v) → q.ld = false → q.lo ≠ q.hi →
    ∀ r, q.lo ≤ r → r ≤ q.hi → gstep P q.o e (Hs.getD r []) v (Hs.getD r [])
  | [], _, _, _, j, q, e, v, h1, _, _, _, _, _, _ => by simp at h1
  | q0 :: qs, [], hl, _, _, _, _, _, _, h2, _, _, _, _, _ => by simp at h2
  | q0 :: qs, (e0, v0) :: tr, hl, hs, j, q, e, v, h1, h2, hld, hne, r, hr1, hr2 => by
    cases j with
    | zero =>
      simp at h1 h2
      obtain ⟨rfl, rfl⟩ := h2
      subst h1
      have h3 := hs.1
      have : (q0.ld || q0.lo == q0.hi) = false := by simp [hld, hne]
      rw [this] at h3
      exact stabR_spec h3 r hr1 (by omega)
    | succ j => exact stabL_spec (by simpa using hl) hs.2 j q e v (by simpa using h1) (by simpa using h2) hld hne r hr1 hr2
mutual
def plain : V → Bool
  | .bool _ | .int _ _ | .str _ | .nilp | .nils | .emp | .nilmap | .nilf | .nili | .und | .any => true
  | .fs l => l.isEmpty
  | .agg l | .tup l => plainL l
  | _ => false
def plainL : List V → Bool
  | [] => true
  | v :: l => plain v && plainL l
end
theorem norefL_iff {l : List V} : norefL l = true ↔ ∀ v ∈ l, noref v = true := by
  induction l with
  | nil => simp [norefL]
  | cons v l ih => simp [norefL, ih]
theorem norefL_map {α : Type} {g : α → V} (h : ∀ x, noref (g x) = true) (l : List α) : norefL (l.map g) = true := by
  rw [norefL_iff]; intro v hv
  obtain ⟨x, _, rfl⟩ := List.mem_map.1 hv
  exact h x
mutual
theorem noref_rep {B B' : List Pl} {I : IM} : ∀ {x : V} {v : Value}, noref x = true → Rep B I x v → Rep B' I x v
  | .any, _, _, h => by simp [Rep]
  | .und, _, _, h => by simpa [Rep] using h
  | .bool _, _, _, h => by simpa [Rep] using h
  | .int _ _, _, _, h => by simpa [Rep] using h
  | .str _, _, _, h => by simpa [Rep] using h
  | .nilp, _, _, h => by simpa [Rep] using h
  | .ptr _ _ _, _, hn, _ => by simp [noref] at hn
  | .ms _ _ _, _, hn, _ => by simp [noref] at hn
  | .map _, _, hn, _ => by simp [noref] at hn
  | .rptr cells, _, hn, h => by
    simp only [Rep, noref] at *
    obtain ⟨b, o, h1, h2⟩ := h
    exact ⟨b, o, h1, noref_cells hn h2⟩
  | .nils, _, _, h => by simpa [Rep] using h
  | .emp, _, _, h => by simpa [Rep] using h
  | .fs elems, _, hn, h => by
    simp only [Rep, noref] at *
    obtain ⟨a, cap, h1, h2, h3, h4⟩ := h
    refine ⟨a, cap, h1, h2, h3, ?_⟩
    rcases h4 with h4 | ⟨b, o, sz, h5, h6⟩
    · exact .inl h4
    · exact .inr ⟨b, o, sz, h5, noref_elems hn h6⟩
  | .nilmap, _, _, h => by simpa [Rep] using h
  | .fmap ks vs, _, hn, h => by
    simp only [Rep, noref, Bool.and_eq_true] at *
    obtain ⟨b, es, clock, h1, h2, h3, h4⟩ := h
    exact ⟨b, es, clock, h1, h2, noref_repL hn.1 h3, noref_repL hn.2 h4⟩
  | .nilf, _, _, h => by simpa [Rep] using h
  | .clos f first caps, _, hn, h => by
    simp only [Rep, noref, Bool.and_eq_true] at *
    obtain ⟨fs, cs, h1, h2, h3⟩ := h
    exact ⟨fs, cs, h1, noref_repL hn.1 h2, noref_repL hn.2 h3⟩
  | .agg cells, _, hn, h => by
    simp only [Rep, noref] at *
    obtain ⟨cs, h1, h2⟩ := h
    exact ⟨cs, h1, noref_repL hn h2⟩
  | .tup cells, _, hn, h => by
    simp only [Rep, noref] at *
    obtain ⟨cs, h1, h2⟩ := h
    exact ⟨cs, h1, noref_repL hn h2⟩
  | .nili, _, _, h => by simpa [Rep] using h
  | .iface t x, _, hn, h => by
    simp only [Rep, noref] at *
    obtain ⟨u, h1, h2⟩ := h
    exact ⟨u, h1, noref_rep hn h2⟩
theorem noref_repL {B B' : List Pl} {I : IM} : ∀ {xs : List V} {l : List Value}, norefL xs = true → RepL B I xs l → RepL B' I xs l
  | [], _, _, h => by simpa [RepL] using h
  | c :: cs, _, hn, h => by
    simp only [RepL, norefL, Bool.and_eq_true] at *
    obtain ⟨v, vs, h1, h2, h3⟩ := h
    exact ⟨v, vs, h1, noref_rep hn.1 h2, noref_repL hn.2 h3⟩
theorem noref_cells {B B' : List Pl} {I : IM} : ∀ {xs : List V} {g : Nat → Option Value} {o : Nat}, norefL xs = true → CellsG B I xs g o → CellsG B' I xs g o
  | [], _, _, _, h => by simp [CellsG]
  | c :: cs, _, _, hn, h => by
    simp only [CellsG, norefL, Bool.and_eq_true] at *
    obtain ⟨⟨v, h1, h2⟩, h3⟩ := h
    exact ⟨⟨v, h1, noref_rep hn.1 h2⟩, noref_cells hn.2 h3⟩
theorem noref_elems {B B' : List Pl} {I : IM} : ∀ {xs : List V} {g : Nat → Option Value} {sz o : Nat}, norefL xs = true → ElemsG B I xs g sz o → ElemsG B' I xs g sz o
  | [], _, _, _, _, h => by simp [ElemsG]
  | .agg cs :: es, _, _, _, hn, h => by
    simp only [ElemsG, norefL, noref, Bool.and_eq_true] at *
    exact ⟨h.1, noref_cells hn.1 h.2.1, noref_elems hn.2 h.2.2⟩
  | e :: es, _, _, _, hn, h => by
    simp only [norefL, Bool.and_eq_true] at hn
    have he : ∀ v, Rep B I e v → Rep B' I e v := fun v hv => noref_rep hn.1 hv
    have hes := fun g sz o => noref_elems (B := B) (B' := B') (I := I) (xs := es) (g := g) (sz := sz) (o := o) hn.2
    cases e with
    | agg cs =>
      simp only [ElemsG, noref] at *
      exact ⟨h.1, noref_cells hn.1 h.2.1, hes _ _ _ h.2.2⟩
    | _ =>
      simp only [ElemsG] at *
      obtain ⟨h0, ⟨v, h1, h2⟩, h3⟩ := h
      exact ⟨h0, ⟨v, h1, he v h2⟩, hes _ _ _ h3⟩
end
mutual
theorem plain_rep {B B' : List Pl} {I I' : IM} : ∀ {x : V} {v : Value}, plain x = true → Rep B I x v → Rep B' I' x v
  | .any, _, _, h => by simp [Rep]
  | .und, _, _, h => by simpa [Rep] using h
  | .bool _, _, _, h => by simpa [Rep] using h
  | .int _ _, _, _, h => by simpa [Rep] using h
  | .str _, _, _, h => by simpa [Rep] using h
  | .nilp, _, _, h => by simpa [Rep] using h
  | .nils, _, _, h => by simpa [Rep] using h
  | .emp, _, _, h => by simpa [Rep] using h
  | .nilmap, _, _, h => by simpa [Rep] using h
  | .nilf, _, _, h => by simpa [Rep] using h
  | .nili, _, _, h => by simpa [Rep] using h
  | .fs elems, _, hn, h => by
    simp only [plain, List.isEmpty_iff] at hn
    subst hn
    simpa [Rep] using h
  | .agg cells, _, hn, h => by
    simp only [Rep, plain] at *
    obtain ⟨cs, h1, h2⟩ := h
    exact ⟨cs, h1, plain_repL hn h2⟩
  | .tup cells, _, hn, h => by
    simp only [Rep, plain] at *
    obtain ⟨cs, h1, h2⟩ := h
    exact ⟨cs, h1, plain_repL hn h2⟩
  | .ptr _ _ _, _, hn, _ => by simp [plain] at hn
  | .ms _ _ _, _, hn, _ => by simp [plain] at hn
  | .map _, _, hn, _ => by simp [plain] at hn
  | .rptr _, _, hn, _ => by simp [plain] at hn
  | .fmap _ _, _, hn, _ => by simp [plain] at hn
  | .clos _ _ _, _, hn, _ => by simp [plain] at hn
  | .iface _ _, _, hn, _ => by simp [plain] at hn
theorem plain_repL {B B' : List Pl} {I I' : IM} : ∀ {xs : List V} {l : List Value}, plainL xs = true → RepL B I xs l → RepL B' I' xs l
  | [], _, _, h => by simpa [RepL] using h
  | c :: cs, _, hn, h => by
    simp only [RepL, plainL, Bool.and_eq_true] at *
    obtain ⟨v, vs, h1, h2, h3⟩ := h
    exact ⟨v, vs, h1, plain_rep hn.1 h2, plain_repL hn.2 h3⟩
end
theorem fzL_spec {g : V → Option V} : ∀ {l l' : List V}, fzL g l = some l' → l'.length = l.length ∧ ∀ (j : Nat) x', l'[j]? = some x' → ∃ x, l[j]? = some x ∧ g x = some x'
  | [], l', h => by simp [fzL] at h; subst h; simp
  | v :: l, l', h => by
    simp only [fzL] at h
    split at h
    · rename_i x xs h1 h2
      cases h
      obtain ⟨h3, h4⟩ := fzL_spec h2
      refine ⟨by simp [h3], fun j x' hj => ?_⟩
      cases j with
      | zero => simp at hj; subst hj; exact ⟨v, by simp, h1⟩
      | succ j => simpa using h4 j x' (by simpa using hj)
    · cases h
theorem fz_rep {f : Fr} {B : List Pl} {I I2 : IM} {w : World} {H : List Blk} (hs : Sim f B I w H) (hI : ILe I I2)
    (hlive : ∀ (id : Nat) p es, B[id]? = some p → H[id]? = some (.row es) → I2 p.blk = w.heap[p.blk]?) : ∀ (n : Nat) {v v' : V} {x : Value}, fz H n v = some v' → Rep B I v x → Rep [] I2 v' x := by
  intro n
  induction n with
  | zero => intro v v' x h; simp [fz] at h
  | succ n ih =>
    have hl : ∀ {l l' : List V} {xs : List Value}, fzL (fz H n) l = some l' → RepL B I l xs → RepL [] I2 l' xs := by
      intro l l' xs h hr
      obtain ⟨h1, h2⟩ := fzL_spec h
      rw [repL_iff] at hr ⊢
      refine ⟨by rw [h1]; exact hr.1, fun j c hj => ?_⟩
      obtain ⟨y, h3, h4⟩ := h2 j c hj
      obtain ⟨u, h5, h6⟩ := hr.2 j y h3
      exact ⟨u, h5, ih h4 h6⟩
    have keep : ∀ {v v' : V} {x : Value}, (if noref v then some v else none) = some v' → Rep B I v x → Rep [] I2 v' x := by
      intro v v' x h hr
      split at h
      · rename_i hn; cases h; exact (noref_rep hn hr).mono (BLe.refl _) hI
      · cases h
    intro v v' x h hr
    cases v with
    | nils =>
      simp only [fz] at h; cases h
      simp only [Rep] at hr
      subst hr
      simp only [Rep]
      exact ⟨none, 0, rfl, by simp, by simp, by simp⟩
    | emp =>
      simp only [fz] at h; cases h
      simp only [Rep] at hr
      obtain ⟨a, rfl⟩ := hr
      simp only [Rep]
      exact ⟨a, 0, rfl, by simp, by simp, by simp⟩
    | ptr id i c =>
      simp only [fz] at h
      split at h
      · rename_i es hH
        split at h
        · rename_i hc
          cases hq : fzL (fz H n) ((cellsV (es.getD i .any)).drop c) with
          | none => rw [hq] at h; cases h
          | some l =>
            rw [hq] at h; cases h
            simp only [Rep] at hr ⊢
            obtain ⟨p, hp, hv⟩ := hr
            obtain ⟨carr, tt, hh, _, _, _, hcell⟩ := row_at (c := c) (n := 0) hs hp hH hc.1 (by omega)
            refine ⟨_, _, hv, ?_⟩
            obtain ⟨h1, h2⟩ := fzL_spec hq
            rw [cellsG_iff]
            intro j y hj
            obtain ⟨z, h3, h4⟩ := h2 j y hj
            rw [List.getElem?_drop] at h3
            obtain ⟨u, h5, h6⟩ := hcell _ z h3
            refine ⟨u, ?_, ih h4 h6⟩
            unfold icell
            rw [hlive id p es hp hH, hh]
            simp only
            rw [← h5]; congr 1; omega
        · cases h
      · cases h
    | ms id off len =>
      simp only [fz] at h
      split at h
      · rename_i es hH
        split at h
        · rename_i hc
          cases hq : fzL (fz H n) ((es.drop off).take len) with
          | none => rw [hq] at h; cases h
          | some l =>
            rw [hq] at h; cases h
            simp only [Rep] at hr ⊢
            obtain ⟨p, ad, cap, hp, hv, hadr, hlc, hcap, hroom⟩ := hr
            obtain ⟨h1, h2⟩ := fzL_spec hq
            have hll : l.length = len := by rw [h1, List.length_take, List.length_drop]; omega
            refine ⟨ad, cap, by rw [hll]; exact hv, by omega, hcap, ?_⟩
            by_cases hz : l = []
            · exact .inl hz
            · right
              have hpos : 0 < l.length := List.length_pos_iff.2 hz
              have had := hadr (by omega)
              refine ⟨p.blk, p.base + off * p.esz, p.esz, had, ?_⟩
              obtain ⟨carr, tt, hh, hsz, hcf, hce⟩ := hs.ok id p _ hp hH
              rw [elemsG_iff] at hce ⊢
              intro i y hi
              obtain ⟨z, h3, h4⟩ := h2 i y hi
              rw [List.getElem?_take] at h3
              split at h3
              · rw [List.getElem?_drop] at h3
                obtain ⟨h5, h6⟩ := hce _ z h3
                have hcells : (cellsV y).length = (cellsV z).length ∧ ∀ (j : Nat) c', (cellsV y)[j]? = some c' → ∃ c, (cellsV z)[j]? = some c ∧ ∀ u, Rep B I c u → Rep [] I2 c' u := by
                  have one : ∀ {z y : V}, fz H n z = some y → (∀ cs, z ≠ .agg cs) → (∀ cs, y ≠ .agg cs) := by
                    intro z y h hz cs hy
                    subst hy
                    cases n with
                    | zero => simp [fz] at h
                    | succ n =>
                      cases z <;> simp only [fz] at h <;> first
                        | exact hz _ rfl
                        | (split at h <;> first | (split at h <;> first | (cases hq : fzL (fz H n) _ <;> rw [hq] at h <;> cases h) | cases h) | cases h)
                        | (cases hq : fzL (fz H n) _ <;> rw [hq] at h <;> cases h)
                        | (split at h <;> cases h)
                        | cases h
                  by_cases hag : ∃ cs, z = .agg cs
                  · obtain ⟨cs, rfl⟩ := hag
                    cases n with
                    | zero => simp [fz] at h4
                    | succ n =>
                      simp only [fz] at h4
                      cases hq2 : fzL (fz H n) cs with
                      | none => rw [hq2] at h4; cases h4
                      | some l2 =>
                        rw [hq2] at h4; cases h4
                        obtain ⟨h7, h8⟩ := fzL_spec hq2
                        refine ⟨h7, fun j c' hj => ?_⟩
                        obtain ⟨c, h9, h10⟩ := h8 j c' hj
                        refine ⟨c, h9, fun u hu => ?_⟩
                        have : fz H (n + 1) (.agg [c]) = some (.agg [c']) := by simp [fz, fzL, h10]
                        have h11 := ih (v := .agg [c]) (v' := .agg [c']) (x := .agg #[u]) this (by simp only [Rep]; exact ⟨_, rfl, by simp only [RepL]; exact ⟨u, [], rfl, hu, rfl⟩⟩)
                        simp only [Rep, RepL] at h11
                        obtain ⟨cs2, h12, v2, vs2, h13, h14, h15⟩ := h11
                        cases h12
                        simp at h13
                        obtain ⟨rfl, _⟩ := h13
                        exact h14
                  · have hz' : ∀ cs, z ≠ .agg cs := fun cs h => hag ⟨cs, h⟩
                    have hy' := one h4 hz'
                    have e1 : cellsV z = [z] := by cases z <;> first | rfl | exact absurd rfl (hz' _)
                    have e2 : cellsV y = [y] := by cases y <;> first | rfl | exact absurd rfl (hy' _)
                    rw [e1, e2]
                    refine ⟨rfl, fun j c' hj => ?_⟩
                    cases j with
                    | zero => simp at hj; subst hj; exact ⟨z, by simp, fun u hu => ih h4 hu⟩
                    | succ j => simp at hj
                refine ⟨by rw [hcells.1]; exact h5, fun j c' hj => ?_⟩
                obtain ⟨c, h7, h8⟩ := hcells.2 j c' hj
                obtain ⟨u, h9, h10⟩ := h6 j c h7
                refine ⟨u, ?_, h8 u h10⟩
                unfold icell
                rw [hlive id p es hp hH, hh]
                simp only
                rw [← h9]; congr 1; rw [Nat.add_mul]; omega
              · cases h3
        · cases h
      · cases h
    | agg cs =>
      simp only [fz] at h
      cases hq : fzL (fz H n) cs with
      | none => rw [hq] at h; cases h
      | some l =>
        rw [hq] at h; cases h
        simp only [Rep] at hr ⊢
        obtain ⟨vs, h1, h2⟩ := hr
        exact ⟨vs, h1, hl hq h2⟩
    | tup cs =>
      simp only [fz] at h
      cases hq : fzL (fz H n) cs with
      | none => rw [hq] at h; cases h
      | some l =>
        rw [hq] at h; cases h
        simp only [Rep] at hr ⊢
        obtain ⟨vs, h1, h2⟩ := hr
        exact ⟨vs, h1, hl hq h2⟩
    | clos g a b =>
      simp only [fz] at h
      split at h
      · rename_i a' b' ha hb
        cases h
        simp only [Rep] at hr ⊢
        obtain ⟨fs, cs, h1, h2, h3⟩ := hr
        exact ⟨fs, cs, h1, hl ha h2, hl hb h3⟩
      · cases h
    | _ => simp only [fz] at h; exact keep h hr
theorem keepL_get (D : List Nat) (H : List Blk) (id : Nat) : (keepL D H)[id]? = (H[id]?).map fun b => if D.contains id then b else .dead := by
  simp [keepL]
theorem killL_length : ∀ (D : List Nat) (H : List Blk), (killL D H).length = H.length
  | [], H => rfl
  | d :: D, H => by rw [killL, killL_length D]; simp
theorem killL_get : ∀ (D : List Nat) (H : List Blk) (i : Nat), (killL D H)[i]? = if D.contains i = true ∧ i < H.length then some .dead else H[i]?
  | [], H, i => by simp [killL]
  | d :: D, H, i => by
    rw [killL, killL_get D, List.getElem?_set]
    by_cases hd : d = i
    · subst hd
      by_cases hl : d < H.length
      · simp [hl]
      · simp [hl]
    · have hd' : ¬ i = d := fun h => hd h.symm
      simp [hd, hd']
theorem Sim.mask {f : Fr} {B : List Pl} {I : IM} {w : World} {H H' : List Blk} (h : Sim f B I w H) (hl : H'.length = H.length) (hp : ∀ (i : Nat) b, H'[i]? = some b → b = .dead ∨ H[i]? = some b) : Sim f B I w H' where
  len := by rw [hl]; exact h.len
  imm := h.imm
  ile := h.ile
  ifresh := h.ifresh
  os := h.os
  tape := h.tape
  output := h.output
  size := h.size
  keep := h.keep
  ok i q c h1 h2 := by
    rcases hp i c h2 with rfl | h3
    · trivial
    · exact h.ok i q c h1 h3
  sep i j q r c d h1 h2 h3 h4 hc hd he := by
    rcases hp i c h3 with rfl | h5
    · cases hc
    · rcases hp j d h4 with rfl | h6
      · cases hd
      · exact h.sep i j q r c d h1 h2 h5 h6 hc hd he
  own i q c h1 h2 hl := by
    rcases hp i c h2 with rfl | h3
    · cases hl
    · exact h.own i q c h1 h3 hl
theorem Sim.freeze {f : Fr} {B : List Pl} {I : IM} {w : World} {H : List Blk} (hs : Sim f B I w H) (D : List Nat) :
    ∃ I2, ILe I I2 ∧ Sim f B I2 w (killL D H) ∧ ∀ (n : Nat) {v v' : V} {x : Value}, fz (keepL D H) n v = some v' → Rep B I v x → Rep [] I2 v' x := by
  classical
  let S : Nat → Prop := fun b => ∃ (id : Nat) (p : Pl) (es : List V), D.contains id = true ∧ B[id]? = some p ∧ H[id]? = some (.row es) ∧ p.blk = b
  let I2 : IM := fun b => if S b then w.heap[b]? else I b
  have hIS : ∀ b, S b → I b = none ∧ (f.w0.heap.size ≤ b ∨ f.M b) := by
    rintro b ⟨id, p, es, _, hp, hH, rfl⟩
    obtain ⟨h1, h2, _⟩ := hs.own id p _ hp hH rfl
    exact ⟨h1, h2⟩
  have hI : ILe I I2 := by
    intro b o hb
    show (if S b then w.heap[b]? else I b) = some o
    by_cases hS : S b
    · rw [(hIS b hS).1] at hb; cases hb
    · rw [if_neg hS]; exact hb
  have hs1 : Sim f B I w (killL D H) := hs.mask (killL_length D H) (fun i b hb => by
    rw [killL_get] at hb
    split at hb
    · cases hb; exact .inl rfl
    · exact .inr hb)
  have hs0 : Sim f B I w (keepL D H) := hs.mask (by simp [keepL]) (fun i b hb => by
    rw [keepL_get] at hb
    cases hH : H[i]? with
    | none => rw [hH] at hb; cases hb
    | some c =>
      rw [hH] at hb
      simp only [Option.map_some, Option.some.injEq] at hb
      split at hb
      · subst hb; exact .inr rfl
      · exact .inl hb.symm)
  refine ⟨I2, hI, ?_, ?_⟩
  · constructor
    · exact hs1.len
    · intro b o hb
      have hb : (if S b then w.heap[b]? else I b) = some o := hb
      split at hb
      · exact hb
      · exact hs.imm b o hb
    · exact hs.ile.trans hI
    · intro b h1 h2
      have h2 : (if S b then w.heap[b]? else I b) ≠ none := h2
      split at h2
      · rename_i hS; exact (hIS b hS).2
      · exact hs.ifresh b h1 h2
    · exact hs.os
    · exact hs.tape
    · exact hs.output
    · exact hs.size
    · exact hs.keep
    · intro i p b h1 h2
      exact (hs1.ok i p b h1 h2).mono (BLe.refl _) hI (fun _ => rfl)
    · exact hs1.sep
    · intro i p c h1 h2 hl
      obtain ⟨h3, h4, h5⟩ := hs1.own i p c h1 h2 hl
      refine ⟨?_, h4, h5⟩
      show (if S p.blk then w.heap[p.blk]? else I p.blk) = none
      rw [if_neg]
      · exact h3
      · rintro ⟨id, q, es, hD, hq, hH, he⟩
        rw [killL_get] at h2
        split at h2
        · cases h2; cases hl
        · rename_i hni
          have := hs.sep id i q p _ c hq h1 hH h2 rfl hl he
          subst this
          exact hni ⟨hD, (List.getElem?_eq_some_iff.1 hH).1⟩
  · intro n v v' x hf hr
    refine fz_rep hs0 hI ?_ n hf hr
    intro id p es hp hH
    rw [keepL_get] at hH
    cases hH2 : H[id]? with
    | none => rw [hH2] at hH; cases hH
    | some c =>
      rw [hH2] at hH
      simp only [Option.map_some, Option.some.injEq] at hH
      split at hH
      · rename_i hD
        subst hH
        show (if S p.blk then w.heap[p.blk]? else I p.blk) = w.heap[p.blk]?
        rw [if_pos ⟨id, p, es, hD, hp, hH2, rfl⟩]
      · cases hH
inductive Kont where
  | post (K : Exit → Env → List Blk → Prop)
  | seq (b : SCode) (k : Kont)
  | block (id : Nat) (k : Kont)
  | loop (Inv : Nat → Env → List Blk → Prop) (m : Nat) (k : Kont)
inductive Cfg where
  | code (c : SCode) (e : Env) (H : List Blk) (k : Kont)
  | ops (l : List SOper) (e : Env) (H : List Blk) (k : Kont)
  | app (k : Kont) (x : Exit) (e : Env) (H : List Blk)
def ret2 (G : Cfg → Prop) (rest : List SOper) (d : Option Nat) (e : Env) (k : Kont) : V → List Blk → Prop := fun r H => G (.ops rest (updO e d r) H k)
def gEnd (P : Program) (G : Cfg → Prop) (ss : List QO) (k : Kont) : List (Env × V) → List (List Blk) → Env → List Blk → Prop :=
  fun tr Hs e H => stabL P ss tr Hs ∧ G (.app k .normal e H)
def pEnd (P : Program) (G : Cfg → Prop) (ss : List QO) (t : Nat) (z : V) (st : SOper) (k : Kont) : List (Env × V) → List (List Blk) → Env → List Blk → Prop :=
  fun tr Hs e H => stabL P ss tr Hs ∧ G (.ops [st] (upd e t (.ptr H.length 0 0)) (H ++ [.row [z]]) k)
def F (P : Program) : Nat → Cfg → Prop
  | 0 => fun _ => False
  | n + 1 => fun cfg => match cfg with
    | .code .skip e H k => F P n (.app k .normal e H)
    | .code (.region l) e H k => F P n (.ops l e H k)
    | .code (.qregion l) e H k => gRun P l e H [H] [] (gEnd P (F P n) l k)
    | .code (.pregion l t ia z st) e H k => gRun P l e H [H] [] (pEnd P (F P n) l t z st k)
    | .code (.seq a b) e H k => F P n (.code a e H (.seq b k))
    | .code (.cond c t f) e H k => match c, evX e c with
      | .tmp i, .bool b => Fork b (F P n (.code t (upd e i (.bool true)) H k)) (F P n (.code f (upd e i (.bool false)) H k))
      | .val _, .bool b => Fork b (F P n (.code t e H k)) (F P n (.code f e H k))
      | _, _ => False
    | .code (.block id c) e H k => F P n (.code c e H (.block id k))
    | .code (.loop c) e H k => ∃ (Inv : Nat → Env → List Blk → Prop) (m : Nat), Inv m e H ∧ ∀ m e H, Inv m e H → F P n (.code c e H (.loop Inv m k))
    | .code (.exit id) e H k => F P n (.app k (.exit id) e H)
    | .code .ret e H k => F P n (.app k .ret e H)
    | .ops [] e H k => F P n (.app k .normal e H)
    | .ops (o :: rest) e H k => match o.guard with
      | none => exOp P o.op e H (ret2 (F P n) rest o.dst e k)
      | some (t, want) => match e t with
        | .bool b => if want then Fork b (exOp P o.op (upd e t (.bool true)) H (ret2 (F P n) rest o.dst (upd e t (.bool true)) k)) (F P n (.ops rest (updO (upd e t (.bool false)) o.dst .und) H k))
            else Fork b (F P n (.ops rest (updO (upd e t (.bool true)) o.dst .und) H k)) (exOp P o.op (upd e t (.bool false)) H (ret2 (F P n) rest o.dst (upd e t (.bool false)) k))
        | .und => F P n (.ops rest (updO e o.dst .und) H k)
        | _ => False
    | .app (.post K) x e H => K x e H
    | .app (.seq b k) .normal e H => F P n (.code b e H k)
    | .app (.seq b k) x e H => F P n (.app k x e H)
    | .app (.block id k) (.exit i) e H => if i = id then F P n (.app k .normal e H) else F P n (.app k (.exit i) e H)
    | .app (.block id k) x e H => F P n (.app k x e H)
    | .app (.loop Inv m k) .normal e H => ∃ m', m' < m ∧ Inv m' e H
    | .app (.loop Inv m k) x e H => F P n (.app k x e H)
section
variable {P : Program} {n : Nat} {e : Env} {H : List Blk} {k : Kont}
theorem F_skip : F P (n + 1) (.code .skip e H k) = F P n (.app k .normal e H) := by rw [F]
theorem F_region {l : List SOper} : F P (n + 1) (.code (.region l) e H k) = F P n (.ops l e H k) := by rw [F]
theorem F_qregion {l : List QO} : F P (n + 1) (.code (.qregion l) e H k) = gRun P l e H [H] [] (gEnd P (F P n) l k) := by rw [F]
theorem F_pregion {l : List QO} {t ia : Nat} {z : V} {st : SOper} : F P (n + 1) (.code (.pregion l t ia z st) e H k) = gRun P l e H [H] [] (pEnd P (F P n) l t z st k) := by rw [F]
theorem pEnd_eq {G : Cfg → Prop} {ss : List QO} {t : Nat} {z : V} {st : SOper} {tr : List (Env × V)} {Hs : List (List Blk)} : pEnd P G ss t z st k tr Hs e H = (stabL P ss tr Hs ∧ G (.ops [st] (upd e t (.ptr H.length 0 0)) (H ++ [.row [z]]) k)) := rfl
theorem gEnd_eq {G : Cfg → Prop} {ss : List QO} {tr : List (Env × V)} {Hs : List (List Blk)} : gEnd P G ss k tr Hs e H = (stabL P ss tr Hs ∧ G (.app k .normal e H)) := rfl
theorem F_seq {a b : SCode} : F P (n + 1) (.code (.seq a b) e H k) = F P n (.code a e H (.seq b k)) := by rw [F]
theorem F_cond {i : Nat} {t f : SCode} : F P (n + 1) (.code (.cond (.tmp i) t f) e H k) = (match e i with
  | .bool b => Fork b (F P n (.code t (upd e i (.bool true)) H k)) (F P n (.code f (upd e i (.bool false)) H k))
  | _ => False) := by
  rw [F]
  show (match (SX.tmp i), evX e (.tmp i) with | .tmp i, .bool b => _ | .val _, .bool b => _ | _, _ => False) = _
  simp only [evX]
  cases e i <;> rfl
theorem F_block {id : Nat} {c : SCode} : F P (n + 1) (.code (.block id c) e H k) = F P n (.code c e H (.block id k)) := by rw [F]
theorem F_exit {id : Nat} : F P (n + 1) (.code (.exit id) e H k) = F P n (.app k (.exit id) e H) := by rw [F]
theorem F_ret : F P (n + 1) (.code .ret e H k) = F P n (.app k .ret e H) := by rw [F]
theorem F_nil : F P (n + 1) (.ops [] e H k) = F P n (.app k .normal e H) := by rw [F]
theorem F_op {d : Option Nat} {o : SOp} {rest : List SOper} : F P (n + 1) (.ops (⟨d, o, none⟩ :: rest) e H k) = exOp P o e H (ret2 (F P n) rest d e k) := by rw [F]
theorem F_opT {d : Option Nat} {o : SOp} {rest : List SOper} {t : Nat} : F P (n + 1) (.ops (⟨d, o, some (t, true)⟩ :: rest) e H k) = (match e t with
  | .bool b => Fork b (exOp P o (upd e t (.bool true)) H (ret2 (F P n) rest d (upd e t (.bool true)) k)) (F P n (.ops rest (updO (upd e t (.bool false)) d .und) H k))
  | .und => F P n (.ops rest (updO e d .und) H k)
  | _ => False) := by
  rw [F]
  show (match e t with | .bool b => _ | .und => _ | _ => False) = _
  cases e t <;> rfl
theorem F_opF {d : Option Nat} {o : SOp} {rest : List SOper} {t : Nat} : F P (n + 1) (.ops (⟨d, o, some (t, false)⟩ :: rest) e H k) = (match e t with
  | .bool b => Fork b (F P n (.ops rest (updO (upd e t (.bool true)) d .und) H k)) (exOp P o (upd e t (.bool false)) H (ret2 (F P n) rest d (upd e t (.bool false)) k))
  | .und => F P n (.ops rest (updO e d .und) H k)
  | _ => False) := by
  rw [F]
  show (match e t with | .bool b => _ | .und => _ | _ => False) = _
  cases e t <;> rfl
theorem F_post {K : Exit → Env → List Blk → Prop} {x : Exit} : F P (n + 1) (.app (.post K) x e H) = K x e H := by rw [F]
theorem F_seqN {b : SCode} : F P (n + 1) (.app (.seq b k) .normal e H) = F P n (.code b e H k) := by rw [F]
theorem F_seqR {b : SCode} : F P (n + 1) (.app (.seq b k) .ret e H) = F P n (.app k .ret e H) := by rw [F]
theorem F_seqE {b : SCode} {i : Nat} : F P (n + 1) (.app (.seq b k) (.exit i) e H) = F P n (.app k (.exit i) e H) := by rw [F]
theorem F_blockN {id : Nat} : F P (n + 1) (.app (.block id k) .normal e H) = F P n (.app k .normal e H) := by rw [F]
theorem F_blockR {id : Nat} : F P (n + 1) (.app (.block id k) .ret e H) = F P n (.app k .ret e H) := by rw [F]
theorem F_blockE {id i : Nat} : F P (n + 1) (.app (.block id k) (.exit i) e H) = if i = id then F P n (.app k .normal e H) else F P n (.app k (.exit i) e H) := by rw [F]
theorem F_loopN {Inv : Nat → Env → List Blk → Prop} {m : Nat} : F P (n + 1) (.app (.loop Inv m k) .normal e H) = ∃ m', m' < m ∧ Inv m' e H := by rw [F]
theorem F_loopR {Inv : Nat → Env → List Blk → Prop} {m : Nat} : F P (n + 1) (.app (.loop Inv m k) .ret e H) = F P n (.app k .ret e H) := by rw [F]
theorem F_loopE {Inv : Nat → Env → List Blk → Prop} {m i : Nat} : F P (n + 1) (.app (.loop Inv m k) (.exit i) e H) = F P n (.app k (.exit i) e H) := by rw [F]
theorem F_loop {c : SCode} (Inv : Nat → Env → List Blk → Prop) (m : Nat) (h0 : Inv m e H) (h : ∀ m e H, Inv m e H → F P n (.code c e H (.loop Inv m k))) : F P (n + 1) (.code (.loop c) e H k) := ⟨Inv, m, h0, h⟩
theorem ret2ueq {G : Cfg → Prop} {rest : List SOper} {d : Option Nat} {r : V} : ret2 G rest d e k r H = G (.ops rest (updO e d r) H k) := rfl
theorem Fork_true {p q : Prop} : Fork true p q = p := by simp [Fork]
theorem Fork_false {p q : Prop} : Fork false p q = q := by simp [Fork]
end
section
variable {P : Program} {f : Fr} {B : List Pl} {I : IM} {w : World} {H : List Blk} {K : V → List Blk → Prop} {a : Act} {env : Env} {o : Oper}
theorem op_out {s : SOp} (hc : chkOp P a.tmps.size o.op o.type s = true) (he : REnv B I env a.tmps) (hs : Sim f B I w H) (hk : exOp P s env H K) (hn : ∀ g as, s ≠ .call g as) :
    Out f B I K ((execOp a.eval o).run P w) := by
  cases s with
  | mov y =>
    cases ho : o.op <;> simp only [ho, chkOp, Bool.false_eq_true] at hc
    · exact s_mov (.inl ho) hc he hs hk
    · exact s_mov (.inr ho) hc he hs hk
  | pick c x y =>
    cases ho : o.op <;> simp only [ho, chkOp, Bool.false_eq_true, Bool.and_eq_true] at hc
    exact s_pick ho hc.1.1 hc.1.2 hc.2 he hs hk
  | alloc z =>
    cases ho : o.op <;> (rw [ho] at hc; first | (simp only [chkOp, Bool.false_eq_true] at hc; done) | skip)
    exact s_alloc ho hc hs hk
  | box x =>
    cases ho : o.op <;> simp only [ho, chkOp, Bool.false_eq_true] at hc
    exact s_box ho hc he hs hk
  | build z ps =>
    cases ho : o.op <;> (rw [ho] at hc; first | (simp only [chkOp, Bool.false_eq_true] at hc; done) | skip)
    exact s_build ho hc he hs hk
  | buildS esz xs =>
    cases ho : o.op <;> (rw [ho] at hc; first | (simp only [chkOp, Bool.false_eq_true] at hc; done) | skip)
    exact s_buildS ho hc he hs hk
  | load g m x =>
    cases ho : o.op <;> (rw [ho] at hc; first | (simp only [chkOp, Bool.false_eq_true] at hc; done) | skip)
    exact s_load ho hc he hs hk
  | store m x y =>
    cases ho : o.op <;> (rw [ho] at hc; first | (simp only [chkOp, Bool.false_eq_true] at hc; done) | skip)
    exact s_store ho hc he hs hk
  | nilc x =>
    cases ho : o.op <;> simp only [ho, chkOp, Bool.false_eq_true] at hc
    exact s_nilc ho hc he hs hk
  | bin op x y =>
    cases ho : o.op <;> simp only [ho, chkOp, Bool.false_eq_true, Bool.and_eq_true, decide_eq_true_eq] at hc
    obtain ⟨⟨rfl, h1⟩, h2⟩ := hc
    exact s_bin ho h1 h2 he hs hk
  | beq neg x y =>
    cases ho : o.op <;> (rw [ho] at hc; first | (simp only [chkOp, Bool.false_eq_true] at hc; done) | skip)
    rename_i op t x' y' u
    cases op <;> cases neg <;> simp only [chkOp, Bool.false_eq_true, Bool.and_eq_true] at hc <;> (
      obtain ⟨⟨h1, h2⟩, h3⟩ := hc
      split at h3
      · rename_i ht
        exact s_beq (neg := _) (by simpa using ho) h1 h2 ht he hs hk
      · cases h3)
  | un op x =>
    cases ho : o.op <;> simp only [ho, chkOp, Bool.false_eq_true, Bool.and_eq_true, decide_eq_true_eq] at hc
    obtain ⟨rfl, h1⟩ := hc
    exact s_un ho h1 he hs hk
  | conv k x =>
    cases ho : o.op <;> simp only [ho, chkOp, Bool.false_eq_true, Bool.and_eq_true, beq_iff_eq] at hc
    exact s_conv ho hc.1.1 hc.1.2 hc.2 he hs hk
  | convs x =>
    cases ho : o.op <;> simp only [ho, chkOp, Bool.false_eq_true, Bool.and_eq_true] at hc
    obtain ⟨⟨h1, h2⟩, h3⟩ := hc
    split at h2
    · rename_i hd; exact s_convs ho h1 hd h3 he hs hk
    · cases h2
  | mkfn g fs cs =>
    cases ho : o.op <;> (rw [ho] at hc; first | (simp only [chkOp, Bool.false_eq_true] at hc; done) | skip)
    rename_i fn fs' cs'
    cases fn <;> simp only [chkOp, Bool.false_eq_true, Bool.and_eq_true, beq_iff_eq] at hc
    obtain ⟨⟨rfl, h1⟩, h2⟩ := hc
    exact s_mkfn ho h1 h2 he hs hk
  | slice esz x lo hi =>
    cases ho : o.op <;> (rw [ho] at hc; first | (simp only [chkOp, Bool.false_eq_true] at hc; done) | skip)
    rename_i t x' lo' hi' mx
    cases mx with
    | some _ => simp [chkOp] at hc
    | none => exact s_slice ho hc he hs hk
  | strsl x lo hi => simp [exOp] at hk
  | faddr off x =>
    cases ho : o.op <;> (rw [ho] at hc; first | (simp only [chkOp, Bool.false_eq_true] at hc; done) | skip)
    exact s_faddr ho hc he hs hk
  | field g off n x =>
    cases ho : o.op <;> (rw [ho] at hc; first | (simp only [chkOp, Bool.false_eq_true] at hc; done) | skip)
    exact s_field ho hc he hs hk
  | iaddr esz x i =>
    cases ho : o.op <;> (rw [ho] at hc; first | (simp only [chkOp, Bool.false_eq_true] at hc; done) | skip)
    exact s_iaddr ho hc he hs hk
  | sidx x i =>
    cases ho : o.op <;> simp only [ho, chkOp, Bool.false_eq_true, Bool.and_eq_true] at hc
    obtain ⟨⟨h1, h2⟩, h3⟩ := hc
    split at h1
    · rename_i hd; exact s_sidx ho hd h2 h3 he hs hk
    · cases h1
  | extract x i =>
    cases ho : o.op <;> simp only [ho, chkOp, Bool.false_eq_true, Bool.and_eq_true, beq_iff_eq] at hc
    obtain ⟨rfl, h1⟩ := hc
    exact s_extract ho h1 he hs hk
  | call g as => exact absurd rfl (hn g as)
  | frz t => cases ho : o.op <;> (rw [ho] at hc; simp only [chkOp, Bool.false_eq_true] at hc)
  | buildF esz xs =>
    cases ho : o.op <;> (rw [ho] at hc; first | (simp only [chkOp, Bool.false_eq_true] at hc; done) | skip)
    exact s_buildF ho hc he hs hk
  | jalloc =>
    cases ho : o.op <;> (rw [ho] at hc; first | (simp only [chkOp, Bool.false_eq_true] at hc; done) | skip)
    exact s_jalloc ho hc hs hk
  | mkemp =>
    cases ho : o.op <;> (rw [ho] at hc; first | (simp only [chkOp, Bool.false_eq_true] at hc; done) | skip)
    exact s_mkemp ho hc hs hk
  | snil neg x =>
    cases ho : o.op <;> (rw [ho] at hc; first | (simp only [chkOp, Bool.false_eq_true] at hc; done) | skip)
    exact s_snil ho hc he hs hk
  | len str x =>
    cases ho : o.op <;> (rw [ho] at hc; first | (simp only [chkOp, Bool.false_eq_true] at hc; done) | skip)
    exact s_len ho hc he hs hk
  | append esz bytes x y =>
    cases ho : o.op <;> (rw [ho] at hc; first | (simp only [chkOp, Bool.false_eq_true] at hc; done) | skip)
    exact s_append ho hc he hs hk
theorem op_call {fx : SX} {as : List SX} (hc : chkOp P a.tmps.size o.op o.type (.call fx as) = true) (he : REnv B I env a.tmps) (hs : Sim f B I w H) (hk : exOp P (.call fx as) env H K) :
    ∃ g args, (execOp a.eval o).run P w = .ok (.enter g args) w ∧ Calls P g args w (fun e w' => ∃ r v H' B' I', e = .returned v ∧ K r H' ∧ Sim f B' I' w' H' ∧ BLe B B' ∧ ILe I I' ∧ Rep B' I' r v) := by
  cases ho : o.op <;> (rw [ho] at hc; first | (simp only [chkOp, Bool.false_eq_true] at hc; done) | skip)
  rename_i c
  simp only [chkOp] at hc
  split at hc
  · rename_i g hcal
    simp only [Bool.and_eq_true] at hc
    obtain ⟨h1, h2⟩ := hc
    have hg := chkX_rep h1 he
    have has := chkXs_rep he h2
    simp only [exOp] at hk
    split at hk
    · rename_i gid first caps e
      rw [e] at hg
      simp only [Rep] at hg
      obtain ⟨fs, cs, hv, hf, hcp⟩ := hg
      obtain ⟨hcall, hk⟩ := hk
      refine ⟨gid, (fs ++ c.args.map a.eval) ++ cs, ?_, hk f B I w _ hs ?_⟩
      · unfold callable at hcall
        split at hcall
        · rename_i fn hfn
          simp only [Bool.and_eq_true, bne_iff_ne, ne_eq, Option.isSome_iff_exists] at hcall
          obtain ⟨⟨b, hb⟩, hname⟩ := hcall
          simp only [execOp, ho, resolve, hcal, hv, Deferred.ofValue, Sem.run_bind, Sem.run_pure, Result.andThen_ok, invoke, callFunc, run_program, hfn]
          rw [if_neg (by simpa using hname), if_neg (by simp [hb])]
          simp
        · cases hcall
      · simp only [Array.toList_append, Array.toList_map]
        exact (hf.append has).append hcp
    · exact hk.elim
  · cases hc
def SatK (P : Program) (f : Fr) (B : List Pl) (I : IM) (nt : Nat) (k : Kont) (Q : Exit → Act → World → Prop) : Prop :=
  ∀ n x e H B' I' a w, F P n (.app k x e H) → Sim f B' I' w H → BLe B B' → ILe I I' → REnv B' I' e a.tmps → a.defers = [] → a.tmps.size = nt → Q x a w
theorem SatK.mono {nt : Nat} {k : Kont} {Q : Exit → Act → World → Prop} {B' : List Pl} {I' : IM} (h : SatK P f B I nt k Q) (hB : BLe B B') (hI : ILe I I') : SatK P f B' I' nt k Q :=
  fun n x e H B2 I2 a w h1 h2 h3 h4 => h n x e H B2 I2 a w h1 h2 (hB.trans h3) (hI.trans h4)
theorem upd_self {e : Env} {t : Nat} {b c : Bool} (h : e t = .bool b) (hb : b = c) : upd e t (.bool c) = e := by
  funext i
  unfold upd
  split
  · rename_i hi; subst hi; rw [h, hb]
  · rfl
theorem und_rep : Rep B I .und undef := by simp [Rep]
theorem skip_env {e : Env} (he : REnv B I e a.tmps) (d : Option Nat) : REnv B I (updO e d .und) (a.put d undef).tmps := he.put d und_rep
theorem yielded_of {all : Array Oper} {j t : Nat} (hj : (all[j]?).bind (·.dst) = some t) (ht : t < a.tmps.size) (he : REnv B I env a.tmps) :
    ∀ {v : V}, env t = v → (∀ b, v = .bool b → yielded all a.tmps j = some b) ∧ (v = .und → yielded all a.tmps j = none) := by
  intro v hv
  have h1 := he t (a.tmps[t]) (by simp [ht])
  rw [hv] at h1
  constructor
  · rintro b rfl
    simp only [Rep] at h1
    simp [yielded, hj, ht, h1]
  · rintro rfl
    simp only [Rep] at h1
    simp [yielded, hj, ht, h1, undef]
theorem frz_step {n : Nat} {ss : List SOper} {t : Nat} {k : Kont} (hF : F P (n + 1) (.ops (⟨some t, .frz t, none⟩ :: ss) env H k)) (hs : Sim f B I w H) (he : REnv B I env a.tmps) :
    ∃ e' H' I2, F P n (.ops ss e' H' k) ∧ Sim f B I2 w H' ∧ ILe I I2 ∧ REnv B I2 e' a.tmps := by
  rw [F_op] at hF
  simp only [exOp, ret2ueq] at hF
  obtain ⟨D, v', hfz, hF⟩ := hF
  obtain ⟨I2, hI, hs2, hrep⟩ := hs.freeze D
  refine ⟨_, _, I2, hF, hs2, hI, ?_⟩
  intro i v hv
  have h1 := he i v hv
  show Rep B I2 (upd env t v' i) v
  unfold upd
  split
  · rename_i hi; subst hi
    exact (hrep 20 hfz h1).mono (fun i p h => by simp at h) (ILe.refl _)
  · exact h1.mono (BLe.refl _) hI
theorem isFrz_iff {s : SOper} (h : s.isFrz = true) : ∃ t, s = ⟨some t, .frz t, none⟩ := by
  obtain ⟨d, op, g⟩ := s
  cases d <;> cases op <;> cases g <;> simp [SOper.isFrz] at h
  subst h; exact ⟨_, rfl⟩
theorem ops_sound {all : Array Oper} {nt : Nat} {k : Kont} {Q : Exit → Act → World → Prop} : ∀ {l : List Oper} {ss : List SOper}, chkOps P nt all l (strip ss) = true → ∀ {n : Nat} {e : Env} {H : List Blk} {B : List Pl} {I : IM} {a : Act} {w : World},
    F P n (.ops ss e H k) → Sim f B I w H → REnv B I e a.tmps → a.defers = [] → a.tmps.size = nt → SatK P f B I nt k Q → wpList P all Q l a w
  | l, [], hc, n, e, H, B, I, a, w, hF, hs, he, hd, hn, hq => by
    cases l with
    | cons _ _ => simp [chkOps, strip] at hc
    | nil =>
      cases n with
      | zero => exact hF.elim
      | succ n => exact hq n .normal e H B I a w hF hs (BLe.refl _) (ILe.refl _) he hd hn
  | l, s :: ss, hc, n, e, H, B, I, a, w, hF, hs, he, hd, hn, hq => by
   by_cases hfr : s.isFrz = true
   · obtain ⟨t, rfl⟩ := isFrz_iff hfr
     cases n with
     | zero => exact hF.elim
     | succ n =>
       obtain ⟨e', H', I2, h1, h2, h3, h4⟩ := frz_step hF hs he
       simp only [strip, hfr, if_true] at hc
       exact ops_sound hc h1 h2 h4 hd hn (hq.mono (BLe.refl _) h3)
   · simp only [strip, hfr, if_false] at hc
     cases l with
     | nil => simp [chkOps] at hc
     | cons o l =>
       simp only [Bool.false_eq_true, if_false, chkOps, chkOper, Bool.and_eq_true] at hc
       obtain ⟨⟨⟨hdst, hg⟩, hop⟩, hrest⟩ := hc
       have hdd : o.dst = s.dst := by
         cases h1 : o.dst <;> cases h2 : s.dst <;> simp [h1, h2, chkDst] at hdst ⊢
         exact hdst.1
       have run : ∀ (e : Env) (G : Nat), REnv B I e a.tmps → exOp P s.op e H (ret2 (F P G) ss s.dst e k) → o.wp P a w (wpList P all Q l) Q := by
         intro e G he hk
         by_cases hcall : ∃ fx as, s.op = .call fx as
         · obtain ⟨fx, as, hsop⟩ := hcall
           rw [hsop] at hk hop
           obtain ⟨g, args, hrun, hcalls⟩ := op_call (by rw [hn]; exact hop) he hs hk
           unfold Oper.wp
           rw [hrun, Oper.upon_enter]
           refine hcalls.mono ?_
           rintro en w' ⟨r, v, H', B', I', rfl, hr, hs', hB, hI, hrep⟩
           simp only
           rw [ret2ueq] at hr
           rw [hdd]
           exact ops_sound hrest hr hs' ((he.mono hB hI).put _ hrep) (by rw [put_defers]; exact hd) (by rw [put_size]; exact hn) (hq.mono hB hI)
         · have hcall' : ∀ g as, s.op ≠ .call g as := fun g as h => hcall ⟨g, as, h⟩
           obtain ⟨v, w', x, H', B', I', hrun, hk, hs', hB, hI, hrep⟩ := op_out (by rw [hn]; exact hop) he hs hk hcall'
           unfold Oper.wp
           rw [ret2ueq] at hk
           have hgo : wpList P all Q l (a.put o.dst v) w' := by
             rw [hdd]
             exact ops_sound hrest hk hs' ((he.mono hB hI).put _ hrep) (by rw [put_defers]; exact hd) (by rw [put_size]; exact hn) (hq.mono hB hI)
           rcases hrun with hrun | ⟨hrun, rfl⟩
           · rw [hrun, Oper.upon_value]; exact hgo
           · rw [hrun, Oper.upon_skip]; exact hgo
       have skip : ∀ (e : Env) (G : Nat), REnv B I e a.tmps → F P G (.ops ss (updO e s.dst .und) H k) → wpList P all Q l (a.put o.dst undef) w := by
         intro e G he hk
         rw [hdd]
         exact ops_sound hrest hk hs (skip_env he _) (by rw [put_defers]; exact hd) (by rw [put_size]; exact hn) hq
       cases n with
       | zero => exact hF.elim
       | succ n =>
         obtain ⟨sd, sop, sg⟩ := s
         cases hog : o.guard with
         | none =>
           rw [hog] at hg
           cases sg with
           | some _ => simp [chkGuard] at hg
           | none =>
             rw [F_op] at hF
             unfold wpList
             rw [if_pos (by simp [Region.wanted, hog])]
             exact .inl (run e n he hF)
         | some jb =>
           obtain ⟨j, want⟩ := jb
           rw [hog] at hg
           cases sg with
           | none => simp [chkGuard] at hg
           | some tb =>
             obtain ⟨t, want'⟩ := tb
             simp only [chkGuard, Bool.and_eq_true, beq_iff_eq, decide_eq_true_eq] at hg
             obtain ⟨⟨rfl, hj⟩, ht⟩ := hg
             have hy := yielded_of (a := a) (env := e) hj (by omega) he (v := e t) rfl
             have hwant : ∀ b, e t = .bool b → (Region.wanted o (yielded all a.tmps) = decide (b = want)) := by
               intro b hb
               simp only [Region.wanted, hog, hy.1 b hb]
               cases b <;> cases want <;> rfl
             cases hv : e t with
             | bool b =>
               have hw := hwant b hv
               unfold wpList
               rw [hw]
               cases want with
               | true =>
                 rw [F_opT, hv] at hF
                 cases b with
                 | true => simp only [decide_true, if_true]; have := hF.1 rfl; rw [upd_self hv rfl] at this; exact .inl (run e n he this)
                 | false => simp only [Bool.false_eq_true, decide_false, if_false]; have := hF.2 rfl; rw [upd_self hv rfl] at this; exact skip e n he this
               | false =>
                 rw [F_opF, hv] at hF
                 cases b with
                 | true => simp only [Bool.true_eq_false, decide_false, if_false, Bool.false_eq_true]; have := hF.1 rfl; rw [upd_self hv rfl] at this; exact skip e n he this
                 | false => simp only [decide_true, if_true]; have := hF.2 rfl; rw [upd_self hv rfl] at this; exact .inl (run e n he this)
             | und =>
               unfold wpList
               have hw : Region.wanted o (yielded all a.tmps) = false := by
                 simp only [Region.wanted, hog, hy.2 hv]; rfl
               rw [hw]
               simp only [Bool.false_eq_true, if_false]
               cases want with
               | true => rw [F_opT, hv] at hF; exact skip e n he hF
               | false => rw [F_opF, hv] at hF; exact skip e n he hF
             | _ => cases want <;> first | (rw [F_opT, hv] at hF; exact hF.elim) | (rw [F_opF, hv] at hF; exact hF.elim)
end
end Go.Proofs.YteoboibjepokoaaGreatDoor.Av
