/- Proved: for every list of numbers the law WaysFollowed answers true and leaves its argument as it was (the tied card); no condition beyond the row's own. Text 9 of 15. -/
import Derived.Test.YtdgoeblpcnjlbaaGreatDoorW8
set_option linter.unusedVariables false
set_option linter.unusedSimpArgs false
set_option linter.unusedSectionVars false
set_option linter.all false
namespace Go.Proofs.YtdgoeblpcnjlbaaGreatDoor.Av
open Go.RowKit
set_option maxRecDepth 20000 in
set_option maxHeartbeats 8000000 in
theorem b15k2 (L : List Int) (roles : List ByteArray) (heads : List Hd) (d : Int) (hr : 2 ≤ roles.length) (hr2 : roles.length ≤ 12) (hd0 : 0 ≤ d) (hd1 : d ≤ 10) (hh : heads.length ≤ 10) (hh2 : ∀ h ∈ heads, h.2.length ≤ 12)
  (tw : Nat → ByteArray × ByteArray) (tr2 tr3 : Nat → Ex × Nat) (od : Nat → List Int × Nat) (sb : Nat → List St × Nat) (M : Nat) (hMb : M ≤ 500000) (hM : M15 M L roles d heads tw tr2 tr3 od sb) (aj : Nat) (haj : aj ≤ M)
  (hP : pk9 L (aj + 2) = 2) : B15 L roles d heads tw tr2 tr3 od sb aj := by
 intro sid n N T j kv acc J e H m kk hT hL hjn hn hacc hk
 obtain ⟨e0, e1, e2, e4, e11, e20, e21, rfl, hov, hkn⟩ := hL
 have hlj : ((j : Int) < n) := by omega
 have hw2 : IntKind.i64.wrap ((j : Int) + 1) = ((j + 1 : Nat) : Int) := wrap_succ (by omega)
 have h5 := (t5 L (aj + 2) [1, 1, 1, 2, 3, 3, 4, 4, 5] (by omega) (by simp) (by simp)).at hT J
 simp only [List.map_cons, List.map_nil, List.length_cons, List.length_nil, Nat.zero_add, Nat.reduceAdd] at h5
 change ACall _ _ _ _ (ret1 (.int .i64 (pk9 L (aj + 2))) _) at h5
 have h40 := (hM.tw aj (by omega)).at hT J
 rw [hP] at h5
 generalize htw : tw aj = tw0 at *
 obtain ⟨r1, r2⟩ := tw0
 simp only at h40
 have h41 := (t41 L (aj + 3) lyes (by omega) (by decide) (by decide))
 simp only [lyes, List.map_cons, List.map_nil] at h41
 change MC _ _ _ _ (.str (so3 L (aj + 3) lyes)) _ at h41
 generalize hso : so3 L (aj + 3) lyes = so at *
 have hx : one L roles d heads tw tr2 tr3 od sb aj = ([.mk 2 r1 r2 em so ex0 [] [] em []], aj + 4) := by simp [one, hP, htw, hso]
 simp (maxSteps := 1000000) -implicitDefEqProofs only [bm15u0, e0, e1, e2, e4, e11, e20, e21, hT.tok.len, hT.tok.at0, hT.tok.atS, hT.tok.set0, hT.tok.setS, hT.tok.get, hlj, hw2, Int.reduceEq, go_sem]
 repeat' (first | ((first | (with_reducible first | refine cgA h40 ?_ | refine cgA h5 ?_ | refine cgA ((h41.at hT _)) ?_) | (with_reducible refine F_q2 ?_)); simp (maxSteps := 1000000) -implicitDefEqProofs only [e0, e1, e2, e4, e11, e20, e21, hT.tok.len, hT.tok.at0, hT.tok.atS, hT.tok.set0, hT.tok.setS, hT.tok.get, hlj, hw2, Int.reduceEq, go_sem]) | (with_reducible refine Fork.mk ?_ ?_) | (with_reducible refine And.intro ?_ ?_) | ((with_reducible refine rpI ?_); simp (maxSteps := 1000000) -implicitDefEqProofs only [rm15, hT.tok.len, hT.tok.at0, hT.tok.atS, hT.tok.set0, hT.tok.setS, hT.tok.get, push_cast, go_sem_proc]) | intro _)
 refine ⟨[], .agg [.int .i64 2, .str r1, .str r2, .str ⟨#[]⟩, .str so, .int .i64 0, .int .i64 0, .str ⟨#[]⟩, .fs [], .fs [], .fs [], .str ⟨#[]⟩, .fs []], fz_mono _ _ (by simp (maxSteps := 1000000) -implicitDefEqProofs only [push_cast, go_sem_proc]), ?_⟩
 simp only [killL]
 simp (maxSteps := 1000000) -implicitDefEqProofs only [e0, e1, e2, e4, e11, e20, e21, hT.tok.len, hT.tok.at0, hT.tok.atS, hT.tok.set0, hT.tok.setS, hT.tok.get, hlj, hw2, Int.reduceEq, go_sem]
 refine app_T0 hT.tok (acc := acc.map encS) ?_ hkn ?_ (headOk_S _) ?_ ?_
 ·have := hov.tail (hT.tok.len _) hkn (hT.tok.len (aj + 4))
  simpa using this.app _
 ·intro i o l h; cases h
 ·simp; omega
 ·intro kv' J' hov' hkn'
  simp (maxSteps := 1000000) -implicitDefEqProofs only [e0, e1, e2, e4, e11, e20, e21, hT.tok.len, hT.tok.at0, hT.tok.atS, hT.tok.set0, hT.tok.setS, hT.tok.get, hlj, hw2, Int.reduceEq, go_sem]
  refine hk _ _ kv' J' _ ⟨?_, ?_, ?_, ?_, ?_, ?_, ?_, ?_, ?_, ?_⟩
  all_goals first
   | (simp only [upd, e0, e1, e2, e4, e20]; simp; done)
   | (simp only [upd, e0, e1, e2, e4, e20]; simp [hhd]; done)
   | (rw [hx]; done)
   | (rw [hx]; simpa [encS_mk, encE_mk, em, ex0] using hov')
   | (simpa using hkn')
set_option maxRecDepth 20000 in
set_option maxHeartbeats 8000000 in
theorem b15k3a (L : List Int) (roles : List ByteArray) (heads : List Hd) (d : Int) (hr : 2 ≤ roles.length) (hr2 : roles.length ≤ 12) (hd0 : 0 ≤ d) (hd1 : d ≤ 10) (hh : heads.length ≤ 10) (hh2 : ∀ h ∈ heads, h.2.length ≤ 12)
  (tw : Nat → ByteArray × ByteArray) (tr2 tr3 : Nat → Ex × Nat) (od : Nat → List Int × Nat) (sb : Nat → List St × Nat) (M : Nat) (hMb : M ≤ 500000) (hM : M15 M L roles d heads tw tr2 tr3 od sb) (aj : Nat) (haj : aj ≤ M)
  (hP : pk9 L (aj + 2) = 3) : B15 L roles d heads tw tr2 tr3 od sb aj := by
 intro sid n N T j kv acc J e H m kk hT hL hjn hn hacc hk
 obtain ⟨e0, e1, e2, e4, e11, e20, e21, rfl, hov, hkn⟩ := hL
 have hlj : ((j : Int) < n) := by omega
 have hw2 : IntKind.i64.wrap ((j : Int) + 1) = ((j + 1 : Nat) : Int) := wrap_succ (by omega)
 have h5 := (t5 L (aj + 2) [1, 1, 1, 2, 3, 3, 4, 4, 5] (by omega) (by simp) (by simp)).at hT J
 simp only [List.map_cons, List.map_nil, List.length_cons, List.length_nil, Nat.zero_add, Nat.reduceAdd] at h5
 change ACall _ _ _ _ (ret1 (.int .i64 (pk9 L (aj + 2))) _) at h5
 have h40 := (hM.tw aj (by omega)).at hT J
 rw [hP] at h5
 generalize htw : tw aj = tw0 at *
 obtain ⟨r1, r2⟩ := tw0
 simp only at h40
 have h41 := (t41 L (aj + 3) vxyz (by omega) (by decide) (by decide))
 simp only [vxyz, List.map_cons, List.map_nil] at h41
 change MC _ _ _ _ (.str (so3 L (aj + 3) vxyz)) _ at h41
 generalize hso : so3 L (aj + 3) vxyz = so at *
 obtain ⟨t1, t2, _, h42⟩ := hM.tr3 (aj + 4) (by omega)
 generalize htr : tr3 (aj + 4) = tr at *
 obtain ⟨⟨ek, en, es, eas⟩, a1⟩ := tr
 simp only [encE_mk] at h42 t1 t2
 have hx : one L roles d heads tw tr2 tr3 od sb aj = ([.mk 3 r1 em so em (.mk ek en es eas) [] [] em []], a1) := by simp [one, hP, htw, hso, htr]
 simp (maxSteps := 1000000) -implicitDefEqProofs only [bm15u0, e0, e1, e2, e4, e11, e20, e21, hT.tok.len, hT.tok.at0, hT.tok.atS, hT.tok.set0, hT.tok.setS, hT.tok.get, hlj, hw2, Int.reduceEq, go_sem]
 repeat' (first | ((first | (with_reducible first | refine cgA h40 ?_ | refine cgA h5 ?_ | refine cgA ((h41.at hT _)) ?_ | refine cgA ((h42.at hT _)) ?_) | (with_reducible refine F_q2 ?_)); simp (maxSteps := 1000000) -implicitDefEqProofs only [e0, e1, e2, e4, e11, e20, e21, hT.tok.len, hT.tok.at0, hT.tok.atS, hT.tok.set0, hT.tok.setS, hT.tok.get, hlj, hw2, Int.reduceEq, go_sem]) | (with_reducible refine Fork.mk ?_ ?_) | (with_reducible refine And.intro ?_ ?_) | ((with_reducible refine rpI ?_); simp (maxSteps := 1000000) -implicitDefEqProofs only [rm15, hT.tok.len, hT.tok.at0, hT.tok.atS, hT.tok.set0, hT.tok.setS, hT.tok.get, push_cast, go_sem_proc]) | intro _)
 refine ⟨[], .agg [.int .i64 3, .str r1, .str ⟨#[]⟩, .str so, .str ⟨#[]⟩, .int .i64 ek, .int .i64 en, .str es, .fs (eas.map encE), .fs [], .fs [], .str ⟨#[]⟩, .fs []], fz_mono _ _ (by simp (maxSteps := 1000000) -implicitDefEqProofs only [push_cast, go_sem_proc]), ?_⟩
 simp only [killL]
 simp (maxSteps := 1000000) -implicitDefEqProofs only [e0, e1, e2, e4, e11, e20, e21, hT.tok.len, hT.tok.at0, hT.tok.atS, hT.tok.set0, hT.tok.setS, hT.tok.get, hlj, hw2, Int.reduceEq, go_sem]
 refine app_T0 hT.tok (acc := acc.map encS) ?_ hkn ?_ (headOk_S _) ?_ ?_
 ·have := hov.tail (hT.tok.len _) hkn (hT.tok.len (a1))
  simpa using this.app _
 ·intro i o l h; cases h
 ·simp; omega
 ·intro kv' J' hov' hkn'
  simp (maxSteps := 1000000) -implicitDefEqProofs only [e0, e1, e2, e4, e11, e20, e21, hT.tok.len, hT.tok.at0, hT.tok.atS, hT.tok.set0, hT.tok.setS, hT.tok.get, hlj, hw2, Int.reduceEq, go_sem]
  refine hk _ _ kv' J' _ ⟨?_, ?_, ?_, ?_, ?_, ?_, ?_, ?_, ?_, ?_⟩
  all_goals first
   | (simp only [upd, e0, e1, e2, e4, e20]; simp; done)
   | (simp only [upd, e0, e1, e2, e4, e20]; simp [hhd]; done)
   | (rw [hx]; done)
   | (rw [hx]; simpa [encS_mk, encE_mk, em, ex0] using hov')
   | (simpa using hkn')
set_option maxRecDepth 20000 in
set_option maxHeartbeats 8000000 in
theorem b15k3b (L : List Int) (roles : List ByteArray) (heads : List Hd) (d : Int) (hr : 2 ≤ roles.length) (hr2 : roles.length ≤ 12) (hd0 : 0 ≤ d) (hd1 : d ≤ 10) (hh : heads.length ≤ 10) (hh2 : ∀ h ∈ heads, h.2.length ≤ 12)
  (tw : Nat → ByteArray × ByteArray) (tr2 tr3 : Nat → Ex × Nat) (od : Nat → List Int × Nat) (sb : Nat → List St × Nat) (M : Nat) (hMb : M ≤ 500000) (hM : M15 M L roles d heads tw tr2 tr3 od sb) (aj : Nat) (haj : aj ≤ M)
  (hP : pk9 L (aj + 2) = 4) (hd2 : d < 2) : B15 L roles d heads tw tr2 tr3 od sb aj := by
 intro sid n N T j kv acc J e H m kk hT hL hjn hn hacc hk
 obtain ⟨e0, e1, e2, e4, e11, e20, e21, rfl, hov, hkn⟩ := hL
 have hlj : ((j : Int) < n) := by omega
 have hw2 : IntKind.i64.wrap ((j : Int) + 1) = ((j + 1 : Nat) : Int) := wrap_succ (by omega)
 have h5 := (t5 L (aj + 2) [1, 1, 1, 2, 3, 3, 4, 4, 5] (by omega) (by simp) (by simp)).at hT J
 simp only [List.map_cons, List.map_nil, List.length_cons, List.length_nil, Nat.zero_add, Nat.reduceAdd] at h5
 change ACall _ _ _ _ (ret1 (.int .i64 (pk9 L (aj + 2))) _) at h5
 have h40 := (hM.tw aj (by omega)).at hT J
 rw [hP] at h5
 generalize htw : tw aj = tw0 at *
 obtain ⟨r1, r2⟩ := tw0
 simp only at h40
 have h41 := (t41 L (aj + 3) vxyz (by omega) (by decide) (by decide))
 simp only [vxyz, List.map_cons, List.map_nil] at h41
 change MC _ _ _ _ (.str (so3 L (aj + 3) vxyz)) _ at h41
 generalize hso : so3 L (aj + 3) vxyz = so at *
 obtain ⟨t1, t2, _, h42⟩ := hM.tr3 (aj + 4) (by omega)
 generalize htr : tr3 (aj + 4) = tr at *
 obtain ⟨⟨ek, en, es, eas⟩, a1⟩ := tr
 simp only [encE_mk] at h42 t1 t2
 have hx : one L roles d heads tw tr2 tr3 od sb aj = ([.mk 3 r1 em so em (.mk ek en es eas) [] [] em []], a1) := by simp [one, hP, hd2, htw, hso, htr]
 simp (maxSteps := 1000000) -implicitDefEqProofs only [bm15u0, e0, e1, e2, e4, e11, e20, e21, hT.tok.len, hT.tok.at0, hT.tok.atS, hT.tok.set0, hT.tok.setS, hT.tok.get, hlj, hw2, Int.reduceEq, hd2, go_sem]
 repeat' (first | ((first | (with_reducible first | refine cgA h40 ?_ | refine cgA h5 ?_ | refine cgA ((h41.at hT _)) ?_ | refine cgA ((h42.at hT _)) ?_) | (with_reducible refine F_q2 ?_)); simp (maxSteps := 1000000) -implicitDefEqProofs only [e0, e1, e2, e4, e11, e20, e21, hT.tok.len, hT.tok.at0, hT.tok.atS, hT.tok.set0, hT.tok.setS, hT.tok.get, hlj, hw2, Int.reduceEq, hd2, go_sem]) | (with_reducible refine Fork.mk ?_ ?_) | (with_reducible refine And.intro ?_ ?_) | ((with_reducible refine rpI ?_); simp (maxSteps := 1000000) -implicitDefEqProofs only [rm15, hT.tok.len, hT.tok.at0, hT.tok.atS, hT.tok.set0, hT.tok.setS, hT.tok.get, push_cast, go_sem_proc]) | intro _)
 refine ⟨[], .agg [.int .i64 3, .str r1, .str ⟨#[]⟩, .str so, .str ⟨#[]⟩, .int .i64 ek, .int .i64 en, .str es, .fs (eas.map encE), .fs [], .fs [], .str ⟨#[]⟩, .fs []], fz_mono _ _ (by simp (maxSteps := 1000000) -implicitDefEqProofs only [push_cast, go_sem_proc]), ?_⟩
 simp only [killL]
 simp (maxSteps := 1000000) -implicitDefEqProofs only [e0, e1, e2, e4, e11, e20, e21, hT.tok.len, hT.tok.at0, hT.tok.atS, hT.tok.set0, hT.tok.setS, hT.tok.get, hlj, hw2, Int.reduceEq, hd2, go_sem]
 refine app_T0 hT.tok (acc := acc.map encS) ?_ hkn ?_ (headOk_S _) ?_ ?_
 ·have := hov.tail (hT.tok.len _) hkn (hT.tok.len (a1))
  simpa using this.app _
 ·intro i o l h; cases h
 ·simp; omega
 ·intro kv' J' hov' hkn'
  simp (maxSteps := 1000000) -implicitDefEqProofs only [e0, e1, e2, e4, e11, e20, e21, hT.tok.len, hT.tok.at0, hT.tok.atS, hT.tok.set0, hT.tok.setS, hT.tok.get, hlj, hw2, Int.reduceEq, hd2, go_sem]
  refine hk _ _ kv' J' _ ⟨?_, ?_, ?_, ?_, ?_, ?_, ?_, ?_, ?_, ?_⟩
  all_goals first
   | (simp only [upd, e0, e1, e2, e4, e20]; simp; done)
   | (simp only [upd, e0, e1, e2, e4, e20]; simp [hhd]; done)
   | (rw [hx]; done)
   | (rw [hx]; simpa [encS_mk, encE_mk, em, ex0] using hov')
   | (simpa using hkn')
set_option maxRecDepth 20000 in
set_option maxHeartbeats 8000000 in
theorem b15k3c (L : List Int) (roles : List ByteArray) (heads : List Hd) (d : Int) (hr : 2 ≤ roles.length) (hr2 : roles.length ≤ 12) (hd0 : 0 ≤ d) (hd1 : d ≤ 10) (hh : heads.length ≤ 10) (hh2 : ∀ h ∈ heads, h.2.length ≤ 12)
  (tw : Nat → ByteArray × ByteArray) (tr2 tr3 : Nat → Ex × Nat) (od : Nat → List Int × Nat) (sb : Nat → List St × Nat) (M : Nat) (hMb : M ≤ 500000) (hM : M15 M L roles d heads tw tr2 tr3 od sb) (aj : Nat) (haj : aj ≤ M)
  (hP : pk9 L (aj + 2) = 5) (hhd : heads = []) : B15 L roles d heads tw tr2 tr3 od sb aj := by
 intro sid n N T j kv acc J e H m kk hT hL hjn hn hacc hk
 obtain ⟨e0, e1, e2, e4, e11, e20, e21, rfl, hov, hkn⟩ := hL
 have hlj : ((j : Int) < n) := by omega
 have hw2 : IntKind.i64.wrap ((j : Int) + 1) = ((j + 1 : Nat) : Int) := wrap_succ (by omega)
 have h5 := (t5 L (aj + 2) [1, 1, 1, 2, 3, 3, 4, 4, 5] (by omega) (by simp) (by simp)).at hT J
 simp only [List.map_cons, List.map_nil, List.length_cons, List.length_nil, Nat.zero_add, Nat.reduceAdd] at h5
 change ACall _ _ _ _ (ret1 (.int .i64 (pk9 L (aj + 2))) _) at h5
 have h40 := (hM.tw aj (by omega)).at hT J
 rw [hP] at h5
 rw [hhd, List.map_nil] at e4
 have h00 : ((0 : Nat) : Int) = 0 := rfl
 generalize htw : tw aj = tw0 at *
 obtain ⟨r1, r2⟩ := tw0
 simp only at h40
 have h41 := (t41 L (aj + 3) vxyz (by omega) (by decide) (by decide))
 simp only [vxyz, List.map_cons, List.map_nil] at h41
 change MC _ _ _ _ (.str (so3 L (aj + 3) vxyz)) _ at h41
 generalize hso : so3 L (aj + 3) vxyz = so at *
 obtain ⟨t1, t2, _, h42⟩ := hM.tr3 (aj + 4) (by omega)
 generalize htr : tr3 (aj + 4) = tr at *
 obtain ⟨⟨ek, en, es, eas⟩, a1⟩ := tr
 simp only [encE_mk] at h42 t1 t2
 have hx : one L roles d heads tw tr2 tr3 od sb aj = ([.mk 3 r1 em so em (.mk ek en es eas) [] [] em []], a1) := by simp [one, hP, hhd, htw, hso, htr]
 simp (maxSteps := 1000000) -implicitDefEqProofs only [bm15u0, e0, e1, e2, e4, e11, e20, e21, hT.tok.len, hT.tok.at0, hT.tok.atS, hT.tok.set0, hT.tok.setS, hT.tok.get, hlj, hw2, Int.reduceEq, h00, go_sem]
 repeat' (first | ((first | (with_reducible first | refine cgA h40 ?_ | refine cgA h5 ?_ | refine cgA ((h41.at hT _)) ?_ | refine cgA ((h42.at hT _)) ?_) | (with_reducible refine F_q2 ?_)); simp (maxSteps := 1000000) -implicitDefEqProofs only [e0, e1, e2, e4, e11, e20, e21, hT.tok.len, hT.tok.at0, hT.tok.atS, hT.tok.set0, hT.tok.setS, hT.tok.get, hlj, hw2, Int.reduceEq, h00, go_sem]) | (with_reducible refine Fork.mk ?_ ?_) | (with_reducible refine And.intro ?_ ?_) | ((with_reducible refine rpI ?_); simp (maxSteps := 1000000) -implicitDefEqProofs only [rm15, hT.tok.len, hT.tok.at0, hT.tok.atS, hT.tok.set0, hT.tok.setS, hT.tok.get, push_cast, go_sem_proc]) | intro _)
 refine ⟨[], .agg [.int .i64 3, .str r1, .str ⟨#[]⟩, .str so, .str ⟨#[]⟩, .int .i64 ek, .int .i64 en, .str es, .fs (eas.map encE), .fs [], .fs [], .str ⟨#[]⟩, .fs []], fz_mono _ _ (by simp (maxSteps := 1000000) -implicitDefEqProofs only [push_cast, go_sem_proc]), ?_⟩
 simp only [killL]
 simp (maxSteps := 1000000) -implicitDefEqProofs only [e0, e1, e2, e4, e11, e20, e21, hT.tok.len, hT.tok.at0, hT.tok.atS, hT.tok.set0, hT.tok.setS, hT.tok.get, hlj, hw2, Int.reduceEq, h00, go_sem]
 refine app_T0 hT.tok (acc := acc.map encS) ?_ hkn ?_ (headOk_S _) ?_ ?_
 ·have := hov.tail (hT.tok.len _) hkn (hT.tok.len (a1))
  simpa using this.app _
 ·intro i o l h; cases h
 ·simp; omega
 ·intro kv' J' hov' hkn'
  simp (maxSteps := 1000000) -implicitDefEqProofs only [e0, e1, e2, e4, e11, e20, e21, hT.tok.len, hT.tok.at0, hT.tok.atS, hT.tok.set0, hT.tok.setS, hT.tok.get, hlj, hw2, Int.reduceEq, h00, go_sem]
  refine hk _ _ kv' J' _ ⟨?_, ?_, ?_, ?_, ?_, ?_, ?_, ?_, ?_, ?_⟩
  all_goals first
   | (simp only [upd, e0, e1, e2, e4, e20]; simp; done)
   | (simp only [upd, e0, e1, e2, e4, e20]; simp [hhd]; done)
   | (rw [hx]; done)
   | (rw [hx]; simpa [encS_mk, encE_mk, em, ex0] using hov')
   | (simpa using hkn')
set_option maxRecDepth 20000 in
set_option maxHeartbeats 8000000 in
theorem b15k4 (L : List Int) (roles : List ByteArray) (heads : List Hd) (d : Int) (hr : 2 ≤ roles.length) (hr2 : roles.length ≤ 12) (hd0 : 0 ≤ d) (hd1 : d ≤ 10) (hh : heads.length ≤ 10) (hh2 : ∀ h ∈ heads, h.2.length ≤ 12)
  (tw : Nat → ByteArray × ByteArray) (tr2 tr3 : Nat → Ex × Nat) (od : Nat → List Int × Nat) (sb : Nat → List St × Nat) (M : Nat) (hMb : M ≤ 500000) (hM : M15 M L roles d heads tw tr2 tr3 od sb) (aj : Nat) (haj : aj ≤ M)
  (hP : pk9 L (aj + 2) = 4) (hd2 : ¬ d < 2) : B15 L roles d heads tw tr2 tr3 od sb aj := by
 intro sid n N T j kv acc J e H m kk hT hL hjn hn hacc hk
 obtain ⟨e0, e1, e2, e4, e11, e20, e21, rfl, hov, hkn⟩ := hL
 have hlj : ((j : Int) < n) := by omega
 have hw2 : IntKind.i64.wrap ((j : Int) + 1) = ((j + 1 : Nat) : Int) := wrap_succ (by omega)
 have h5 := (t5 L (aj + 2) [1, 1, 1, 2, 3, 3, 4, 4, 5] (by omega) (by simp) (by simp)).at hT J
 simp only [List.map_cons, List.map_nil, List.length_cons, List.length_nil, Nat.zero_add, Nat.reduceAdd] at h5
 change ACall _ _ _ _ (ret1 (.int .i64 (pk9 L (aj + 2))) _) at h5
 have h40 := (hM.tw aj (by omega)).at hT J
 rw [hP] at h5
 generalize htw : tw aj = tw0 at *
 obtain ⟨r1, r2⟩ := tw0
 simp only at h40
 obtain ⟨t1, t2, _, h42⟩ := hM.tr2 (aj + 3) (by omega)
 generalize htr : tr2 (aj + 3) = tr at *
 obtain ⟨⟨ek, en, es, eas⟩, a1⟩ := tr
 simp only [encE_mk] at h42 t1 t2
 obtain ⟨u1, u2, hs1⟩ := hM.sb (by omega) a1 (by omega)
 generalize hsb1 : sb a1 = sr1 at *
 obtain ⟨x2, a2⟩ := sr1
 simp only at hs1 u1 u2
 obtain ⟨u3, u4, hs2⟩ := hM.sb (by omega) a2 (by omega)
 generalize hsb2 : sb a2 = sr2 at *
 obtain ⟨x3, a3⟩ := sr2
 simp only at hs2 u3 u4
 have wd : IntKind.i64.wrap (d - 1) = d - 1 := wrap_int (by omega) (by omega)
 have hx : one L roles d heads tw tr2 tr3 od sb aj = ([.mk 4 r1 em em em (.mk ek en es eas) x2 x3 em []], a3) := by simp [one, hP, hd2, htw, htr, hsb1, hsb2]
 simp (maxSteps := 1000000) -implicitDefEqProofs only [bm15u0, e0, e1, e2, e4, e11, e20, e21, hT.tok.len, hT.tok.at0, hT.tok.atS, hT.tok.set0, hT.tok.setS, hT.tok.get, hlj, hw2, Int.reduceEq, hd2, wd, go_sem]
 repeat' (first | ((first | (with_reducible first | refine cgA h40 ?_ | refine cgA h5 ?_ | refine cgA ((h42.at hT _)) ?_ | refine cgA ((hs1.at hT _)) ?_ | refine cgA ((hs2.at hT _)) ?_) | (with_reducible refine F_q2 ?_)); simp (maxSteps := 1000000) -implicitDefEqProofs only [e0, e1, e2, e4, e11, e20, e21, hT.tok.len, hT.tok.at0, hT.tok.atS, hT.tok.set0, hT.tok.setS, hT.tok.get, hlj, hw2, Int.reduceEq, hd2, wd, go_sem]) | (with_reducible refine Fork.mk ?_ ?_) | (with_reducible refine And.intro ?_ ?_) | ((with_reducible refine rpI ?_); simp (maxSteps := 1000000) -implicitDefEqProofs only [rm15, hT.tok.len, hT.tok.at0, hT.tok.atS, hT.tok.set0, hT.tok.setS, hT.tok.get, push_cast, go_sem_proc]) | intro _)
 refine ⟨[], .agg [.int .i64 4, .str r1, .str ⟨#[]⟩, .str ⟨#[]⟩, .str ⟨#[]⟩, .int .i64 ek, .int .i64 en, .str es, .fs (eas.map encE), .fs (x2.map encS), .fs (x3.map encS), .str ⟨#[]⟩, .fs []], fz_mono _ _ (by simp (maxSteps := 1000000) -implicitDefEqProofs only [push_cast, go_sem_proc]), ?_⟩
 simp only [killL]
 simp (maxSteps := 1000000) -implicitDefEqProofs only [e0, e1, e2, e4, e11, e20, e21, hT.tok.len, hT.tok.at0, hT.tok.atS, hT.tok.set0, hT.tok.setS, hT.tok.get, hlj, hw2, Int.reduceEq, hd2, wd, go_sem]
 refine app_T0 hT.tok (acc := acc.map encS) ?_ hkn ?_ (headOk_S _) ?_ ?_
 ·have := hov.tail (hT.tok.len _) hkn (hT.tok.len (a3))
  simpa using this.app _
 ·intro i o l h; cases h
 ·simp; omega
 ·intro kv' J' hov' hkn'
  simp (maxSteps := 1000000) -implicitDefEqProofs only [e0, e1, e2, e4, e11, e20, e21, hT.tok.len, hT.tok.at0, hT.tok.atS, hT.tok.set0, hT.tok.setS, hT.tok.get, hlj, hw2, Int.reduceEq, hd2, wd, go_sem]
  refine hk _ _ kv' J' _ ⟨?_, ?_, ?_, ?_, ?_, ?_, ?_, ?_, ?_, ?_⟩
  all_goals first
   | (simp only [upd, e0, e1, e2, e4, e20]; simp; done)
   | (simp only [upd, e0, e1, e2, e4, e20]; simp [hhd]; done)
   | (rw [hx]; done)
   | (rw [hx]; simpa [encS_mk, encE_mk, em, ex0] using hov')
   | (simpa using hkn')
set_option maxRecDepth 20000 in
set_option maxHeartbeats 8000000 in
theorem b15k5 (L : List Int) (roles : List ByteArray) (heads : List Hd) (d : Int) (hr : 2 ≤ roles.length) (hr2 : roles.length ≤ 12) (hd0 : 0 ≤ d) (hd1 : d ≤ 10) (hh : heads.length ≤ 10) (hh2 : ∀ h ∈ heads, h.2.length ≤ 12)
  (tw : Nat → ByteArray × ByteArray) (tr2 tr3 : Nat → Ex × Nat) (od : Nat → List Int × Nat) (sb : Nat → List St × Nat) (M : Nat) (hMb : M ≤ 500000) (hM : M15 M L roles d heads tw tr2 tr3 od sb) (aj : Nat) (haj : aj ≤ M)
  (hP : pk9 L (aj + 2) = 5) (hhd : heads ≠ []) : B15 L roles d heads tw tr2 tr3 od sb aj := by
 intro sid n N T j kv acc J e H m kk hT hL hjn hn hacc hk
 obtain ⟨e0, e1, e2, e4, e11, e20, e21, rfl, hov, hkn⟩ := hL
 have hlj : ((j : Int) < n) := by omega
 have hw2 : IntKind.i64.wrap ((j : Int) + 1) = ((j + 1 : Nat) : Int) := wrap_succ (by omega)
 have h5 := (t5 L (aj + 2) [1, 1, 1, 2, 3, 3, 4, 4, 5] (by omega) (by simp) (by simp)).at hT J
 simp only [List.map_cons, List.map_nil, List.length_cons, List.length_nil, Nat.zero_add, Nat.reduceAdd] at h5
 change ACall _ _ _ _ (ret1 (.int .i64 (pk9 L (aj + 2))) _) at h5
 have h40 := (hM.tw aj (by omega)).at hT J
 rw [hP] at h5
 generalize htw : tw aj = tw0 at *
 obtain ⟨r1, r2⟩ := tw0
 simp only at h40
 have hhl : 1 ≤ heads.length := by cases heads with
  | nil => exact absurd rfl hhd
  | cons _ _ => simp
 have hbn := nxF_bound (L := L) (a := aj + 3) (n := heads.length) (by omega) (by omega)
 have h16 := t16 L (aj + 3) heads.length (by omega)
 have hx0 : one L roles d heads tw tr2 tr3 od sb aj = if (heads.getD (nxF L (aj + 3) heads.length).toNat (em, [])).2.length > roles.length then ([], aj + 4) else ([.mk 5 em em em em ex0 [] [] (heads.getD (nxF L (aj + 3) heads.length).toNat (em, [])).1 (((od (aj + 4)).1.take (heads.getD (nxF L (aj + 3) heads.length).toNat (em, [])).2.length).map fun i => roles.getD i.toNat em)], (od (aj + 4)).2) := by simp [one, hP, hhd]
 generalize nxF L (aj + 3) heads.length = v at *
 obtain ⟨ix, rfl⟩ : ∃ ix : Nat, v = ix := ⟨v.toNat, by omega⟩
 simp only [Int.toNat_natCast] at hx0
 have hixl : ix < heads.length := by omega
 have hgh : (heads.map encH).getD ix .any = encH (heads.getD ix (em, [])) := by simp [List.getD, hixl]
 have hmem : heads.getD ix (em, []) ∈ heads := by simp [List.getD, hixl]
 have hpl := hh2 _ hmem
 generalize heads.getD ix (em, []) = hd at *
 obtain ⟨key, params⟩ := hd
 simp only at hx0 hpl
 simp only [encH] at hgh
 have hl0 : ¬ ((heads.length : Int) = 0) := by omega
 by_cases hgt : params.length > roles.length
 ·have hx : one L roles d heads tw tr2 tr3 od sb aj = ([], aj + 4) := by rw [hx0, if_pos hgt]
  have hgt2 : ((roles.length : Int) < params.length) := by omega
  simp (maxSteps := 1000000) -implicitDefEqProofs only [bm15u0, e0, e1, e2, e4, e11, e20, e21, hT.tok.len, hT.tok.at0, hT.tok.atS, hT.tok.set0, hT.tok.setS, hT.tok.get, hlj, hw2, Int.reduceEq, Int.reduceLT, hl0, hixl, hgh, hgt2, go_sem]
  repeat' (first | ((first | (with_reducible first | refine cgA h40 ?_ | refine cgA h5 ?_ | refine cgA ((h16.at hT _)) ?_) | (with_reducible refine F_q2 ?_)); simp (maxSteps := 1000000) -implicitDefEqProofs only [e0, e1, e2, e4, e11, e20, e21, hT.tok.len, hT.tok.at0, hT.tok.atS, hT.tok.set0, hT.tok.setS, hT.tok.get, hlj, hw2, Int.reduceEq, Int.reduceLT, hl0, hixl, hgh, hgt2, go_sem]) | (with_reducible refine Fork.mk ?_ ?_) | (with_reducible refine And.intro ?_ ?_) | ((with_reducible refine rpI ?_); simp (maxSteps := 1000000) -implicitDefEqProofs only [rm15, hT.tok.len, hT.tok.at0, hT.tok.atS, hT.tok.set0, hT.tok.setS, hT.tok.get, push_cast, go_sem_proc]) | intro _)
  refine hk _ _ kv (J ++ [Blk.row [.agg [.int .i64 5, .str ⟨#[]⟩, .str ⟨#[]⟩, .str ⟨#[]⟩, .str ⟨#[]⟩, .int .i64 0, .int .i64 0, .str ⟨#[]⟩, .nils, .nils, .nils, .str ⟨#[]⟩, .nils]], Blk.row [.agg [.str key, .fs (params.map .str)]]]) _ ⟨?_, ?_, ?_, ?_, ?_, ?_, ?_, ?_, ?_, ?_⟩
  all_goals first
   | (simp only [upd, e0, e1, e2, e4, e11, e20]; simp; done)
   | (rw [hx]; done)
   | (rw [hx]; simpa using (hov.tail (hT.tok.len _) hkn (hT.tok.len (aj + 4))).app _)
   | (simpa using hkn)
 ·have hx := hx0
  rw [if_neg hgt] at hx
  have hgt2 : ¬ ((roles.length : Int) < params.length) := by omega
  obtain ⟨g1, g2, g3, g4, h43⟩ := hM.od (aj + 4) (by omega)
  generalize hod : od (aj + 4) = od0 at *
  obtain ⟨o, a5⟩ := od0
  simp only at g1 g2 g3 g4 h43 hx
  have hol : ((params.length : Int) ≤ o.length) := by omega
  have htl : (o.take params.length).length = params.length := by rw [List.length_take]; omega
  simp (maxSteps := 1000000) -implicitDefEqProofs only [bm15u0, e0, e1, e2, e4, e11, e20, e21, hT.tok.len, hT.tok.at0, hT.tok.atS, hT.tok.set0, hT.tok.setS, hT.tok.get, hlj, hw2, Int.reduceEq, Int.reduceLT, hl0, hixl, hgh, hgt2, go_sem]
  repeat' (first | ((first | (with_reducible first | refine cgA h40 ?_ | refine cgA h5 ?_ | refine cgA ((h16.at hT _)) ?_ | refine cgA ((h43.at hT _)) ?_) | (with_reducible refine F_q2 ?_)); simp (maxSteps := 1000000) -implicitDefEqProofs only [e0, e1, e2, e4, e11, e20, e21, hT.tok.len, hT.tok.at0, hT.tok.atS, hT.tok.set0, hT.tok.setS, hT.tok.get, hlj, hw2, Int.reduceEq, Int.reduceLT, hl0, hixl, hgh, hgt2, hol, headOk_I, Int.le_refl, Int.natCast_nonneg, ← List.map_take, htl, go_sem]) | (with_reducible refine Fork.mk ?_ ?_) | (with_reducible refine And.intro ?_ ?_) | ((with_reducible refine rpI ?_); simp (maxSteps := 1000000) -implicitDefEqProofs only [rm15, hT.tok.len, hT.tok.at0, hT.tok.atS, hT.tok.set0, hT.tok.setS, hT.tok.get, push_cast, go_sem_proc]) | intro _)
  all_goals (try exact trivial)
  refine in15 hT.tok a5 J (Blk.row [.agg [.str key, .fs (params.map .str)]]) key roles (o.take params.length) (by omega) (fun x hx => g4 x (List.mem_of_mem_take hx)) _ (by simp [upd, e1]) (by simp [upd]) (by simp [upd]) (by simp [upd, htl]) (by simp [upd]) (m + 67) _ ?_
  intro p e' kv2 J2 hpm hfr hov2 hkn2
  obtain ⟨pq, rfl⟩ : ∃ pq, p = pq + 67 := ⟨p - 67, by omega⟩
  clear hpm
  have f0 : e' 0 = .ptr sid 0 0 := (hfr 0 (by omega) (by omega)).trans (by simp [upd, e0])
  have f1 : e' 1 = .fs (roles.map .str) := (hfr 1 (by omega) (by omega)).trans (by simp [upd, e1])
  have f2 : e' 2 = .int .i64 d := (hfr 2 (by omega) (by omega)).trans (by simp [upd, e2])
  have f4 : e' 4 = .fs (heads.map encH) := (hfr 4 (by omega) (by omega)).trans (by simp [upd, e4])
  have f11 : e' 11 = kv := (hfr 11 (by omega) (by omega)).trans (by simp [upd, e11])
  have f14 : e' 14 = .ptr (N + J.length) 0 0 := (hfr 14 (by omega) (by omega)).trans (by simp [upd])
  have f20 : e' 20 = .int .i64 n := (hfr 20 (by omega) (by omega)).trans (by simp [upd, e20])
  have f21 : e' 21 = .int .i64 j := (hfr 21 (by omega) (by omega)).trans (by simp [upd, e21])
  clear hfr
  generalize hargs : ((o.take params.length).map fun i => roles.getD i.toNat em) = args at *
  have hone2 := hov2.vone
  simp only [V.one] at hone2
  have hc2 := hov2.one
  obtain ⟨X', hX⟩ := killL_tail (A := T a5 ++ J) (X := X5 key kv2 :: Blk.row [.agg [.str key, .fs (params.map .str)]] :: J2) (N := N + J.length) (by rw [List.length_append, hT.tok.len])
  have hK1 := keepL_tail (A := T a5 ++ J) (X := X5 key kv2 :: Blk.row [.agg [.str key, .fs (params.map .str)]] :: J2) (N := N + J.length) (by rw [List.length_append, hT.tok.len])
  rw [List.append_assoc, List.append_assoc] at hX
  rw [List.append_assoc] at hK1
  have hovz : OV (List.replicate (N + J.length) .dead ++ (X5 key kv2 :: Blk.row [.agg [.str key, .fs (params.map .str)]] :: J2)) kv2 (args.map .str) := by
   refine OV.tail (A := T a5 ++ J) (n := N + J.length) ?_ (by rw [List.length_append, hT.tok.len]) (fun i hi => hkn2 i (by omega)) List.length_replicate
   rw [List.append_assoc]; exact hov2
  have hzk : fz _ 19 kv2 = _ := fz_OV (f := V.str) (n := 17) (fun H x => fz_str H _ x) hovz
  generalize List.range' (N + J.length) (X5 key kv2 :: Blk.row [.agg [.str key, .fs (params.map .str)]] :: J2).length = D at *
  simp only [X5] at hX hK1 hzk ⊢
  simp (maxSteps := 1000000) -implicitDefEqProofs only [f0, f1, f2, f4, f11, f14, f20, f21, hT.tok.len, hT.tok.at0, hT.tok.atS, hT.tok.set0, hT.tok.setS, hT.tok.get, hlj, hw2, hone2, hc2, go_sem]
  refine ⟨D, .agg [.int .i64 5, .str ⟨#[]⟩, .str ⟨#[]⟩, .str ⟨#[]⟩, .str ⟨#[]⟩, .int .i64 0, .int .i64 0, .str ⟨#[]⟩, .fs [], .fs [], .fs [], .str key, .fs (args.map .str)], by rw [hK1]; simp (maxSteps := 1000000) -implicitDefEqProofs only [hzk, push_cast, go_sem_proc], ?_⟩
  rw [hX]
  simp (maxSteps := 1000000) -implicitDefEqProofs only [f0, f1, f2, f4, f11, f14, f20, f21, hT.tok.len, hT.tok.at0, hT.tok.atS, hT.tok.set0, hT.tok.setS, hT.tok.get, hlj, hw2, hone2, hc2, go_sem]
  refine app_T0 hT.tok (acc := acc.map encS) ?_ hkn ?_ (headOk_S _) ?_ ?_
  ·have := hov.tail (hT.tok.len _) hkn (hT.tok.len a5)
   simpa using this.app _
  ·intro i o l h; cases h
  ·simp; omega
  ·intro kv' J' hov' hkn'
   simp (maxSteps := 1000000) -implicitDefEqProofs only [f0, f1, f2, f4, f11, f14, f20, f21, hT.tok.len, hT.tok.at0, hT.tok.atS, hT.tok.set0, hT.tok.setS, hT.tok.get, hlj, hw2, go_sem]
   refine hk _ _ kv' J' _ ⟨?_, ?_, ?_, ?_, ?_, ?_, ?_, ?_, ?_, ?_⟩
   all_goals first
    | (simp only [upd, f0, f1, f2, f4, f20]; simp; done)
    | (rw [hx]; done)
    | (rw [hx]; simpa [encS_mk, encE_mk, em, ex0] using hov')
    | (simpa using hkn')
theorem b15 (L : List Int) (roles : List ByteArray) (heads : List Hd) (d : Int) (hr : 2 ≤ roles.length) (hr2 : roles.length ≤ 12) (hd0 : 0 ≤ d) (hd1 : d ≤ 10) (hh : heads.length ≤ 10) (hh2 : ∀ h ∈ heads, h.2.length ≤ 12)
  (tw : Nat → ByteArray × ByteArray) (tr2 tr3 : Nat → Ex × Nat) (od : Nat → List Int × Nat) (sb : Nat → List St × Nat) (M : Nat) (hMb : M ≤ 500000) (hM : M15 M L roles d heads tw tr2 tr3 od sb) (aj : Nat) (haj : aj ≤ M) : B15 L roles d heads tw tr2 tr3 od sb aj := by
 rcases pk9umem L (aj + 2) with hP | hP | hP | hP | hP
 ·exact b15k1 L roles heads d hr hr2 hd0 hd1 hh hh2 tw tr2 tr3 od sb M hMb hM aj haj hP
 ·exact b15k2 L roles heads d hr hr2 hd0 hd1 hh hh2 tw tr2 tr3 od sb M hMb hM aj haj hP
 ·exact b15k3a L roles heads d hr hr2 hd0 hd1 hh hh2 tw tr2 tr3 od sb M hMb hM aj haj hP
 ·by_cases hd2 : d < 2
  ·exact b15k3b L roles heads d hr hr2 hd0 hd1 hh hh2 tw tr2 tr3 od sb M hMb hM aj haj hP hd2
  ·exact b15k4 L roles heads d hr hr2 hd0 hd1 hh hh2 tw tr2 tr3 od sb M hMb hM aj haj hP hd2
 ·by_cases hhd : heads = []
  ·exact b15k3c L roles heads d hr hr2 hd0 hd1 hh hh2 tw tr2 tr3 od sb M hMb hM aj haj hP hhd
  ·exact b15k5 L roles heads d hr hr2 hd0 hd1 hh hh2 tw tr2 tr3 od sb M hMb hM aj haj hP hhd
theorem one_bound (L : List Int) (roles : List ByteArray) (heads : List Hd) (d : Int) (C : Nat) (hh2 : ∀ h ∈ heads, h.2.length ≤ 12)
  (tw : Nat → ByteArray × ByteArray) (tr2 tr3 : Nat → Ex × Nat) (od : Nat → List Int × Nat) (sb : Nat → List St × Nat) (M : Nat) (hMb : M ≤ 500000) (hM : M15 M L roles d heads tw tr2 tr3 od sb)
  (hsb : 2 ≤ d → ∀ a, a ≤ M + 60000 → (sb a).2 ≤ a + C ∧ wSs (sb a).1 ≤ C) (hC : C ≤ 20000) (a : Nat) (ha : a ≤ M) :
  a ≤ (one L roles d heads tw tr2 tr3 od sb a).2 ∧ (one L roles d heads tw tr2 tr3 od sb a).2 ≤ a + (330 + 2 * C) ∧ wSs (one L roles d heads tw tr2 tr3 od sb a).1 ≤ 330 + 2 * C ∧ (one L roles d heads tw tr2 tr3 od sb a).1.length ≤ 1 := by
 have h2 := hM.tr2 (a + 4) (by omega)
 have h2' := hM.tr2 (a + 3) (by omega)
 have h3 := hM.tr3 (a + 4) (by omega)
 have h4 := hM.od (a + 4) (by omega)
 have hl : (heads.getD (nxF L (a + 3) heads.length).toNat (em, [])).2.length ≤ 12 := by
  by_cases hi : (nxF L (a + 3) heads.length).toNat < heads.length
  ·exact hh2 _ (by simp [List.getD, hi])
  ·simp [List.getD, hi]
 rcases pk9umem L (a + 2) with hP | hP | hP | hP | hP
 ·simp [one, hP, wSs, wS]; omega
 ·simp [one, hP, wSs, wS, ex0, wE, wEs]; omega
 ·simp [one, hP, wSs, wS]; omega
 ·by_cases hd2 : d < 2
  ·simp [one, hP, hd2, wSs, wS]; omega
  ·have h5 := hM.sb (by omega) (tr2 (a + 3)).2 (by omega)
   have h6 := hM.sb (by omega) (sb (tr2 (a + 3)).2).2 (by omega)
   have h7 := hsb (by omega) (tr2 (a + 3)).2 (by omega)
   have h8 := hsb (by omega) (sb (tr2 (a + 3)).2).2 (by omega)
   simp [one, hP, hd2, wSs, wS]; omega
 ·by_cases hhd : heads = []
  ·simp [one, hP, hhd, wSs, wS]; omega
  ·simp only [one, hP, hhd]
   generalize heads.getD (nxF L (a + 3) heads.length).toNat (em, []) = hd at *
   simp
   split
   ·simp [wSs]; omega
   ·simp [wSs, wS, ex0, wE, wEs]; omega
def cW : Nat → Nat
 | 0 => 330
 | 1 => 330
 | d + 2 => 330 + 2 * (1 + 2 * cW (d + 1))
theorem cW_le : ∀ d, d ≤ 3 → cW d ≤ 9000 := by
 intro d hd
 have : d = 0 ∨ d = 1 ∨ d = 2 ∨ d = 3 := by omega
 rcases this with rfl | rfl | rfl | rfl <;> decide
set_option maxRecDepth 20000 in
theorem t15r (L : List Int) (roles : List ByteArray) (heads : List Hd) (d : Int) (most : Int) (a C : Nat) (hr : 2 ≤ roles.length) (hr2 : roles.length ≤ 12) (hm0 : 0 ≤ most) (hm1 : most ≤ 5) (hd0 : 0 ≤ d) (hd1 : d ≤ 10) (hh : heads.length ≤ 10) (hh2 : ∀ h ∈ heads, h.2.length ≤ 12)
  (tw : Nat → ByteArray × ByteArray) (tr2 tr3 : Nat → Ex × Nat) (od : Nat → List Int × Nat) (sb : Nat → List St × Nat) (M : Nat) (hMb : M ≤ 500000) (hM : M15 M L roles d heads tw tr2 tr3 od sb) (ha : a + 1 + 5 * C ≤ M)
  (hone : ∀ a, a ≤ M → a ≤ (one L roles d heads tw tr2 tr3 od sb a).2 ∧ (one L roles d heads tw tr2 tr3 od sb a).2 ≤ a + C ∧ wSs (one L roles d heads tw tr2 tr3 od sb a).1 ≤ C ∧ (one L roles d heads tw tr2 tr3 od sb a).1.length ≤ 1) :
  ∃ xs a', a ≤ a' ∧ a' ≤ a + 1 + most.toNat * C ∧ wSs xs ≤ most.toNat * C ∧ MCR 37 L a [.fs (roles.map .str), .int .i64 d, .int .i64 most, .fs (heads.map encH)] xs a' := by
 have hb := nxF_bound (L := L) (a := a) (n := most + 1) (by omega) (by omega)
 have h39 := t39 L a 0 most (by omega) hm0 (by omega) (by omega)
 rw [show most - 0 + 1 = most + 1 by omega, Int.zero_add] at h39
 generalize nxF L a (most + 1) = v at *
 obtain ⟨n, rfl⟩ : ∃ n : Nat, v = n := ⟨v.toNat, by omega⟩
 have hB := b15 L roles heads d hr hr2 hd0 hd1 hh hh2 tw tr2 tr3 od sb M hMb hM
 generalize hf : one L roles d heads tw tr2 tr3 od sb = f at *
 have hI := itr_bound f (fun l => wSs l.flatten) C M rfl (fun l x => by simp [wSs_append]) (fun a ha => by obtain ⟨h1, h2, h3, _⟩ := hone a ha; exact ⟨h1, h2, by simpa using h3⟩) (a + 1)
 have hCn : ∀ j, j ≤ n → j * C ≤ 5 * C := fun j hj => Nat.mul_le_mul_right C (by omega)
 have hnm : n * C ≤ most.toNat * C := Nat.mul_le_mul_right C (by omega)
 have hfl : ∀ j, j ≤ n → (itr f (a + 1) j).1.flatten.length ≤ j := by
  intro j
  induction j with
  | zero => intro _; simp [itr]
  | succ j ih =>
   intro hj
   have h1 := ih (by omega)
   have h2 := hI j (by have := hCn j (by omega); omega)
   have h3 := (hone (itr f (a + 1) j).2 (by have := hCn j (by omega); omega)).2.2.2
   simp only [itr, List.flatten_append, List.flatten_cons, List.flatten_nil, List.append_nil, List.length_append]; omega
 have hIn := hI n (by have := hCn n (by omega); omega)
 refine ⟨(itr f (a + 1) n).1.flatten, (itr f (a + 1) n).2, by omega, by omega, by omega, fun sid N T hT => ?_⟩
 have h39 := h39 sid N T hT
 refine ACall.intro cm15 500 (by simp) ?_
 simp -implicitDefEqProofs only [sm15, go_sem]
 repeat' (first | ((first | (with_reducible refine cgA h39 ?_) | (with_reducible refine F_q2 ?_)); simp -implicitDefEqProofs only [go_sem]) | (with_reducible refine Fork.mk ?_ ?_) | (with_reducible refine And.intro ?_ ?_) | ((with_reducible refine rpI ?_); simp -implicitDefEqProofs only [rm15, push_cast, go_sem_proc]) | intro _)
 refine F_loop (fun q e H => ∃ j kv J, q = n - j ∧ j ≤ n ∧ L15 sid roles d heads n N T j (itr f (a + 1) j).2 kv (itr f (a + 1) j).1.flatten J e H) n
  ⟨0, .nils, [], by simp, by simp, by simp [upd, env0], by simp [upd, env0], by simp [upd, env0], by simp [upd, env0], by simp [upd, env0], by simp [upd, env0], by simp [upd, env0], by simp [itr], .inl ⟨rfl, rfl⟩, (fun i _ a b h => by cases h)⟩ ?_
 rintro q e H ⟨j, kv, J, rfl, hj, hL⟩
 by_cases hjn : j = n
 ·subst hjn
  have hlj : ¬ ((j : Int) < j) := by omega
  obtain ⟨e0, e1, e2, e4, e11, e20, e21, rfl, hov, hkn⟩ := hL
  simp -implicitDefEqProofs only [bm15u0, e0, e1, e2, e4, e11, e20, e21, hT.tok.len, hT.tok.at0, hT.tok.atS, hT.tok.set0, hT.tok.setS, hT.tok.get, hlj, go_sem]
  simp -implicitDefEqProofs only [rm15, push_cast, go_sem_proc]
  exact ⟨_, rfl, hov, hkn⟩
 ·have hIj := hI j (by have := hCn j (by omega); omega)
  refine hB (itr f (a + 1) j).2 (by have := hCn j (by omega); omega) sid n N T j kv (itr f (a + 1) j).1.flatten J e H _ _ hT hL (by omega) (by omega) (by have := hfl j (by omega); omega) ?_
  intro p e' kv' J' H' hL'
  rw [F_loopN]
  refine ⟨n - (j + 1), by omega, j + 1, kv', J', rfl, by omega, ?_⟩
  rw [hf] at hL'
  simpa [itr] using hL'
theorem choose_le {α : Type} (x0 : α) {P : Nat → α → Prop} {M : Nat} (h : ∀ a, a ≤ M → ∃ x, P a x) : ∃ f : Nat → α, ∀ a, a ≤ M → P a (f a) := by
 have : ∀ a, ∃ x, a ≤ M → P a x := fun a => by
  by_cases ha : a ≤ M
  ·obtain ⟨x, hx⟩ := h a ha
   exact ⟨x, fun _ => hx⟩
  ·exact ⟨x0, fun h => absurd h ha⟩
 exact ⟨fun a => (this a).choose, fun a => (this a).choose_spec⟩
theorem cW_def (d : Nat) (hd : 1 ≤ d) : cW d = 330 ∨ (2 ≤ d ∧ cW d = 330 + 2 * (1 + 2 * cW (d - 1))) := by
 match d, hd with
 | 1, _ => exact .inl rfl
 | d + 2, _ => exact .inr ⟨by omega, rfl⟩
theorem t15 (L : List Int) (roles : List ByteArray) (heads : List Hd) (hr : 2 ≤ roles.length) (hr2 : roles.length ≤ 12) (hh : heads.length ≤ 10) (hh2 : ∀ h ∈ heads, h.2.length ≤ 12) :
  ∀ (d M : Nat), 1 ≤ d → d ≤ 3 → M + (d - 1) * 110000 ≤ 330000 → ∀ (most : Int) (a : Nat), 0 ≤ most → most ≤ 5 → a + 1 + 5 * cW d ≤ M →
  ∃ xs a', a ≤ a' ∧ a' ≤ a + 1 + most.toNat * cW d ∧ wSs xs ≤ most.toNat * cW d ∧ MCR 37 L a [.fs (roles.map .str), .int .i64 d, .int .i64 most, .fs (heads.map encH)] xs a' := by
 intro d
 induction d with
 | zero => intro M h; omega
 | succ d ih =>
  intro M h1 h3 hM most a hm0 hm1 ha
  have gtw : ∀ a, a ≤ M + 100000 → ∃ f : ByteArray × ByteArray, MC 109 L a [.fs (roles.map .str)] (.tup [.str f.1, .str f.2]) (a + 2) := fun a ha => by
    obtain ⟨r1, r2, h⟩ := t40 L a roles (by omega) hr (by omega)
    exact ⟨(r1, r2), h⟩
  obtain ⟨tw, htw⟩ := choose_le (em, em) gtw
  have gtr2 : ∀ a, a ≤ M + 100000 → ∃ f : Ex × Nat, a ≤ f.2 ∧ f.2 ≤ a + 100 ∧ wE f.1 ≤ 100 ∧ MC 111 L a [.int .i64 2] (encE f.1) f.2 := fun a ha => by
    have h85 : trC 2 = 85 := by decide
    obtain ⟨x, a', g1, g2, g3, g4⟩ := t42 L 2 a (by omega) (by omega)
    exact ⟨(x, a'), g1, by simp; omega, by simp; omega, g4⟩
  obtain ⟨tr2, htr2⟩ := choose_le (ex0, 0) gtr2
  have gtr3 : ∀ a, a ≤ M + 100000 → ∃ f : Ex × Nat, a ≤ f.2 ∧ f.2 ≤ a + 300 ∧ wE f.1 ≤ 300 ∧ MC 111 L a [.int .i64 3] (encE f.1) f.2 := fun a ha => by
    have h265 : trC 3 = 265 := by decide
    obtain ⟨x, a', g1, g2, g3, g4⟩ := t42 L 3 a (by omega) (by omega)
    exact ⟨(x, a'), g1, by simp; omega, by simp; omega, g4⟩
  obtain ⟨tr3, htr3⟩ := choose_le (ex0, 0) gtr3
  have god : ∀ a, a ≤ M + 100000 → ∃ f : List Int × Nat, a ≤ f.2 ∧ f.2 ≤ a + 12 ∧ f.1.length = roles.length ∧ (∀ x ∈ f.1, 0 ≤ x ∧ x < roles.length) ∧ MC 112 L a [.int .i64 roles.length] (.fs (f.1.map (.int .i64))) f.2 := fun a ha => by
    obtain ⟨l, a', g1, g2, g3, g4, g5⟩ := t43 L a roles.length (by omega) (by omega) (by omega)
    exact ⟨(l, a'), g3, by simp; omega, g1, g2, g5⟩
  obtain ⟨od, hod⟩ := choose_le ([], 0) god
  have hc := cW_le d (by omega)
  have gsb : ∀ a, a ≤ M + 60000 → ∃ f : List St × Nat, 1 ≤ d → a ≤ f.2 ∧ f.2 ≤ a + (1 + 2 * cW d) ∧ wSs f.1 ≤ 1 + 2 * cW d ∧ MC 37 L a [.fs (roles.map .str), .int .i64 d, .int .i64 2, .fs (heads.map encH)] (.fs (f.1.map encS)) f.2 := fun a ha => by
    by_cases hd : 1 ≤ d
    ·obtain ⟨xs, a', g1, g2, g3, g4⟩ := ih (M + 110000) hd (by omega) (by obtain ⟨e, rfl⟩ : ∃ e, d = e + 1 := ⟨d - 1, by omega⟩; simp only [Nat.add_sub_cancel] at hM ⊢; omega) 2 a (by omega) (by omega) (by omega)
     exact ⟨(xs, a'), fun _ => ⟨g1, by simpa [Nat.add_assoc] using g2, by simp at g3 ⊢; omega, g4.fz⟩⟩
    ·exact ⟨([], 0), fun h => absurd h hd⟩
  obtain ⟨sb, hsb⟩ := choose_le ([], 0) gsb
  have hMM : M ≤ 330000 := by omega
  have hM15 : M15 M L roles ((d + 1 : Nat) : Int) heads tw tr2 tr3 od sb := ⟨htw, htr2, htr3, hod, fun hd2 a ha => by
   obtain ⟨g1, g2, g3, g4⟩ := hsb a ha (by omega)
   refine ⟨g1, by omega, ?_⟩
   have : ((d + 1 : Nat) : Int) - 1 = (d : Int) := by omega
   rw [this]; exact g4⟩
  refine t15r L roles heads _ most a _ hr hr2 hm0 hm1 (by omega) (by omega) hh hh2 tw tr2 tr3 od sb M (by omega) hM15 ha ?_
  clear ha
  intro a ha
  rcases cW_def (d + 1) (by omega) with hw | ⟨hd2, hw⟩
  ·have hd1 : d = 0 := by
    rcases Nat.eq_zero_or_pos d with h | h
    ·exact h
    ·obtain ⟨e, rfl⟩ : ∃ e, d = e + 1 := ⟨d - 1, by omega⟩
     rw [cW] at hw; omega
   subst hd1
   have := one_bound L roles heads _ 0 hh2 tw tr2 tr3 od sb M (by omega) hM15 (fun h => by omega) (by omega) a ha
   rw [hw]; simpa using this
  ·have := one_bound L roles heads _ (1 + 2 * cW d) hh2 tw tr2 tr3 od sb M (by omega) hM15 (fun h a ha => by
    obtain ⟨g1, g2, g3, g4⟩ := hsb a ha (by omega)
    exact ⟨g2, g3⟩) (by omega) a ha
   rw [hw]; simpa using this
theorem F_p2 {P : Program} {n : Nat} {l : List QO} {t ia : Nat} {z : V} {st : SOper} {e : Env} {H : List Blk} {k : Kont} (h : g2 P l e H [H] [] (pEnd P (F P n) l t z st k)) : F P (n + 1) (.code (.pregion l t ia z st) e H k) := by
 rw [F_pregion]; exact g2usound h
theorem t46m (xs : List ByteArray) (hl : 1 ≤ xs.length) (hl2 : xs.length ≤ 1000) (H : List Blk) : ACall Tryz.prog 69 [.fs (xs.map .str)] H (ret1 (.ms H.length 0 xs.length) (H ++ [.row (xs.map .str)])) := by
 have ha := all_str xs
 refine ACall.intro c46 100 (by simp) ?_
 cases xs with
 | nil => simp at hl
 | cons x xs =>
  simp only [List.map_cons] at ha
  simp -implicitDefEqProofs only [s46, List.map_cons, ha, go_sem]
  refine ⟨by simp [cellsV, V.isAny, V.one], fun h => h.elim, fun _ => ⟨by simp at hl2; omega, ?_⟩⟩
  simp -implicitDefEqProofs only [r46, push_cast, go_sem_proc]
theorem t47 (x y : ByteArray) (H : List Blk) (id : Nat) (hH : H[id]? = some (.row [.str x, .str y])) : ACall Tryz.prog 115 [.ms id 0 2] H (ret1 (.tup []) (H.set id (.row [.str y, .str x]))) := by
 have hlt : id < H.length := (List.getElem?_eq_some_iff.1 hH).1
 have hS : ∀ b, (H.set id b)[id]? = some b := fun b => by simp [hlt]
 have hSS : ∀ b c, (H.set id b).set id c = H.set id c := fun b c => by simp
 refine ACall.intro c47 300 (by simp) ?_
 have hw : IntKind.i64.wrap (((2 : Nat) : Int) - 1) = 1 := by decide
 have hw1 : IntKind.i64.wrap ((0 : Int) + 1) = 1 := by decide
 have hw0 : IntKind.i64.wrap ((1 : Int) - 1) = 0 := by decide
 simp -implicitDefEqProofs only [s47, hw, go_sem]
 intro _
 refine F_loop (fun q e H' => (q = 1 ∧ e 0 = .ms id 0 2 ∧ e 2 = .int .i64 0 ∧ e 3 = .int .i64 1 ∧ H' = H) ∨ (q = 0 ∧ e 0 = .ms id 0 2 ∧ e 2 = .int .i64 1 ∧ e 3 = .int .i64 0 ∧ H' = H.set id (.row [.str y, .str x]))) 1
  ?_ ?_
 ·exact .inl ⟨by simp, by simp [upd, env0], by simp [upd, env0], by simp [upd, env0], rfl⟩
 rintro q e H' (⟨rfl, e0, e2, e3, rfl⟩ | ⟨rfl, e0, e2, e3, rfl⟩)
 ·simp -implicitDefEqProofs only [e0, e2, e3, hH, hS, hSS, hw1, hw0, Int.reduceLT, go_sem]
  repeat' (first | ((with_reducible refine F_q2 ?_); simp -implicitDefEqProofs only [e0, e2, e3, hH, hS, hSS, hw1, hw0, Int.reduceLT, go_sem]) | (with_reducible refine Fork.mk ?_ ?_) | (with_reducible refine And.intro ?_ ?_) | ((with_reducible refine rpI ?_); simp -implicitDefEqProofs only [r47, push_cast, go_sem_proc]) | intro _)
  all_goals first
   | exact ⟨by decide, by decide⟩
   | exact ⟨0, by decide, .inr rfl⟩
 ·simp -implicitDefEqProofs only [e0, e2, e3, hH, hS, hSS, hw1, hw0, Int.reduceLT, go_sem]
  simp -implicitDefEqProofs only [r47, push_cast, go_sem_proc]
theorem keepL_tail' {A X : List Blk} {N m : Nat} (hA : A.length = N) (hm : m = X.length) : keepL (List.range' N m) (A ++ X) = List.replicate N .dead ++ X := by
 subst hm; exact keepL_tail hA
theorem killL_tail' {A X : List Blk} {N m : Nat} (hA : A.length = N) (hm : m = X.length) : ∃ X', killL (List.range' N m) (A ++ X) = A ++ X' := by
 subst hm; exact killL_tail hA
theorem killL_tail2 {A X : List Blk} {N m : Nat} (hA : A.length = N) (hm : m = X.length) : killL (List.range' N m) (A ++ X) = A ++ (killL (List.range' N m) (A ++ X)).drop N := by
 obtain ⟨X', hX⟩ := killL_tail' hA hm
 rw [hX, List.drop_append, hA]; simp [hA]
theorem dead_at (N : Nat) (l : List Blk) (k : Nat) : (List.replicate N Blk.dead ++ l)[N + k]? = l[k]? := by
 rw [List.getElem?_append_right (by simp), List.length_replicate, Nat.add_sub_cancel_left]
theorem dead_at0 (N : Nat) (l : List Blk) : (List.replicate N Blk.dead ++ l)[N]? = l[0]? := by
 have := dead_at N l 0
 simpa using this
set_option maxRecDepth 20000 in
set_option maxHeartbeats 8000000 in
theorem t17ut000 (L : List Int) (a : Nat) (ha : a ≤ 800000) (nm r0 r1 : ByteArray)
  (h3 : decide (nxF L (a + 3) 3 = 0) = false) (h4 : decide (nxF L (a + 4) 4 = 0) = false) (h2 : decide (nxF L (a + 5) 2 = 0) = false) :
  ∃ x a', a ≤ a' ∧ a' ≤ a + 10 ∧ wS x ≤ 30 ∧ MC 39 L a [encH (nm, [r0, r1])] (.fs [encS x]) a' := by
 obtain ⟨⟨k1, n1, s1, l1⟩, hw1, h45⟩ := t45 L (a + 1) (by omega)
 have h41 := (t41 L a [⟨#[120]⟩, ⟨#[121]⟩] (by omega) (by decide) (by decide))
 simp only [List.map_cons, List.map_nil] at h41
 generalize ([⟨#[120]⟩, ⟨#[121]⟩] : List ByteArray).getD _ _ = s41 at h41
 have f3 := t14 L (a + 3) 3 (by omega)
 have f4 := t14 L (a + 4) 4 (by omega)
 have f2 := t14 L (a + 5) 2 (by omega)
 rw [h3] at f3
 rw [h4] at f4
 rw [h2] at f2
 simp only [encE_mk] at h45
 have h46 := t46m [r0, r1] (by simp) (by simp)
 simp only [List.map_cons, List.map_nil, List.length_cons, List.length_nil, Nat.reduceAdd, Nat.zero_add] at h46
 obtain ⟨xs, hxs⟩ : ∃ xs : List St, xs = [.mk 3 r0 em ⟨#[120]⟩ em (.mk 4 0 em [.mk 2 0 ⟨#[120]⟩ [], .mk 1 1 em []]) [] [] em [],
   .mk 1 r0 r1 s41 em (.mk k1 n1 s1 l1) [] [] em [],
   .mk 5 em em em em ex0 [] [] nm [r0, r1]] := ⟨_, rfl⟩
 refine ⟨.mk 4 r0 em em em (.mk 6 0 em [.mk 1 0 em [], .mk 2 0 ⟨#[120]⟩ []]) xs [] em [], a + 6, by omega, by omega, ?_, fun sid N T hT => hT.trimO (by simp only [noref, norefL, Bool.and_true]; exact noref_encS _) ?_⟩
 ·rw [hxs]; simp [wS, wSs, wE, wEs, ex0] at hw1 ⊢; omega
 have g1 : ((1 : Int) < ((2 : Nat) : Int)) = True := by simp
 have g2 : (((2 : Nat) : Int) = 2) = True := by simp
 refine ACall.intro cm17 600 (by simp) ?_
 simp only [encH, List.map_cons, List.map_nil]
 simp -implicitDefEqProofs only [sm17, hT.tok.len, hT.tok.at0, hT.tok.atS, hT.tok.set0, hT.tok.setS, hT.tok.get, Int.reduceEq, g1, g2, go_sem]
 repeat' (first | ((first | (with_reducible first | refine cgA ((h41.at hT _)) ?_ | refine cgA ((h45.at hT _)) ?_ | refine cgA ((f3.at hT _)) ?_ | refine cgA ((f4.at hT _)) ?_ | refine cgA ((f2.at hT _)) ?_ | refine cgA ((h46 _)) ?_) | (with_reducible refine F_q2 ?_) | (with_reducible refine F_p2 ?_)); simp -implicitDefEqProofs only [hT.tok.len, hT.tok.at0, hT.tok.atS, hT.tok.set0, hT.tok.setS, hT.tok.get, Int.reduceEq, g1, g2, go_sem]) | (with_reducible refine Fork.mk ?_ ?_) | (with_reducible refine And.intro ?_ ?_) | ((with_reducible refine rpI ?_); simp -implicitDefEqProofs only [rm17, hT.tok.len, hT.tok.at0, hT.tok.atS, hT.tok.set0, hT.tok.setS, hT.tok.get, push_cast, go_sem_proc]) | intro _)
 all_goals first
  | (exfalso; assumption)
  | (exact ⟨by decide, by decide⟩)
  | (simp [ixP]; done)
  | (simp [ixP]; omega)
  | (rename_i hx; simp at hx; done)
  | (rename_i hx; simp at hx; subst hx; simp [cellsV]; done)
  | omega
  | skip
 refine ⟨List.range' N 9, encS (.mk 4 r0 em em em (.mk 6 0 em [.mk 1 0 em [], .mk 2 0 ⟨#[120]⟩ []]) xs [] em []), ?_, ?_⟩
 ·rw [keepL_tail' (hm := ?_) (hA := ?_)]
  ·rw [hxs]
   simp -implicitDefEqProofs only [dead_at, dead_at0, encS_mk, encE_mk, em, ex0, List.map_cons, List.map_nil, push_cast, go_sem_proc]
  ·exact hT.tok.len _
  ·rfl
 ·rw [killL_tail2 (hA := ?_) (hm := ?_)]
  ·simp only [encS_mk]
   simp -implicitDefEqProofs only [rm17, push_cast, go_sem_proc]
   refine ⟨by decide, ?_⟩
   exact ⟨_, rfl⟩
  ·exact hT.tok.len _
  ·rfl
set_option maxRecDepth 20000 in
set_option maxHeartbeats 8000000 in
theorem t17ut001 (L : List Int) (a : Nat) (ha : a ≤ 800000) (nm r0 r1 : ByteArray)
  (h3 : decide (nxF L (a + 3) 3 = 0) = false) (h4 : decide (nxF L (a + 4) 4 = 0) = false) (h2 : decide (nxF L (a + 5) 2 = 0) = true) :
  ∃ x a', a ≤ a' ∧ a' ≤ a + 10 ∧ wS x ≤ 30 ∧ MC 39 L a [encH (nm, [r0, r1])] (.fs [encS x]) a' := by
 obtain ⟨⟨k1, n1, s1, l1⟩, hw1, h45⟩ := t45 L (a + 1) (by omega)
 have h41 := (t41 L a [⟨#[120]⟩, ⟨#[121]⟩] (by omega) (by decide) (by decide))
 simp only [List.map_cons, List.map_nil] at h41
 generalize ([⟨#[120]⟩, ⟨#[121]⟩] : List ByteArray).getD _ _ = s41 at h41
 have f3 := t14 L (a + 3) 3 (by omega)
 have f4 := t14 L (a + 4) 4 (by omega)
 have f2 := t14 L (a + 5) 2 (by omega)
 rw [h3] at f3
 rw [h4] at f4
 rw [h2] at f2
 simp only [encE_mk] at h45
 have h46 := t46m [r0, r1] (by simp) (by simp)
 simp only [List.map_cons, List.map_nil, List.length_cons, List.length_nil, Nat.reduceAdd, Nat.zero_add] at h46
 obtain ⟨xs, hxs⟩ : ∃ xs : List St, xs = [.mk 3 r0 em ⟨#[120]⟩ em (.mk 4 0 em [.mk 2 0 ⟨#[120]⟩ [], .mk 1 1 em []]) [] [] em [],
   .mk 1 r0 r1 s41 em (.mk k1 n1 s1 l1) [] [] em [],
   .mk 5 em em em em ex0 [] [] nm [r0, r1]] := ⟨_, rfl⟩
 refine ⟨.mk 4 r0 em em em (.mk 2 0 ⟨#[120]⟩ []) xs [] em [], a + 6, by omega, by omega, ?_, fun sid N T hT => hT.trimO (by simp only [noref, norefL, Bool.and_true]; exact noref_encS _) ?_⟩
 ·rw [hxs]; simp [wS, wSs, wE, wEs, ex0] at hw1 ⊢; omega
 have g1 : ((1 : Int) < ((2 : Nat) : Int)) = True := by simp
 have g2 : (((2 : Nat) : Int) = 2) = True := by simp
 refine ACall.intro cm17 600 (by simp) ?_
 simp only [encH, List.map_cons, List.map_nil]
 simp -implicitDefEqProofs only [sm17, hT.tok.len, hT.tok.at0, hT.tok.atS, hT.tok.set0, hT.tok.setS, hT.tok.get, Int.reduceEq, g1, g2, go_sem]
 repeat' (first | ((first | (with_reducible first | refine cgA ((h41.at hT _)) ?_ | refine cgA ((h45.at hT _)) ?_ | refine cgA ((f3.at hT _)) ?_ | refine cgA ((f4.at hT _)) ?_ | refine cgA ((f2.at hT _)) ?_ | refine cgA ((h46 _)) ?_) | (with_reducible refine F_q2 ?_) | (with_reducible refine F_p2 ?_)); simp -implicitDefEqProofs only [hT.tok.len, hT.tok.at0, hT.tok.atS, hT.tok.set0, hT.tok.setS, hT.tok.get, Int.reduceEq, g1, g2, go_sem]) | (with_reducible refine Fork.mk ?_ ?_) | (with_reducible refine And.intro ?_ ?_) | ((with_reducible refine rpI ?_); simp -implicitDefEqProofs only [rm17, hT.tok.len, hT.tok.at0, hT.tok.atS, hT.tok.set0, hT.tok.setS, hT.tok.get, push_cast, go_sem_proc]) | intro _)
 all_goals first
  | (exfalso; assumption)
  | (exact ⟨by decide, by decide⟩)
  | (simp [ixP]; done)
  | (simp [ixP]; omega)
  | (rename_i hx; simp at hx; done)
  | (rename_i hx; simp at hx; subst hx; simp [cellsV]; done)
  | omega
  | skip
 refine ⟨List.range' N 9, encS (.mk 4 r0 em em em (.mk 2 0 ⟨#[120]⟩ []) xs [] em []), ?_, ?_⟩
 ·rw [keepL_tail' (hm := ?_) (hA := ?_)]
  ·rw [hxs]
   simp -implicitDefEqProofs only [dead_at, dead_at0, encS_mk, encE_mk, em, ex0, List.map_cons, List.map_nil, push_cast, go_sem_proc]
  ·exact hT.tok.len _
  ·rfl
 ·rw [killL_tail2 (hA := ?_) (hm := ?_)]
  ·simp only [encS_mk]
   simp -implicitDefEqProofs only [rm17, push_cast, go_sem_proc]
   refine ⟨by decide, ?_⟩
   exact ⟨_, rfl⟩
  ·exact hT.tok.len _
  ·rfl
set_option maxRecDepth 20000 in
set_option maxHeartbeats 8000000 in
theorem t17ut010 (L : List Int) (a : Nat) (ha : a ≤ 800000) (nm r0 r1 : ByteArray)
  (h3 : decide (nxF L (a + 3) 3 = 0) = false) (h4 : decide (nxF L (a + 4) 4 = 0) = true) (h2 : decide (nxF L (a + 7) 2 = 0) = false) :
  ∃ x a', a ≤ a' ∧ a' ≤ a + 10 ∧ wS x ≤ 30 ∧ MC 39 L a [encH (nm, [r0, r1])] (.fs [encS x]) a' := by
 obtain ⟨⟨k1, n1, s1, l1⟩, hw1, h45⟩ := t45 L (a + 1) (by omega)
 have h41 := (t41 L a [⟨#[120]⟩, ⟨#[121]⟩] (by omega) (by decide) (by decide))
 simp only [List.map_cons, List.map_nil] at h41
 generalize ([⟨#[120]⟩, ⟨#[121]⟩] : List ByteArray).getD _ _ = s41 at h41
 have f3 := t14 L (a + 3) 3 (by omega)
 have f4 := t14 L (a + 4) 4 (by omega)
 have f2 := t14 L (a + 7) 2 (by omega)
 rw [h3] at f3
 rw [h4] at f4
 rw [h2] at f2
 obtain ⟨⟨k2, n2, s2, l2⟩, hw2, h45b⟩ := t45 L (a + 5) (by omega)
 simp only [encE_mk] at h45b
 simp only [encE_mk] at h45
 have h46 := t46m [r0, r1] (by simp) (by simp)
 simp only [List.map_cons, List.map_nil, List.length_cons, List.length_nil, Nat.reduceAdd, Nat.zero_add] at h46
 obtain ⟨xs, hxs⟩ : ∃ xs : List St, xs = [.mk 3 r0 em ⟨#[120]⟩ em (.mk 4 0 em [.mk 2 0 ⟨#[120]⟩ [], .mk 1 1 em []]) [] [] em [],
   .mk 1 r0 r1 s41 em (.mk k1 n1 s1 l1) [] [] em [],
   .mk 5 em em em em ex0 [] [] nm [r0, r1],
   .mk 3 r0 em ⟨#[122]⟩ em (.mk k2 n2 s2 l2) [] [] em []] := ⟨_, rfl⟩
 refine ⟨.mk 4 r0 em em em (.mk 6 0 em [.mk 1 0 em [], .mk 2 0 ⟨#[120]⟩ []]) xs [] em [], a + 8, by omega, by omega, ?_, fun sid N T hT => hT.trimO (by simp only [noref, norefL, Bool.and_true]; exact noref_encS _) ?_⟩
 ·rw [hxs]; simp [wS, wSs, wE, wEs, ex0] at hw1 hw2 ⊢; omega
 have g1 : ((1 : Int) < ((2 : Nat) : Int)) = True := by simp
 have g2 : (((2 : Nat) : Int) = 2) = True := by simp
 refine ACall.intro cm17 600 (by simp) ?_
 simp only [encH, List.map_cons, List.map_nil]
 simp -implicitDefEqProofs only [sm17, hT.tok.len, hT.tok.at0, hT.tok.atS, hT.tok.set0, hT.tok.setS, hT.tok.get, Int.reduceEq, g1, g2, go_sem]
 repeat' (first | ((first | (with_reducible first | refine cgA ((h41.at hT _)) ?_ | refine cgA ((h45.at hT _)) ?_ | refine cgA ((f3.at hT _)) ?_ | refine cgA ((f4.at hT _)) ?_ | refine cgA ((f2.at hT _)) ?_ | refine cgA ((h45b.at hT _)) ?_ | refine cgA ((h46 _)) ?_) | (with_reducible refine F_q2 ?_) | (with_reducible refine F_p2 ?_)); simp -implicitDefEqProofs only [hT.tok.len, hT.tok.at0, hT.tok.atS, hT.tok.set0, hT.tok.setS, hT.tok.get, Int.reduceEq, g1, g2, go_sem]) | (with_reducible refine Fork.mk ?_ ?_) | (with_reducible refine And.intro ?_ ?_) | ((with_reducible refine rpI ?_); simp -implicitDefEqProofs only [rm17, hT.tok.len, hT.tok.at0, hT.tok.atS, hT.tok.set0, hT.tok.setS, hT.tok.get, push_cast, go_sem_proc]) | intro _)
 all_goals first
  | (exfalso; assumption)
  | (exact ⟨by decide, by decide⟩)
  | (simp [ixP]; done)
  | (simp [ixP]; omega)
  | (rename_i hx; simp at hx; done)
  | (rename_i hx; simp at hx; subst hx; simp [cellsV]; done)
  | omega
  | skip
 refine ⟨List.range' N 10, encS (.mk 4 r0 em em em (.mk 6 0 em [.mk 1 0 em [], .mk 2 0 ⟨#[120]⟩ []]) xs [] em []), ?_, ?_⟩
 ·rw [keepL_tail' (hm := ?_) (hA := ?_)]
  ·rw [hxs]
   simp -implicitDefEqProofs only [dead_at, dead_at0, encS_mk, encE_mk, em, ex0, List.map_cons, List.map_nil, push_cast, go_sem_proc]
  ·exact hT.tok.len _
  ·rfl
 ·rw [killL_tail2 (hA := ?_) (hm := ?_)]
  ·simp only [encS_mk]
   simp -implicitDefEqProofs only [rm17, push_cast, go_sem_proc]
   refine ⟨by decide, ?_⟩
   exact ⟨_, rfl⟩
  ·exact hT.tok.len _
  ·rfl
set_option maxRecDepth 20000 in
set_option maxHeartbeats 8000000 in
theorem t17ut011 (L : List Int) (a : Nat) (ha : a ≤ 800000) (nm r0 r1 : ByteArray)
  (h3 : decide (nxF L (a + 3) 3 = 0) = false) (h4 : decide (nxF L (a + 4) 4 = 0) = true) (h2 : decide (nxF L (a + 7) 2 = 0) = true) :
  ∃ x a', a ≤ a' ∧ a' ≤ a + 10 ∧ wS x ≤ 30 ∧ MC 39 L a [encH (nm, [r0, r1])] (.fs [encS x]) a' := by
 obtain ⟨⟨k1, n1, s1, l1⟩, hw1, h45⟩ := t45 L (a + 1) (by omega)
 have h41 := (t41 L a [⟨#[120]⟩, ⟨#[121]⟩] (by omega) (by decide) (by decide))
 simp only [List.map_cons, List.map_nil] at h41
 generalize ([⟨#[120]⟩, ⟨#[121]⟩] : List ByteArray).getD _ _ = s41 at h41
 have f3 := t14 L (a + 3) 3 (by omega)
 have f4 := t14 L (a + 4) 4 (by omega)
 have f2 := t14 L (a + 7) 2 (by omega)
 rw [h3] at f3
 rw [h4] at f4
 rw [h2] at f2
 obtain ⟨⟨k2, n2, s2, l2⟩, hw2, h45b⟩ := t45 L (a + 5) (by omega)
 simp only [encE_mk] at h45b
 simp only [encE_mk] at h45
 have h46 := t46m [r0, r1] (by simp) (by simp)
 simp only [List.map_cons, List.map_nil, List.length_cons, List.length_nil, Nat.reduceAdd, Nat.zero_add] at h46
 obtain ⟨xs, hxs⟩ : ∃ xs : List St, xs = [.mk 3 r0 em ⟨#[120]⟩ em (.mk 4 0 em [.mk 2 0 ⟨#[120]⟩ [], .mk 1 1 em []]) [] [] em [],
   .mk 1 r0 r1 s41 em (.mk k1 n1 s1 l1) [] [] em [],
   .mk 5 em em em em ex0 [] [] nm [r0, r1],
   .mk 3 r0 em ⟨#[122]⟩ em (.mk k2 n2 s2 l2) [] [] em []] := ⟨_, rfl⟩
 refine ⟨.mk 4 r0 em em em (.mk 2 0 ⟨#[120]⟩ []) xs [] em [], a + 8, by omega, by omega, ?_, fun sid N T hT => hT.trimO (by simp only [noref, norefL, Bool.and_true]; exact noref_encS _) ?_⟩
 ·rw [hxs]; simp [wS, wSs, wE, wEs, ex0] at hw1 hw2 ⊢; omega
 have g1 : ((1 : Int) < ((2 : Nat) : Int)) = True := by simp
 have g2 : (((2 : Nat) : Int) = 2) = True := by simp
 refine ACall.intro cm17 600 (by simp) ?_
 simp only [encH, List.map_cons, List.map_nil]
 simp -implicitDefEqProofs only [sm17, hT.tok.len, hT.tok.at0, hT.tok.atS, hT.tok.set0, hT.tok.setS, hT.tok.get, Int.reduceEq, g1, g2, go_sem]
 repeat' (first | ((first | (with_reducible first | refine cgA ((h41.at hT _)) ?_ | refine cgA ((h45.at hT _)) ?_ | refine cgA ((f3.at hT _)) ?_ | refine cgA ((f4.at hT _)) ?_ | refine cgA ((f2.at hT _)) ?_ | refine cgA ((h45b.at hT _)) ?_ | refine cgA ((h46 _)) ?_) | (with_reducible refine F_q2 ?_) | (with_reducible refine F_p2 ?_)); simp -implicitDefEqProofs only [hT.tok.len, hT.tok.at0, hT.tok.atS, hT.tok.set0, hT.tok.setS, hT.tok.get, Int.reduceEq, g1, g2, go_sem]) | (with_reducible refine Fork.mk ?_ ?_) | (with_reducible refine And.intro ?_ ?_) | ((with_reducible refine rpI ?_); simp -implicitDefEqProofs only [rm17, hT.tok.len, hT.tok.at0, hT.tok.atS, hT.tok.set0, hT.tok.setS, hT.tok.get, push_cast, go_sem_proc]) | intro _)
 all_goals first
  | (exfalso; assumption)
  | (exact ⟨by decide, by decide⟩)
  | (simp [ixP]; done)
  | (simp [ixP]; omega)
  | (rename_i hx; simp at hx; done)
  | (rename_i hx; simp at hx; subst hx; simp [cellsV]; done)
  | omega
  | skip
 refine ⟨List.range' N 10, encS (.mk 4 r0 em em em (.mk 2 0 ⟨#[120]⟩ []) xs [] em []), ?_, ?_⟩
 ·rw [keepL_tail' (hm := ?_) (hA := ?_)]
  ·rw [hxs]
   simp -implicitDefEqProofs only [dead_at, dead_at0, encS_mk, encE_mk, em, ex0, List.map_cons, List.map_nil, push_cast, go_sem_proc]
  ·exact hT.tok.len _
  ·rfl
 ·rw [killL_tail2 (hA := ?_) (hm := ?_)]
  ·simp only [encS_mk]
   simp -implicitDefEqProofs only [rm17, push_cast, go_sem_proc]
   refine ⟨by decide, ?_⟩
   exact ⟨_, rfl⟩
  ·exact hT.tok.len _
  ·rfl
set_option maxRecDepth 20000 in
set_option maxHeartbeats 8000000 in
theorem t17ut100 (L : List Int) (a : Nat) (ha : a ≤ 800000) (nm r0 r1 : ByteArray)
  (h3 : decide (nxF L (a + 3) 3 = 0) = true) (h4 : decide (nxF L (a + 4) 4 = 0) = false) (h2 : decide (nxF L (a + 5) 2 = 0) = false) :
  ∃ x a', a ≤ a' ∧ a' ≤ a + 10 ∧ wS x ≤ 30 ∧ MC 39 L a [encH (nm, [r0, r1])] (.fs [encS x]) a' := by
 obtain ⟨⟨k1, n1, s1, l1⟩, hw1, h45⟩ := t45 L (a + 1) (by omega)
 have h41 := (t41 L a [⟨#[120]⟩, ⟨#[121]⟩] (by omega) (by decide) (by decide))
 simp only [List.map_cons, List.map_nil] at h41
 generalize ([⟨#[120]⟩, ⟨#[121]⟩] : List ByteArray).getD _ _ = s41 at h41
 have f3 := t14 L (a + 3) 3 (by omega)
 have f4 := t14 L (a + 4) 4 (by omega)
 have f2 := t14 L (a + 5) 2 (by omega)
 rw [h3] at f3
 rw [h4] at f4
 rw [h2] at f2
 simp only [encE_mk] at h45
 have h46 := t46m [r0, r1] (by simp) (by simp)
 simp only [List.map_cons, List.map_nil, List.length_cons, List.length_nil, Nat.reduceAdd, Nat.zero_add] at h46
 obtain ⟨xs, hxs⟩ : ∃ xs : List St, xs = [.mk 3 r0 em ⟨#[120]⟩ em (.mk 4 0 em [.mk 2 0 ⟨#[120]⟩ [], .mk 1 1 em []]) [] [] em [],
   .mk 1 r0 r1 s41 em (.mk k1 n1 s1 l1) [] [] em [],
   .mk 5 em em em em ex0 [] [] nm [r1, r0]] := ⟨_, rfl⟩
 refine ⟨.mk 4 r0 em em em (.mk 6 0 em [.mk 1 0 em [], .mk 2 0 ⟨#[120]⟩ []]) xs [] em [], a + 6, by omega, by omega, ?_, fun sid N T hT => hT.trimO (by simp only [noref, norefL, Bool.and_true]; exact noref_encS _) ?_⟩
 ·rw [hxs]; simp [wS, wSs, wE, wEs, ex0] at hw1 ⊢; omega
 have g1 : ((1 : Int) < ((2 : Nat) : Int)) = True := by simp
 have g2 : (((2 : Nat) : Int) = 2) = True := by simp
 refine ACall.intro cm17 600 (by simp) ?_
 simp only [encH, List.map_cons, List.map_nil]
 simp -implicitDefEqProofs only [sm17, hT.tok.len, hT.tok.at0, hT.tok.atS, hT.tok.set0, hT.tok.setS, hT.tok.get, Int.reduceEq, g1, g2, go_sem]
 repeat' (first | ((first | (with_reducible first | refine cgA ((h41.at hT _)) ?_ | refine cgA ((h45.at hT _)) ?_ | refine cgA ((f3.at hT _)) ?_ | refine cgA ((f4.at hT _)) ?_ | refine cgA ((f2.at hT _)) ?_ | refine cgA ((h46 _)) ?_ | refine cgA ((t47 r0 r1 _ (N + 5) (by simp only [hT.tok.len, hT.tok.at0, hT.tok.atS, hT.tok.set0, hT.tok.setS, hT.tok.get, List.getElem?_cons_succ, List.getElem?_cons_zero]))) ?_) | (with_reducible refine F_q2 ?_) | (with_reducible refine F_p2 ?_)); simp -implicitDefEqProofs only [hT.tok.len, hT.tok.at0, hT.tok.atS, hT.tok.set0, hT.tok.setS, hT.tok.get, Int.reduceEq, g1, g2, go_sem]) | (with_reducible refine Fork.mk ?_ ?_) | (with_reducible refine And.intro ?_ ?_) | ((with_reducible refine rpI ?_); simp -implicitDefEqProofs only [rm17, hT.tok.len, hT.tok.at0, hT.tok.atS, hT.tok.set0, hT.tok.setS, hT.tok.get, push_cast, go_sem_proc]) | intro _)
 all_goals first
  | (exfalso; assumption)
  | (exact ⟨by decide, by decide⟩)
  | (simp [ixP]; done)
  | (simp [ixP]; omega)
  | (rename_i hx; simp at hx; done)
  | (rename_i hx; simp at hx; subst hx; simp [cellsV]; done)
  | omega
  | skip
 refine ⟨List.range' N 9, encS (.mk 4 r0 em em em (.mk 6 0 em [.mk 1 0 em [], .mk 2 0 ⟨#[120]⟩ []]) xs [] em []), ?_, ?_⟩
 ·rw [keepL_tail' (hm := ?_) (hA := ?_)]
  ·rw [hxs]
   simp -implicitDefEqProofs only [dead_at, dead_at0, encS_mk, encE_mk, em, ex0, List.map_cons, List.map_nil, push_cast, go_sem_proc]
  ·exact hT.tok.len _
  ·rfl
 ·rw [killL_tail2 (hA := ?_) (hm := ?_)]
  ·simp only [encS_mk]
   simp -implicitDefEqProofs only [rm17, push_cast, go_sem_proc]
   refine ⟨by decide, ?_⟩
   exact ⟨_, rfl⟩
  ·exact hT.tok.len _
  ·rfl
set_option maxRecDepth 20000 in
set_option maxHeartbeats 8000000 in
theorem t17ut101 (L : List Int) (a : Nat) (ha : a ≤ 800000) (nm r0 r1 : ByteArray)
  (h3 : decide (nxF L (a + 3) 3 = 0) = true) (h4 : decide (nxF L (a + 4) 4 = 0) = false) (h2 : decide (nxF L (a + 5) 2 = 0) = true) :
  ∃ x a', a ≤ a' ∧ a' ≤ a + 10 ∧ wS x ≤ 30 ∧ MC 39 L a [encH (nm, [r0, r1])] (.fs [encS x]) a' := by
 obtain ⟨⟨k1, n1, s1, l1⟩, hw1, h45⟩ := t45 L (a + 1) (by omega)
 have h41 := (t41 L a [⟨#[120]⟩, ⟨#[121]⟩] (by omega) (by decide) (by decide))
 simp only [List.map_cons, List.map_nil] at h41
 generalize ([⟨#[120]⟩, ⟨#[121]⟩] : List ByteArray).getD _ _ = s41 at h41
 have f3 := t14 L (a + 3) 3 (by omega)
 have f4 := t14 L (a + 4) 4 (by omega)
 have f2 := t14 L (a + 5) 2 (by omega)
 rw [h3] at f3
 rw [h4] at f4
 rw [h2] at f2
 simp only [encE_mk] at h45
 have h46 := t46m [r0, r1] (by simp) (by simp)
 simp only [List.map_cons, List.map_nil, List.length_cons, List.length_nil, Nat.reduceAdd, Nat.zero_add] at h46
 obtain ⟨xs, hxs⟩ : ∃ xs : List St, xs = [.mk 3 r0 em ⟨#[120]⟩ em (.mk 4 0 em [.mk 2 0 ⟨#[120]⟩ [], .mk 1 1 em []]) [] [] em [],
   .mk 1 r0 r1 s41 em (.mk k1 n1 s1 l1) [] [] em [],
   .mk 5 em em em em ex0 [] [] nm [r1, r0]] := ⟨_, rfl⟩
 refine ⟨.mk 4 r0 em em em (.mk 2 0 ⟨#[120]⟩ []) xs [] em [], a + 6, by omega, by omega, ?_, fun sid N T hT => hT.trimO (by simp only [noref, norefL, Bool.and_true]; exact noref_encS _) ?_⟩
 ·rw [hxs]; simp [wS, wSs, wE, wEs, ex0] at hw1 ⊢; omega
 have g1 : ((1 : Int) < ((2 : Nat) : Int)) = True := by simp
 have g2 : (((2 : Nat) : Int) = 2) = True := by simp
 refine ACall.intro cm17 600 (by simp) ?_
 simp only [encH, List.map_cons, List.map_nil]
 simp -implicitDefEqProofs only [sm17, hT.tok.len, hT.tok.at0, hT.tok.atS, hT.tok.set0, hT.tok.setS, hT.tok.get, Int.reduceEq, g1, g2, go_sem]
 repeat' (first | ((first | (with_reducible first | refine cgA ((h41.at hT _)) ?_ | refine cgA ((h45.at hT _)) ?_ | refine cgA ((f3.at hT _)) ?_ | refine cgA ((f4.at hT _)) ?_ | refine cgA ((f2.at hT _)) ?_ | refine cgA ((h46 _)) ?_ | refine cgA ((t47 r0 r1 _ (N + 5) (by simp only [hT.tok.len, hT.tok.at0, hT.tok.atS, hT.tok.set0, hT.tok.setS, hT.tok.get, List.getElem?_cons_succ, List.getElem?_cons_zero]))) ?_) | (with_reducible refine F_q2 ?_) | (with_reducible refine F_p2 ?_)); simp -implicitDefEqProofs only [hT.tok.len, hT.tok.at0, hT.tok.atS, hT.tok.set0, hT.tok.setS, hT.tok.get, Int.reduceEq, g1, g2, go_sem]) | (with_reducible refine Fork.mk ?_ ?_) | (with_reducible refine And.intro ?_ ?_) | ((with_reducible refine rpI ?_); simp -implicitDefEqProofs only [rm17, hT.tok.len, hT.tok.at0, hT.tok.atS, hT.tok.set0, hT.tok.setS, hT.tok.get, push_cast, go_sem_proc]) | intro _)
 all_goals first
  | (exfalso; assumption)
  | (exact ⟨by decide, by decide⟩)
  | (simp [ixP]; done)
  | (simp [ixP]; omega)
  | (rename_i hx; simp at hx; done)
  | (rename_i hx; simp at hx; subst hx; simp [cellsV]; done)
  | omega
  | skip
 refine ⟨List.range' N 9, encS (.mk 4 r0 em em em (.mk 2 0 ⟨#[120]⟩ []) xs [] em []), ?_, ?_⟩
 ·rw [keepL_tail' (hm := ?_) (hA := ?_)]
  ·rw [hxs]
   simp -implicitDefEqProofs only [dead_at, dead_at0, encS_mk, encE_mk, em, ex0, List.map_cons, List.map_nil, push_cast, go_sem_proc]
  ·exact hT.tok.len _
  ·rfl
 ·rw [killL_tail2 (hA := ?_) (hm := ?_)]
  ·simp only [encS_mk]
   simp -implicitDefEqProofs only [rm17, push_cast, go_sem_proc]
   refine ⟨by decide, ?_⟩
   exact ⟨_, rfl⟩
  ·exact hT.tok.len _
  ·rfl
set_option maxRecDepth 20000 in
set_option maxHeartbeats 8000000 in
theorem t17ut110 (L : List Int) (a : Nat) (ha : a ≤ 800000) (nm r0 r1 : ByteArray)
  (h3 : decide (nxF L (a + 3) 3 = 0) = true) (h4 : decide (nxF L (a + 4) 4 = 0) = true) (h2 : decide (nxF L (a + 7) 2 = 0) = false) :
  ∃ x a', a ≤ a' ∧ a' ≤ a + 10 ∧ wS x ≤ 30 ∧ MC 39 L a [encH (nm, [r0, r1])] (.fs [encS x]) a' := by
 obtain ⟨⟨k1, n1, s1, l1⟩, hw1, h45⟩ := t45 L (a + 1) (by omega)
 have h41 := (t41 L a [⟨#[120]⟩, ⟨#[121]⟩] (by omega) (by decide) (by decide))
 simp only [List.map_cons, List.map_nil] at h41
 generalize ([⟨#[120]⟩, ⟨#[121]⟩] : List ByteArray).getD _ _ = s41 at h41
 have f3 := t14 L (a + 3) 3 (by omega)
 have f4 := t14 L (a + 4) 4 (by omega)
 have f2 := t14 L (a + 7) 2 (by omega)
 rw [h3] at f3
 rw [h4] at f4
 rw [h2] at f2
 obtain ⟨⟨k2, n2, s2, l2⟩, hw2, h45b⟩ := t45 L (a + 5) (by omega)
 simp only [encE_mk] at h45b
 simp only [encE_mk] at h45
 have h46 := t46m [r0, r1] (by simp) (by simp)
 simp only [List.map_cons, List.map_nil, List.length_cons, List.length_nil, Nat.reduceAdd, Nat.zero_add] at h46
 obtain ⟨xs, hxs⟩ : ∃ xs : List St, xs = [.mk 3 r0 em ⟨#[120]⟩ em (.mk 4 0 em [.mk 2 0 ⟨#[120]⟩ [], .mk 1 1 em []]) [] [] em [],
   .mk 1 r0 r1 s41 em (.mk k1 n1 s1 l1) [] [] em [],
   .mk 5 em em em em ex0 [] [] nm [r1, r0],
   .mk 3 r0 em ⟨#[122]⟩ em (.mk k2 n2 s2 l2) [] [] em []] := ⟨_, rfl⟩
 refine ⟨.mk 4 r0 em em em (.mk 6 0 em [.mk 1 0 em [], .mk 2 0 ⟨#[120]⟩ []]) xs [] em [], a + 8, by omega, by omega, ?_, fun sid N T hT => hT.trimO (by simp only [noref, norefL, Bool.and_true]; exact noref_encS _) ?_⟩
 ·rw [hxs]; simp [wS, wSs, wE, wEs, ex0] at hw1 hw2 ⊢; omega
 have g1 : ((1 : Int) < ((2 : Nat) : Int)) = True := by simp
 have g2 : (((2 : Nat) : Int) = 2) = True := by simp
 refine ACall.intro cm17 600 (by simp) ?_
 simp only [encH, List.map_cons, List.map_nil]
 simp -implicitDefEqProofs only [sm17, hT.tok.len, hT.tok.at0, hT.tok.atS, hT.tok.set0, hT.tok.setS, hT.tok.get, Int.reduceEq, g1, g2, go_sem]
 repeat' (first | ((first | (with_reducible first | refine cgA ((h41.at hT _)) ?_ | refine cgA ((h45.at hT _)) ?_ | refine cgA ((f3.at hT _)) ?_ | refine cgA ((f4.at hT _)) ?_ | refine cgA ((f2.at hT _)) ?_ | refine cgA ((h45b.at hT _)) ?_ | refine cgA ((h46 _)) ?_ | refine cgA ((t47 r0 r1 _ (N + 5) (by simp only [hT.tok.len, hT.tok.at0, hT.tok.atS, hT.tok.set0, hT.tok.setS, hT.tok.get, List.getElem?_cons_succ, List.getElem?_cons_zero]))) ?_) | (with_reducible refine F_q2 ?_) | (with_reducible refine F_p2 ?_)); simp -implicitDefEqProofs only [hT.tok.len, hT.tok.at0, hT.tok.atS, hT.tok.set0, hT.tok.setS, hT.tok.get, Int.reduceEq, g1, g2, go_sem]) | (with_reducible refine Fork.mk ?_ ?_) | (with_reducible refine And.intro ?_ ?_) | ((with_reducible refine rpI ?_); simp -implicitDefEqProofs only [rm17, hT.tok.len, hT.tok.at0, hT.tok.atS, hT.tok.set0, hT.tok.setS, hT.tok.get, push_cast, go_sem_proc]) | intro _)
 all_goals first
  | (exfalso; assumption)
  | (exact ⟨by decide, by decide⟩)
  | (simp [ixP]; done)
  | (simp [ixP]; omega)
  | (rename_i hx; simp at hx; done)
  | (rename_i hx; simp at hx; subst hx; simp [cellsV]; done)
  | omega
  | skip
 refine ⟨List.range' N 10, encS (.mk 4 r0 em em em (.mk 6 0 em [.mk 1 0 em [], .mk 2 0 ⟨#[120]⟩ []]) xs [] em []), ?_, ?_⟩
 ·rw [keepL_tail' (hm := ?_) (hA := ?_)]
  ·rw [hxs]
   simp -implicitDefEqProofs only [dead_at, dead_at0, encS_mk, encE_mk, em, ex0, List.map_cons, List.map_nil, push_cast, go_sem_proc]
  ·exact hT.tok.len _
  ·rfl
 ·rw [killL_tail2 (hA := ?_) (hm := ?_)]
  ·simp only [encS_mk]
   simp -implicitDefEqProofs only [rm17, push_cast, go_sem_proc]
   refine ⟨by decide, ?_⟩
   exact ⟨_, rfl⟩
  ·exact hT.tok.len _
  ·rfl
set_option maxRecDepth 20000 in
set_option maxHeartbeats 8000000 in
theorem t17ut111 (L : List Int) (a : Nat) (ha : a ≤ 800000) (nm r0 r1 : ByteArray)
  (h3 : decide (nxF L (a + 3) 3 = 0) = true) (h4 : decide (nxF L (a + 4) 4 = 0) = true) (h2 : decide (nxF L (a + 7) 2 = 0) = true) :
  ∃ x a', a ≤ a' ∧ a' ≤ a + 10 ∧ wS x ≤ 30 ∧ MC 39 L a [encH (nm, [r0, r1])] (.fs [encS x]) a' := by
 obtain ⟨⟨k1, n1, s1, l1⟩, hw1, h45⟩ := t45 L (a + 1) (by omega)
 have h41 := (t41 L a [⟨#[120]⟩, ⟨#[121]⟩] (by omega) (by decide) (by decide))
 simp only [List.map_cons, List.map_nil] at h41
 generalize ([⟨#[120]⟩, ⟨#[121]⟩] : List ByteArray).getD _ _ = s41 at h41
 have f3 := t14 L (a + 3) 3 (by omega)
 have f4 := t14 L (a + 4) 4 (by omega)
 have f2 := t14 L (a + 7) 2 (by omega)
 rw [h3] at f3
 rw [h4] at f4
 rw [h2] at f2
 obtain ⟨⟨k2, n2, s2, l2⟩, hw2, h45b⟩ := t45 L (a + 5) (by omega)
 simp only [encE_mk] at h45b
 simp only [encE_mk] at h45
 have h46 := t46m [r0, r1] (by simp) (by simp)
 simp only [List.map_cons, List.map_nil, List.length_cons, List.length_nil, Nat.reduceAdd, Nat.zero_add] at h46
 obtain ⟨xs, hxs⟩ : ∃ xs : List St, xs = [.mk 3 r0 em ⟨#[120]⟩ em (.mk 4 0 em [.mk 2 0 ⟨#[120]⟩ [], .mk 1 1 em []]) [] [] em [],
   .mk 1 r0 r1 s41 em (.mk k1 n1 s1 l1) [] [] em [],
   .mk 5 em em em em ex0 [] [] nm [r1, r0],
   .mk 3 r0 em ⟨#[122]⟩ em (.mk k2 n2 s2 l2) [] [] em []] := ⟨_, rfl⟩
 refine ⟨.mk 4 r0 em em em (.mk 2 0 ⟨#[120]⟩ []) xs [] em [], a + 8, by omega, by omega, ?_, fun sid N T hT => hT.trimO (by simp only [noref, norefL, Bool.and_true]; exact noref_encS _) ?_⟩
 ·rw [hxs]; simp [wS, wSs, wE, wEs, ex0] at hw1 hw2 ⊢; omega
 have g1 : ((1 : Int) < ((2 : Nat) : Int)) = True := by simp
 have g2 : (((2 : Nat) : Int) = 2) = True := by simp
 refine ACall.intro cm17 600 (by simp) ?_
 simp only [encH, List.map_cons, List.map_nil]
 simp -implicitDefEqProofs only [sm17, hT.tok.len, hT.tok.at0, hT.tok.atS, hT.tok.set0, hT.tok.setS, hT.tok.get, Int.reduceEq, g1, g2, go_sem]
 repeat' (first | ((first | (with_reducible first | refine cgA ((h41.at hT _)) ?_ | refine cgA ((h45.at hT _)) ?_ | refine cgA ((f3.at hT _)) ?_ | refine cgA ((f4.at hT _)) ?_ | refine cgA ((f2.at hT _)) ?_ | refine cgA ((h45b.at hT _)) ?_ | refine cgA ((h46 _)) ?_ | refine cgA ((t47 r0 r1 _ (N + 5) (by simp only [hT.tok.len, hT.tok.at0, hT.tok.atS, hT.tok.set0, hT.tok.setS, hT.tok.get, List.getElem?_cons_succ, List.getElem?_cons_zero]))) ?_) | (with_reducible refine F_q2 ?_) | (with_reducible refine F_p2 ?_)); simp -implicitDefEqProofs only [hT.tok.len, hT.tok.at0, hT.tok.atS, hT.tok.set0, hT.tok.setS, hT.tok.get, Int.reduceEq, g1, g2, go_sem]) | (with_reducible refine Fork.mk ?_ ?_) | (with_reducible refine And.intro ?_ ?_) | ((with_reducible refine rpI ?_); simp -implicitDefEqProofs only [rm17, hT.tok.len, hT.tok.at0, hT.tok.atS, hT.tok.set0, hT.tok.setS, hT.tok.get, push_cast, go_sem_proc]) | intro _)
 all_goals first
  | (exfalso; assumption)
  | (exact ⟨by decide, by decide⟩)
  | (simp [ixP]; done)
  | (simp [ixP]; omega)
  | (rename_i hx; simp at hx; done)
  | (rename_i hx; simp at hx; subst hx; simp [cellsV]; done)
  | omega
  | skip
 refine ⟨List.range' N 10, encS (.mk 4 r0 em em em (.mk 2 0 ⟨#[120]⟩ []) xs [] em []), ?_, ?_⟩
 ·rw [keepL_tail' (hm := ?_) (hA := ?_)]
  ·rw [hxs]
   simp -implicitDefEqProofs only [dead_at, dead_at0, encS_mk, encE_mk, em, ex0, List.map_cons, List.map_nil, push_cast, go_sem_proc]
  ·exact hT.tok.len _
  ·rfl
 ·rw [killL_tail2 (hA := ?_) (hm := ?_)]
  ·simp only [encS_mk]
   simp -implicitDefEqProofs only [rm17, push_cast, go_sem_proc]
   refine ⟨by decide, ?_⟩
   exact ⟨_, rfl⟩
  ·exact hT.tok.len _
  ·rfl
set_option maxRecDepth 20000 in
set_option maxHeartbeats 8000000 in
theorem t17um000 (L : List Int) (a : Nat) (ha : a ≤ 800000) (nm r0 r1 : ByteArray) (r2 : ByteArray) (rest : List ByteArray) (hrest : rest.length ≤ 10)
  (h3 : decide (nxF L (a + 3) 3 = 0) = false) (h4 : decide (nxF L (a + 4) 4 = 0) = false) (h2 : decide (nxF L (a + 5) 2 = 0) = false) :
  ∃ x a', a ≤ a' ∧ a' ≤ a + 10 ∧ wS x ≤ 30 ∧ MC 39 L a [encH (nm, (r0 :: r1 :: r2 :: rest))] (.fs [encS x]) a' := by
 obtain ⟨⟨k1, n1, s1, l1⟩, hw1, h45⟩ := t45 L (a + 1) (by omega)
 have h41 := (t41 L a [⟨#[120]⟩, ⟨#[121]⟩] (by omega) (by decide) (by decide))
 simp only [List.map_cons, List.map_nil] at h41
 generalize ([⟨#[120]⟩, ⟨#[121]⟩] : List ByteArray).getD _ _ = s41 at h41
 have f3 := t14 L (a + 3) 3 (by omega)
 have f4 := t14 L (a + 4) 4 (by omega)
 have f2 := t14 L (a + 5) 2 (by omega)
 rw [h3] at f3
 rw [h4] at f4
 rw [h2] at f2
 simp only [encE_mk] at h45
 have h46 := t46m (r0 :: r1 :: r2 :: rest) (by simp) (by simp; omega)
 simp only [List.map_cons, List.map_nil, List.length_cons, List.length_nil, Nat.reduceAdd, Nat.zero_add] at h46
 obtain ⟨xs, hxs⟩ : ∃ xs : List St, xs = [.mk 3 r0 em ⟨#[120]⟩ em (.mk 4 0 em [.mk 2 0 ⟨#[120]⟩ [], .mk 1 1 em []]) [] [] em [],
   .mk 1 r0 r1 s41 em (.mk k1 n1 s1 l1) [] [] em [],
   .mk 5 em em em em ex0 [] [] nm (r0 :: r1 :: r2 :: rest)] := ⟨_, rfl⟩
 refine ⟨.mk 4 r0 em em em (.mk 6 0 em [.mk 1 0 em [], .mk 2 0 ⟨#[120]⟩ []]) xs [] em [], a + 6, by omega, by omega, ?_, fun sid N T hT => hT.trimO (by simp only [noref, norefL, Bool.and_true]; exact noref_encS _) ?_⟩
 ·rw [hxs]; simp [wS, wSs, wE, wEs, ex0] at hw1 ⊢; omega
 have g1 : ((1 : Int) < ((rest.length + 3 : Nat) : Int)) = True := by simp; omega
 have g2 : (((rest.length + 3 : Nat) : Int) = 2) = False := by simp; omega
 have htk : List.take rest.length (rest.map V.str) = rest.map V.str := List.take_of_length_le (by simp)
 have hfl : ∀ (H : List Blk) (n : Nat), fzL (fz H (n + 1)) (rest.map V.str) = some (rest.map V.str) := fun H n => fzL_map _ _ (fun x => fz_str _ _ x) rest
 refine ACall.intro cm17 600 (by simp) ?_
 simp only [encH, List.map_cons, List.map_nil]
 simp -implicitDefEqProofs only [sm17, hT.tok.len, hT.tok.at0, hT.tok.atS, hT.tok.set0, hT.tok.setS, hT.tok.get, Int.reduceEq, g1, g2, go_sem]
 repeat' (first | ((first | (with_reducible first | refine cgA ((h41.at hT _)) ?_ | refine cgA ((h45.at hT _)) ?_ | refine cgA ((f3.at hT _)) ?_ | refine cgA ((f4.at hT _)) ?_ | refine cgA ((f2.at hT _)) ?_ | refine cgA ((h46 _)) ?_) | (with_reducible refine F_q2 ?_) | (with_reducible refine F_p2 ?_)); simp -implicitDefEqProofs only [hT.tok.len, hT.tok.at0, hT.tok.atS, hT.tok.set0, hT.tok.setS, hT.tok.get, Int.reduceEq, g1, g2, go_sem]) | (with_reducible refine Fork.mk ?_ ?_) | (with_reducible refine And.intro ?_ ?_) | ((with_reducible refine rpI ?_); simp -implicitDefEqProofs only [rm17, hT.tok.len, hT.tok.at0, hT.tok.atS, hT.tok.set0, hT.tok.setS, hT.tok.get, push_cast, go_sem_proc]) | intro _)
 all_goals first
  | (exfalso; assumption)
  | (exact ⟨by decide, by decide⟩)
  | (simp [ixP]; done)
  | (simp [ixP]; omega)
  | (rename_i hx; simp at hx; done)
  | (rename_i hx; simp at hx; subst hx; simp [cellsV]; done)
  | omega
  | skip
 refine ⟨List.range' N 9, encS (.mk 4 r0 em em em (.mk 6 0 em [.mk 1 0 em [], .mk 2 0 ⟨#[120]⟩ []]) xs [] em []), ?_, ?_⟩
 ·rw [keepL_tail' (hm := ?_) (hA := ?_)]
  ·rw [hxs]
   simp -implicitDefEqProofs only [dead_at, dead_at0, encS_mk, encE_mk, em, ex0, List.map_cons, List.map_nil, htk, hfl, push_cast, go_sem_proc]
  ·exact hT.tok.len _
  ·rfl
 ·rw [killL_tail2 (hA := ?_) (hm := ?_)]
  ·simp only [encS_mk]
   simp -implicitDefEqProofs only [rm17, push_cast, go_sem_proc]
   refine ⟨by decide, ?_⟩
   exact ⟨_, rfl⟩
  ·exact hT.tok.len _
  ·rfl
set_option maxRecDepth 20000 in
set_option maxHeartbeats 8000000 in
theorem t17um001 (L : List Int) (a : Nat) (ha : a ≤ 800000) (nm r0 r1 : ByteArray) (r2 : ByteArray) (rest : List ByteArray) (hrest : rest.length ≤ 10)
  (h3 : decide (nxF L (a + 3) 3 = 0) = false) (h4 : decide (nxF L (a + 4) 4 = 0) = false) (h2 : decide (nxF L (a + 5) 2 = 0) = true) :
  ∃ x a', a ≤ a' ∧ a' ≤ a + 10 ∧ wS x ≤ 30 ∧ MC 39 L a [encH (nm, (r0 :: r1 :: r2 :: rest))] (.fs [encS x]) a' := by
 obtain ⟨⟨k1, n1, s1, l1⟩, hw1, h45⟩ := t45 L (a + 1) (by omega)
 have h41 := (t41 L a [⟨#[120]⟩, ⟨#[121]⟩] (by omega) (by decide) (by decide))
 simp only [List.map_cons, List.map_nil] at h41
 generalize ([⟨#[120]⟩, ⟨#[121]⟩] : List ByteArray).getD _ _ = s41 at h41
 have f3 := t14 L (a + 3) 3 (by omega)
 have f4 := t14 L (a + 4) 4 (by omega)
 have f2 := t14 L (a + 5) 2 (by omega)
 rw [h3] at f3
 rw [h4] at f4
 rw [h2] at f2
 simp only [encE_mk] at h45
 have h46 := t46m (r0 :: r1 :: r2 :: rest) (by simp) (by simp; omega)
 simp only [List.map_cons, List.map_nil, List.length_cons, List.length_nil, Nat.reduceAdd, Nat.zero_add] at h46
 obtain ⟨xs, hxs⟩ : ∃ xs : List St, xs = [.mk 3 r0 em ⟨#[120]⟩ em (.mk 4 0 em [.mk 2 0 ⟨#[120]⟩ [], .mk 1 1 em []]) [] [] em [],
   .mk 1 r0 r1 s41 em (.mk k1 n1 s1 l1) [] [] em [],
   .mk 5 em em em em ex0 [] [] nm (r0 :: r1 :: r2 :: rest)] := ⟨_, rfl⟩
 refine ⟨.mk 4 r0 em em em (.mk 2 0 ⟨#[120]⟩ []) xs [] em [], a + 6, by omega, by omega, ?_, fun sid N T hT => hT.trimO (by simp only [noref, norefL, Bool.and_true]; exact noref_encS _) ?_⟩
 ·rw [hxs]; simp [wS, wSs, wE, wEs, ex0] at hw1 ⊢; omega
 have g1 : ((1 : Int) < ((rest.length + 3 : Nat) : Int)) = True := by simp; omega
 have g2 : (((rest.length + 3 : Nat) : Int) = 2) = False := by simp; omega
 have htk : List.take rest.length (rest.map V.str) = rest.map V.str := List.take_of_length_le (by simp)
 have hfl : ∀ (H : List Blk) (n : Nat), fzL (fz H (n + 1)) (rest.map V.str) = some (rest.map V.str) := fun H n => fzL_map _ _ (fun x => fz_str _ _ x) rest
 refine ACall.intro cm17 600 (by simp) ?_
 simp only [encH, List.map_cons, List.map_nil]
 simp -implicitDefEqProofs only [sm17, hT.tok.len, hT.tok.at0, hT.tok.atS, hT.tok.set0, hT.tok.setS, hT.tok.get, Int.reduceEq, g1, g2, go_sem]
 repeat' (first | ((first | (with_reducible first | refine cgA ((h41.at hT _)) ?_ | refine cgA ((h45.at hT _)) ?_ | refine cgA ((f3.at hT _)) ?_ | refine cgA ((f4.at hT _)) ?_ | refine cgA ((f2.at hT _)) ?_ | refine cgA ((h46 _)) ?_) | (with_reducible refine F_q2 ?_) | (with_reducible refine F_p2 ?_)); simp -implicitDefEqProofs only [hT.tok.len, hT.tok.at0, hT.tok.atS, hT.tok.set0, hT.tok.setS, hT.tok.get, Int.reduceEq, g1, g2, go_sem]) | (with_reducible refine Fork.mk ?_ ?_) | (with_reducible refine And.intro ?_ ?_) | ((with_reducible refine rpI ?_); simp -implicitDefEqProofs only [rm17, hT.tok.len, hT.tok.at0, hT.tok.atS, hT.tok.set0, hT.tok.setS, hT.tok.get, push_cast, go_sem_proc]) | intro _)
 all_goals first
  | (exfalso; assumption)
  | (exact ⟨by decide, by decide⟩)
  | (simp [ixP]; done)
  | (simp [ixP]; omega)
  | (rename_i hx; simp at hx; done)
  | (rename_i hx; simp at hx; subst hx; simp [cellsV]; done)
  | omega
  | skip
 refine ⟨List.range' N 9, encS (.mk 4 r0 em em em (.mk 2 0 ⟨#[120]⟩ []) xs [] em []), ?_, ?_⟩
 ·rw [keepL_tail' (hm := ?_) (hA := ?_)]
  ·rw [hxs]
   simp -implicitDefEqProofs only [dead_at, dead_at0, encS_mk, encE_mk, em, ex0, List.map_cons, List.map_nil, htk, hfl, push_cast, go_sem_proc]
  ·exact hT.tok.len _
  ·rfl
 ·rw [killL_tail2 (hA := ?_) (hm := ?_)]
  ·simp only [encS_mk]
   simp -implicitDefEqProofs only [rm17, push_cast, go_sem_proc]
   refine ⟨by decide, ?_⟩
   exact ⟨_, rfl⟩
  ·exact hT.tok.len _
  ·rfl
set_option maxRecDepth 20000 in
set_option maxHeartbeats 8000000 in
theorem t17um010 (L : List Int) (a : Nat) (ha : a ≤ 800000) (nm r0 r1 : ByteArray) (r2 : ByteArray) (rest : List ByteArray) (hrest : rest.length ≤ 10)
  (h3 : decide (nxF L (a + 3) 3 = 0) = false) (h4 : decide (nxF L (a + 4) 4 = 0) = true) (h2 : decide (nxF L (a + 7) 2 = 0) = false) :
  ∃ x a', a ≤ a' ∧ a' ≤ a + 10 ∧ wS x ≤ 30 ∧ MC 39 L a [encH (nm, (r0 :: r1 :: r2 :: rest))] (.fs [encS x]) a' := by
 obtain ⟨⟨k1, n1, s1, l1⟩, hw1, h45⟩ := t45 L (a + 1) (by omega)
 have h41 := (t41 L a [⟨#[120]⟩, ⟨#[121]⟩] (by omega) (by decide) (by decide))
 simp only [List.map_cons, List.map_nil] at h41
 generalize ([⟨#[120]⟩, ⟨#[121]⟩] : List ByteArray).getD _ _ = s41 at h41
 have f3 := t14 L (a + 3) 3 (by omega)
 have f4 := t14 L (a + 4) 4 (by omega)
 have f2 := t14 L (a + 7) 2 (by omega)
 rw [h3] at f3
 rw [h4] at f4
 rw [h2] at f2
 obtain ⟨⟨k2, n2, s2, l2⟩, hw2, h45b⟩ := t45 L (a + 5) (by omega)
 simp only [encE_mk] at h45b
 simp only [encE_mk] at h45
 have h46 := t46m (r0 :: r1 :: r2 :: rest) (by simp) (by simp; omega)
 simp only [List.map_cons, List.map_nil, List.length_cons, List.length_nil, Nat.reduceAdd, Nat.zero_add] at h46
 obtain ⟨xs, hxs⟩ : ∃ xs : List St, xs = [.mk 3 r0 em ⟨#[120]⟩ em (.mk 4 0 em [.mk 2 0 ⟨#[120]⟩ [], .mk 1 1 em []]) [] [] em [],
   .mk 1 r0 r1 s41 em (.mk k1 n1 s1 l1) [] [] em [],
   .mk 5 em em em em ex0 [] [] nm (r0 :: r1 :: r2 :: rest),
   .mk 3 r0 em ⟨#[122]⟩ em (.mk k2 n2 s2 l2) [] [] em []] := ⟨_, rfl⟩
 refine ⟨.mk 4 r0 em em em (.mk 6 0 em [.mk 1 0 em [], .mk 2 0 ⟨#[120]⟩ []]) xs [] em [], a + 8, by omega, by omega, ?_, fun sid N T hT => hT.trimO (by simp only [noref, norefL, Bool.and_true]; exact noref_encS _) ?_⟩
 ·rw [hxs]; simp [wS, wSs, wE, wEs, ex0] at hw1 hw2 ⊢; omega
 have g1 : ((1 : Int) < ((rest.length + 3 : Nat) : Int)) = True := by simp; omega
 have g2 : (((rest.length + 3 : Nat) : Int) = 2) = False := by simp; omega
 have htk : List.take rest.length (rest.map V.str) = rest.map V.str := List.take_of_length_le (by simp)
 have hfl : ∀ (H : List Blk) (n : Nat), fzL (fz H (n + 1)) (rest.map V.str) = some (rest.map V.str) := fun H n => fzL_map _ _ (fun x => fz_str _ _ x) rest
 refine ACall.intro cm17 600 (by simp) ?_
 simp only [encH, List.map_cons, List.map_nil]
 simp -implicitDefEqProofs only [sm17, hT.tok.len, hT.tok.at0, hT.tok.atS, hT.tok.set0, hT.tok.setS, hT.tok.get, Int.reduceEq, g1, g2, go_sem]
 repeat' (first | ((first | (with_reducible first | refine cgA ((h41.at hT _)) ?_ | refine cgA ((h45.at hT _)) ?_ | refine cgA ((f3.at hT _)) ?_ | refine cgA ((f4.at hT _)) ?_ | refine cgA ((f2.at hT _)) ?_ | refine cgA ((h45b.at hT _)) ?_ | refine cgA ((h46 _)) ?_) | (with_reducible refine F_q2 ?_) | (with_reducible refine F_p2 ?_)); simp -implicitDefEqProofs only [hT.tok.len, hT.tok.at0, hT.tok.atS, hT.tok.set0, hT.tok.setS, hT.tok.get, Int.reduceEq, g1, g2, go_sem]) | (with_reducible refine Fork.mk ?_ ?_) | (with_reducible refine And.intro ?_ ?_) | ((with_reducible refine rpI ?_); simp -implicitDefEqProofs only [rm17, hT.tok.len, hT.tok.at0, hT.tok.atS, hT.tok.set0, hT.tok.setS, hT.tok.get, push_cast, go_sem_proc]) | intro _)
 all_goals first
  | (exfalso; assumption)
  | (exact ⟨by decide, by decide⟩)
  | (simp [ixP]; done)
  | (simp [ixP]; omega)
  | (rename_i hx; simp at hx; done)
  | (rename_i hx; simp at hx; subst hx; simp [cellsV]; done)
  | omega
  | skip
 refine ⟨List.range' N 10, encS (.mk 4 r0 em em em (.mk 6 0 em [.mk 1 0 em [], .mk 2 0 ⟨#[120]⟩ []]) xs [] em []), ?_, ?_⟩
 ·rw [keepL_tail' (hm := ?_) (hA := ?_)]
  ·rw [hxs]
   simp -implicitDefEqProofs only [dead_at, dead_at0, encS_mk, encE_mk, em, ex0, List.map_cons, List.map_nil, htk, hfl, push_cast, go_sem_proc]
  ·exact hT.tok.len _
  ·rfl
 ·rw [killL_tail2 (hA := ?_) (hm := ?_)]
  ·simp only [encS_mk]
   simp -implicitDefEqProofs only [rm17, push_cast, go_sem_proc]
   refine ⟨by decide, ?_⟩
   exact ⟨_, rfl⟩
  ·exact hT.tok.len _
  ·rfl
set_option maxRecDepth 20000 in
set_option maxHeartbeats 8000000 in
theorem t17um011 (L : List Int) (a : Nat) (ha : a ≤ 800000) (nm r0 r1 : ByteArray) (r2 : ByteArray) (rest : List ByteArray) (hrest : rest.length ≤ 10)
  (h3 : decide (nxF L (a + 3) 3 = 0) = false) (h4 : decide (nxF L (a + 4) 4 = 0) = true) (h2 : decide (nxF L (a + 7) 2 = 0) = true) :
  ∃ x a', a ≤ a' ∧ a' ≤ a + 10 ∧ wS x ≤ 30 ∧ MC 39 L a [encH (nm, (r0 :: r1 :: r2 :: rest))] (.fs [encS x]) a' := by
 obtain ⟨⟨k1, n1, s1, l1⟩, hw1, h45⟩ := t45 L (a + 1) (by omega)
 have h41 := (t41 L a [⟨#[120]⟩, ⟨#[121]⟩] (by omega) (by decide) (by decide))
 simp only [List.map_cons, List.map_nil] at h41
 generalize ([⟨#[120]⟩, ⟨#[121]⟩] : List ByteArray).getD _ _ = s41 at h41
 have f3 := t14 L (a + 3) 3 (by omega)
 have f4 := t14 L (a + 4) 4 (by omega)
 have f2 := t14 L (a + 7) 2 (by omega)
 rw [h3] at f3
 rw [h4] at f4
 rw [h2] at f2
 obtain ⟨⟨k2, n2, s2, l2⟩, hw2, h45b⟩ := t45 L (a + 5) (by omega)
 simp only [encE_mk] at h45b
 simp only [encE_mk] at h45
 have h46 := t46m (r0 :: r1 :: r2 :: rest) (by simp) (by simp; omega)
 simp only [List.map_cons, List.map_nil, List.length_cons, List.length_nil, Nat.reduceAdd, Nat.zero_add] at h46
 obtain ⟨xs, hxs⟩ : ∃ xs : List St, xs = [.mk 3 r0 em ⟨#[120]⟩ em (.mk 4 0 em [.mk 2 0 ⟨#[120]⟩ [], .mk 1 1 em []]) [] [] em [],
   .mk 1 r0 r1 s41 em (.mk k1 n1 s1 l1) [] [] em [],
   .mk 5 em em em em ex0 [] [] nm (r0 :: r1 :: r2 :: rest),
   .mk 3 r0 em ⟨#[122]⟩ em (.mk k2 n2 s2 l2) [] [] em []] := ⟨_, rfl⟩
 refine ⟨.mk 4 r0 em em em (.mk 2 0 ⟨#[120]⟩ []) xs [] em [], a + 8, by omega, by omega, ?_, fun sid N T hT => hT.trimO (by simp only [noref, norefL, Bool.and_true]; exact noref_encS _) ?_⟩
 ·rw [hxs]; simp [wS, wSs, wE, wEs, ex0] at hw1 hw2 ⊢; omega
 have g1 : ((1 : Int) < ((rest.length + 3 : Nat) : Int)) = True := by simp; omega
 have g2 : (((rest.length + 3 : Nat) : Int) = 2) = False := by simp; omega
 have htk : List.take rest.length (rest.map V.str) = rest.map V.str := List.take_of_length_le (by simp)
 have hfl : ∀ (H : List Blk) (n : Nat), fzL (fz H (n + 1)) (rest.map V.str) = some (rest.map V.str) := fun H n => fzL_map _ _ (fun x => fz_str _ _ x) rest
 refine ACall.intro cm17 600 (by simp) ?_
 simp only [encH, List.map_cons, List.map_nil]
 simp -implicitDefEqProofs only [sm17, hT.tok.len, hT.tok.at0, hT.tok.atS, hT.tok.set0, hT.tok.setS, hT.tok.get, Int.reduceEq, g1, g2, go_sem]
 repeat' (first | ((first | (with_reducible first | refine cgA ((h41.at hT _)) ?_ | refine cgA ((h45.at hT _)) ?_ | refine cgA ((f3.at hT _)) ?_ | refine cgA ((f4.at hT _)) ?_ | refine cgA ((f2.at hT _)) ?_ | refine cgA ((h45b.at hT _)) ?_ | refine cgA ((h46 _)) ?_) | (with_reducible refine F_q2 ?_) | (with_reducible refine F_p2 ?_)); simp -implicitDefEqProofs only [hT.tok.len, hT.tok.at0, hT.tok.atS, hT.tok.set0, hT.tok.setS, hT.tok.get, Int.reduceEq, g1, g2, go_sem]) | (with_reducible refine Fork.mk ?_ ?_) | (with_reducible refine And.intro ?_ ?_) | ((with_reducible refine rpI ?_); simp -implicitDefEqProofs only [rm17, hT.tok.len, hT.tok.at0, hT.tok.atS, hT.tok.set0, hT.tok.setS, hT.tok.get, push_cast, go_sem_proc]) | intro _)
 all_goals first
  | (exfalso; assumption)
  | (exact ⟨by decide, by decide⟩)
  | (simp [ixP]; done)
  | (simp [ixP]; omega)
  | (rename_i hx; simp at hx; done)
  | (rename_i hx; simp at hx; subst hx; simp [cellsV]; done)
  | omega
  | skip
 refine ⟨List.range' N 10, encS (.mk 4 r0 em em em (.mk 2 0 ⟨#[120]⟩ []) xs [] em []), ?_, ?_⟩
 ·rw [keepL_tail' (hm := ?_) (hA := ?_)]
  ·rw [hxs]
   simp -implicitDefEqProofs only [dead_at, dead_at0, encS_mk, encE_mk, em, ex0, List.map_cons, List.map_nil, htk, hfl, push_cast, go_sem_proc]
  ·exact hT.tok.len _
  ·rfl
 ·rw [killL_tail2 (hA := ?_) (hm := ?_)]
  ·simp only [encS_mk]
   simp -implicitDefEqProofs only [rm17, push_cast, go_sem_proc]
   refine ⟨by decide, ?_⟩
   exact ⟨_, rfl⟩
  ·exact hT.tok.len _
  ·rfl
set_option maxRecDepth 20000 in
set_option maxHeartbeats 8000000 in
theorem t17um100 (L : List Int) (a : Nat) (ha : a ≤ 800000) (nm r0 r1 : ByteArray) (r2 : ByteArray) (rest : List ByteArray) (hrest : rest.length ≤ 10)
  (h3 : decide (nxF L (a + 3) 3 = 0) = true) (h4 : decide (nxF L (a + 4) 4 = 0) = false) (h2 : decide (nxF L (a + 5) 2 = 0) = false) :
  ∃ x a', a ≤ a' ∧ a' ≤ a + 10 ∧ wS x ≤ 30 ∧ MC 39 L a [encH (nm, (r0 :: r1 :: r2 :: rest))] (.fs [encS x]) a' := by
 obtain ⟨⟨k1, n1, s1, l1⟩, hw1, h45⟩ := t45 L (a + 1) (by omega)
 have h41 := (t41 L a [⟨#[120]⟩, ⟨#[121]⟩] (by omega) (by decide) (by decide))
 simp only [List.map_cons, List.map_nil] at h41
 generalize ([⟨#[120]⟩, ⟨#[121]⟩] : List ByteArray).getD _ _ = s41 at h41
 have f3 := t14 L (a + 3) 3 (by omega)
 have f4 := t14 L (a + 4) 4 (by omega)
 have f2 := t14 L (a + 5) 2 (by omega)
 rw [h3] at f3
 rw [h4] at f4
 rw [h2] at f2
 simp only [encE_mk] at h45
 have h46 := t46m (r0 :: r1 :: r2 :: rest) (by simp) (by simp; omega)
 simp only [List.map_cons, List.map_nil, List.length_cons, List.length_nil, Nat.reduceAdd, Nat.zero_add] at h46
 obtain ⟨xs, hxs⟩ : ∃ xs : List St, xs = [.mk 3 r0 em ⟨#[120]⟩ em (.mk 4 0 em [.mk 2 0 ⟨#[120]⟩ [], .mk 1 1 em []]) [] [] em [],
   .mk 1 r0 r1 s41 em (.mk k1 n1 s1 l1) [] [] em [],
   .mk 5 em em em em ex0 [] [] nm (r0 :: r1 :: r2 :: rest)] := ⟨_, rfl⟩
 refine ⟨.mk 4 r0 em em em (.mk 6 0 em [.mk 1 0 em [], .mk 2 0 ⟨#[120]⟩ []]) xs [] em [], a + 6, by omega, by omega, ?_, fun sid N T hT => hT.trimO (by simp only [noref, norefL, Bool.and_true]; exact noref_encS _) ?_⟩
 ·rw [hxs]; simp [wS, wSs, wE, wEs, ex0] at hw1 ⊢; omega
 have g1 : ((1 : Int) < ((rest.length + 3 : Nat) : Int)) = True := by simp; omega
 have g2 : (((rest.length + 3 : Nat) : Int) = 2) = False := by simp; omega
 have htk : List.take rest.length (rest.map V.str) = rest.map V.str := List.take_of_length_le (by simp)
 have hfl : ∀ (H : List Blk) (n : Nat), fzL (fz H (n + 1)) (rest.map V.str) = some (rest.map V.str) := fun H n => fzL_map _ _ (fun x => fz_str _ _ x) rest
 refine ACall.intro cm17 600 (by simp) ?_
 simp only [encH, List.map_cons, List.map_nil]
 simp -implicitDefEqProofs only [sm17, hT.tok.len, hT.tok.at0, hT.tok.atS, hT.tok.set0, hT.tok.setS, hT.tok.get, Int.reduceEq, g1, g2, go_sem]
 repeat' (first | ((first | (with_reducible first | refine cgA ((h41.at hT _)) ?_ | refine cgA ((h45.at hT _)) ?_ | refine cgA ((f3.at hT _)) ?_ | refine cgA ((f4.at hT _)) ?_ | refine cgA ((f2.at hT _)) ?_ | refine cgA ((h46 _)) ?_) | (with_reducible refine F_q2 ?_) | (with_reducible refine F_p2 ?_)); simp -implicitDefEqProofs only [hT.tok.len, hT.tok.at0, hT.tok.atS, hT.tok.set0, hT.tok.setS, hT.tok.get, Int.reduceEq, g1, g2, go_sem]) | (with_reducible refine Fork.mk ?_ ?_) | (with_reducible refine And.intro ?_ ?_) | ((with_reducible refine rpI ?_); simp -implicitDefEqProofs only [rm17, hT.tok.len, hT.tok.at0, hT.tok.atS, hT.tok.set0, hT.tok.setS, hT.tok.get, push_cast, go_sem_proc]) | intro _)
 all_goals first
  | (exfalso; assumption)
  | (exact ⟨by decide, by decide⟩)
  | (simp [ixP]; done)
  | (simp [ixP]; omega)
  | (rename_i hx; simp at hx; done)
  | (rename_i hx; simp at hx; subst hx; simp [cellsV]; done)
  | omega
  | skip
 refine ⟨List.range' N 9, encS (.mk 4 r0 em em em (.mk 6 0 em [.mk 1 0 em [], .mk 2 0 ⟨#[120]⟩ []]) xs [] em []), ?_, ?_⟩
 ·rw [keepL_tail' (hm := ?_) (hA := ?_)]
  ·rw [hxs]
   simp -implicitDefEqProofs only [dead_at, dead_at0, encS_mk, encE_mk, em, ex0, List.map_cons, List.map_nil, htk, hfl, push_cast, go_sem_proc]
  ·exact hT.tok.len _
  ·rfl
 ·rw [killL_tail2 (hA := ?_) (hm := ?_)]
  ·simp only [encS_mk]
   simp -implicitDefEqProofs only [rm17, push_cast, go_sem_proc]
   refine ⟨by decide, ?_⟩
   exact ⟨_, rfl⟩
  ·exact hT.tok.len _
  ·rfl
set_option maxRecDepth 20000 in
set_option maxHeartbeats 8000000 in
theorem t17um101 (L : List Int) (a : Nat) (ha : a ≤ 800000) (nm r0 r1 : ByteArray) (r2 : ByteArray) (rest : List ByteArray) (hrest : rest.length ≤ 10)
  (h3 : decide (nxF L (a + 3) 3 = 0) = true) (h4 : decide (nxF L (a + 4) 4 = 0) = false) (h2 : decide (nxF L (a + 5) 2 = 0) = true) :
  ∃ x a', a ≤ a' ∧ a' ≤ a + 10 ∧ wS x ≤ 30 ∧ MC 39 L a [encH (nm, (r0 :: r1 :: r2 :: rest))] (.fs [encS x]) a' := by
 obtain ⟨⟨k1, n1, s1, l1⟩, hw1, h45⟩ := t45 L (a + 1) (by omega)
 have h41 := (t41 L a [⟨#[120]⟩, ⟨#[121]⟩] (by omega) (by decide) (by decide))
 simp only [List.map_cons, List.map_nil] at h41
 generalize ([⟨#[120]⟩, ⟨#[121]⟩] : List ByteArray).getD _ _ = s41 at h41
 have f3 := t14 L (a + 3) 3 (by omega)
 have f4 := t14 L (a + 4) 4 (by omega)
 have f2 := t14 L (a + 5) 2 (by omega)
 rw [h3] at f3
 rw [h4] at f4
 rw [h2] at f2
 simp only [encE_mk] at h45
 have h46 := t46m (r0 :: r1 :: r2 :: rest) (by simp) (by simp; omega)
 simp only [List.map_cons, List.map_nil, List.length_cons, List.length_nil, Nat.reduceAdd, Nat.zero_add] at h46
 obtain ⟨xs, hxs⟩ : ∃ xs : List St, xs = [.mk 3 r0 em ⟨#[120]⟩ em (.mk 4 0 em [.mk 2 0 ⟨#[120]⟩ [], .mk 1 1 em []]) [] [] em [],
   .mk 1 r0 r1 s41 em (.mk k1 n1 s1 l1) [] [] em [],
   .mk 5 em em em em ex0 [] [] nm (r0 :: r1 :: r2 :: rest)] := ⟨_, rfl⟩
 refine ⟨.mk 4 r0 em em em (.mk 2 0 ⟨#[120]⟩ []) xs [] em [], a + 6, by omega, by omega, ?_, fun sid N T hT => hT.trimO (by simp only [noref, norefL, Bool.and_true]; exact noref_encS _) ?_⟩
 ·rw [hxs]; simp [wS, wSs, wE, wEs, ex0] at hw1 ⊢; omega
 have g1 : ((1 : Int) < ((rest.length + 3 : Nat) : Int)) = True := by simp; omega
 have g2 : (((rest.length + 3 : Nat) : Int) = 2) = False := by simp; omega
 have htk : List.take rest.length (rest.map V.str) = rest.map V.str := List.take_of_length_le (by simp)
 have hfl : ∀ (H : List Blk) (n : Nat), fzL (fz H (n + 1)) (rest.map V.str) = some (rest.map V.str) := fun H n => fzL_map _ _ (fun x => fz_str _ _ x) rest
 refine ACall.intro cm17 600 (by simp) ?_
 simp only [encH, List.map_cons, List.map_nil]
 simp -implicitDefEqProofs only [sm17, hT.tok.len, hT.tok.at0, hT.tok.atS, hT.tok.set0, hT.tok.setS, hT.tok.get, Int.reduceEq, g1, g2, go_sem]
 repeat' (first | ((first | (with_reducible first | refine cgA ((h41.at hT _)) ?_ | refine cgA ((h45.at hT _)) ?_ | refine cgA ((f3.at hT _)) ?_ | refine cgA ((f4.at hT _)) ?_ | refine cgA ((f2.at hT _)) ?_ | refine cgA ((h46 _)) ?_) | (with_reducible refine F_q2 ?_) | (with_reducible refine F_p2 ?_)); simp -implicitDefEqProofs only [hT.tok.len, hT.tok.at0, hT.tok.atS, hT.tok.set0, hT.tok.setS, hT.tok.get, Int.reduceEq, g1, g2, go_sem]) | (with_reducible refine Fork.mk ?_ ?_) | (with_reducible refine And.intro ?_ ?_) | ((with_reducible refine rpI ?_); simp -implicitDefEqProofs only [rm17, hT.tok.len, hT.tok.at0, hT.tok.atS, hT.tok.set0, hT.tok.setS, hT.tok.get, push_cast, go_sem_proc]) | intro _)
 all_goals first
  | (exfalso; assumption)
  | (exact ⟨by decide, by decide⟩)
  | (simp [ixP]; done)
  | (simp [ixP]; omega)
  | (rename_i hx; simp at hx; done)
  | (rename_i hx; simp at hx; subst hx; simp [cellsV]; done)
  | omega
  | skip
 refine ⟨List.range' N 9, encS (.mk 4 r0 em em em (.mk 2 0 ⟨#[120]⟩ []) xs [] em []), ?_, ?_⟩
 ·rw [keepL_tail' (hm := ?_) (hA := ?_)]
  ·rw [hxs]
   simp -implicitDefEqProofs only [dead_at, dead_at0, encS_mk, encE_mk, em, ex0, List.map_cons, List.map_nil, htk, hfl, push_cast, go_sem_proc]
  ·exact hT.tok.len _
  ·rfl
 ·rw [killL_tail2 (hA := ?_) (hm := ?_)]
  ·simp only [encS_mk]
   simp -implicitDefEqProofs only [rm17, push_cast, go_sem_proc]
   refine ⟨by decide, ?_⟩
   exact ⟨_, rfl⟩
  ·exact hT.tok.len _
  ·rfl
set_option maxRecDepth 20000 in
set_option maxHeartbeats 8000000 in
theorem t17um110 (L : List Int) (a : Nat) (ha : a ≤ 800000) (nm r0 r1 : ByteArray) (r2 : ByteArray) (rest : List ByteArray) (hrest : rest.length ≤ 10)
  (h3 : decide (nxF L (a + 3) 3 = 0) = true) (h4 : decide (nxF L (a + 4) 4 = 0) = true) (h2 : decide (nxF L (a + 7) 2 = 0) = false) :
  ∃ x a', a ≤ a' ∧ a' ≤ a + 10 ∧ wS x ≤ 30 ∧ MC 39 L a [encH (nm, (r0 :: r1 :: r2 :: rest))] (.fs [encS x]) a' := by
 obtain ⟨⟨k1, n1, s1, l1⟩, hw1, h45⟩ := t45 L (a + 1) (by omega)
 have h41 := (t41 L a [⟨#[120]⟩, ⟨#[121]⟩] (by omega) (by decide) (by decide))
 simp only [List.map_cons, List.map_nil] at h41
 generalize ([⟨#[120]⟩, ⟨#[121]⟩] : List ByteArray).getD _ _ = s41 at h41
 have f3 := t14 L (a + 3) 3 (by omega)
 have f4 := t14 L (a + 4) 4 (by omega)
 have f2 := t14 L (a + 7) 2 (by omega)
 rw [h3] at f3
 rw [h4] at f4
 rw [h2] at f2
 obtain ⟨⟨k2, n2, s2, l2⟩, hw2, h45b⟩ := t45 L (a + 5) (by omega)
 simp only [encE_mk] at h45b
 simp only [encE_mk] at h45
 have h46 := t46m (r0 :: r1 :: r2 :: rest) (by simp) (by simp; omega)
 simp only [List.map_cons, List.map_nil, List.length_cons, List.length_nil, Nat.reduceAdd, Nat.zero_add] at h46
 obtain ⟨xs, hxs⟩ : ∃ xs : List St, xs = [.mk 3 r0 em ⟨#[120]⟩ em (.mk 4 0 em [.mk 2 0 ⟨#[120]⟩ [], .mk 1 1 em []]) [] [] em [],
   .mk 1 r0 r1 s41 em (.mk k1 n1 s1 l1) [] [] em [],
   .mk 5 em em em em ex0 [] [] nm (r0 :: r1 :: r2 :: rest),
   .mk 3 r0 em ⟨#[122]⟩ em (.mk k2 n2 s2 l2) [] [] em []] := ⟨_, rfl⟩
 refine ⟨.mk 4 r0 em em em (.mk 6 0 em [.mk 1 0 em [], .mk 2 0 ⟨#[120]⟩ []]) xs [] em [], a + 8, by omega, by omega, ?_, fun sid N T hT => hT.trimO (by simp only [noref, norefL, Bool.and_true]; exact noref_encS _) ?_⟩
 ·rw [hxs]; simp [wS, wSs, wE, wEs, ex0] at hw1 hw2 ⊢; omega
 have g1 : ((1 : Int) < ((rest.length + 3 : Nat) : Int)) = True := by simp; omega
 have g2 : (((rest.length + 3 : Nat) : Int) = 2) = False := by simp; omega
 have htk : List.take rest.length (rest.map V.str) = rest.map V.str := List.take_of_length_le (by simp)
 have hfl : ∀ (H : List Blk) (n : Nat), fzL (fz H (n + 1)) (rest.map V.str) = some (rest.map V.str) := fun H n => fzL_map _ _ (fun x => fz_str _ _ x) rest
 refine ACall.intro cm17 600 (by simp) ?_
 simp only [encH, List.map_cons, List.map_nil]
 simp -implicitDefEqProofs only [sm17, hT.tok.len, hT.tok.at0, hT.tok.atS, hT.tok.set0, hT.tok.setS, hT.tok.get, Int.reduceEq, g1, g2, go_sem]
 repeat' (first | ((first | (with_reducible first | refine cgA ((h41.at hT _)) ?_ | refine cgA ((h45.at hT _)) ?_ | refine cgA ((f3.at hT _)) ?_ | refine cgA ((f4.at hT _)) ?_ | refine cgA ((f2.at hT _)) ?_ | refine cgA ((h45b.at hT _)) ?_ | refine cgA ((h46 _)) ?_) | (with_reducible refine F_q2 ?_) | (with_reducible refine F_p2 ?_)); simp -implicitDefEqProofs only [hT.tok.len, hT.tok.at0, hT.tok.atS, hT.tok.set0, hT.tok.setS, hT.tok.get, Int.reduceEq, g1, g2, go_sem]) | (with_reducible refine Fork.mk ?_ ?_) | (with_reducible refine And.intro ?_ ?_) | ((with_reducible refine rpI ?_); simp -implicitDefEqProofs only [rm17, hT.tok.len, hT.tok.at0, hT.tok.atS, hT.tok.set0, hT.tok.setS, hT.tok.get, push_cast, go_sem_proc]) | intro _)
 all_goals first
  | (exfalso; assumption)
  | (exact ⟨by decide, by decide⟩)
  | (simp [ixP]; done)
  | (simp [ixP]; omega)
  | (rename_i hx; simp at hx; done)
  | (rename_i hx; simp at hx; subst hx; simp [cellsV]; done)
  | omega
  | skip
 refine ⟨List.range' N 10, encS (.mk 4 r0 em em em (.mk 6 0 em [.mk 1 0 em [], .mk 2 0 ⟨#[120]⟩ []]) xs [] em []), ?_, ?_⟩
 ·rw [keepL_tail' (hm := ?_) (hA := ?_)]
  ·rw [hxs]
   simp -implicitDefEqProofs only [dead_at, dead_at0, encS_mk, encE_mk, em, ex0, List.map_cons, List.map_nil, htk, hfl, push_cast, go_sem_proc]
  ·exact hT.tok.len _
  ·rfl
 ·rw [killL_tail2 (hA := ?_) (hm := ?_)]
  ·simp only [encS_mk]
   simp -implicitDefEqProofs only [rm17, push_cast, go_sem_proc]
   refine ⟨by decide, ?_⟩
   exact ⟨_, rfl⟩
  ·exact hT.tok.len _
  ·rfl
set_option maxRecDepth 20000 in
set_option maxHeartbeats 8000000 in
theorem t17um111 (L : List Int) (a : Nat) (ha : a ≤ 800000) (nm r0 r1 : ByteArray) (r2 : ByteArray) (rest : List ByteArray) (hrest : rest.length ≤ 10)
  (h3 : decide (nxF L (a + 3) 3 = 0) = true) (h4 : decide (nxF L (a + 4) 4 = 0) = true) (h2 : decide (nxF L (a + 7) 2 = 0) = true) :
  ∃ x a', a ≤ a' ∧ a' ≤ a + 10 ∧ wS x ≤ 30 ∧ MC 39 L a [encH (nm, (r0 :: r1 :: r2 :: rest))] (.fs [encS x]) a' := by
 obtain ⟨⟨k1, n1, s1, l1⟩, hw1, h45⟩ := t45 L (a + 1) (by omega)
 have h41 := (t41 L a [⟨#[120]⟩, ⟨#[121]⟩] (by omega) (by decide) (by decide))
 simp only [List.map_cons, List.map_nil] at h41
 generalize ([⟨#[120]⟩, ⟨#[121]⟩] : List ByteArray).getD _ _ = s41 at h41
 have f3 := t14 L (a + 3) 3 (by omega)
 have f4 := t14 L (a + 4) 4 (by omega)
 have f2 := t14 L (a + 7) 2 (by omega)
 rw [h3] at f3
 rw [h4] at f4
 rw [h2] at f2
 obtain ⟨⟨k2, n2, s2, l2⟩, hw2, h45b⟩ := t45 L (a + 5) (by omega)
 simp only [encE_mk] at h45b
 simp only [encE_mk] at h45
 have h46 := t46m (r0 :: r1 :: r2 :: rest) (by simp) (by simp; omega)
 simp only [List.map_cons, List.map_nil, List.length_cons, List.length_nil, Nat.reduceAdd, Nat.zero_add] at h46
 obtain ⟨xs, hxs⟩ : ∃ xs : List St, xs = [.mk 3 r0 em ⟨#[120]⟩ em (.mk 4 0 em [.mk 2 0 ⟨#[120]⟩ [], .mk 1 1 em []]) [] [] em [],
   .mk 1 r0 r1 s41 em (.mk k1 n1 s1 l1) [] [] em [],
   .mk 5 em em em em ex0 [] [] nm (r0 :: r1 :: r2 :: rest),
   .mk 3 r0 em ⟨#[122]⟩ em (.mk k2 n2 s2 l2) [] [] em []] := ⟨_, rfl⟩
 refine ⟨.mk 4 r0 em em em (.mk 2 0 ⟨#[120]⟩ []) xs [] em [], a + 8, by omega, by omega, ?_, fun sid N T hT => hT.trimO (by simp only [noref, norefL, Bool.and_true]; exact noref_encS _) ?_⟩
 ·rw [hxs]; simp [wS, wSs, wE, wEs, ex0] at hw1 hw2 ⊢; omega
 have g1 : ((1 : Int) < ((rest.length + 3 : Nat) : Int)) = True := by simp; omega
 have g2 : (((rest.length + 3 : Nat) : Int) = 2) = False := by simp; omega
 have htk : List.take rest.length (rest.map V.str) = rest.map V.str := List.take_of_length_le (by simp)
 have hfl : ∀ (H : List Blk) (n : Nat), fzL (fz H (n + 1)) (rest.map V.str) = some (rest.map V.str) := fun H n => fzL_map _ _ (fun x => fz_str _ _ x) rest
 refine ACall.intro cm17 600 (by simp) ?_
 simp only [encH, List.map_cons, List.map_nil]
 simp -implicitDefEqProofs only [sm17, hT.tok.len, hT.tok.at0, hT.tok.atS, hT.tok.set0, hT.tok.setS, hT.tok.get, Int.reduceEq, g1, g2, go_sem]
 repeat' (first | ((first | (with_reducible first | refine cgA ((h41.at hT _)) ?_ | refine cgA ((h45.at hT _)) ?_ | refine cgA ((f3.at hT _)) ?_ | refine cgA ((f4.at hT _)) ?_ | refine cgA ((f2.at hT _)) ?_ | refine cgA ((h45b.at hT _)) ?_ | refine cgA ((h46 _)) ?_) | (with_reducible refine F_q2 ?_) | (with_reducible refine F_p2 ?_)); simp -implicitDefEqProofs only [hT.tok.len, hT.tok.at0, hT.tok.atS, hT.tok.set0, hT.tok.setS, hT.tok.get, Int.reduceEq, g1, g2, go_sem]) | (with_reducible refine Fork.mk ?_ ?_) | (with_reducible refine And.intro ?_ ?_) | ((with_reducible refine rpI ?_); simp -implicitDefEqProofs only [rm17, hT.tok.len, hT.tok.at0, hT.tok.atS, hT.tok.set0, hT.tok.setS, hT.tok.get, push_cast, go_sem_proc]) | intro _)
 all_goals first
  | (exfalso; assumption)
  | (exact ⟨by decide, by decide⟩)
  | (simp [ixP]; done)
  | (simp [ixP]; omega)
  | (rename_i hx; simp at hx; done)
  | (rename_i hx; simp at hx; subst hx; simp [cellsV]; done)
  | omega
  | skip
 refine ⟨List.range' N 10, encS (.mk 4 r0 em em em (.mk 2 0 ⟨#[120]⟩ []) xs [] em []), ?_, ?_⟩
 ·rw [keepL_tail' (hm := ?_) (hA := ?_)]
  ·rw [hxs]
   simp -implicitDefEqProofs only [dead_at, dead_at0, encS_mk, encE_mk, em, ex0, List.map_cons, List.map_nil, htk, hfl, push_cast, go_sem_proc]
  ·exact hT.tok.len _
  ·rfl
 ·rw [killL_tail2 (hA := ?_) (hm := ?_)]
  ·simp only [encS_mk]
   simp -implicitDefEqProofs only [rm17, push_cast, go_sem_proc]
   refine ⟨by decide, ?_⟩
   exact ⟨_, rfl⟩
  ·exact hT.tok.len _
  ·rfl
end Go.Proofs.YtdgoeblpcnjlbaaGreatDoor.Av
