/- Proved: for every list of numbers the law PlaysChecked answers true and leaves its argument as it was (the tied card); no condition beyond the row's own. Text 6 of 14. -/
import Derived.Shelf.Small.Strs
import Derived.Shelf.Strings.SlTrimAscii
import Derived.Test.YteoboibjepokoaaGreatDoorProg
import Derived.Test.YteoboibjepokoaaGreatDoorW5
set_option linter.unusedVariables false
set_option linter.unusedSimpArgs false
set_option linter.unusedSectionVars false
set_option linter.all false
namespace Go.Proofs
open Go.Shelf
def Tryz.lays137uren : Go.Shelf.Ren := ⟨fun | 137 => 69 | 217 => 77 | 266 => 92 | n => n, fun | 9 => 9 | 5 => 5 | 3 => 3 | n => n, fun | n => n⟩
theorem Tryz.lays137 : Go.Proofs.Lays.n137 Tryz.prog Tryz.lays137uren := {
  mixed := by kernel_rfl
  f137 := Tryz.func69.trans (congrArg some (by kernel_rfl))
  f217 := Tryz.func77.trans (congrArg some (by kernel_rfl))
  f266 := Tryz.func92.trans (congrArg some (by kernel_rfl))
  t3 := Tryz.underlying3
  a3 := Tryz.isAgg3
  z3 := Tryz.sizeOf3
  v3 := Tryz.zeroValue3
  t5 := Tryz.underlying5
  a5 := Tryz.isAgg5
  z5 := Tryz.sizeOf5
  v5 := Tryz.zeroValue5
  t9 := Tryz.underlying9
  a9 := Tryz.isAgg9
  z9 := Tryz.sizeOf9
  v9 := Tryz.zeroValue9 }
def Tryz.lays160uren : Go.Shelf.Ren := ⟨fun | 160 => 85 | 232 => 97 | 231 => 96 | 227 => 98 | 234 => 100 | 233 => 99 | 236 => 102 | 235 => 101 | 228 => 108 | 271 => 111 | 151 => 110 | 197 => 109 | 120 => 115 | 152 => 114 | 260 => 113 | 137 => 69 | 119 => 116 | 224 => 117 | 225 => 118 | 217 => 77 | 266 => 92 | n => n, fun | 9 => 9 | 4 => 4 | 3 => 3 | 5 => 5 | 117 => 126 | 116 => 125 | 0 => 0 | 124 => 129 | 21 => 21 | 105 => 132 | 46 => 137 | 119 => 136 | 139 => 140 | 138 => 139 | n => n, fun | 3 => 1 | 4 => 2 | n => n⟩
theorem Tryz.lays160 : Go.Proofs.Lays.n160 Tryz.prog Tryz.lays160uren := {
  mixed := by kernel_rfl
  f119 := Tryz.func116.trans (congrArg some (by kernel_rfl))
  f120 := Tryz.func115.trans (congrArg some (by kernel_rfl))
  f137 := Tryz.func69.trans (congrArg some (by kernel_rfl))
  f151 := Tryz.func110.trans (congrArg some (by kernel_rfl))
  f152 := Tryz.func114.trans (congrArg some (by kernel_rfl))
  f160 := Tryz.func85.trans (congrArg some (by kernel_rfl))
  f197 := Tryz.func109.trans (congrArg some (by kernel_rfl))
  f217 := Tryz.func77.trans (congrArg some (by kernel_rfl))
  f224 := Tryz.func117.trans (congrArg some (by kernel_rfl))
  f225 := Tryz.func118.trans (congrArg some (by kernel_rfl))
  f227 := Tryz.func98.trans (congrArg some (by kernel_rfl))
  f228 := Tryz.func108.trans (congrArg some (by kernel_rfl))
  f231 := Tryz.func96.trans (congrArg some (by kernel_rfl))
  f232 := Tryz.func97.trans (congrArg some (by kernel_rfl))
  f233 := Tryz.func99.trans (congrArg some (by kernel_rfl))
  f234 := Tryz.func100.trans (congrArg some (by kernel_rfl))
  f235 := Tryz.func101.trans (congrArg some (by kernel_rfl))
  f236 := Tryz.func102.trans (congrArg some (by kernel_rfl))
  f260 := Tryz.func113.trans (congrArg some (by kernel_rfl))
  f266 := Tryz.func92.trans (congrArg some (by kernel_rfl))
  f271 := Tryz.func111.trans (congrArg some (by kernel_rfl))
  t0 := Tryz.underlying0
  a0 := Tryz.isAgg0
  z0 := Tryz.sizeOf0
  v0 := Tryz.zeroValue0
  t3 := Tryz.underlying3
  a3 := Tryz.isAgg3
  z3 := Tryz.sizeOf3
  v3 := Tryz.zeroValue3
  t4 := Tryz.underlying4
  a4 := Tryz.isAgg4
  z4 := Tryz.sizeOf4
  v4 := Tryz.zeroValue4
  t5 := Tryz.underlying5
  a5 := Tryz.isAgg5
  z5 := Tryz.sizeOf5
  v5 := Tryz.zeroValue5
  t9 := Tryz.underlying9
  a9 := Tryz.isAgg9
  z9 := Tryz.sizeOf9
  v9 := Tryz.zeroValue9
  t21 := Tryz.underlying21
  a21 := Tryz.isAgg21
  z21 := Tryz.sizeOf21
  v21 := Tryz.zeroValue21
  t46 := Tryz.underlying137
  a46 := Tryz.isAgg137
  z46 := Tryz.sizeOf137
  v46 := Tryz.zeroValue137
  t105 := Tryz.underlying132
  a105 := Tryz.isAgg132
  z105 := Tryz.sizeOf132
  v105 := Tryz.zeroValue132
  t116 := Tryz.underlying125
  a116 := Tryz.isAgg125
  z116 := Tryz.sizeOf125
  t117 := Tryz.underlying126
  a117 := Tryz.isAgg126
  z117 := Tryz.sizeOf126
  v117 := Tryz.zeroValue126
  t119 := Tryz.underlying136
  a119 := Tryz.isAgg136
  z119 := Tryz.sizeOf136
  t124 := Tryz.underlying129
  a124 := Tryz.isAgg129
  z124 := Tryz.sizeOf129
  v124 := Tryz.zeroValue129
  t138 := Tryz.underlying139
  a138 := Tryz.isAgg139
  z138 := Tryz.sizeOf139
  v138 := Tryz.zeroValue139
  t139 := Tryz.underlying140
  a139 := Tryz.isAgg140
  z139 := Tryz.sizeOf140
  v139 := Tryz.zeroValue140
  g3 := by kernel_rfl
  g4 := by kernel_rfl }
end Go.Proofs
namespace Go.Proofs.YteoboibjepokoaaGreatDoor.Av
open Go.RowKit
theorem ix_nat (i n : Nat) : ixP (i : Int) n = (i < n) := by simp [ixP]
theorem ix_zero (n : Nat) : ixP 0 n = (0 < n) := by simp [ixP]
theorem Fork.mk {b : Bool} {p q : Prop} (h : b = true → p) (k : b = false → q) : Fork b p q := ⟨h, k⟩
theorem getD_mid {α : Type} (f : α → V) (pre post : List α) (y : α) (d : V) : ((pre ++ y :: post).map f).getD pre.length d = f y := by simp [List.getD]
theorem getS_mid {α : Type} (f : α → V) (pre post : List α) (y : α) (d : V) : ((pre ++ y :: post).map f).getD (Int.toNat (pre.length : Int)) d = f y := by simp [List.getD]
theorem get_app0 (H : List Blk) (l : List Blk) : (H ++ l)[H.length]? = l[0]? := by rw [List.getElem?_append_right (by omega)]; simp
theorem get_appS (H : List Blk) (l : List Blk) (k : Nat) : (H ++ l)[H.length + k]? = l[k]? := by rw [List.getElem?_append_right (by omega)]; congr 1; omega
theorem set_app0 (H : List Blk) (l : List Blk) (x : Blk) : (H ++ l).set H.length x = H ++ l.set 0 x := by rw [List.set_append_right _ _ (by omega)]; simp
theorem set_appS (H : List Blk) (l : List Blk) (x : Blk) (k : Nat) : (H ++ l).set (H.length + k) x = H ++ l.set k x := by rw [List.set_append_right _ _ (by omega)]; congr 2; omega
def fzC (a : Option V) (b : Option (List V)) : Option (List V) := match a, b with
  | some x, some xs => some (x :: xs)
  | _, _ => none
theorem fzC_some (x : V) (xs : List V) : fzC (some x) (some xs) = some (x :: xs) := by rw [fzC]
theorem fzL_nil (g : V → Option V) : fzL g [] = some [] := by rw [fzL]
theorem fzL_cons (g : V → Option V) (v : V) (l : List V) : fzL g (v :: l) = fzC (g v) (fzL g l) := by rw [fzL]; rfl
def fzP (g : V → Option V) (b : Option Blk) (i c : Nat) : Option V := match b with
  | some (.row es) => if i < es.length ∧ c ≤ (cellsV (es.getD i .any)).length then (fzL g ((cellsV (es.getD i .any)).drop c)).map .rptr else none
  | _ => none
def fzM (g : V → Option V) (b : Option Blk) (off len : Nat) : Option V := match b with
  | some (.row es) => if off + len ≤ es.length then (fzL g ((es.drop off).take len)).map .fs else none
  | _ => none
theorem fzP_row (g : V → Option V) (es : List V) (i c : Nat) : fzP g (some (.row es)) i c = if i < es.length ∧ c ≤ (cellsV (es.getD i .any)).length then (fzL g ((cellsV (es.getD i .any)).drop c)).map .rptr else none := by rw [fzP]
theorem fzM_row (g : V → Option V) (es : List V) (off len : Nat) : fzM g (some (.row es)) off len = if off + len ≤ es.length then (fzL g ((es.drop off).take len)).map .fs else none := by rw [fzM]
def fzF (f : FuncId) (a b : Option (List V)) : Option V := match a, b with
  | some a, some b => some (.clos f a b)
  | _, _ => none
theorem fzF_some (f : FuncId) (a b : List V) : fzF f (some a) (some b) = some (.clos f a b) := by rw [fzF]
section
variable (H : List Blk) (n : Nat)
theorem fz_nils : fz H (n + 1) .nils = some (.fs []) := by rw [fz]
theorem fz_ptr (id i c : Nat) : fz H (n + 1) (.ptr id i c) = fzP (fz H n) (H[id]?) i c := by
  rw [fz]
  cases H[id]? with
  | none => rfl
  | some b => cases b <;> rfl
theorem fz_ms (id off len : Nat) : fz H (n + 1) (.ms id off len) = fzM (fz H n) (H[id]?) off len := by
  rw [fz]
  cases H[id]? with
  | none => rfl
  | some b => cases b <;> rfl
theorem fz_agg (cs : List V) : fz H (n + 1) (.agg cs) = (fzL (fz H n) cs).map .agg := by rw [fz]
theorem fz_tup (cs : List V) : fz H (n + 1) (.tup cs) = (fzL (fz H n) cs).map .tup := by rw [fz]
theorem fz_clos (f : FuncId) (a b : List V) : fz H (n + 1) (.clos f a b) = fzF f (fzL (fz H n) a) (fzL (fz H n) b) := by
  rw [fz]
  cases fzL (fz H n) a <;> cases fzL (fz H n) b <;> rfl
theorem fz_str (s : ByteArray) : fz H (n + 1) (.str s) = some (.str s) := by simp [fz, noref]
theorem fz_int (k : IntKind) (i : Int) : fz H (n + 1) (.int k i) = some (.int k i) := by simp [fz, noref]
theorem fz_bool (b : Bool) : fz H (n + 1) (.bool b) = some (.bool b) := by simp [fz, noref]
theorem fz_nilp : fz H (n + 1) .nilp = some .nilp := by simp [fz, noref]
theorem fz_nilf : fz H (n + 1) .nilf = some .nilf := by simp [fz, noref]
theorem fz_und : fz H (n + 1) .und = some .und := by simp [fz, noref]
theorem fz_any : fz H (n + 1) .any = some .any := by simp [fz, noref]
theorem fz_fs (l : List V) : fz H (n + 1) (.fs l) = if norefL l = true then some (.fs l) else none := by by_cases h : norefL l = true <;> simp [fz, noref, h]
theorem fz_rptr (l : List V) : fz H (n + 1) (.rptr l) = if norefL l = true then some (.rptr l) else none := by by_cases h : norefL l = true <;> simp [fz, noref, h]
theorem fzL_map {α : Type} (g : V → Option V) (f : α → V) (h : ∀ x, g (f x) = some (f x)) : ∀ l : List α, fzL g (l.map f) = some (l.map f)
  | [] => fzL_nil g
  | x :: l => by rw [List.map_cons, fzL_cons, h, fzL_map g f h l, fzC_some]
end
def ixF {α : Type} (p : α → Bool) : List α → Int → Int
  | [], _ => -1
  | x :: l, i => if p x then i else ixF p l (i + 1)
theorem ixF_append {α : Type} (p : α → Bool) : ∀ (pre post : List α) (i : Int), (∀ x ∈ pre, p x = false) → ixF p (pre ++ post) i = ixF p post (i + pre.length)
  | [], post, i, _ => by simp
  | x :: pre, post, i, h => by
    simp only [List.cons_append, ixF, h x (by simp)]
    rw [ixF_append p pre post (i + 1) (fun y hy => h y (by simp [hy]))]
    simp only [List.length_cons]
    rw [if_neg (by simp)]
    congr 1; omega
theorem wrap_succ {k : Nat} (h : k + 1 ≤ 9223372036854775807) : IntKind.i64.wrap ((k : Int) + 1) = ((k + 1 : Nat) : Int) := by
  simp [IntKind.wrap, IntKind.signed, IntKind.bits]; omega
theorem cellsV_agg (l : List V) : cellsV (.agg l) = l := rfl
theorem cellsV_int (k : IntKind) (n : Int) : cellsV (.int k n) = [.int k n] := rfl
theorem cellsV_str (s : ByteArray) : cellsV (.str s) = [.str s] := rfl
theorem cellsV_bool (s : Bool) : cellsV (.bool s) = [.bool s] := rfl
theorem cellsV_fs (s : List V) : cellsV (.fs s) = [.fs s] := rfl
theorem cellsV_clos (f : FuncId) (a b : List V) : cellsV (.clos f a b) = [.clos f a b] := rfl
theorem cellsV_nils : cellsV .nils = [.nils] := rfl
theorem cellsV_nilp : cellsV .nilp = [.nilp] := rfl
theorem cellsV_nilf : cellsV .nilf = [.nilf] := rfl
theorem cellsV_ptr (a b c : Nat) : cellsV (.ptr a b c) = [.ptr a b c] := rfl
theorem cellsV_rptr (a : List V) : cellsV (.rptr a) = [.rptr a] := rfl
theorem cellsV_ms (a b c : Nat) : cellsV (.ms a b c) = [.ms a b c] := rfl
theorem mid_lt {α : Type} {xs pre post : List α} {y : α} (h : xs = pre ++ y :: post) : ((pre.length : Int) < xs.length) ∧ pre.length < xs.length := by
  subst h; simp; omega
theorem mid_not {α : Type} {xs pre : List α} (h : xs = pre ++ []) : ¬ ((pre.length : Int) < xs.length) := by subst h; simp
theorem mid_get {α : Type} {xs pre post : List α} {y : α} (f : α → V) (h : xs = pre ++ y :: post) : (xs.map f).getD pre.length .any = f y := by subst h; exact getD_mid ..
theorem mid_wrap {α : Type} {xs pre post : List α} {y : α} (h : xs = pre ++ y :: post) (hl : xs.length ≤ 9223372036854775807) : IntKind.i64.wrap ((pre.length : Int) + 1) = ((pre.length + 1 : Nat) : Int) := by
  subst h; exact wrap_succ (by simp at hl; omega)
attribute [go_sem] ix_nat getD_mid getS_mid cellsV_agg cellsV_int cellsV_str cellsV_bool cellsV_fs cellsV_clos cellsV_nils cellsV_ptr cellsV_rptr cellsV_ms cellsV_nilp cellsV_nilf ix_zero get_app0 get_appS set_app0 set_appS
attribute [push_cast] get_app0 get_appS fz_nils fz_ptr fz_ms fz_agg fz_tup fz_clos fz_str fz_int fz_bool fz_nilp fz_nilf fz_und fz_any fz_fs fz_rptr fzL_nil fzL_cons fzC_some fzF_some fzP_row fzM_row cellsV_agg cellsV_int cellsV_str cellsV_bool cellsV_fs cellsV_clos cellsV_nils cellsV_ptr cellsV_rptr cellsV_ms cellsV_nilp cellsV_nilf
inductive Ex where
  | mk (k n : Int) (s : ByteArray) (xs : List Ex)
inductive St where
  | mk (k : Int) (r t v l : ByteArray) (e : Ex) (a b : List St) (p : ByteArray) (ps : List ByteArray)
structure Pr where
  name : ByteArray
  roles : List ByteArray
  steps : List St
structure Pla where
  procs : List Pr
  main : List St
mutual
def encE : Ex → V
  | .mk k n s xs => .agg [.int .i64 k, .int .i64 n, .str s, .fs (encEs xs)]
def encEs : List Ex → List V
  | [] => []
  | x :: l => encE x :: encEs l
end
mutual
def encS : St → V
  | .mk k r t v l (.mk ek en es eas) a b p ps => .agg [.int .i64 k, .str r, .str t, .str v, .str l, .int .i64 ek, .int .i64 en, .str es, .fs (eas.map encE), .fs (encSs a), .fs (encSs b), .str p, .fs (ps.map .str)]
def encSs : List St → List V
  | [] => []
  | x :: l => encS x :: encSs l
end
theorem encEs_map : ∀ l, encEs l = l.map encE
  | [] => rfl
  | x :: l => by rw [encEs, encEs_map l]; rfl
theorem encSs_map : ∀ l, encSs l = l.map encS
  | [] => rfl
  | x :: l => by rw [encSs, encSs_map l]; rfl
theorem encE_mk (k n : Int) (s : ByteArray) (xs : List Ex) : encE (.mk k n s xs) = .agg [.int .i64 k, .int .i64 n, .str s, .fs (xs.map encE)] := by rw [encE, encEs_map]
theorem encS_mk (k : Int) (r t v l : ByteArray) (ek en : Int) (es : ByteArray) (eas : List Ex) (a b : List St) (p : ByteArray) (ps : List ByteArray) : encS (.mk k r t v l (.mk ek en es eas) a b p ps) = .agg [.int .i64 k, .str r, .str t, .str v, .str l, .int .i64 ek, .int .i64 en, .str es, .fs (eas.map encE), .fs (a.map encS), .fs (b.map encS), .str p, .fs (ps.map .str)] := by rw [encS, encSs_map, encSs_map]
def encP (p : Pr) : V := .agg [.str p.name, .fs (p.roles.map .str), .fs (p.steps.map encS)]
def encPl (p : Pla) : V := .agg [.fs (p.procs.map encP), .fs (p.main.map encS)]
theorem norefL_mapf {α : Type} {f : α → V} (h : ∀ x, noref (f x) = true) : ∀ l : List α, norefL (l.map f) = true
  | [] => by simp [norefL]
  | x :: l => by simp only [List.map_cons, norefL, h x, norefL_mapf h l]; rfl
theorem norefL_app : ∀ a b : List V, norefL (a ++ b) = (norefL a && norefL b)
  | [], b => by simp [norefL]
  | x :: a, b => by simp only [List.cons_append, norefL, norefL_app a b, Bool.and_assoc]
theorem norefL_str (l : List ByteArray) : norefL (l.map .str) = true := norefL_mapf (fun x => by simp [noref]) l
theorem norefL_int (l : List Int) : norefL (l.map (V.int .i64)) = true := norefL_mapf (fun x => by simp [noref]) l
mutual
theorem noref_encE : ∀ x, noref (encE x) = true
  | .mk k n s xs => by simp [encE, noref, norefL, norefL_encEs xs]
theorem norefL_encEs : ∀ l, norefL (encEs l) = true
  | [] => by simp [encEs, norefL]
  | x :: l => by simp [encEs, norefL, noref_encE x, norefL_encEs l]
end
theorem norefL_encE (l : List Ex) : norefL (l.map encE) = true := norefL_mapf noref_encE l
mutual
theorem noref_encS : ∀ x, noref (encS x) = true
  | .mk k r t v l (.mk ek en es eas) a b p ps => by simp [encS, noref, norefL, norefL_encE, norefL_str, norefL_encSs a, norefL_encSs b]
theorem norefL_encSs : ∀ l, norefL (encSs l) = true
  | [] => by simp [encSs, norefL]
  | x :: l => by simp [encSs, norefL, noref_encS x, norefL_encSs l]
end
theorem norefL_encS (l : List St) : norefL (l.map encS) = true := norefL_mapf noref_encS l
theorem noref_encP (p : Pr) : noref (encP p) = true := by simp [encP, noref, norefL, norefL_str, norefL_encS]
theorem norefL_encP (l : List Pr) : norefL (l.map encP) = true := norefL_mapf noref_encP l
theorem noref_encPl (p : Pla) : noref (encPl p) = true := by simp [encPl, noref, norefL, norefL_encP, norefL_encS]
theorem isAny_encE (x : Ex) : (encE x).isAny = false := by cases x; simp [encE, V.isAny]
theorem isAny_encS (x : St) : (encS x).isAny = false := by rcases x with ⟨k, r, t, v, l, ⟨ek, en, es, eas⟩, a, b, p, ps⟩; simp [encS, V.isAny]
theorem fz_encE (H : List Blk) (n : Nat) (x : Ex) : fz H (n + 2) (encE x) = some (encE x) := by
  rcases x with ⟨k, i, s, xs⟩
  simp [encE_mk, fz_agg, fzL_cons, fzL_nil, fz_int, fz_str, fz_fs, norefL_encE, fzC_some]
theorem fz_encS (H : List Blk) (n : Nat) (x : St) : fz H (n + 2) (encS x) = some (encS x) := by
  rcases x with ⟨k, r, t, v, l, ⟨ek, en, es, eas⟩, a, b, p, ps⟩
  simp [encS_mk, fz_agg, fzL_cons, fzL_nil, fz_int, fz_str, fz_fs, norefL_encE, norefL_encS, norefL_str, fzC_some]
theorem fz_encP (H : List Blk) (n : Nat) (x : Pr) : fz H (n + 2) (encP x) = some (encP x) := by
  simp [encP, fz_agg, fzL_cons, fzL_nil, fz_int, fz_str, fz_fs, norefL_encE, norefL_encS, norefL_str, fzC_some]
theorem fz_encPl (H : List Blk) (n : Nat) (x : Pla) : fz H (n + 2) (encPl x) = some (encPl x) := by
  simp [encPl, fz_agg, fzL_cons, fzL_nil, fz_int, fz_str, fz_fs, norefL_encP, norefL_encS, norefL_str, fzC_some]
theorem ixF_nonneg {α : Type} (p : α → Bool) : ∀ (l : List α) (i : Int), 0 ≤ i → decide (0 ≤ ixF p l i) = l.any p
  | [], i, h => by simp [ixF]
  | x :: l, i, h => by
    have := ixF_nonneg p l (i + 1) (by omega)
    by_cases hp : p x = true
    · simp [ixF, hp, h]
    · simp [ixF, hp, this]
attribute [push_cast] norefL_str norefL_int norefL_encE norefL_encS norefL_encP fz_encE fz_encS fz_encP fz_encPl
theorem t58 (xs : List ByteArray) (x : ByteArray) : PCall Tryz.prog 58 [.fs (xs.map V.str), V.str x] (· = .int .i64 (ixF (fun y => decide (x = y)) xs 0)) := by
  refine PCall.intro c58 200 (by simp) 20 ?_
  simp (maxSteps := 1000000) -implicitDefEqProofs only [s58, go_sem, ↓reduceIte, Nat.reduceEqDiff, Nat.reduceBEq, Int.reduceToNat, Nat.reduceAdd, Nat.reduceLT, Nat.reduceLeDiff, reduceCtorEq, Nat.reduceSub]
  intro hlen
  refine F_loop (fun m e H => ∃ pre post, xs = pre ++ post ∧ m = post.length ∧ (∀ y ∈ pre, decide (x = y) = false) ∧ e 0 = .fs (xs.map V.str) ∧ e 1 = V.str x ∧ e 7 = .int .i64 xs.length ∧ e 8 = .int .i64 pre.length) xs.length ⟨[], xs, by simp [upd, env0]⟩ ?_
  rintro m e H ⟨pre, post, hxs, rfl, hp, h0, h1, h7, h8⟩
  cases post with
  | nil =>
    simp (maxSteps := 1000000) -implicitDefEqProofs only [h0, h1, h7, h8, mid_not hxs, decide_false, go_sem, ↓reduceIte, Nat.reduceEqDiff, Nat.reduceBEq, Int.reduceToNat, Nat.reduceAdd, Nat.reduceLT, Nat.reduceLeDiff, reduceCtorEq, Nat.reduceSub]
    simp (maxSteps := 1000000) -implicitDefEqProofs only [r58, push_cast, ↓reduceIte, Nat.reduceEqDiff, reduceCtorEq, Nat.reduceAdd, Nat.reduceLT, Nat.reduceLeDiff]
    rw [hxs, ixF_append _ pre [] 0 hp]; rfl
  | cons y post =>
    simp (maxSteps := 1000000) -implicitDefEqProofs only [h0, h1, h7, h8, mid_lt hxs, mid_get V.str hxs, mid_wrap hxs hlen, decide_true, go_sem, ↓reduceIte, Nat.reduceEqDiff, Nat.reduceBEq, Int.reduceToNat, Nat.reduceAdd, Nat.reduceLT, Nat.reduceLeDiff, reduceCtorEq, Nat.reduceSub]
    refine ⟨fun hc => ?_, fun hc => ?_⟩
    · simp (maxSteps := 1000000) -implicitDefEqProofs only [r58, push_cast, ↓reduceIte, Nat.reduceEqDiff, reduceCtorEq, Nat.reduceAdd, Nat.reduceLT, Nat.reduceLeDiff]
      rw [hxs, ixF_append _ pre _ 0 hp, ixF, hc]; simp
    · exact ⟨_, Nat.lt_succ_self _, pre ++ [y], post, by simp [hxs], rfl, fun z hz => by rcases List.mem_append.1 hz with hz | hz; exact hp z hz; simp at hz; subst hz; exact hc, by simp⟩
theorem t29 (xs : List ByteArray) (x : ByteArray) : PCall Tryz.prog 29 [.fs (xs.map V.str), V.str x] (· = .bool (xs.any fun y => decide (x = y))) := by
  refine PCall.intro c29 200 (by simp) 20 ?_
  simp (maxSteps := 1000000) -implicitDefEqProofs only [s29, go_sem, ↓reduceIte, Nat.reduceEqDiff, Nat.reduceBEq, Int.reduceToNat, Nat.reduceAdd, Nat.reduceLT, Nat.reduceLeDiff, reduceCtorEq, Nat.reduceSub]
  refine call_eqR (by simp [norefL, noref, norefL_str]) (t58 xs x) ?_
  simp (maxSteps := 1000000) -implicitDefEqProofs only [go_sem, ↓reduceIte, Nat.reduceEqDiff, Nat.reduceBEq, Int.reduceToNat, Nat.reduceAdd, Nat.reduceLT, Nat.reduceLeDiff, reduceCtorEq, Nat.reduceSub]
  simp (maxSteps := 1000000) -implicitDefEqProofs only [r29, push_cast, ↓reduceIte, Nat.reduceEqDiff, reduceCtorEq, Nat.reduceAdd, Nat.reduceLT, Nat.reduceLeDiff]
  exact ixF_nonneg _ _ _ (by omega)
theorem t93 (xs : List Int) (x : Int) : PCall Tryz.prog 93 [.fs (xs.map (V.int .i64)), (V.int .i64) x] (· = .int .i64 (ixF (fun y => decide (x = y)) xs 0)) := by
  refine PCall.intro c93 200 (by simp) 20 ?_
  simp (maxSteps := 1000000) -implicitDefEqProofs only [s93, go_sem, ↓reduceIte, Nat.reduceEqDiff, Nat.reduceBEq, Int.reduceToNat, Nat.reduceAdd, Nat.reduceLT, Nat.reduceLeDiff, reduceCtorEq, Nat.reduceSub]
  intro hlen
  refine F_loop (fun m e H => ∃ pre post, xs = pre ++ post ∧ m = post.length ∧ (∀ y ∈ pre, decide (x = y) = false) ∧ e 0 = .fs (xs.map (V.int .i64)) ∧ e 1 = (V.int .i64) x ∧ e 7 = .int .i64 xs.length ∧ e 8 = .int .i64 pre.length) xs.length ⟨[], xs, by simp [upd, env0]⟩ ?_
  rintro m e H ⟨pre, post, hxs, rfl, hp, h0, h1, h7, h8⟩
  cases post with
  | nil =>
    simp (maxSteps := 1000000) -implicitDefEqProofs only [h0, h1, h7, h8, mid_not hxs, decide_false, go_sem, ↓reduceIte, Nat.reduceEqDiff, Nat.reduceBEq, Int.reduceToNat, Nat.reduceAdd, Nat.reduceLT, Nat.reduceLeDiff, reduceCtorEq, Nat.reduceSub]
    simp (maxSteps := 1000000) -implicitDefEqProofs only [r93, push_cast, ↓reduceIte, Nat.reduceEqDiff, reduceCtorEq, Nat.reduceAdd, Nat.reduceLT, Nat.reduceLeDiff]
    rw [hxs, ixF_append _ pre [] 0 hp]; rfl
  | cons y post =>
    simp (maxSteps := 1000000) -implicitDefEqProofs only [h0, h1, h7, h8, mid_lt hxs, mid_get (V.int .i64) hxs, mid_wrap hxs hlen, decide_true, go_sem, ↓reduceIte, Nat.reduceEqDiff, Nat.reduceBEq, Int.reduceToNat, Nat.reduceAdd, Nat.reduceLT, Nat.reduceLeDiff, reduceCtorEq, Nat.reduceSub]
    refine ⟨fun hc => ?_, fun hc => ?_⟩
    · simp (maxSteps := 1000000) -implicitDefEqProofs only [r93, push_cast, ↓reduceIte, Nat.reduceEqDiff, reduceCtorEq, Nat.reduceAdd, Nat.reduceLT, Nat.reduceLeDiff]
      rw [hxs, ixF_append _ pre _ 0 hp, ixF, hc]; simp
    · exact ⟨_, Nat.lt_succ_self _, pre ++ [y], post, by simp [hxs], rfl, fun z hz => by rcases List.mem_append.1 hz with hz | hz; exact hp z hz; simp at hz; subst hz; exact hc, by simp⟩
theorem t79 (xs : List Int) (x : Int) : PCall Tryz.prog 79 [.fs (xs.map (V.int .i64)), (V.int .i64) x] (· = .bool (xs.any fun y => decide (x = y))) := by
  refine PCall.intro c79 200 (by simp) 20 ?_
  simp (maxSteps := 1000000) -implicitDefEqProofs only [s79, go_sem, ↓reduceIte, Nat.reduceEqDiff, Nat.reduceBEq, Int.reduceToNat, Nat.reduceAdd, Nat.reduceLT, Nat.reduceLeDiff, reduceCtorEq, Nat.reduceSub]
  refine call_eqR (by simp [norefL, noref, norefL_int]) (t93 xs x) ?_
  simp (maxSteps := 1000000) -implicitDefEqProofs only [go_sem, ↓reduceIte, Nat.reduceEqDiff, Nat.reduceBEq, Int.reduceToNat, Nat.reduceAdd, Nat.reduceLT, Nat.reduceLeDiff, reduceCtorEq, Nat.reduceSub]
  simp (maxSteps := 1000000) -implicitDefEqProofs only [r79, push_cast, ↓reduceIte, Nat.reduceEqDiff, reduceCtorEq, Nat.reduceAdd, Nat.reduceLT, Nat.reduceLeDiff]
  exact ixF_nonneg _ _ _ (by omega)
theorem t57 (xs : List ByteArray) (g : FuncId) (first caps : List V) (p : ByteArray → Bool) (hn : norefL first = true) (hn' : norefL caps = true)
    (h : ∀ x ∈ xs, PCall Tryz.prog g (first ++ [V.str x] ++ caps) (· = .bool (p x))) : PCall Tryz.prog 57 [.fs (xs.map V.str), .clos g first caps] (· = .int .i64 (ixF p xs 0)) := by
  refine PCall.intro c57 200 (by simp) 20 ?_
  simp (maxSteps := 1000000) -implicitDefEqProofs only [s57, go_sem, ↓reduceIte, Nat.reduceEqDiff, Nat.reduceBEq, Int.reduceToNat, Nat.reduceAdd, Nat.reduceLT, Nat.reduceLeDiff, reduceCtorEq, Nat.reduceSub]
  intro hlen
  refine F_loop (fun m e H => ∃ pre post, xs = pre ++ post ∧ m = post.length ∧ (∀ y ∈ pre, p y = false) ∧ e 0 = .fs (xs.map V.str) ∧ e 1 = .clos g first caps ∧ e 7 = .int .i64 xs.length ∧ e 8 = .int .i64 pre.length) xs.length ⟨[], xs, by simp [upd, env0]⟩ ?_
  rintro m e H ⟨pre, post, hxs, rfl, hp, h0, h1, h7, h8⟩
  cases post with
  | nil =>
    simp (maxSteps := 1000000) -implicitDefEqProofs only [h0, h1, h7, h8, mid_not hxs, decide_false, go_sem, ↓reduceIte, Nat.reduceEqDiff, Nat.reduceBEq, Int.reduceToNat, Nat.reduceAdd, Nat.reduceLT, Nat.reduceLeDiff, reduceCtorEq, Nat.reduceSub]
    simp (maxSteps := 1000000) -implicitDefEqProofs only [r57, push_cast, ↓reduceIte, Nat.reduceEqDiff, reduceCtorEq, Nat.reduceAdd, Nat.reduceLT, Nat.reduceLeDiff]
    rw [hxs, ixF_append _ pre [] 0 hp]; rfl
  | cons y post =>
    simp (maxSteps := 1000000) -implicitDefEqProofs only [h0, h1, h7, h8, mid_lt hxs, mid_get V.str hxs, mid_wrap hxs hlen, decide_true, go_sem, ↓reduceIte, Nat.reduceEqDiff, Nat.reduceBEq, Int.reduceToNat, Nat.reduceAdd, Nat.reduceLT, Nat.reduceLeDiff, reduceCtorEq, Nat.reduceSub]
    have hy := h y (by simp [hxs])
    simp only [List.append_assoc, List.cons_append, List.nil_append] at hy
    refine call_eqR (by simp [norefL_app, norefL, noref, hn, hn', norefL_str]) hy ?_
    simp (maxSteps := 1000000) -implicitDefEqProofs only [h0, h1, h7, h8, mid_lt hxs, mid_get V.str hxs, mid_wrap hxs hlen, decide_true, go_sem, ↓reduceIte, Nat.reduceEqDiff, Nat.reduceBEq, Int.reduceToNat, Nat.reduceAdd, Nat.reduceLT, Nat.reduceLeDiff, reduceCtorEq, Nat.reduceSub]
    refine ⟨fun hc => ?_, fun hc => ?_⟩
    · simp (maxSteps := 1000000) -implicitDefEqProofs only [r57, push_cast, ↓reduceIte, Nat.reduceEqDiff, reduceCtorEq, Nat.reduceAdd, Nat.reduceLT, Nat.reduceLeDiff]
      rw [hxs, ixF_append _ pre _ 0 hp, ixF, hc]; simp
    · exact ⟨_, Nat.lt_succ_self _, pre ++ [y], post, by simp [hxs], rfl, fun z hz => by rcases List.mem_append.1 hz with hz | hz; exact hp z hz; simp at hz; subst hz; exact hc, by simp⟩
theorem t26 (xs : List ByteArray) (g : FuncId) (first caps : List V) (p : ByteArray → Bool) (hn : norefL first = true) (hn' : norefL caps = true)
    (h : ∀ x ∈ xs, PCall Tryz.prog g (first ++ [V.str x] ++ caps) (· = .bool (p x))) : PCall Tryz.prog 26 [.fs (xs.map V.str), .clos g first caps] (· = .bool (xs.any p)) := by
  refine PCall.intro c26 200 (by simp) 20 ?_
  simp (maxSteps := 1000000) -implicitDefEqProofs only [s26, go_sem, ↓reduceIte, Nat.reduceEqDiff, Nat.reduceBEq, Int.reduceToNat, Nat.reduceAdd, Nat.reduceLT, Nat.reduceLeDiff, reduceCtorEq, Nat.reduceSub]
  refine call_eqR (by simp [norefL, noref, hn, hn', norefL_str]) (t57 xs g first caps p hn hn' h) ?_
  simp (maxSteps := 1000000) -implicitDefEqProofs only [go_sem, ↓reduceIte, Nat.reduceEqDiff, Nat.reduceBEq, Int.reduceToNat, Nat.reduceAdd, Nat.reduceLT, Nat.reduceLeDiff, reduceCtorEq, Nat.reduceSub]
  simp (maxSteps := 1000000) -implicitDefEqProofs only [r26, push_cast, ↓reduceIte, Nat.reduceEqDiff, reduceCtorEq, Nat.reduceAdd, Nat.reduceLT, Nat.reduceLeDiff]
  exact ixF_nonneg _ _ _ (by omega)
theorem t59 (xs : List Pr) (g : FuncId) (first caps : List V) (p : Pr → Bool) (hn : norefL first = true) (hn' : norefL caps = true)
    (h : ∀ x ∈ xs, PCall Tryz.prog g (first ++ [encP x] ++ caps) (· = .bool (p x))) : PCall Tryz.prog 59 [.fs (xs.map encP), .clos g first caps] (· = .int .i64 (ixF p xs 0)) := by
  refine PCall.intro c59 200 (by simp) 20 ?_
  simp (maxSteps := 1000000) -implicitDefEqProofs only [s59, go_sem, ↓reduceIte, Nat.reduceEqDiff, Nat.reduceBEq, Int.reduceToNat, Nat.reduceAdd, Nat.reduceLT, Nat.reduceLeDiff, reduceCtorEq, Nat.reduceSub]
  intro hlen
  refine F_loop (fun m e H => ∃ pre post, xs = pre ++ post ∧ m = post.length ∧ (∀ y ∈ pre, p y = false) ∧ e 0 = .fs (xs.map encP) ∧ e 1 = .clos g first caps ∧ e 7 = .int .i64 xs.length ∧ e 8 = .int .i64 pre.length) xs.length ⟨[], xs, by simp [upd, env0]⟩ ?_
  rintro m e H ⟨pre, post, hxs, rfl, hp, h0, h1, h7, h8⟩
  cases post with
  | nil =>
    simp (maxSteps := 1000000) -implicitDefEqProofs only [h0, h1, h7, h8, mid_not hxs, decide_false, go_sem, ↓reduceIte, Nat.reduceEqDiff, Nat.reduceBEq, Int.reduceToNat, Nat.reduceAdd, Nat.reduceLT, Nat.reduceLeDiff, reduceCtorEq, Nat.reduceSub]
    simp (maxSteps := 1000000) -implicitDefEqProofs only [r59, push_cast, ↓reduceIte, Nat.reduceEqDiff, reduceCtorEq, Nat.reduceAdd, Nat.reduceLT, Nat.reduceLeDiff]
    rw [hxs, ixF_append _ pre [] 0 hp]; rfl
  | cons y post =>
    simp (maxSteps := 1000000) -implicitDefEqProofs only [h0, h1, h7, h8, mid_lt hxs, mid_get encP hxs, mid_wrap hxs hlen, decide_true, encP, go_sem, ↓reduceIte, Nat.reduceEqDiff, Nat.reduceBEq, Int.reduceToNat, Nat.reduceAdd, Nat.reduceLT, Nat.reduceLeDiff, reduceCtorEq, Nat.reduceSub]
    have hy := h y (by simp [hxs])
    simp only [List.append_assoc, List.cons_append, List.nil_append] at hy
    refine call_eqR (by simp [norefL_app, norefL, noref, hn, hn', norefL_encP, norefL_str, norefL_encS, noref_encP]) hy ?_
    simp (maxSteps := 1000000) -implicitDefEqProofs only [h0, h1, h7, h8, mid_lt hxs, mid_get encP hxs, mid_wrap hxs hlen, decide_true, go_sem, ↓reduceIte, Nat.reduceEqDiff, Nat.reduceBEq, Int.reduceToNat, Nat.reduceAdd, Nat.reduceLT, Nat.reduceLeDiff, reduceCtorEq, Nat.reduceSub]
    refine ⟨fun hc => ?_, fun hc => ?_⟩
    · simp (maxSteps := 1000000) -implicitDefEqProofs only [r59, push_cast, ↓reduceIte, Nat.reduceEqDiff, reduceCtorEq, Nat.reduceAdd, Nat.reduceLT, Nat.reduceLeDiff]
      rw [hxs, ixF_append _ pre _ 0 hp, ixF, hc]; simp
    · exact ⟨_, Nat.lt_succ_self _, pre ++ [y], post, by simp [hxs], rfl, fun z hz => by rcases List.mem_append.1 hz with hz | hz; exact hp z hz; simp at hz; subst hz; exact hc, by simp⟩
theorem t73 (xs : List Pr) (g : FuncId) (first caps : List V) (p : Pr → Bool) (hn : norefL first = true) (hn' : norefL caps = true)
    (h : ∀ x ∈ xs, PCall Tryz.prog g (first ++ [encP x] ++ caps) (· = .bool (p x))) : PCall Tryz.prog 73 [.fs (xs.map encP), .clos g first caps] (· = .bool (xs.any p)) := by
  refine PCall.intro c73 200 (by simp) 20 ?_
  simp (maxSteps := 1000000) -implicitDefEqProofs only [s73, go_sem, ↓reduceIte, Nat.reduceEqDiff, Nat.reduceBEq, Int.reduceToNat, Nat.reduceAdd, Nat.reduceLT, Nat.reduceLeDiff, reduceCtorEq, Nat.reduceSub]
  refine call_eqR (by simp [norefL, noref, hn, hn', norefL_encP, norefL_str, norefL_encS, noref_encP]) (t59 xs g first caps p hn hn' h) ?_
  simp (maxSteps := 1000000) -implicitDefEqProofs only [go_sem, ↓reduceIte, Nat.reduceEqDiff, Nat.reduceBEq, Int.reduceToNat, Nat.reduceAdd, Nat.reduceLT, Nat.reduceLeDiff, reduceCtorEq, Nat.reduceSub]
  simp (maxSteps := 1000000) -implicitDefEqProofs only [r73, push_cast, ↓reduceIte, Nat.reduceEqDiff, reduceCtorEq, Nat.reduceAdd, Nat.reduceLT, Nat.reduceLeDiff]
  exact ixF_nonneg _ _ _ (by omega)
theorem t69 (s : ByteArray) (c : Int) : PCall Tryz.prog 69 [.str s, .int .u8 c] (· = .int .i64 (Lib.indexByte s.data.toList c.toNat.toUInt8)) := by
  refine ⟨c69.call, fun I w args himm hr => ?_⟩
  have ha : args = #[.string s, .int .u8 c] := by
    apply Array.toList_inj.1
    simp only [RepL, Rep] at hr
    obtain ⟨v, vs, h1, h2, u, us, h3, h4, h5⟩ := hr
    rw [h1, h3, h5, h2.1, h4]
  subst ha
  refine (Any.strings_IndexByte Tryz.lays137 s c w).mono ?_
  rintro e w' ⟨rfl, rfl⟩
  exact ⟨_, _, I, rfl, rfl, ILe.refl _, himm, fun b h1 h2 => absurd h1 h2, by simp [Rep], Below.refl _ _⟩
theorem t85 (s cs : ByteArray) (hcs : cs.size < 4294967281) (hascii : ∀ (j : Nat) b, cs.data.toList[j]? = some b → b.toNat < 128) :
    PCall Tryz.prog 85 [.str s, .str cs] (· = .str ⟨(Lib.trimS s.data.toList cs.data.toList).toArray⟩) := by
  refine ⟨by kernel_rfl, fun I w args himm hr => ?_⟩
  have ha : args = #[.string s, .string cs] ∧ s.size ≤ maxLen := by
    simp only [RepL, Rep] at hr
    obtain ⟨v, vs, h1, h2, u, us, h3, h4, h5⟩ := hr
    refine ⟨?_, h2.2⟩
    apply Array.toList_inj.1
    rw [h1, h3, h5, h2.1, h4.1]
  obtain ⟨rfl, hs⟩ := ha
  refine (Any.strings_Trim_ascii Tryz.lays160 (fun w => (Tryz.zeroValue125 w).trans (congrArg (fun x => Result.ok x w) (by kernel_rfl))) (by kernel_rfl) s cs w hs hcs hascii).mono ?_
  rintro e w' ⟨rfl, hb⟩
  refine ⟨_, _, I, rfl, rfl, ILe.refl _, fun b o h => ?_, fun b h1 h2 => absurd h1 h2, ?_, hb⟩
  · have := himm b o h
    have hlt := (Array.getElem?_eq_some_iff.1 this).1
    rw [hb.block b hlt]; exact this
  · simp only [Rep]
    refine ⟨trivial, ?_⟩
    have h1 : (Lib.trimS s.data.toList cs.data.toList).length ≤ s.data.toList.length := by
      unfold Lib.trimS Lib.trimLeftS Lib.trimRightS
      refine Nat.le_trans (List.dropWhile_sublist _).length_le ?_
      rw [List.length_reverse]
      refine Nat.le_trans (List.dropWhile_sublist _).length_le ?_
      rw [List.length_reverse]; exact Nat.le_refl _
    have h2 := Lib.size_eq s
    show (Lib.trimS s.data.toList cs.data.toList).toArray.size ≤ _
    simp only [List.size_toArray]; omega
theorem t84 (s : ByteArray) : PCall Tryz.prog 84 [.str s] (· = .bool ([⟨#[112, 114, 111, 99]⟩, ⟨#[109, 97, 105, 110]⟩, ⟨#[105, 102]⟩, ⟨#[101, 108, 115, 101]⟩].any fun y => decide (s = y))) := by
  refine PCall.intro c84 200 (by simp) 20 ?_
  simp (maxSteps := 1000000) -implicitDefEqProofs only [s84, go_sem, ↓reduceIte, Nat.reduceEqDiff, Nat.reduceBEq, Int.reduceToNat, Nat.reduceAdd, Nat.reduceLT, Nat.reduceLeDiff, reduceCtorEq, Nat.reduceSub]
  simp (maxSteps := 1000000) -implicitDefEqProofs only [r84, push_cast, ↓reduceIte, Nat.reduceEqDiff, reduceCtorEq, Nat.reduceAdd, Nat.reduceLT, Nat.reduceLeDiff]
  repeat' (refine Fork.mk (fun _ => ?_) (fun _ => ?_))
  all_goals (try simp_all)
  all_goals (try omega)
theorem t31 (n lo hi : Int) : PCall Tryz.prog 31 [.int .i64 n, .int .i64 lo, .int .i64 hi] (· = .bool (decide (lo ≤ n) && decide (n ≤ hi))) := by
  refine PCall.intro c31 200 (by simp) 20 ?_
  simp (maxSteps := 1000000) -implicitDefEqProofs only [s31, go_sem, ↓reduceIte, Nat.reduceEqDiff, Nat.reduceBEq, Int.reduceToNat, Nat.reduceAdd, Nat.reduceLT, Nat.reduceLeDiff, reduceCtorEq, Nat.reduceSub]
  simp (maxSteps := 1000000) -implicitDefEqProofs only [r31, push_cast, ↓reduceIte, Nat.reduceEqDiff, reduceCtorEq, Nat.reduceAdd, Nat.reduceLT, Nat.reduceLeDiff]
  repeat' (refine Fork.mk (fun _ => ?_) (fun _ => ?_))
  all_goals (try simp_all)
  all_goals (try omega)
theorem t86 (n lo hi : Int) : PCall Tryz.prog 86 [.int .i64 n, .int .i64 lo, .int .i64 hi] (· = .bool (decide (n < lo) || decide (hi < n))) := by
  refine PCall.intro c86 200 (by simp) 20 ?_
  simp (maxSteps := 1000000) -implicitDefEqProofs only [s86, go_sem, ↓reduceIte, Nat.reduceEqDiff, Nat.reduceBEq, Int.reduceToNat, Nat.reduceAdd, Nat.reduceLT, Nat.reduceLeDiff, reduceCtorEq, Nat.reduceSub]
  simp (maxSteps := 1000000) -implicitDefEqProofs only [r86, push_cast, ↓reduceIte, Nat.reduceEqDiff, reduceCtorEq, Nat.reduceAdd, Nat.reduceLT, Nat.reduceLeDiff]
  repeat' (refine Fork.mk (fun _ => ?_) (fun _ => ?_))
  all_goals (try simp_all)
  all_goals (try omega)
def lowC : List UInt8 := [97, 98, 99, 100, 101, 102, 103, 104, 105, 106, 107, 108, 109, 110, 111, 112, 113, 114, 115, 116, 117, 118, 119, 120, 121, 122]
def wordC : List UInt8 := [97, 98, 99, 100, 101, 102, 103, 104, 105, 106, 107, 108, 109, 110, 111, 112, 113, 114, 115, 116, 117, 118, 119, 120, 121, 122, 48, 49, 50, 51, 52, 53, 54, 55, 56, 57, 95]
def kw (s : ByteArray) : Bool := [⟨#[112, 114, 111, 99]⟩, ⟨#[109, 97, 105, 110]⟩, ⟨#[105, 102]⟩, ⟨#[101, 108, 115, 101]⟩].any fun y => decide (s = y)
def isNm (s : ByteArray) : Bool := decide (1 ≤ s.size) && decide (s.size ≤ 40) && lowC.contains (s.data.getD 0 0) && !kw s && s.data.toList.all (wordC.contains ·)
theorem ib_iff (l : List UInt8) (c : UInt8) : l.contains c = decide (0 ≤ Lib.indexByte l c) := by
  induction l with
  | nil => simp [Lib.indexByte]
  | cons b l ih =>
    have := Lib.indexByte_ge l c
    simp only [List.contains_cons, Lib.indexByte, ih]
    by_cases h : b = c
    · subst h; simp
    · have h' : (c == b) = false := by simp [Ne.symm h]
      have h2 : (b == c) = false := by simp [h]
      simp only [h', h2, Bool.false_or]
      split
      · contradiction
      · split
        · rename_i h3; simp at h3; simp [h3]
        · rename_i h3; simp at h3; simp; omega
theorem bt_u8 (s : ByteArray) (i : Nat) : (bt s i).toNat.toUInt8 = s.data.getD i 0 := by simp [bt]
theorem dropWhile_nil {α : Type} (p : α → Bool) : ∀ l : List α, l.dropWhile p = [] ↔ l.all p = true
  | [] => by simp
  | x :: l => by
    simp only [List.dropWhile_cons, List.all_cons]
    by_cases h : p x = true
    · simp only [h, if_true, Bool.true_and]; exact dropWhile_nil p l
    · simp [h]
theorem trim_nil (s : ByteArray) (l : List UInt8) : (((⟨(Lib.trimS s.data.toList l).toArray⟩ : ByteArray) = ⟨#[]⟩) = (s.data.toList.all (l.contains ·) = true)) := by
  have h1 : ((⟨(Lib.trimS s.data.toList l).toArray⟩ : ByteArray) = ⟨#[]⟩) ↔ Lib.trimS s.data.toList l = [] := by simp
  apply propext
  rw [h1]
  unfold Lib.trimS Lib.trimLeftS Lib.trimRightS
  rw [dropWhile_nil, List.all_reverse]
  constructor
  · intro h
    have h2 : (s.data.toList.reverse.dropWhile (l.contains ·)) = [] := by
      cases hd : s.data.toList.reverse.dropWhile (l.contains ·) with
      | nil => rfl
      | cons a t =>
        have h3 := List.head?_dropWhile_not (l.contains ·) s.data.toList.reverse
        rw [hd] at h3 h
        simp only [List.head?_cons, List.all_cons, Bool.and_eq_true] at h3 h
        rw [h.1] at h3; simp at h3
    rw [dropWhile_nil, List.all_reverse] at h2
    exact h2
  · intro h
    have h2 : (s.data.toList.reverse.dropWhile (l.contains ·)) = [] := by rw [dropWhile_nil, List.all_reverse]; exact h
    rw [h2]; rfl
theorem size0 (s : ByteArray) : (s = ⟨#[]⟩) = (s.size = 0) := by
  apply propext
  constructor
  · rintro rfl; rfl
  · intro h
    rcases s with ⟨a⟩
    have : a.size = 0 := h
    rw [Array.size_eq_zero_iff] at this
    rw [this]
theorem t85w (s : ByteArray) : PCall Tryz.prog 85 [.str s, .str ⟨#[97, 98, 99, 100, 101, 102, 103, 104, 105, 106, 107, 108, 109, 110, 111, 112, 113, 114, 115, 116, 117, 118, 119, 120, 121, 122, 48, 49, 50, 51, 52, 53, 54, 55, 56, 57, 95]⟩] (· = .str ⟨(Lib.trimS s.data.toList wordC).toArray⟩) :=
  t85 s ⟨wordC.toArray⟩ (by decide) (fun j b h => by
    have h1 : ∀ b ∈ wordC, b.toNat < 128 := by decide
    exact h1 b (List.mem_of_getElem? (by simpa using h)))
theorem ib_low (c : UInt8) : decide (0 ≤ Lib.indexByte [97, 98, 99, 100, 101, 102, 103, 104, 105, 106, 107, 108, 109, 110, 111, 112, 113, 114, 115, 116, 117, 118, 119, 120, 121, 122] c) = lowC.contains c := (ib_iff lowC c).symm
theorem ib_low' (c : UInt8) : decide (Lib.indexByte [97, 98, 99, 100, 101, 102, 103, 104, 105, 106, 107, 108, 109, 110, 111, 112, 113, 114, 115, 116, 117, 118, 119, 120, 121, 122] c < 0) = !lowC.contains c := by
  rw [← ib_low]; by_cases h : (0 ≤ Lib.indexByte [97, 98, 99, 100, 101, 102, 103, 104, 105, 106, 107, 108, 109, 110, 111, 112, 113, 114, 115, 116, 117, 118, 119, 120, 121, 122] c) <;> simp [h] <;> omega
theorem ib_word' (c : UInt8) : decide (Lib.indexByte [97, 98, 99, 100, 101, 102, 103, 104, 105, 106, 107, 108, 109, 110, 111, 112, 113, 114, 115, 116, 117, 118, 119, 120, 121, 122, 48, 49, 50, 51, 52, 53, 54, 55, 56, 57, 95] c < 0) = !wordC.contains c := by
  rw [ib_iff]
  by_cases h : (0 ≤ Lib.indexByte wordC c)
  · have : ¬ (Lib.indexByte wordC c < 0) := by omega
    rw [decide_eq_true h]; exact decide_eq_false this
  · have : (Lib.indexByte wordC c < 0) := by omega
    rw [decide_eq_false h]; exact decide_eq_true this
theorem kw_eq (s : ByteArray) : ([⟨#[112, 114, 111, 99]⟩, ⟨#[109, 97, 105, 110]⟩, ⟨#[105, 102]⟩, ⟨#[101, 108, 115, 101]⟩].any fun y => decide (s = y)) = kw s := rfl
theorem trim_dec (s : ByteArray) (l : List UInt8) : decide ((⟨(Lib.trimS s.data.toList l).toArray⟩ : ByteArray) = ⟨#[]⟩) = s.data.toList.all (l.contains ·) := by simp only [trim_nil]; simp
theorem size_dec (s : ByteArray) : decide (s = ⟨#[]⟩) = decide (s.size = 0) := by simp only [size0]
theorem sz_pos (n : Nat) : decide (1 ≤ n) = !decide (n = 0) := by cases n <;> simp
theorem t72 (s : ByteArray) : PCall Tryz.prog 72 [.str s] (· = .bool (isNm s)) := by
  refine PCall.intro c72 200 (by simp) 20 ?_
  simp (maxSteps := 1000000) -implicitDefEqProofs only [s72, go_sem, ↓reduceIte, Nat.reduceEqDiff, Nat.reduceBEq, Int.reduceToNat, Nat.reduceAdd, Nat.reduceLT, Nat.reduceLeDiff, reduceCtorEq, Nat.reduceSub]
  repeat' (first | ((with_reducible first | refine cgR (t84 s) ?_ ?_ | refine cgR (t69 _ _) ?_ ?_ | refine cgR (t85w _) ?_ ?_); (focus (simp [norefL, noref, norefL_app, norefL_str, norefL_int, norefL_encE, norefL_encS, norefL_encP, noref_encE, noref_encS, noref_encP, noref_encPl]; done)); simp (maxSteps := 1000000) -implicitDefEqProofs only [go_sem, ↓reduceIte, Nat.reduceEqDiff, Nat.reduceBEq, Int.reduceToNat, Nat.reduceAdd, Nat.reduceLT, Nat.reduceLeDiff, reduceCtorEq, Nat.reduceSub]) | ((with_reducible apply cgF); (focus ((simp (maxSteps := 1000000) -implicitDefEqProofs only [List.map_cons, List.map_nil, push_cast, ↓reduceIte, Nat.reduceEqDiff, reduceCtorEq, Nat.reduceAdd, Nat.reduceLT, Nat.reduceLeDiff] <;> rfl); done)); (with_reducible first | exact (t84 s) | exact (t69 _ _) | exact (t85w _)); (focus (rfl; done)); simp (maxSteps := 1000000) -implicitDefEqProofs only [go_sem, ↓reduceIte, Nat.reduceEqDiff, Nat.reduceBEq, Int.reduceToNat, Nat.reduceAdd, Nat.reduceLT, Nat.reduceLeDiff, reduceCtorEq, Nat.reduceSub]) | ((with_reducible show F _ _ (Cfg.code (SCode.qregion _) _ _ _)); refine F_q2 ?_; simp (maxSteps := 1000000) -implicitDefEqProofs only [go_sem, ↓reduceIte, Nat.reduceEqDiff, Nat.reduceBEq, Int.reduceToNat, Nat.reduceAdd, Nat.reduceLT, Nat.reduceLeDiff, reduceCtorEq, Nat.reduceSub]) | ((with_reducible show F _ _ (Cfg.code (SCode.pregion _ _ _ _ _) _ _ _)); refine F_p2 ?_; simp (maxSteps := 1000000) -implicitDefEqProofs only [go_sem, ↓reduceIte, Nat.reduceEqDiff, Nat.reduceBEq, Int.reduceToNat, Nat.reduceAdd, Nat.reduceLT, Nat.reduceLeDiff, reduceCtorEq, Nat.reduceSub]) | with_reducible refine Fork.mk (fun _ => ?_) (fun _ => ?_) | with_reducible refine And.intro ?_ ?_ | ((with_reducible show resP _ _ _ _ _); simp (maxSteps := 1000000) -implicitDefEqProofs only [r72, push_cast, ↓reduceIte, Nat.reduceEqDiff, reduceCtorEq, Nat.reduceAdd, Nat.reduceLT, Nat.reduceLeDiff]) | (intro _))
  all_goals (try simp only [trim_dec] at *)
  all_goals simp only [ib_low, bt_u8, kw_eq, size_dec, isNm, sz_pos] at *
  all_goals (generalize s.data.toList.all (wordC.contains ·) = A at *; generalize kw s = k at *; generalize lowC.contains (s.data.getD 0 0) = c at *; generalize s.size = n at *)
  all_goals (try simp_all)
  all_goals (try omega)
theorem sz_list (s : ByteArray) : s.data.toList.length = s.size := by simp; try rfl
theorem bt_mid {s : ByteArray} {pre post : List UInt8} {y : UInt8} (h : s.data.toList = pre ++ y :: post) : s.data.getD pre.length 0 = y := by
  have h1 : s.data.toList[pre.length]? = some y := by rw [h]; simp
  rw [Array.getElem?_toList] at h1
  simp [Array.getD_eq_getD_getElem?, h1]
theorem nm_tail (s : ByteArray) (A : Bool) (hA : s.data.toList.all (wordC.contains ·) = A) : isNm s = ((decide (1 ≤ (s.size : Int)) && decide ((s.size : Int) ≤ 40)) && (lowC.contains (s.data.getD 0 0)) && !kw s && A) := by
  rw [isNm, hA]
  have h1 : decide (1 ≤ (s.size : Int)) = decide (1 ≤ s.size) := by apply decide_eq_decide.2; omega
  have h2 : decide ((s.size : Int) ≤ 40) = decide (s.size ≤ 40) := by apply decide_eq_decide.2; omega
  rw [h1, h2]
theorem t54 (s : ByteArray) : PCall Tryz.prog 54 [.str s] (· = .bool (isNm s)) := by
  refine PCall.intro c54 200 (by simp) 20 ?_
  simp (maxSteps := 1000000) -implicitDefEqProofs only [s54, go_sem, ↓reduceIte, Nat.reduceEqDiff, Nat.reduceBEq, Int.reduceToNat, Nat.reduceAdd, Nat.reduceLT, Nat.reduceLeDiff, reduceCtorEq, Nat.reduceSub]
  repeat' (first | ((with_reducible first | refine cgR (t31 _ _ _) ?_ ?_ | refine cgR (t69 _ _) ?_ ?_ | refine cgR (t29 [⟨#[112, 114, 111, 99]⟩, ⟨#[109, 97, 105, 110]⟩, ⟨#[105, 102]⟩, ⟨#[101, 108, 115, 101]⟩] s) ?_ ?_); (focus (simp [norefL, noref, norefL_app, norefL_str, norefL_int, norefL_encE, norefL_encS, norefL_encP, noref_encE, noref_encS, noref_encP, noref_encPl]; done)); simp (maxSteps := 1000000) -implicitDefEqProofs only [go_sem, ↓reduceIte, Nat.reduceEqDiff, Nat.reduceBEq, Int.reduceToNat, Nat.reduceAdd, Nat.reduceLT, Nat.reduceLeDiff, reduceCtorEq, Nat.reduceSub]) | ((with_reducible apply cgF); (focus ((simp (maxSteps := 1000000) -implicitDefEqProofs only [List.map_cons, List.map_nil, push_cast, ↓reduceIte, Nat.reduceEqDiff, reduceCtorEq, Nat.reduceAdd, Nat.reduceLT, Nat.reduceLeDiff] <;> rfl); done)); (with_reducible first | exact (t31 _ _ _) | exact (t69 _ _) | exact (t29 [⟨#[112, 114, 111, 99]⟩, ⟨#[109, 97, 105, 110]⟩, ⟨#[105, 102]⟩, ⟨#[101, 108, 115, 101]⟩] s)); (focus (rfl; done)); simp (maxSteps := 1000000) -implicitDefEqProofs only [go_sem, ↓reduceIte, Nat.reduceEqDiff, Nat.reduceBEq, Int.reduceToNat, Nat.reduceAdd, Nat.reduceLT, Nat.reduceLeDiff, reduceCtorEq, Nat.reduceSub]) | ((with_reducible show F _ _ (Cfg.code (SCode.qregion _) _ _ _)); refine F_q2 ?_; simp (maxSteps := 1000000) -implicitDefEqProofs only [go_sem, ↓reduceIte, Nat.reduceEqDiff, Nat.reduceBEq, Int.reduceToNat, Nat.reduceAdd, Nat.reduceLT, Nat.reduceLeDiff, reduceCtorEq, Nat.reduceSub]) | ((with_reducible show F _ _ (Cfg.code (SCode.pregion _ _ _ _ _) _ _ _)); refine F_p2 ?_; simp (maxSteps := 1000000) -implicitDefEqProofs only [go_sem, ↓reduceIte, Nat.reduceEqDiff, Nat.reduceBEq, Int.reduceToNat, Nat.reduceAdd, Nat.reduceLT, Nat.reduceLeDiff, reduceCtorEq, Nat.reduceSub]) | with_reducible refine Fork.mk (fun _ => ?_) (fun _ => ?_) | with_reducible refine And.intro ?_ ?_ | ((with_reducible show resP _ _ _ _ _); simp (maxSteps := 1000000) -implicitDefEqProofs only [r54, push_cast, ↓reduceIte, Nat.reduceEqDiff, reduceCtorEq, Nat.reduceAdd, Nat.reduceLT, Nat.reduceLeDiff]) | (intro _))
  case' refine_2.refine_2.refine_2.refine_2.refine_2.refine_2.refine_2 =>
    rename_i hsz h1 h2 h3 hl
    rw [bt_u8, ib_low'] at h2
    rw [kw_eq] at h3
    refine F_loop (fun m e H => ∃ pre post, s.data.toList = pre ++ post ∧ m = post.length ∧ (pre.all (wordC.contains ·) = true) ∧ e 0 = .str s ∧ e 20 = .int .i64 s.size ∧ e 21 = .int .i64 pre.length) s.size ⟨[], s.data.toList, by simp [upd, env0, sz_list]⟩ ?_
    rintro m e H ⟨pre, post, hxs, rfl, hp, i0, i20, i21⟩
    cases post with
    | nil =>
      have hc : ¬ ((pre.length : Int) < s.size) := by rw [← sz_list s, hxs]; simp
      simp (maxSteps := 1000000) -implicitDefEqProofs only [i0, i20, i21, hc, decide_false, go_sem, ↓reduceIte, Nat.reduceEqDiff, Nat.reduceBEq, Int.reduceToNat, Nat.reduceAdd, Nat.reduceLT, Nat.reduceLeDiff, reduceCtorEq, Nat.reduceSub]
      simp (maxSteps := 1000000) -implicitDefEqProofs only [r54, push_cast, ↓reduceIte, Nat.reduceEqDiff, reduceCtorEq, Nat.reduceAdd, Nat.reduceLT, Nat.reduceLeDiff]
      rw [nm_tail s true (by rw [hxs]; simpa using hp)]
      simp_all
    | cons y post =>
      have hc : ((pre.length : Int) < s.size) := by rw [← sz_list s, hxs]; simp; omega
      have hc2 : pre.length < s.size := by rw [← sz_list s, hxs]; simp
      have hw : IntKind.i64.wrap ((pre.length : Int) + 1) = ((pre.length + 1 : Nat) : Int) := wrap_succ (by omega)
      simp (maxSteps := 1000000) -implicitDefEqProofs only [i0, i20, i21, hc, hc2, hw, decide_true, go_sem, ↓reduceIte, Nat.reduceEqDiff, Nat.reduceBEq, Int.reduceToNat, Nat.reduceAdd, Nat.reduceLT, Nat.reduceLeDiff, reduceCtorEq, Nat.reduceSub]
      repeat' (first | ((with_reducible first | refine cgR (t69 _ _) ?_ ?_); (focus (simp [norefL, noref, norefL_app, norefL_str, norefL_int, norefL_encE, norefL_encS, norefL_encP, noref_encE, noref_encS, noref_encP, noref_encPl]; done)); simp (maxSteps := 1000000) -implicitDefEqProofs only [i0, i20, i21, hc, hc2, hw, go_sem, ↓reduceIte, Nat.reduceEqDiff, Nat.reduceBEq, Int.reduceToNat, Nat.reduceAdd, Nat.reduceLT, Nat.reduceLeDiff, reduceCtorEq, Nat.reduceSub]) | ((with_reducible apply cgF); (focus ((simp (maxSteps := 1000000) -implicitDefEqProofs only [List.map_cons, List.map_nil, push_cast, ↓reduceIte, Nat.reduceEqDiff, reduceCtorEq, Nat.reduceAdd, Nat.reduceLT, Nat.reduceLeDiff] <;> rfl); done)); (with_reducible first | exact (t69 _ _)); (focus (rfl; done)); simp (maxSteps := 1000000) -implicitDefEqProofs only [i0, i20, i21, hc, hc2, hw, go_sem, ↓reduceIte, Nat.reduceEqDiff, Nat.reduceBEq, Int.reduceToNat, Nat.reduceAdd, Nat.reduceLT, Nat.reduceLeDiff, reduceCtorEq, Nat.reduceSub]) | ((with_reducible show F _ _ (Cfg.code (SCode.qregion _) _ _ _)); refine F_q2 ?_; simp (maxSteps := 1000000) -implicitDefEqProofs only [i0, i20, i21, hc, hc2, hw, go_sem, ↓reduceIte, Nat.reduceEqDiff, Nat.reduceBEq, Int.reduceToNat, Nat.reduceAdd, Nat.reduceLT, Nat.reduceLeDiff, reduceCtorEq, Nat.reduceSub]) | ((with_reducible show F _ _ (Cfg.code (SCode.pregion _ _ _ _ _) _ _ _)); refine F_p2 ?_; simp (maxSteps := 1000000) -implicitDefEqProofs only [i0, i20, i21, hc, hc2, hw, go_sem, ↓reduceIte, Nat.reduceEqDiff, Nat.reduceBEq, Int.reduceToNat, Nat.reduceAdd, Nat.reduceLT, Nat.reduceLeDiff, reduceCtorEq, Nat.reduceSub]) | with_reducible refine Fork.mk (fun _ => ?_) (fun _ => ?_) | with_reducible refine And.intro ?_ ?_ | ((with_reducible show resP _ _ _ _ _); simp (maxSteps := 1000000) -implicitDefEqProofs only [r54, push_cast, ↓reduceIte, Nat.reduceEqDiff, reduceCtorEq, Nat.reduceAdd, Nat.reduceLT, Nat.reduceLeDiff]) | (intro _))
      all_goals (rename_i hy; rw [bt_u8, ib_word', bt_mid hxs] at hy)
      · have : s.data.toList.all (wordC.contains ·) = false := by
          rw [hxs, List.all_append, List.all_cons]
          have : wordC.contains y = false := by simpa using hy
          rw [this]; simp
        rw [nm_tail s false this]; simp
      · refine ⟨_, Nat.lt_succ_self _, pre ++ [y], post, by simp [hxs], rfl, ?_, by simp⟩
        rw [List.all_append, hp, List.all_cons]
        have : wordC.contains y = true := by simpa using hy
        rw [this]; rfl
  all_goals (try rw [nm_tail s _ rfl])
  all_goals (try simp only [bt_u8, ib_low', kw_eq] at *)
  all_goals (generalize s.data.toList.all (wordC.contains ·) = A at *; generalize kw s = k at *; generalize lowC.contains (s.data.getD 0 0) = c at *; generalize s.size = n at *)
  all_goals (try simp_all)
  all_goals (try omega)
theorem t106 (s : ByteArray) : PCall Tryz.prog 106 [.str s] (· = .bool (!isNm s)) := by
  refine PCall.intro c106 200 (by simp) 20 ?_
  simp (maxSteps := 1000000) -implicitDefEqProofs only [s106, go_sem, ↓reduceIte, Nat.reduceEqDiff, Nat.reduceBEq, Int.reduceToNat, Nat.reduceAdd, Nat.reduceLT, Nat.reduceLeDiff, reduceCtorEq, Nat.reduceSub]
  repeat' (first | ((with_reducible first | refine cgR (t72 s) ?_ ?_); (focus (simp [norefL, noref, norefL_app, norefL_str, norefL_int, norefL_encE, norefL_encS, norefL_encP, noref_encE, noref_encS, noref_encP, noref_encPl]; done)); simp (maxSteps := 1000000) -implicitDefEqProofs only [go_sem, ↓reduceIte, Nat.reduceEqDiff, Nat.reduceBEq, Int.reduceToNat, Nat.reduceAdd, Nat.reduceLT, Nat.reduceLeDiff, reduceCtorEq, Nat.reduceSub]) | ((with_reducible apply cgF); (focus ((simp (maxSteps := 1000000) -implicitDefEqProofs only [List.map_cons, List.map_nil, push_cast, ↓reduceIte, Nat.reduceEqDiff, reduceCtorEq, Nat.reduceAdd, Nat.reduceLT, Nat.reduceLeDiff] <;> rfl); done)); (with_reducible first | exact (t72 s)); (focus (rfl; done)); simp (maxSteps := 1000000) -implicitDefEqProofs only [go_sem, ↓reduceIte, Nat.reduceEqDiff, Nat.reduceBEq, Int.reduceToNat, Nat.reduceAdd, Nat.reduceLT, Nat.reduceLeDiff, reduceCtorEq, Nat.reduceSub]) | ((with_reducible show F _ _ (Cfg.code (SCode.qregion _) _ _ _)); refine F_q2 ?_; simp (maxSteps := 1000000) -implicitDefEqProofs only [go_sem, ↓reduceIte, Nat.reduceEqDiff, Nat.reduceBEq, Int.reduceToNat, Nat.reduceAdd, Nat.reduceLT, Nat.reduceLeDiff, reduceCtorEq, Nat.reduceSub]) | ((with_reducible show F _ _ (Cfg.code (SCode.pregion _ _ _ _ _) _ _ _)); refine F_p2 ?_; simp (maxSteps := 1000000) -implicitDefEqProofs only [go_sem, ↓reduceIte, Nat.reduceEqDiff, Nat.reduceBEq, Int.reduceToNat, Nat.reduceAdd, Nat.reduceLT, Nat.reduceLeDiff, reduceCtorEq, Nat.reduceSub]) | with_reducible refine Fork.mk (fun _ => ?_) (fun _ => ?_) | with_reducible refine And.intro ?_ ?_ | ((with_reducible show resP _ _ _ _ _); simp (maxSteps := 1000000) -implicitDefEqProofs only [r106, push_cast, ↓reduceIte, Nat.reduceEqDiff, reduceCtorEq, Nat.reduceAdd, Nat.reduceLT, Nat.reduceLeDiff]) | (intro _))
  all_goals (try rfl)
theorem t94 (s : ByteArray) : PCall Tryz.prog 94 [.str s] (· = .bool (!isNm s)) := by
  refine PCall.intro c94 200 (by simp) 20 ?_
  simp (maxSteps := 1000000) -implicitDefEqProofs only [s94, go_sem, ↓reduceIte, Nat.reduceEqDiff, Nat.reduceBEq, Int.reduceToNat, Nat.reduceAdd, Nat.reduceLT, Nat.reduceLeDiff, reduceCtorEq, Nat.reduceSub]
  repeat' (first | ((with_reducible first | refine cgR (t54 s) ?_ ?_); (focus (simp [norefL, noref, norefL_app, norefL_str, norefL_int, norefL_encE, norefL_encS, norefL_encP, noref_encE, noref_encS, noref_encP, noref_encPl]; done)); simp (maxSteps := 1000000) -implicitDefEqProofs only [go_sem, ↓reduceIte, Nat.reduceEqDiff, Nat.reduceBEq, Int.reduceToNat, Nat.reduceAdd, Nat.reduceLT, Nat.reduceLeDiff, reduceCtorEq, Nat.reduceSub]) | ((with_reducible apply cgF); (focus ((simp (maxSteps := 1000000) -implicitDefEqProofs only [List.map_cons, List.map_nil, push_cast, ↓reduceIte, Nat.reduceEqDiff, reduceCtorEq, Nat.reduceAdd, Nat.reduceLT, Nat.reduceLeDiff] <;> rfl); done)); (with_reducible first | exact (t54 s)); (focus (rfl; done)); simp (maxSteps := 1000000) -implicitDefEqProofs only [go_sem, ↓reduceIte, Nat.reduceEqDiff, Nat.reduceBEq, Int.reduceToNat, Nat.reduceAdd, Nat.reduceLT, Nat.reduceLeDiff, reduceCtorEq, Nat.reduceSub]) | ((with_reducible show F _ _ (Cfg.code (SCode.qregion _) _ _ _)); refine F_q2 ?_; simp (maxSteps := 1000000) -implicitDefEqProofs only [go_sem, ↓reduceIte, Nat.reduceEqDiff, Nat.reduceBEq, Int.reduceToNat, Nat.reduceAdd, Nat.reduceLT, Nat.reduceLeDiff, reduceCtorEq, Nat.reduceSub]) | ((with_reducible show F _ _ (Cfg.code (SCode.pregion _ _ _ _ _) _ _ _)); refine F_p2 ?_; simp (maxSteps := 1000000) -implicitDefEqProofs only [go_sem, ↓reduceIte, Nat.reduceEqDiff, Nat.reduceBEq, Int.reduceToNat, Nat.reduceAdd, Nat.reduceLT, Nat.reduceLeDiff, reduceCtorEq, Nat.reduceSub]) | with_reducible refine Fork.mk (fun _ => ?_) (fun _ => ?_) | with_reducible refine And.intro ?_ ?_ | ((with_reducible show resP _ _ _ _ _); simp (maxSteps := 1000000) -implicitDefEqProofs only [r94, push_cast, ↓reduceIte, Nat.reduceEqDiff, reduceCtorEq, Nat.reduceAdd, Nat.reduceLT, Nat.reduceLeDiff]) | (intro _))
  all_goals (try rfl)
theorem t104 (b : Bool) (s : ByteArray) : PCall Tryz.prog 104 [.bool b, .str s] (· = .bool (b && !isNm s)) := by
  refine PCall.intro c104 200 (by simp) 20 ?_
  simp (maxSteps := 1000000) -implicitDefEqProofs only [s104, go_sem, ↓reduceIte, Nat.reduceEqDiff, Nat.reduceBEq, Int.reduceToNat, Nat.reduceAdd, Nat.reduceLT, Nat.reduceLeDiff, reduceCtorEq, Nat.reduceSub]
  repeat' (first | ((with_reducible first | refine cgR (t72 s) ?_ ?_); (focus (simp [norefL, noref, norefL_app, norefL_str, norefL_int, norefL_encE, norefL_encS, norefL_encP, noref_encE, noref_encS, noref_encP, noref_encPl]; done)); simp (maxSteps := 1000000) -implicitDefEqProofs only [go_sem, ↓reduceIte, Nat.reduceEqDiff, Nat.reduceBEq, Int.reduceToNat, Nat.reduceAdd, Nat.reduceLT, Nat.reduceLeDiff, reduceCtorEq, Nat.reduceSub]) | ((with_reducible apply cgF); (focus ((simp (maxSteps := 1000000) -implicitDefEqProofs only [List.map_cons, List.map_nil, push_cast, ↓reduceIte, Nat.reduceEqDiff, reduceCtorEq, Nat.reduceAdd, Nat.reduceLT, Nat.reduceLeDiff] <;> rfl); done)); (with_reducible first | exact (t72 s)); (focus (rfl; done)); simp (maxSteps := 1000000) -implicitDefEqProofs only [go_sem, ↓reduceIte, Nat.reduceEqDiff, Nat.reduceBEq, Int.reduceToNat, Nat.reduceAdd, Nat.reduceLT, Nat.reduceLeDiff, reduceCtorEq, Nat.reduceSub]) | ((with_reducible show F _ _ (Cfg.code (SCode.qregion _) _ _ _)); refine F_q2 ?_; simp (maxSteps := 1000000) -implicitDefEqProofs only [go_sem, ↓reduceIte, Nat.reduceEqDiff, Nat.reduceBEq, Int.reduceToNat, Nat.reduceAdd, Nat.reduceLT, Nat.reduceLeDiff, reduceCtorEq, Nat.reduceSub]) | ((with_reducible show F _ _ (Cfg.code (SCode.pregion _ _ _ _ _) _ _ _)); refine F_p2 ?_; simp (maxSteps := 1000000) -implicitDefEqProofs only [go_sem, ↓reduceIte, Nat.reduceEqDiff, Nat.reduceBEq, Int.reduceToNat, Nat.reduceAdd, Nat.reduceLT, Nat.reduceLeDiff, reduceCtorEq, Nat.reduceSub]) | with_reducible refine Fork.mk (fun _ => ?_) (fun _ => ?_) | with_reducible refine And.intro ?_ ?_ | ((with_reducible show resP _ _ _ _ _); simp (maxSteps := 1000000) -implicitDefEqProofs only [r104, push_cast, ↓reduceIte, Nat.reduceEqDiff, reduceCtorEq, Nat.reduceAdd, Nat.reduceLT, Nat.reduceLeDiff]) | (intro _))
  all_goals (simp_all)
theorem t60 (p : Pr) (x : ByteArray) : PCall Tryz.prog 60 [encP p, .rptr [.str x]] (· = .bool (decide (p.name = x))) := by
  refine PCall.intro c60 200 (by simp) 20 ?_
  simp (maxSteps := 1000000) -implicitDefEqProofs only [s60, encP, go_sem, ↓reduceIte, Nat.reduceEqDiff, Nat.reduceBEq, Int.reduceToNat, Nat.reduceAdd, Nat.reduceLT, Nat.reduceLeDiff, reduceCtorEq, Nat.reduceSub]
  repeat' (first | ((with_reducible show F _ _ (Cfg.code (SCode.qregion _) _ _ _)); refine F_q2 ?_; simp (maxSteps := 1000000) -implicitDefEqProofs only [go_sem, ↓reduceIte, Nat.reduceEqDiff, Nat.reduceBEq, Int.reduceToNat, Nat.reduceAdd, Nat.reduceLT, Nat.reduceLeDiff, reduceCtorEq, Nat.reduceSub]) | ((with_reducible show F _ _ (Cfg.code (SCode.pregion _ _ _ _ _) _ _ _)); refine F_p2 ?_; simp (maxSteps := 1000000) -implicitDefEqProofs only [go_sem, ↓reduceIte, Nat.reduceEqDiff, Nat.reduceBEq, Int.reduceToNat, Nat.reduceAdd, Nat.reduceLT, Nat.reduceLeDiff, reduceCtorEq, Nat.reduceSub]) | with_reducible refine Fork.mk (fun _ => ?_) (fun _ => ?_) | with_reducible refine And.intro ?_ ?_ | ((with_reducible show resP _ _ _ _ _); simp (maxSteps := 1000000) -implicitDefEqProofs only [r60, push_cast, ↓reduceIte, Nat.reduceEqDiff, reduceCtorEq, Nat.reduceAdd, Nat.reduceLT, Nat.reduceLeDiff]) | (intro _))
  all_goals (try rfl)
theorem t76 (p : Pr) (x : ByteArray) : PCall Tryz.prog 76 [encP p, .rptr [.str x]] (· = .bool (decide (p.name = x))) := by
  refine PCall.intro c76 200 (by simp) 20 ?_
  simp (maxSteps := 1000000) -implicitDefEqProofs only [s76, encP, go_sem, ↓reduceIte, Nat.reduceEqDiff, Nat.reduceBEq, Int.reduceToNat, Nat.reduceAdd, Nat.reduceLT, Nat.reduceLeDiff, reduceCtorEq, Nat.reduceSub]
  repeat' (first | ((with_reducible show F _ _ (Cfg.code (SCode.qregion _) _ _ _)); refine F_q2 ?_; simp (maxSteps := 1000000) -implicitDefEqProofs only [go_sem, ↓reduceIte, Nat.reduceEqDiff, Nat.reduceBEq, Int.reduceToNat, Nat.reduceAdd, Nat.reduceLT, Nat.reduceLeDiff, reduceCtorEq, Nat.reduceSub]) | ((with_reducible show F _ _ (Cfg.code (SCode.pregion _ _ _ _ _) _ _ _)); refine F_p2 ?_; simp (maxSteps := 1000000) -implicitDefEqProofs only [go_sem, ↓reduceIte, Nat.reduceEqDiff, Nat.reduceBEq, Int.reduceToNat, Nat.reduceAdd, Nat.reduceLT, Nat.reduceLeDiff, reduceCtorEq, Nat.reduceSub]) | with_reducible refine Fork.mk (fun _ => ?_) (fun _ => ?_) | with_reducible refine And.intro ?_ ?_ | ((with_reducible show resP _ _ _ _ _); simp (maxSteps := 1000000) -implicitDefEqProofs only [r76, push_cast, ↓reduceIte, Nat.reduceEqDiff, reduceCtorEq, Nat.reduceAdd, Nat.reduceLT, Nat.reduceLeDiff]) | (intro _))
  all_goals (try rfl)
theorem t74 (p q : Pr) : PCall Tryz.prog 74 [encP p, .rptr [.str q.name, .fs (q.roles.map .str), .fs (q.steps.map encS)]] (· = .bool (decide (p.name = q.name))) := by
  refine PCall.intro c74 200 (by simp) 20 ?_
  simp (maxSteps := 1000000) -implicitDefEqProofs only [s74, encP, go_sem, ↓reduceIte, Nat.reduceEqDiff, Nat.reduceBEq, Int.reduceToNat, Nat.reduceAdd, Nat.reduceLT, Nat.reduceLeDiff, reduceCtorEq, Nat.reduceSub]
  repeat' (first | ((with_reducible show F _ _ (Cfg.code (SCode.qregion _) _ _ _)); refine F_q2 ?_; simp (maxSteps := 1000000) -implicitDefEqProofs only [go_sem, ↓reduceIte, Nat.reduceEqDiff, Nat.reduceBEq, Int.reduceToNat, Nat.reduceAdd, Nat.reduceLT, Nat.reduceLeDiff, reduceCtorEq, Nat.reduceSub]) | ((with_reducible show F _ _ (Cfg.code (SCode.pregion _ _ _ _ _) _ _ _)); refine F_p2 ?_; simp (maxSteps := 1000000) -implicitDefEqProofs only [go_sem, ↓reduceIte, Nat.reduceEqDiff, Nat.reduceBEq, Int.reduceToNat, Nat.reduceAdd, Nat.reduceLT, Nat.reduceLeDiff, reduceCtorEq, Nat.reduceSub]) | with_reducible refine Fork.mk (fun _ => ?_) (fun _ => ?_) | with_reducible refine And.intro ?_ ?_ | ((with_reducible show resP _ _ _ _ _); simp (maxSteps := 1000000) -implicitDefEqProofs only [r74, push_cast, ↓reduceIte, Nat.reduceEqDiff, reduceCtorEq, Nat.reduceAdd, Nat.reduceLT, Nat.reduceLeDiff]) | (intro _))
  all_goals (try rfl)
def ar (k : Int) : Int := if k < 1 ∨ 9 < k then -1 else if k ≤ 2 then 0 else if k = 8 then 1 else if k = 9 then 3 else 2
theorem t112 (k : Int) : PCall Tryz.prog 112 [.int .i64 k] (· = .int .i64 (ar k)) := by
  refine PCall.intro c112 200 (by simp) 20 ?_
  simp (maxSteps := 1000000) -implicitDefEqProofs only [s112, go_sem, ↓reduceIte, Nat.reduceEqDiff, Nat.reduceBEq, Int.reduceToNat, Nat.reduceAdd, Nat.reduceLT, Nat.reduceLeDiff, reduceCtorEq, Nat.reduceSub]
  repeat' (first | ((with_reducible first | refine cgR (t86 _ _ _) ?_ ?_); (focus (simp [norefL, noref, norefL_app, norefL_str, norefL_int, norefL_encE, norefL_encS, norefL_encP, noref_encE, noref_encS, noref_encP, noref_encPl]; done)); simp (maxSteps := 1000000) -implicitDefEqProofs only [go_sem, ↓reduceIte, Nat.reduceEqDiff, Nat.reduceBEq, Int.reduceToNat, Nat.reduceAdd, Nat.reduceLT, Nat.reduceLeDiff, reduceCtorEq, Nat.reduceSub]) | ((with_reducible apply cgF); (focus ((simp (maxSteps := 1000000) -implicitDefEqProofs only [List.map_cons, List.map_nil, push_cast, ↓reduceIte, Nat.reduceEqDiff, reduceCtorEq, Nat.reduceAdd, Nat.reduceLT, Nat.reduceLeDiff] <;> rfl); done)); (with_reducible first | exact (t86 _ _ _)); (focus (rfl; done)); simp (maxSteps := 1000000) -implicitDefEqProofs only [go_sem, ↓reduceIte, Nat.reduceEqDiff, Nat.reduceBEq, Int.reduceToNat, Nat.reduceAdd, Nat.reduceLT, Nat.reduceLeDiff, reduceCtorEq, Nat.reduceSub]) | ((with_reducible show F _ _ (Cfg.code (SCode.qregion _) _ _ _)); refine F_q2 ?_; simp (maxSteps := 1000000) -implicitDefEqProofs only [go_sem, ↓reduceIte, Nat.reduceEqDiff, Nat.reduceBEq, Int.reduceToNat, Nat.reduceAdd, Nat.reduceLT, Nat.reduceLeDiff, reduceCtorEq, Nat.reduceSub]) | ((with_reducible show F _ _ (Cfg.code (SCode.pregion _ _ _ _ _) _ _ _)); refine F_p2 ?_; simp (maxSteps := 1000000) -implicitDefEqProofs only [go_sem, ↓reduceIte, Nat.reduceEqDiff, Nat.reduceBEq, Int.reduceToNat, Nat.reduceAdd, Nat.reduceLT, Nat.reduceLeDiff, reduceCtorEq, Nat.reduceSub]) | with_reducible refine Fork.mk (fun _ => ?_) (fun _ => ?_) | with_reducible refine And.intro ?_ ?_ | ((with_reducible show resP _ _ _ _ _); simp (maxSteps := 1000000) -implicitDefEqProofs only [r112, push_cast, ↓reduceIte, Nat.reduceEqDiff, reduceCtorEq, Nat.reduceAdd, Nat.reduceLT, Nat.reduceLeDiff]) | (intro _))
  all_goals (simp_all [ar])
  all_goals (try omega)
theorem t107 (k : Int) : PCall Tryz.prog 107 [.int .i64 k] (· = .int .i64 (ar k)) := by
  refine PCall.intro c107 200 (by simp) 20 ?_
  simp (maxSteps := 1000000) -implicitDefEqProofs only [s107, go_sem, ↓reduceIte, Nat.reduceEqDiff, Nat.reduceBEq, Int.reduceToNat, Nat.reduceAdd, Nat.reduceLT, Nat.reduceLeDiff, reduceCtorEq, Nat.reduceSub]
  repeat' (first | ((with_reducible first | refine cgR (t31 _ _ _) ?_ ?_); (focus (simp [norefL, noref, norefL_app, norefL_str, norefL_int, norefL_encE, norefL_encS, norefL_encP, noref_encE, noref_encS, noref_encP, noref_encPl]; done)); simp (maxSteps := 1000000) -implicitDefEqProofs only [go_sem, ↓reduceIte, Nat.reduceEqDiff, Nat.reduceBEq, Int.reduceToNat, Nat.reduceAdd, Nat.reduceLT, Nat.reduceLeDiff, reduceCtorEq, Nat.reduceSub]) | ((with_reducible apply cgF); (focus ((simp (maxSteps := 1000000) -implicitDefEqProofs only [List.map_cons, List.map_nil, push_cast, ↓reduceIte, Nat.reduceEqDiff, reduceCtorEq, Nat.reduceAdd, Nat.reduceLT, Nat.reduceLeDiff] <;> rfl); done)); (with_reducible first | exact (t31 _ _ _)); (focus (rfl; done)); simp (maxSteps := 1000000) -implicitDefEqProofs only [go_sem, ↓reduceIte, Nat.reduceEqDiff, Nat.reduceBEq, Int.reduceToNat, Nat.reduceAdd, Nat.reduceLT, Nat.reduceLeDiff, reduceCtorEq, Nat.reduceSub]) | ((with_reducible show F _ _ (Cfg.code (SCode.qregion _) _ _ _)); refine F_q2 ?_; simp (maxSteps := 1000000) -implicitDefEqProofs only [go_sem, ↓reduceIte, Nat.reduceEqDiff, Nat.reduceBEq, Int.reduceToNat, Nat.reduceAdd, Nat.reduceLT, Nat.reduceLeDiff, reduceCtorEq, Nat.reduceSub]) | ((with_reducible show F _ _ (Cfg.code (SCode.pregion _ _ _ _ _) _ _ _)); refine F_p2 ?_; simp (maxSteps := 1000000) -implicitDefEqProofs only [go_sem, ↓reduceIte, Nat.reduceEqDiff, Nat.reduceBEq, Int.reduceToNat, Nat.reduceAdd, Nat.reduceLT, Nat.reduceLeDiff, reduceCtorEq, Nat.reduceSub]) | with_reducible refine Fork.mk (fun _ => ?_) (fun _ => ?_) | with_reducible refine And.intro ?_ ?_ | ((with_reducible show resP _ _ _ _ _); simp (maxSteps := 1000000) -implicitDefEqProofs only [r107, push_cast, ↓reduceIte, Nat.reduceEqDiff, reduceCtorEq, Nat.reduceAdd, Nat.reduceLT, Nat.reduceLeDiff]) | (intro _))
  all_goals rename_i h
  · simp at h; simp [ar]; omega
  all_goals
    have hk : k = 1 ∨ k = 2 ∨ k = 3 ∨ k = 4 ∨ k = 5 ∨ k = 6 ∨ k = 7 ∨ k = 8 ∨ k = 9 := by simp at h; omega
    rcases hk with rfl | rfl | rfl | rfl | rfl | rfl | rfl | rfl | rfl <;> simp [IntKind.wrap, IntKind.signed, IntKind.bits, ixP, cellsV_int, ar, fz_int]
theorem t81 (k n : Int) (s : ByteArray) (xs : List Ex) : PCall Tryz.prog 81 [encE (.mk k n s xs)] (· = .bool (decide (k = 0) && decide (n = 0) && decide (s = ⟨#[]⟩) && decide (xs.length = 0))) := by
  refine PCall.intro c81 200 (by simp) 20 ?_
  simp (maxSteps := 1000000) -implicitDefEqProofs only [s81, encE_mk, go_sem, ↓reduceIte, Nat.reduceEqDiff, Nat.reduceBEq, Int.reduceToNat, Nat.reduceAdd, Nat.reduceLT, Nat.reduceLeDiff, reduceCtorEq, Nat.reduceSub]
  repeat' (first | ((with_reducible show F _ _ (Cfg.code (SCode.qregion _) _ _ _)); refine F_q2 ?_; simp (maxSteps := 1000000) -implicitDefEqProofs only [go_sem, ↓reduceIte, Nat.reduceEqDiff, Nat.reduceBEq, Int.reduceToNat, Nat.reduceAdd, Nat.reduceLT, Nat.reduceLeDiff, reduceCtorEq, Nat.reduceSub]) | ((with_reducible show F _ _ (Cfg.code (SCode.pregion _ _ _ _ _) _ _ _)); refine F_p2 ?_; simp (maxSteps := 1000000) -implicitDefEqProofs only [go_sem, ↓reduceIte, Nat.reduceEqDiff, Nat.reduceBEq, Int.reduceToNat, Nat.reduceAdd, Nat.reduceLT, Nat.reduceLeDiff, reduceCtorEq, Nat.reduceSub]) | with_reducible refine Fork.mk (fun _ => ?_) (fun _ => ?_) | with_reducible refine And.intro ?_ ?_ | ((with_reducible show resP _ _ _ _ _); simp (maxSteps := 1000000) -implicitDefEqProofs only [r81, push_cast, ↓reduceIte, Nat.reduceEqDiff, reduceCtorEq, Nat.reduceAdd, Nat.reduceLT, Nat.reduceLeDiff]) | (intro _))
  all_goals (simp_all)
theorem t66r (xs : List Ex) (h : ∀ y ∈ xs, PCall Tryz.prog 35 [encE y, encE y] (· = .bool true)) : PCall Tryz.prog 66 [.fs (xs.map encE), .fs (xs.map encE), .clos 35 [] []] (· = .bool true) := by
  refine PCall.intro c66 200 (by simp) 20 ?_
  simp (maxSteps := 1000000) -implicitDefEqProofs only [s66, decide_true, go_sem, ↓reduceIte, Nat.reduceEqDiff, Nat.reduceBEq, Int.reduceToNat, Nat.reduceAdd, Nat.reduceLT, Nat.reduceLeDiff, reduceCtorEq, Nat.reduceSub]
  intro hlen _ _
  refine F_loop (fun m e H => ∃ pre post, xs = pre ++ post ∧ m = post.length ∧ e 1 = .fs (xs.map encE) ∧ e 2 = .clos 35 [] [] ∧ e 15 = .fs (xs.map encE) ∧ e 16 = .int .i64 xs.length ∧ e 17 = .int .i64 pre.length) xs.length ⟨[], xs, by simp [upd, env0]⟩ ?_
  rintro m e H ⟨pre, post, hxs, rfl, h1, h2, h15, h16, h17⟩
  cases post with
  | nil =>
    simp (maxSteps := 1000000) -implicitDefEqProofs only [h1, h2, h15, h16, h17, mid_not hxs, decide_false, go_sem, ↓reduceIte, Nat.reduceEqDiff, Nat.reduceBEq, Int.reduceToNat, Nat.reduceAdd, Nat.reduceLT, Nat.reduceLeDiff, reduceCtorEq, Nat.reduceSub]
    simp (maxSteps := 1000000) -implicitDefEqProofs only [r66, push_cast, ↓reduceIte, Nat.reduceEqDiff, reduceCtorEq, Nat.reduceAdd, Nat.reduceLT, Nat.reduceLeDiff]
  | cons y post =>
    have hy := h y (by simp [hxs])
    have hg := mid_get encE hxs
    rcases y with ⟨k, n, s, zs⟩
    rw [encE_mk] at hg hy
    simp (maxSteps := 1000000) -implicitDefEqProofs only [h1, h2, h15, h16, h17, hg, mid_lt hxs, mid_wrap hxs hlen, decide_true, go_sem, ↓reduceIte, Nat.reduceEqDiff, Nat.reduceBEq, Int.reduceToNat, Nat.reduceAdd, Nat.reduceLT, Nat.reduceLeDiff, reduceCtorEq, Nat.reduceSub]
    repeat' (first | ((with_reducible first | refine cgR hy ?_ ?_); (focus (simp [norefL, noref, norefL_app, norefL_str, norefL_int, norefL_encE, norefL_encS, norefL_encP, noref_encE, noref_encS, noref_encP, noref_encPl]; done)); simp (maxSteps := 1000000) -implicitDefEqProofs only [h1, h2, h15, h16, h17, hg, mid_wrap hxs hlen, go_sem, ↓reduceIte, Nat.reduceEqDiff, Nat.reduceBEq, Int.reduceToNat, Nat.reduceAdd, Nat.reduceLT, Nat.reduceLeDiff, reduceCtorEq, Nat.reduceSub]) | ((with_reducible apply cgF); (focus ((simp (maxSteps := 1000000) -implicitDefEqProofs only [List.map_cons, List.map_nil, push_cast, ↓reduceIte, Nat.reduceEqDiff, reduceCtorEq, Nat.reduceAdd, Nat.reduceLT, Nat.reduceLeDiff] <;> rfl); done)); (with_reducible first | exact hy); (focus (rfl; done)); simp (maxSteps := 1000000) -implicitDefEqProofs only [h1, h2, h15, h16, h17, hg, mid_wrap hxs hlen, go_sem, ↓reduceIte, Nat.reduceEqDiff, Nat.reduceBEq, Int.reduceToNat, Nat.reduceAdd, Nat.reduceLT, Nat.reduceLeDiff, reduceCtorEq, Nat.reduceSub]) | ((with_reducible show F _ _ (Cfg.code (SCode.qregion _) _ _ _)); refine F_q2 ?_; simp (maxSteps := 1000000) -implicitDefEqProofs only [h1, h2, h15, h16, h17, hg, mid_wrap hxs hlen, go_sem, ↓reduceIte, Nat.reduceEqDiff, Nat.reduceBEq, Int.reduceToNat, Nat.reduceAdd, Nat.reduceLT, Nat.reduceLeDiff, reduceCtorEq, Nat.reduceSub]) | ((with_reducible show F _ _ (Cfg.code (SCode.pregion _ _ _ _ _) _ _ _)); refine F_p2 ?_; simp (maxSteps := 1000000) -implicitDefEqProofs only [h1, h2, h15, h16, h17, hg, mid_wrap hxs hlen, go_sem, ↓reduceIte, Nat.reduceEqDiff, Nat.reduceBEq, Int.reduceToNat, Nat.reduceAdd, Nat.reduceLT, Nat.reduceLeDiff, reduceCtorEq, Nat.reduceSub]) | with_reducible refine Fork.mk (fun _ => ?_) (fun _ => ?_) | with_reducible refine And.intro ?_ ?_ | ((with_reducible show resP _ _ _ _ _); simp (maxSteps := 1000000) -implicitDefEqProofs only [r66, push_cast, ↓reduceIte, Nat.reduceEqDiff, reduceCtorEq, Nat.reduceAdd, Nat.reduceLT, Nat.reduceLeDiff]) | (intro _))
    exact ⟨_, Nat.lt_succ_self _, pre ++ [Ex.mk k n s zs], post, by simp [hxs], rfl, by simp⟩
theorem t35s (k n : Int) (s : ByteArray) (xs : List Ex) (h66 : PCall Tryz.prog 66 [.fs (xs.map encE), .fs (xs.map encE), .clos 35 [] []] (· = .bool true)) : PCall Tryz.prog 35 [encE (.mk k n s xs), encE (.mk k n s xs)] (· = .bool true) := by
  refine PCall.intro c35 200 (by simp) 20 ?_
  simp (maxSteps := 1000000) -implicitDefEqProofs only [s35, encE_mk, go_sem, ↓reduceIte, Nat.reduceEqDiff, Nat.reduceBEq, Int.reduceToNat, Nat.reduceAdd, Nat.reduceLT, Nat.reduceLeDiff, reduceCtorEq, Nat.reduceSub]
  repeat' (first | ((with_reducible first | refine cgR h66 ?_ ?_); (focus (simp [norefL, noref, norefL_app, norefL_str, norefL_int, norefL_encE, norefL_encS, norefL_encP, noref_encE, noref_encS, noref_encP, noref_encPl]; done)); simp (maxSteps := 1000000) -implicitDefEqProofs only [go_sem, ↓reduceIte, Nat.reduceEqDiff, Nat.reduceBEq, Int.reduceToNat, Nat.reduceAdd, Nat.reduceLT, Nat.reduceLeDiff, reduceCtorEq, Nat.reduceSub]) | ((with_reducible apply cgF); (focus ((simp (maxSteps := 1000000) -implicitDefEqProofs only [List.map_cons, List.map_nil, push_cast, ↓reduceIte, Nat.reduceEqDiff, reduceCtorEq, Nat.reduceAdd, Nat.reduceLT, Nat.reduceLeDiff] <;> rfl); done)); (with_reducible first | exact h66); (focus (rfl; done)); simp (maxSteps := 1000000) -implicitDefEqProofs only [go_sem, ↓reduceIte, Nat.reduceEqDiff, Nat.reduceBEq, Int.reduceToNat, Nat.reduceAdd, Nat.reduceLT, Nat.reduceLeDiff, reduceCtorEq, Nat.reduceSub]) | ((with_reducible show F _ _ (Cfg.code (SCode.qregion _) _ _ _)); refine F_q2 ?_; simp (maxSteps := 1000000) -implicitDefEqProofs only [go_sem, ↓reduceIte, Nat.reduceEqDiff, Nat.reduceBEq, Int.reduceToNat, Nat.reduceAdd, Nat.reduceLT, Nat.reduceLeDiff, reduceCtorEq, Nat.reduceSub]) | ((with_reducible show F _ _ (Cfg.code (SCode.pregion _ _ _ _ _) _ _ _)); refine F_p2 ?_; simp (maxSteps := 1000000) -implicitDefEqProofs only [go_sem, ↓reduceIte, Nat.reduceEqDiff, Nat.reduceBEq, Int.reduceToNat, Nat.reduceAdd, Nat.reduceLT, Nat.reduceLeDiff, reduceCtorEq, Nat.reduceSub]) | with_reducible refine Fork.mk (fun _ => ?_) (fun _ => ?_) | with_reducible refine And.intro ?_ ?_ | ((with_reducible show resP _ _ _ _ _); simp (maxSteps := 1000000) -implicitDefEqProofs only [r35, push_cast, ↓reduceIte, Nat.reduceEqDiff, reduceCtorEq, Nat.reduceAdd, Nat.reduceLT, Nat.reduceLeDiff]) | (intro _))
theorem t35r : (x : Ex) → PCall Tryz.prog 35 [encE x, encE x] (· = .bool true)
  | .mk k n s xs => t35s k n s xs (t66r xs (fun y hy => t35r y))
termination_by x => SizeOf.sizeOf x
decreasing_by
  have := List.sizeOf_lt_of_mem hy
  simp; omega
theorem t36r (xs : List ByteArray) : PCall Tryz.prog 36 [.fs (xs.map .str), .fs (xs.map .str)] (· = .bool true) := by
  refine PCall.intro c36 200 (by simp) 20 ?_
  simp (maxSteps := 1000000) -implicitDefEqProofs only [s36, decide_true, go_sem, ↓reduceIte, Nat.reduceEqDiff, Nat.reduceBEq, Int.reduceToNat, Nat.reduceAdd, Nat.reduceLT, Nat.reduceLeDiff, reduceCtorEq, Nat.reduceSub]
  intro hlen _ _
  refine F_loop (fun m e H => ∃ pre post, xs = pre ++ post ∧ m = post.length ∧ e 0 = .fs (xs.map .str) ∧ e 1 = .fs (xs.map .str) ∧ e 12 = .int .i64 xs.length ∧ e 13 = .int .i64 pre.length) xs.length ⟨[], xs, by simp [upd, env0]⟩ ?_
  rintro m e H ⟨pre, post, hxs, rfl, h1, h2, h16, h17⟩
  cases post with
  | nil =>
    simp (maxSteps := 1000000) -implicitDefEqProofs only [h1, h2, h16, h17, mid_not hxs, decide_false, go_sem, ↓reduceIte, Nat.reduceEqDiff, Nat.reduceBEq, Int.reduceToNat, Nat.reduceAdd, Nat.reduceLT, Nat.reduceLeDiff, reduceCtorEq, Nat.reduceSub]
    simp (maxSteps := 1000000) -implicitDefEqProofs only [r36, push_cast, ↓reduceIte, Nat.reduceEqDiff, reduceCtorEq, Nat.reduceAdd, Nat.reduceLT, Nat.reduceLeDiff]
  | cons y post =>
    have hg := mid_get V.str hxs
    simp (maxSteps := 1000000) -implicitDefEqProofs only [h1, h2, h16, h17, hg, mid_lt hxs, mid_wrap hxs hlen, decide_true, go_sem, ↓reduceIte, Nat.reduceEqDiff, Nat.reduceBEq, Int.reduceToNat, Nat.reduceAdd, Nat.reduceLT, Nat.reduceLeDiff, reduceCtorEq, Nat.reduceSub]
    repeat' (first | ((with_reducible show F _ _ (Cfg.code (SCode.qregion _) _ _ _)); refine F_q2 ?_; simp (maxSteps := 1000000) -implicitDefEqProofs only [h1, h2, h16, h17, hg, mid_lt hxs, mid_wrap hxs hlen, go_sem, ↓reduceIte, Nat.reduceEqDiff, Nat.reduceBEq, Int.reduceToNat, Nat.reduceAdd, Nat.reduceLT, Nat.reduceLeDiff, reduceCtorEq, Nat.reduceSub]) | ((with_reducible show F _ _ (Cfg.code (SCode.pregion _ _ _ _ _) _ _ _)); refine F_p2 ?_; simp (maxSteps := 1000000) -implicitDefEqProofs only [h1, h2, h16, h17, hg, mid_lt hxs, mid_wrap hxs hlen, go_sem, ↓reduceIte, Nat.reduceEqDiff, Nat.reduceBEq, Int.reduceToNat, Nat.reduceAdd, Nat.reduceLT, Nat.reduceLeDiff, reduceCtorEq, Nat.reduceSub]) | with_reducible refine Fork.mk (fun _ => ?_) (fun _ => ?_) | with_reducible refine And.intro ?_ ?_ | ((with_reducible show resP _ _ _ _ _); simp (maxSteps := 1000000) -implicitDefEqProofs only [r36, push_cast, ↓reduceIte, Nat.reduceEqDiff, reduceCtorEq, Nat.reduceAdd, Nat.reduceLT, Nat.reduceLeDiff]) | (intro _))
    exact ⟨_, Nat.lt_succ_self _, pre ++ [y], post, by simp [hxs], rfl, by simp⟩
theorem t67r (xs : List St) (h : ∀ y ∈ xs, PCall Tryz.prog 12 [encS y, encS y] (· = .bool true)) : PCall Tryz.prog 67 [.fs (xs.map encS), .fs (xs.map encS), .clos 12 [] []] (· = .bool true) := by
  refine PCall.intro c67 200 (by simp) 20 ?_
  simp (maxSteps := 1000000) -implicitDefEqProofs only [s67, decide_true, go_sem, ↓reduceIte, Nat.reduceEqDiff, Nat.reduceBEq, Int.reduceToNat, Nat.reduceAdd, Nat.reduceLT, Nat.reduceLeDiff, reduceCtorEq, Nat.reduceSub]
  intro hlen _ _
  refine F_loop (fun m e H => ∃ pre post, xs = pre ++ post ∧ m = post.length ∧ e 1 = .fs (xs.map encS) ∧ e 2 = .clos 12 [] [] ∧ e 15 = .fs (xs.map encS) ∧ e 16 = .int .i64 xs.length ∧ e 17 = .int .i64 pre.length) xs.length ⟨[], xs, by simp [upd, env0]⟩ ?_
  rintro m e H ⟨pre, post, hxs, rfl, h1, h2, h15, h16, h17⟩
  cases post with
  | nil =>
    simp (maxSteps := 1000000) -implicitDefEqProofs only [h1, h2, h15, h16, h17, mid_not hxs, decide_false, go_sem, ↓reduceIte, Nat.reduceEqDiff, Nat.reduceBEq, Int.reduceToNat, Nat.reduceAdd, Nat.reduceLT, Nat.reduceLeDiff, reduceCtorEq, Nat.reduceSub]
    simp (maxSteps := 1000000) -implicitDefEqProofs only [r67, push_cast, ↓reduceIte, Nat.reduceEqDiff, reduceCtorEq, Nat.reduceAdd, Nat.reduceLT, Nat.reduceLeDiff]
  | cons y post =>
    have hy := h y (by simp [hxs])
    have hg := mid_get encS hxs
    rcases y with ⟨k, r, t, v, l, ⟨ek, en, es, eas⟩, a, b, p, ps⟩
    rw [encS_mk] at hg hy
    simp (maxSteps := 1000000) -implicitDefEqProofs only [h1, h2, h15, h16, h17, hg, mid_lt hxs, mid_wrap hxs hlen, decide_true, go_sem, ↓reduceIte, Nat.reduceEqDiff, Nat.reduceBEq, Int.reduceToNat, Nat.reduceAdd, Nat.reduceLT, Nat.reduceLeDiff, reduceCtorEq, Nat.reduceSub]
    repeat' (first | ((with_reducible first | refine cgR hy ?_ ?_); (focus (simp [norefL, noref, norefL_app, norefL_str, norefL_int, norefL_encE, norefL_encS, norefL_encP, noref_encE, noref_encS, noref_encP, noref_encPl]; done)); simp (maxSteps := 1000000) -implicitDefEqProofs only [h1, h2, h15, h16, h17, hg, mid_wrap hxs hlen, go_sem, ↓reduceIte, Nat.reduceEqDiff, Nat.reduceBEq, Int.reduceToNat, Nat.reduceAdd, Nat.reduceLT, Nat.reduceLeDiff, reduceCtorEq, Nat.reduceSub]) | ((with_reducible apply cgF); (focus ((simp (maxSteps := 1000000) -implicitDefEqProofs only [List.map_cons, List.map_nil, push_cast, ↓reduceIte, Nat.reduceEqDiff, reduceCtorEq, Nat.reduceAdd, Nat.reduceLT, Nat.reduceLeDiff] <;> rfl); done)); (with_reducible first | exact hy); (focus (rfl; done)); simp (maxSteps := 1000000) -implicitDefEqProofs only [h1, h2, h15, h16, h17, hg, mid_wrap hxs hlen, go_sem, ↓reduceIte, Nat.reduceEqDiff, Nat.reduceBEq, Int.reduceToNat, Nat.reduceAdd, Nat.reduceLT, Nat.reduceLeDiff, reduceCtorEq, Nat.reduceSub]) | ((with_reducible show F _ _ (Cfg.code (SCode.qregion _) _ _ _)); refine F_q2 ?_; simp (maxSteps := 1000000) -implicitDefEqProofs only [h1, h2, h15, h16, h17, hg, mid_wrap hxs hlen, go_sem, ↓reduceIte, Nat.reduceEqDiff, Nat.reduceBEq, Int.reduceToNat, Nat.reduceAdd, Nat.reduceLT, Nat.reduceLeDiff, reduceCtorEq, Nat.reduceSub]) | ((with_reducible show F _ _ (Cfg.code (SCode.pregion _ _ _ _ _) _ _ _)); refine F_p2 ?_; simp (maxSteps := 1000000) -implicitDefEqProofs only [h1, h2, h15, h16, h17, hg, mid_wrap hxs hlen, go_sem, ↓reduceIte, Nat.reduceEqDiff, Nat.reduceBEq, Int.reduceToNat, Nat.reduceAdd, Nat.reduceLT, Nat.reduceLeDiff, reduceCtorEq, Nat.reduceSub]) | with_reducible refine Fork.mk (fun _ => ?_) (fun _ => ?_) | with_reducible refine And.intro ?_ ?_ | ((with_reducible show resP _ _ _ _ _); simp (maxSteps := 1000000) -implicitDefEqProofs only [r67, push_cast, ↓reduceIte, Nat.reduceEqDiff, reduceCtorEq, Nat.reduceAdd, Nat.reduceLT, Nat.reduceLeDiff]) | (intro _))
    exact ⟨_, Nat.lt_succ_self _, pre ++ [_], post, by simp [hxs]; rfl, rfl, by simp⟩
theorem t37r (xs : List St) (h : ∀ y ∈ xs, PCall Tryz.prog 12 [encS y, encS y] (· = .bool true)) : PCall Tryz.prog 37 [.fs (xs.map encS), .fs (xs.map encS)] (· = .bool true) := by
  refine PCall.intro c37 200 (by simp) 20 ?_
  simp (maxSteps := 1000000) -implicitDefEqProofs only [s37, go_sem, ↓reduceIte, Nat.reduceEqDiff, Nat.reduceBEq, Int.reduceToNat, Nat.reduceAdd, Nat.reduceLT, Nat.reduceLeDiff, reduceCtorEq, Nat.reduceSub]
  repeat' (first | ((with_reducible first | refine cgR (t67r xs h) ?_ ?_); (focus (simp [norefL, noref, norefL_app, norefL_str, norefL_int, norefL_encE, norefL_encS, norefL_encP, noref_encE, noref_encS, noref_encP, noref_encPl]; done)); simp (maxSteps := 1000000) -implicitDefEqProofs only [go_sem, ↓reduceIte, Nat.reduceEqDiff, Nat.reduceBEq, Int.reduceToNat, Nat.reduceAdd, Nat.reduceLT, Nat.reduceLeDiff, reduceCtorEq, Nat.reduceSub]) | ((with_reducible apply cgF); (focus ((simp (maxSteps := 1000000) -implicitDefEqProofs only [List.map_cons, List.map_nil, push_cast, ↓reduceIte, Nat.reduceEqDiff, reduceCtorEq, Nat.reduceAdd, Nat.reduceLT, Nat.reduceLeDiff] <;> rfl); done)); (with_reducible first | exact (t67r xs h)); (focus (rfl; done)); simp (maxSteps := 1000000) -implicitDefEqProofs only [go_sem, ↓reduceIte, Nat.reduceEqDiff, Nat.reduceBEq, Int.reduceToNat, Nat.reduceAdd, Nat.reduceLT, Nat.reduceLeDiff, reduceCtorEq, Nat.reduceSub]) | ((with_reducible show F _ _ (Cfg.code (SCode.qregion _) _ _ _)); refine F_q2 ?_; simp (maxSteps := 1000000) -implicitDefEqProofs only [go_sem, ↓reduceIte, Nat.reduceEqDiff, Nat.reduceBEq, Int.reduceToNat, Nat.reduceAdd, Nat.reduceLT, Nat.reduceLeDiff, reduceCtorEq, Nat.reduceSub]) | ((with_reducible show F _ _ (Cfg.code (SCode.pregion _ _ _ _ _) _ _ _)); refine F_p2 ?_; simp (maxSteps := 1000000) -implicitDefEqProofs only [go_sem, ↓reduceIte, Nat.reduceEqDiff, Nat.reduceBEq, Int.reduceToNat, Nat.reduceAdd, Nat.reduceLT, Nat.reduceLeDiff, reduceCtorEq, Nat.reduceSub]) | with_reducible refine Fork.mk (fun _ => ?_) (fun _ => ?_) | with_reducible refine And.intro ?_ ?_ | ((with_reducible show resP _ _ _ _ _); simp (maxSteps := 1000000) -implicitDefEqProofs only [r37, push_cast, ↓reduceIte, Nat.reduceEqDiff, reduceCtorEq, Nat.reduceAdd, Nat.reduceLT, Nat.reduceLeDiff]) | (intro _))
theorem t12s (k : Int) (r t v l : ByteArray) (e : Ex) (a b : List St) (p : ByteArray) (ps : List ByteArray) (ha : ∀ y ∈ a, PCall Tryz.prog 12 [encS y, encS y] (· = .bool true)) (hb : ∀ y ∈ b, PCall Tryz.prog 12 [encS y, encS y] (· = .bool true)) :
    PCall Tryz.prog 12 [encS (.mk k r t v l e a b p ps), encS (.mk k r t v l e a b p ps)] (· = .bool true) := by
  have h35 := t35r e
  rcases e with ⟨ek, en, es, eas⟩
  rw [encE_mk] at h35
  refine PCall.intro c12 300 (by simp) 20 ?_
  simp (maxSteps := 1000000) -implicitDefEqProofs only [s12, encS_mk, go_sem, ↓reduceIte, Nat.reduceEqDiff, Nat.reduceBEq, Int.reduceToNat, Nat.reduceAdd, Nat.reduceLT, Nat.reduceLeDiff, reduceCtorEq, Nat.reduceSub]
  repeat' (first | ((with_reducible first | refine cgR h35 ?_ ?_ | refine cgR (t36r ps) ?_ ?_ | refine cgR (t37r a ha) ?_ ?_ | refine cgR (t37r b hb) ?_ ?_); (focus (simp [norefL, noref, norefL_app, norefL_str, norefL_int, norefL_encE, norefL_encS, norefL_encP, noref_encE, noref_encS, noref_encP, noref_encPl]; done)); simp (maxSteps := 1000000) -implicitDefEqProofs only [go_sem, ↓reduceIte, Nat.reduceEqDiff, Nat.reduceBEq, Int.reduceToNat, Nat.reduceAdd, Nat.reduceLT, Nat.reduceLeDiff, reduceCtorEq, Nat.reduceSub]) | ((with_reducible apply cgF); (focus ((simp (maxSteps := 1000000) -implicitDefEqProofs only [List.map_cons, List.map_nil, push_cast, ↓reduceIte, Nat.reduceEqDiff, reduceCtorEq, Nat.reduceAdd, Nat.reduceLT, Nat.reduceLeDiff] <;> rfl); done)); (with_reducible first | exact h35 | exact (t36r ps) | exact (t37r a ha) | exact (t37r b hb)); (focus (rfl; done)); simp (maxSteps := 1000000) -implicitDefEqProofs only [go_sem, ↓reduceIte, Nat.reduceEqDiff, Nat.reduceBEq, Int.reduceToNat, Nat.reduceAdd, Nat.reduceLT, Nat.reduceLeDiff, reduceCtorEq, Nat.reduceSub]) | ((with_reducible show F _ _ (Cfg.code (SCode.qregion _) _ _ _)); refine F_q2 ?_; simp (maxSteps := 1000000) -implicitDefEqProofs only [go_sem, ↓reduceIte, Nat.reduceEqDiff, Nat.reduceBEq, Int.reduceToNat, Nat.reduceAdd, Nat.reduceLT, Nat.reduceLeDiff, reduceCtorEq, Nat.reduceSub]) | ((with_reducible show F _ _ (Cfg.code (SCode.pregion _ _ _ _ _) _ _ _)); refine F_p2 ?_; simp (maxSteps := 1000000) -implicitDefEqProofs only [go_sem, ↓reduceIte, Nat.reduceEqDiff, Nat.reduceBEq, Int.reduceToNat, Nat.reduceAdd, Nat.reduceLT, Nat.reduceLeDiff, reduceCtorEq, Nat.reduceSub]) | with_reducible refine Fork.mk (fun _ => ?_) (fun _ => ?_) | with_reducible refine And.intro ?_ ?_ | ((with_reducible show resP _ _ _ _ _); simp (maxSteps := 1000000) -implicitDefEqProofs only [r12, push_cast, ↓reduceIte, Nat.reduceEqDiff, reduceCtorEq, Nat.reduceAdd, Nat.reduceLT, Nat.reduceLeDiff]) | (intro _))
theorem t12r : (x : St) → PCall Tryz.prog 12 [encS x, encS x] (· = .bool true)
  | .mk k r t v l e a b p ps => t12s k r t v l e a b p ps (fun y hy => t12r y) (fun y hy => t12r y)
termination_by x => SizeOf.sizeOf x
decreasing_by
  all_goals
    have := List.sizeOf_lt_of_mem hy
    simp; omega
mutual
def exF : Ex → Int → Int
  | .mk k n s xs, d => if d > 20 then 2 else if ar k < 0 then 4 else if (xs.length : Int) ≠ ar k ∨ (k ≠ 1 ∧ n ≠ 0) ∨ (k ≠ 2 ∧ s ≠ ⟨#[]⟩) then 3
    else if n < 0 ∨ 999 < n then 1 else if k = 2 ∧ isNm s = false then 5 else exFs xs (d + 1)
def exFs : List Ex → Int → Int
  | [], _ => 0
  | x :: l, d => if exF x d ≠ 0 then exF x d else exFs l d
end
theorem exFs_append : ∀ (pre post : List Ex) (d : Int), (∀ y ∈ pre, exF y d = 0) → exFs (pre ++ post) d = exFs post d
  | [], post, d, _ => rfl
  | x :: pre, post, d, h => by
    rw [List.cons_append, exFs, h x (by simp)]
    simp only [ne_eq, not_true_eq_false, if_false]
    exact exFs_append pre post d (fun y hy => h y (by simp [hy]))
theorem wrap_small {d : Int} (h1 : -1000 ≤ d) (h2 : d ≤ 1000000) : IntKind.i64.wrap (d + 1) = d + 1 := by
  simp [IntKind.wrap, IntKind.signed, IntKind.bits]; omega
theorem t105s (k n : Int) (s : ByteArray) (xs : List Ex) (d : Int) (hd0 : 0 ≤ d) (hd : d ≤ 21) (h : ∀ y ∈ xs, ∀ d', 0 ≤ d' → d' ≤ 21 → PCall Tryz.prog 105 [encE y, .int .i64 d'] (· = .int .i64 (exF y d'))) :
    PCall Tryz.prog 105 [encE (.mk k n s xs), .int .i64 d] (· = .int .i64 (exF (.mk k n s xs) d)) := by
  refine PCall.intro c105 300 (by simp) 20 ?_
  simp (maxSteps := 1000000) -implicitDefEqProofs only [s105, encE_mk, go_sem, ↓reduceIte, Nat.reduceEqDiff, Nat.reduceBEq, Int.reduceToNat, Nat.reduceAdd, Nat.reduceLT, Nat.reduceLeDiff, reduceCtorEq, Nat.reduceSub]
  repeat' (first | ((with_reducible first | refine cgR (t112 k) ?_ ?_ | refine cgR (t86 _ _ _) ?_ ?_ | refine cgR (t72 s) ?_ ?_); (focus (simp [norefL, noref, norefL_app, norefL_str, norefL_int, norefL_encE, norefL_encS, norefL_encP, noref_encE, noref_encS, noref_encP, noref_encPl]; done)); simp (maxSteps := 1000000) -implicitDefEqProofs only [go_sem, ↓reduceIte, Nat.reduceEqDiff, Nat.reduceBEq, Int.reduceToNat, Nat.reduceAdd, Nat.reduceLT, Nat.reduceLeDiff, reduceCtorEq, Nat.reduceSub]) | ((with_reducible apply cgF); (focus ((simp (maxSteps := 1000000) -implicitDefEqProofs only [List.map_cons, List.map_nil, push_cast, ↓reduceIte, Nat.reduceEqDiff, reduceCtorEq, Nat.reduceAdd, Nat.reduceLT, Nat.reduceLeDiff] <;> rfl); done)); (with_reducible first | exact (t112 k) | exact (t86 _ _ _) | exact (t72 s)); (focus (rfl; done)); simp (maxSteps := 1000000) -implicitDefEqProofs only [go_sem, ↓reduceIte, Nat.reduceEqDiff, Nat.reduceBEq, Int.reduceToNat, Nat.reduceAdd, Nat.reduceLT, Nat.reduceLeDiff, reduceCtorEq, Nat.reduceSub]) | ((with_reducible show F _ _ (Cfg.code (SCode.qregion _) _ _ _)); refine F_q2 ?_; simp (maxSteps := 1000000) -implicitDefEqProofs only [go_sem, ↓reduceIte, Nat.reduceEqDiff, Nat.reduceBEq, Int.reduceToNat, Nat.reduceAdd, Nat.reduceLT, Nat.reduceLeDiff, reduceCtorEq, Nat.reduceSub]) | ((with_reducible show F _ _ (Cfg.code (SCode.pregion _ _ _ _ _) _ _ _)); refine F_p2 ?_; simp (maxSteps := 1000000) -implicitDefEqProofs only [go_sem, ↓reduceIte, Nat.reduceEqDiff, Nat.reduceBEq, Int.reduceToNat, Nat.reduceAdd, Nat.reduceLT, Nat.reduceLeDiff, reduceCtorEq, Nat.reduceSub]) | with_reducible refine Fork.mk (fun _ => ?_) (fun _ => ?_) | with_reducible refine And.intro ?_ ?_ | ((with_reducible show resP _ _ _ _ _); simp (maxSteps := 1000000) -implicitDefEqProofs only [r105, push_cast, ↓reduceIte, Nat.reduceEqDiff, reduceCtorEq, Nat.reduceAdd, Nat.reduceLT, Nat.reduceLeDiff]) | (intro _))
  all_goals first
    | ((with_reducible show F _ _ _)
       have hR : exF (.mk k n s xs) d = exFs xs (d + 1) := by clear h; simp_all [exF] <;> omega
       have hd20 : d ≤ 20 := by clear h; simp_all <;> omega
       have hw := wrap_small (d := d) (by omega) (by omega)
       have hlen : xs.length ≤ 9223372036854775807 := by assumption
       refine F_loop (fun m e H => ∃ pre post, xs = pre ++ post ∧ m = post.length ∧ (∀ y ∈ pre, exF y (d + 1) = 0) ∧ e 1 = .int .i64 d ∧ e 59 = .fs (xs.map encE) ∧ e 60 = .int .i64 xs.length ∧ e 61 = .int .i64 pre.length) xs.length ⟨[], xs, by simp [upd, env0]⟩ ?_
       rintro m e H ⟨pre, post, hxs, rfl, hp, h1, h59, h60, h61⟩
       cases post with
       | nil =>
         simp (maxSteps := 1000000) -implicitDefEqProofs only [h1, h59, h60, h61, mid_not hxs, go_sem, ↓reduceIte, Nat.reduceEqDiff, Nat.reduceBEq, Int.reduceToNat, Nat.reduceAdd, Nat.reduceLT, Nat.reduceLeDiff, reduceCtorEq, Nat.reduceSub]
         simp (maxSteps := 1000000) -implicitDefEqProofs only [r105, push_cast, ↓reduceIte, Nat.reduceEqDiff, reduceCtorEq, Nat.reduceAdd, Nat.reduceLT, Nat.reduceLeDiff]
         rw [hR, hxs, exFs_append pre [] _ hp]; rfl
       | cons y post =>
         have hy := h y (by simp [hxs]) (d + 1) (by omega) (by omega)
         have hg := mid_get encE hxs
         have hE : exFs (pre ++ y :: post) (d + 1) = if exF y (d + 1) ≠ 0 then exF y (d + 1) else exFs post (d + 1) := by rw [exFs_append pre _ _ hp, exFs]
         generalize hyR : exF y (d + 1) = yr at *
         generalize hyE : encE y = ye at *
         rcases y with ⟨k', n', s', zs⟩
         rw [encE_mk] at hyE
         subst hyE
         simp (maxSteps := 1000000) -implicitDefEqProofs only [h1, h59, h60, h61, hg, mid_lt hxs, mid_wrap hxs hlen, hw, go_sem, ↓reduceIte, Nat.reduceEqDiff, Nat.reduceBEq, Int.reduceToNat, Nat.reduceAdd, Nat.reduceLT, Nat.reduceLeDiff, reduceCtorEq, Nat.reduceSub]
         repeat' (first | ((with_reducible first | refine cgR hy ?_ ?_); (focus (simp [norefL, noref, norefL_app, norefL_str, norefL_int, norefL_encE, norefL_encS, norefL_encP, noref_encE, noref_encS, noref_encP, noref_encPl]; done)); simp (maxSteps := 1000000) -implicitDefEqProofs only [h1, h59, h60, h61, hg, mid_lt hxs, mid_wrap hxs hlen, hw, go_sem, ↓reduceIte, Nat.reduceEqDiff, Nat.reduceBEq, Int.reduceToNat, Nat.reduceAdd, Nat.reduceLT, Nat.reduceLeDiff, reduceCtorEq, Nat.reduceSub]) | ((with_reducible apply cgF); (focus ((simp (maxSteps := 1000000) -implicitDefEqProofs only [List.map_cons, List.map_nil, push_cast, ↓reduceIte, Nat.reduceEqDiff, reduceCtorEq, Nat.reduceAdd, Nat.reduceLT, Nat.reduceLeDiff] <;> rfl); done)); (with_reducible first | exact hy); (focus (rfl; done)); simp (maxSteps := 1000000) -implicitDefEqProofs only [h1, h59, h60, h61, hg, mid_lt hxs, mid_wrap hxs hlen, hw, go_sem, ↓reduceIte, Nat.reduceEqDiff, Nat.reduceBEq, Int.reduceToNat, Nat.reduceAdd, Nat.reduceLT, Nat.reduceLeDiff, reduceCtorEq, Nat.reduceSub]) | ((with_reducible show F _ _ (Cfg.code (SCode.qregion _) _ _ _)); refine F_q2 ?_; simp (maxSteps := 1000000) -implicitDefEqProofs only [h1, h59, h60, h61, hg, mid_lt hxs, mid_wrap hxs hlen, hw, go_sem, ↓reduceIte, Nat.reduceEqDiff, Nat.reduceBEq, Int.reduceToNat, Nat.reduceAdd, Nat.reduceLT, Nat.reduceLeDiff, reduceCtorEq, Nat.reduceSub]) | ((with_reducible show F _ _ (Cfg.code (SCode.pregion _ _ _ _ _) _ _ _)); refine F_p2 ?_; simp (maxSteps := 1000000) -implicitDefEqProofs only [h1, h59, h60, h61, hg, mid_lt hxs, mid_wrap hxs hlen, hw, go_sem, ↓reduceIte, Nat.reduceEqDiff, Nat.reduceBEq, Int.reduceToNat, Nat.reduceAdd, Nat.reduceLT, Nat.reduceLeDiff, reduceCtorEq, Nat.reduceSub]) | with_reducible refine Fork.mk (fun _ => ?_) (fun _ => ?_) | with_reducible refine And.intro ?_ ?_ | ((with_reducible show resP _ _ _ _ _); simp (maxSteps := 1000000) -implicitDefEqProofs only [r105, push_cast, ↓reduceIte, Nat.reduceEqDiff, reduceCtorEq, Nat.reduceAdd, Nat.reduceLT, Nat.reduceLeDiff]) | (intro _))
         · rename_i hc
           rw [hR, hxs, hE, if_pos (by simpa using hc)]
         · rename_i hc
           exact ⟨_, Nat.lt_succ_self _, pre ++ [_], post, by simp [hxs]; rfl, rfl, fun z hz => by rcases List.mem_append.1 hz with hz | hz; exact hp z hz; simp at hz; subst hz; rw [hyR]; simpa using hc, by simp⟩)
    | (clear h; simp_all [exF]; done)
    | (clear h; simp_all [exF]; omega)
theorem t105 : (x : Ex) → ∀ d : Int, 0 ≤ d → d ≤ 21 → PCall Tryz.prog 105 [encE x, .int .i64 d] (· = .int .i64 (exF x d))
  | .mk k n s xs => fun d h1 h2 => t105s k n s xs d h1 h2 (fun y hy => t105 y)
termination_by x => SizeOf.sizeOf x
decreasing_by
  have := List.sizeOf_lt_of_mem hy
  simp; omega
theorem t90 (x : Ex) : PCall Tryz.prog 90 [encE x] (· = .int .i64 (exF x 1)) := by
  have h := t105 x 1 (by omega) (by omega)
  rcases x with ⟨k, n, s, xs⟩
  rw [encE_mk] at h
  refine PCall.intro c90 200 (by simp) 20 ?_
  simp (maxSteps := 1000000) -implicitDefEqProofs only [s90, encE_mk, go_sem, ↓reduceIte, Nat.reduceEqDiff, Nat.reduceBEq, Int.reduceToNat, Nat.reduceAdd, Nat.reduceLT, Nat.reduceLeDiff, reduceCtorEq, Nat.reduceSub]
  repeat' (first | ((with_reducible first | refine cgR h ?_ ?_); (focus (simp [norefL, noref, norefL_app, norefL_str, norefL_int, norefL_encE, norefL_encS, norefL_encP, noref_encE, noref_encS, noref_encP, noref_encPl]; done)); simp (maxSteps := 1000000) -implicitDefEqProofs only [go_sem, ↓reduceIte, Nat.reduceEqDiff, Nat.reduceBEq, Int.reduceToNat, Nat.reduceAdd, Nat.reduceLT, Nat.reduceLeDiff, reduceCtorEq, Nat.reduceSub]) | ((with_reducible apply cgF); (focus ((simp (maxSteps := 1000000) -implicitDefEqProofs only [List.map_cons, List.map_nil, push_cast, ↓reduceIte, Nat.reduceEqDiff, reduceCtorEq, Nat.reduceAdd, Nat.reduceLT, Nat.reduceLeDiff] <;> rfl); done)); (with_reducible first | exact h); (focus (rfl; done)); simp (maxSteps := 1000000) -implicitDefEqProofs only [go_sem, ↓reduceIte, Nat.reduceEqDiff, Nat.reduceBEq, Int.reduceToNat, Nat.reduceAdd, Nat.reduceLT, Nat.reduceLeDiff, reduceCtorEq, Nat.reduceSub]) | ((with_reducible show F _ _ (Cfg.code (SCode.qregion _) _ _ _)); refine F_q2 ?_; simp (maxSteps := 1000000) -implicitDefEqProofs only [go_sem, ↓reduceIte, Nat.reduceEqDiff, Nat.reduceBEq, Int.reduceToNat, Nat.reduceAdd, Nat.reduceLT, Nat.reduceLeDiff, reduceCtorEq, Nat.reduceSub]) | ((with_reducible show F _ _ (Cfg.code (SCode.pregion _ _ _ _ _) _ _ _)); refine F_p2 ?_; simp (maxSteps := 1000000) -implicitDefEqProofs only [go_sem, ↓reduceIte, Nat.reduceEqDiff, Nat.reduceBEq, Int.reduceToNat, Nat.reduceAdd, Nat.reduceLT, Nat.reduceLeDiff, reduceCtorEq, Nat.reduceSub]) | with_reducible refine Fork.mk (fun _ => ?_) (fun _ => ?_) | with_reducible refine And.intro ?_ ?_ | ((with_reducible show resP _ _ _ _ _); simp (maxSteps := 1000000) -implicitDefEqProofs only [r90, push_cast, ↓reduceIte, Nat.reduceEqDiff, reduceCtorEq, Nat.reduceAdd, Nat.reduceLT, Nat.reduceLeDiff]) | (intro _))
  all_goals rfl
theorem t95s (k n : Int) (s : ByteArray) (xs : List Ex) (d : Int) (hd0 : 0 ≤ d) (hd : d ≤ 21) (h : ∀ y ∈ xs, ∀ d', 0 ≤ d' → d' ≤ 21 → PCall Tryz.prog 95 [encE y, .int .i64 d'] (· = .int .i64 (exF y d'))) :
    PCall Tryz.prog 95 [encE (.mk k n s xs), .int .i64 d] (· = .int .i64 (exF (.mk k n s xs) d)) := by
  refine PCall.intro c95 300 (by simp) 20 ?_
  simp (maxSteps := 1000000) -implicitDefEqProofs only [s95, encE_mk, go_sem, ↓reduceIte, Nat.reduceEqDiff, Nat.reduceBEq, Int.reduceToNat, Nat.reduceAdd, Nat.reduceLT, Nat.reduceLeDiff, reduceCtorEq, Nat.reduceSub]
  repeat' (first | ((with_reducible first | refine cgR (t107 k) ?_ ?_ | refine cgR (t31 _ _ _) ?_ ?_ | refine cgR (t54 s) ?_ ?_); (focus (simp [norefL, noref, norefL_app, norefL_str, norefL_int, norefL_encE, norefL_encS, norefL_encP, noref_encE, noref_encS, noref_encP, noref_encPl]; done)); simp (maxSteps := 1000000) -implicitDefEqProofs only [go_sem, ↓reduceIte, Nat.reduceEqDiff, Nat.reduceBEq, Int.reduceToNat, Nat.reduceAdd, Nat.reduceLT, Nat.reduceLeDiff, reduceCtorEq, Nat.reduceSub]) | ((with_reducible apply cgF); (focus ((simp (maxSteps := 1000000) -implicitDefEqProofs only [List.map_cons, List.map_nil, push_cast, ↓reduceIte, Nat.reduceEqDiff, reduceCtorEq, Nat.reduceAdd, Nat.reduceLT, Nat.reduceLeDiff] <;> rfl); done)); (with_reducible first | exact (t107 k) | exact (t31 _ _ _) | exact (t54 s)); (focus (rfl; done)); simp (maxSteps := 1000000) -implicitDefEqProofs only [go_sem, ↓reduceIte, Nat.reduceEqDiff, Nat.reduceBEq, Int.reduceToNat, Nat.reduceAdd, Nat.reduceLT, Nat.reduceLeDiff, reduceCtorEq, Nat.reduceSub]) | ((with_reducible show F _ _ (Cfg.code (SCode.qregion _) _ _ _)); refine F_q2 ?_; simp (maxSteps := 1000000) -implicitDefEqProofs only [go_sem, ↓reduceIte, Nat.reduceEqDiff, Nat.reduceBEq, Int.reduceToNat, Nat.reduceAdd, Nat.reduceLT, Nat.reduceLeDiff, reduceCtorEq, Nat.reduceSub]) | ((with_reducible show F _ _ (Cfg.code (SCode.pregion _ _ _ _ _) _ _ _)); refine F_p2 ?_; simp (maxSteps := 1000000) -implicitDefEqProofs only [go_sem, ↓reduceIte, Nat.reduceEqDiff, Nat.reduceBEq, Int.reduceToNat, Nat.reduceAdd, Nat.reduceLT, Nat.reduceLeDiff, reduceCtorEq, Nat.reduceSub]) | with_reducible refine Fork.mk (fun _ => ?_) (fun _ => ?_) | with_reducible refine And.intro ?_ ?_ | ((with_reducible show resP _ _ _ _ _); simp (maxSteps := 1000000) -implicitDefEqProofs only [r95, push_cast, ↓reduceIte, Nat.reduceEqDiff, reduceCtorEq, Nat.reduceAdd, Nat.reduceLT, Nat.reduceLeDiff]) | (intro _))
  all_goals first
    | ((with_reducible show F _ _ _)
       have hR : exF (.mk k n s xs) d = exFs xs (d + 1) := by clear h; simp_all [exF] <;> omega
       have hd20 : d ≤ 20 := by clear h; simp_all <;> omega
       have hw := wrap_small (d := d) (by omega) (by omega)
       have hlen : xs.length ≤ 9223372036854775807 := by assumption
       refine F_loop (fun m e H => ∃ pre post, xs = pre ++ post ∧ m = post.length ∧ (∀ y ∈ pre, exF y (d + 1) = 0) ∧ e 1 = .int .i64 d ∧ e 60 = .fs (xs.map encE) ∧ e 61 = .int .i64 xs.length ∧ e 62 = .int .i64 pre.length) xs.length ⟨[], xs, by simp [upd, env0]⟩ ?_
       rintro m e H ⟨pre, post, hxs, rfl, hp, h1, h59, h60, h61⟩
       cases post with
       | nil =>
         simp (maxSteps := 1000000) -implicitDefEqProofs only [h1, h59, h60, h61, mid_not hxs, go_sem, ↓reduceIte, Nat.reduceEqDiff, Nat.reduceBEq, Int.reduceToNat, Nat.reduceAdd, Nat.reduceLT, Nat.reduceLeDiff, reduceCtorEq, Nat.reduceSub]
         simp (maxSteps := 1000000) -implicitDefEqProofs only [r95, push_cast, ↓reduceIte, Nat.reduceEqDiff, reduceCtorEq, Nat.reduceAdd, Nat.reduceLT, Nat.reduceLeDiff]
         rw [hR, hxs, exFs_append pre [] _ hp]; rfl
       | cons y post =>
         have hy := h y (by simp [hxs]) (d + 1) (by omega) (by omega)
         have hg := mid_get encE hxs
         have hE : exFs (pre ++ y :: post) (d + 1) = if exF y (d + 1) ≠ 0 then exF y (d + 1) else exFs post (d + 1) := by rw [exFs_append pre _ _ hp, exFs]
         generalize hyR : exF y (d + 1) = yr at *
         generalize hyE : encE y = ye at *
         rcases y with ⟨k', n', s', zs⟩
         rw [encE_mk] at hyE
         subst hyE
         simp (maxSteps := 1000000) -implicitDefEqProofs only [h1, h59, h60, h61, hg, mid_lt hxs, mid_wrap hxs hlen, hw, go_sem, ↓reduceIte, Nat.reduceEqDiff, Nat.reduceBEq, Int.reduceToNat, Nat.reduceAdd, Nat.reduceLT, Nat.reduceLeDiff, reduceCtorEq, Nat.reduceSub]
         repeat' (first | ((with_reducible first | refine cgR hy ?_ ?_); (focus (simp [norefL, noref, norefL_app, norefL_str, norefL_int, norefL_encE, norefL_encS, norefL_encP, noref_encE, noref_encS, noref_encP, noref_encPl]; done)); simp (maxSteps := 1000000) -implicitDefEqProofs only [h1, h59, h60, h61, hg, mid_lt hxs, mid_wrap hxs hlen, hw, go_sem, ↓reduceIte, Nat.reduceEqDiff, Nat.reduceBEq, Int.reduceToNat, Nat.reduceAdd, Nat.reduceLT, Nat.reduceLeDiff, reduceCtorEq, Nat.reduceSub]) | ((with_reducible apply cgF); (focus ((simp (maxSteps := 1000000) -implicitDefEqProofs only [List.map_cons, List.map_nil, push_cast, ↓reduceIte, Nat.reduceEqDiff, reduceCtorEq, Nat.reduceAdd, Nat.reduceLT, Nat.reduceLeDiff] <;> rfl); done)); (with_reducible first | exact hy); (focus (rfl; done)); simp (maxSteps := 1000000) -implicitDefEqProofs only [h1, h59, h60, h61, hg, mid_lt hxs, mid_wrap hxs hlen, hw, go_sem, ↓reduceIte, Nat.reduceEqDiff, Nat.reduceBEq, Int.reduceToNat, Nat.reduceAdd, Nat.reduceLT, Nat.reduceLeDiff, reduceCtorEq, Nat.reduceSub]) | ((with_reducible show F _ _ (Cfg.code (SCode.qregion _) _ _ _)); refine F_q2 ?_; simp (maxSteps := 1000000) -implicitDefEqProofs only [h1, h59, h60, h61, hg, mid_lt hxs, mid_wrap hxs hlen, hw, go_sem, ↓reduceIte, Nat.reduceEqDiff, Nat.reduceBEq, Int.reduceToNat, Nat.reduceAdd, Nat.reduceLT, Nat.reduceLeDiff, reduceCtorEq, Nat.reduceSub]) | ((with_reducible show F _ _ (Cfg.code (SCode.pregion _ _ _ _ _) _ _ _)); refine F_p2 ?_; simp (maxSteps := 1000000) -implicitDefEqProofs only [h1, h59, h60, h61, hg, mid_lt hxs, mid_wrap hxs hlen, hw, go_sem, ↓reduceIte, Nat.reduceEqDiff, Nat.reduceBEq, Int.reduceToNat, Nat.reduceAdd, Nat.reduceLT, Nat.reduceLeDiff, reduceCtorEq, Nat.reduceSub]) | with_reducible refine Fork.mk (fun _ => ?_) (fun _ => ?_) | with_reducible refine And.intro ?_ ?_ | ((with_reducible show resP _ _ _ _ _); simp (maxSteps := 1000000) -implicitDefEqProofs only [r95, push_cast, ↓reduceIte, Nat.reduceEqDiff, reduceCtorEq, Nat.reduceAdd, Nat.reduceLT, Nat.reduceLeDiff]) | (intro _))
         · rename_i hc
           rw [hR, hxs, hE, if_pos (by simpa using hc)]
         · rename_i hc
           exact ⟨_, Nat.lt_succ_self _, pre ++ [_], post, by simp [hxs]; rfl, rfl, fun z hz => by rcases List.mem_append.1 hz with hz | hz; exact hp z hz; simp at hz; subst hz; rw [hyR]; simpa using hc, by simp⟩)
    | (clear h; simp_all [exF]; done)
    | (clear h; simp_all [exF]; omega)
theorem t95 : (x : Ex) → ∀ d : Int, 0 ≤ d → d ≤ 21 → PCall Tryz.prog 95 [encE x, .int .i64 d] (· = .int .i64 (exF x d))
  | .mk k n s xs => fun d h1 h2 => t95s k n s xs d h1 h2 (fun y hy => t95 y)
termination_by x => SizeOf.sizeOf x
decreasing_by
  have := List.sizeOf_lt_of_mem hy
  simp; omega
theorem t83 (x : Ex) : PCall Tryz.prog 83 [encE x] (· = .int .i64 (exF x 1)) := by
  have h := t95 x 1 (by omega) (by omega)
  rcases x with ⟨k, n, s, xs⟩
  rw [encE_mk] at h
  refine PCall.intro c83 200 (by simp) 20 ?_
  simp (maxSteps := 1000000) -implicitDefEqProofs only [s83, encE_mk, go_sem, ↓reduceIte, Nat.reduceEqDiff, Nat.reduceBEq, Int.reduceToNat, Nat.reduceAdd, Nat.reduceLT, Nat.reduceLeDiff, reduceCtorEq, Nat.reduceSub]
  repeat' (first | ((with_reducible first | refine cgR h ?_ ?_); (focus (simp [norefL, noref, norefL_app, norefL_str, norefL_int, norefL_encE, norefL_encS, norefL_encP, noref_encE, noref_encS, noref_encP, noref_encPl]; done)); simp (maxSteps := 1000000) -implicitDefEqProofs only [go_sem, ↓reduceIte, Nat.reduceEqDiff, Nat.reduceBEq, Int.reduceToNat, Nat.reduceAdd, Nat.reduceLT, Nat.reduceLeDiff, reduceCtorEq, Nat.reduceSub]) | ((with_reducible apply cgF); (focus ((simp (maxSteps := 1000000) -implicitDefEqProofs only [List.map_cons, List.map_nil, push_cast, ↓reduceIte, Nat.reduceEqDiff, reduceCtorEq, Nat.reduceAdd, Nat.reduceLT, Nat.reduceLeDiff] <;> rfl); done)); (with_reducible first | exact h); (focus (rfl; done)); simp (maxSteps := 1000000) -implicitDefEqProofs only [go_sem, ↓reduceIte, Nat.reduceEqDiff, Nat.reduceBEq, Int.reduceToNat, Nat.reduceAdd, Nat.reduceLT, Nat.reduceLeDiff, reduceCtorEq, Nat.reduceSub]) | ((with_reducible show F _ _ (Cfg.code (SCode.qregion _) _ _ _)); refine F_q2 ?_; simp (maxSteps := 1000000) -implicitDefEqProofs only [go_sem, ↓reduceIte, Nat.reduceEqDiff, Nat.reduceBEq, Int.reduceToNat, Nat.reduceAdd, Nat.reduceLT, Nat.reduceLeDiff, reduceCtorEq, Nat.reduceSub]) | ((with_reducible show F _ _ (Cfg.code (SCode.pregion _ _ _ _ _) _ _ _)); refine F_p2 ?_; simp (maxSteps := 1000000) -implicitDefEqProofs only [go_sem, ↓reduceIte, Nat.reduceEqDiff, Nat.reduceBEq, Int.reduceToNat, Nat.reduceAdd, Nat.reduceLT, Nat.reduceLeDiff, reduceCtorEq, Nat.reduceSub]) | with_reducible refine Fork.mk (fun _ => ?_) (fun _ => ?_) | with_reducible refine And.intro ?_ ?_ | ((with_reducible show resP _ _ _ _ _); simp (maxSteps := 1000000) -implicitDefEqProofs only [r83, push_cast, ↓reduceIte, Nat.reduceEqDiff, reduceCtorEq, Nat.reduceAdd, Nat.reduceLT, Nat.reduceLeDiff]) | (intro _))
  all_goals rfl
end Go.Proofs.YteoboibjepokoaaGreatDoor.Av
