/-
  The abstract layer, part R: how code over abstract states is run by rewriting. It speaks of any program; no condition.
  The abstract layer, part T: loops by a state of their own, elements of several cells. It speaks of any program; no condition.
  The abstract layer, part U: values as they read, some levels deep, by rewriting. It speaks of any program; no condition.
-/
import Derived.Test.YtnjnjdebgkjfhaaGreatDoorVoP53
set_option linter.unusedVariables false
set_option linter.unusedSimpArgs false
set_option linter.constructorNameAsVariable false
namespace Go.Vo

section
variable (P : Program) (G : Glob) (dr : Option Nat)

def runOp (op : Op) (d : Option Nat) (os : List AOper) (K : List AV → List AObj → Prop) (env : List AV) (h : List AObj) : Prop :=
 runO P G dr op (fun r h' => awops P G dr os K (aput env d r) h') env h
def contV (x : Option AV) (d : Option Nat) (os : List AOper) (K : List AV → List AObj → Prop) (env : List AV) (h : List AObj) : Prop :=
 match x with
 | some v => awops P G dr os K (aput env d v) h
 | Option.none => False
def contH (x : Option (List AObj)) (d : Option Nat) (os : List AOper) (K : List AV → List AObj → Prop) (env : List AV) : Prop :=
 match x with
 | some h' => awops P G dr os K (aput env d .u) h'
 | Option.none => False
def contVH (x : Option (AV × List AObj)) (d : Option Nat) (os : List AOper) (K : List AV → List AObj → Prop) (env : List AV) : Prop :=
 match x with
 | some (v, h') => awops P G dr os K (aput env d v) h'
 | Option.none => False
def callC (fv : AV) (args : List AV) (d : Option Nat) (os : List AOper) (K : List AV → List AObj → Prop) (env : List AV) (h : List AObj) : Prop :=
 match fv with
 | .fn f first capt => kcall P G dr.isSome f (first ++ args ++ capt) h (fun r h' => awops P G dr os K (aput env d r) h')
 | _ => False
def callF (f : FuncId) (A : List AV) (d : Option Nat) (os : List AOper) (K : List AV → List AObj → Prop) (env : List AV) (h : List AObj) : Prop :=
 kcall P G dr.isSome f A h (fun r h' => awops P G dr os K (aput env d r) h')
def guardC (c : AV) (want : Bool) (op : Op) (d : Option Nat) (os : List AOper) (K : List AV → List AObj → Prop) (env : List AV) (h : List AObj) : Prop :=
 condK (gval c want) (runOp P G dr op d os K env h) (awops P G dr os K (aput env d (.tup [])) h)
def condC (c : AV) (a b : ACode) (Q : Exit → List AV → List AObj → Prop) (env : List AV) (h : List AObj) : Prop :=
 condK c (awx P G a Q env h) (awx P G b Q env h)
end

section
variable {P : Program} {G : Glob} {dr : Option Nat} {d : Option Nat} {os : List AOper} {K : List AV → List AObj → Prop} {env : List AV} {h : List AObj} {Q : Exit → List AV → List AObj → Prop}

theorem ops_nil : awops P G dr [] K env h = K env h := rfl
theorem ops_cons {op : Op} : awops P G dr (⟨d, op, none, false⟩ :: os) K env h = runOp P G dr op d os K env h := by simp only [awops, ckOK, true_and]; rfl
theorem ops_guard {op : Op} {t : Nat} {want : Bool} : awops P G dr (⟨d, op, some (t, want), false⟩ :: os) K env h = guardC P G dr (env.getD t .u) want op d os K env h := by simp only [awops, ckOK, true_and]; rfl
theorem ops_ck {op : Op} {N : Nat} : awops P G (some N) (⟨d, op, none, true⟩ :: os) K env h = (ckOp G N op env ∧ runOp P G (some N) op d os K env h) := rfl
theorem guard_tt {op : Op} : guardC P G dr (.b true) true op d os K env h = runOp P G dr op d os K env h := by simp [guardC, gval, condK]
theorem guard_ff {op : Op} : guardC P G dr (.b false) false op d os K env h = runOp P G dr op d os K env h := by simp [guardC, gval, condK]
theorem guard_tf {op : Op} : guardC P G dr (.b true) false op d os K env h = awops P G dr os K (aput env d (.tup [])) h := by simp [guardC, gval, condK]
theorem guard_ft {op : Op} : guardC P G dr (.b false) true op d os K env h = awops P G dr os K (aput env d (.tup [])) h := by simp [guardC, gval, condK]
theorem guard_no {op : Op} {want : Bool} : guardC P G dr (.tup []) want op d os K env h = awops P G dr os K (aput env d (.tup [])) h := by simp [guardC, gval, condK]
theorem guard_intro {op : Op} {x want : Bool} (h1 : x = want → runOp P G dr op d os K env h) (h2 : x = (!want) → awops P G dr os K (aput env d (.tup [])) h) : guardC P G dr (.b x) want op d os K env h := by
 cases x <;> cases want <;> simp_all [guardC, gval, condK]

theorem x_skip : awx P G .skip Q env h = Q .normal env h := rfl
theorem x_region {ops : List AOper} : awx P G (.region ops) Q env h = awops P G none ops (Q .normal) env h := rfl
theorem x_draw {ops : List AOper} : awx P G (.draw Option.none ops) Q env h = awops P G (some h.length) ops (Q .normal) env h := rfl
theorem x_drawN {N : Nat} {ops : List AOper} : awx P G (.draw (some N) ops) Q env h = awops P G (some N) ops (Q .normal) env h := rfl
theorem x_seq {a b : ACode} : awx P G (.seq a b) Q env h = awx P G a (thenX (awx P G b Q) Q) env h := rfl
theorem x_cond {c : Operand} {a b : ACode} : awx P G (.cond c a b) Q env h = condC P G (aev G env c) a b Q env h := rfl
theorem x_block {i : Nat} {c : ACode} : awx P G (.block i c) Q env h = awx P G c (blockX i Q) env h := rfl
theorem x_exit {i : Nat} : awx P G (.exit i) Q env h = Q (.exit i) env h := rfl
theorem x_ret : awx P G .ret Q env h = Q .ret env h := rfl
theorem then_normal {K : List AV → List AObj → Prop} : thenX K Q .normal env h = K env h := rfl
theorem then_exit {K : List AV → List AObj → Prop} {i : Nat} : thenX K Q (.exit i) env h = Q (.exit i) env h := rfl
theorem then_ret {K : List AV → List AObj → Prop} : thenX K Q .ret env h = Q .ret env h := rfl
theorem block_normal {i : Nat} : blockX i Q .normal env h = Q .normal env h := rfl
theorem block_ret {i : Nat} : blockX i Q .ret env h = Q .ret env h := rfl
theorem block_exit {i j : Nat} : blockX i Q (.exit j) env h = if j = i then Q .normal env h else Q (.exit j) env h := rfl
theorem cond_t {a b : ACode} : condC P G (.b true) a b Q env h = awx P G a Q env h := by simp [condC, condK]
theorem cond_f {a b : ACode} : condC P G (.b false) a b Q env h = awx P G b Q env h := by simp [condC, condK]
theorem cond_intro {a b : ACode} {x : Bool} (h1 : x = true → awx P G a Q env h) (h2 : x = false → awx P G b Q env h) : condC P G (.b x) a b Q env h := ⟨h1, h2⟩

theorem x_loopS {c : ACode} {S : Type} (I : S → List AV → List AObj → Prop) (μ : S → Nat) (s0 : S) (h0 : I s0 env h) (round : ∀ s env h, I s env h → awx P G c (thenX (fun e' h' => ∃ s', I s' e' h' ∧ μ s' < μ s) Q) env h) : awx P G (.loop c) Q env h :=
 ⟨S, I, μ, s0, h0, round⟩

theorem r_move {x : Operand} : runOp P G dr (.move x) d os K env h = awops P G dr os K (aput env d (aev G env x)) h := rfl
theorem r_assign {x : Operand} : runOp P G dr (.assign x) d os K env h = awops P G dr os K (aput env d (aev G env x)) h := rfl
def apick : AV → AV → AV → Option AV
 | .b t, a, b => some (if t then a else b)
 | _, _, _ => Option.none
theorem optK_map {x : Option AV} : optK (match x with | some v => some (v, h) | Option.none => Option.none) (fun r h' => awops P G dr os K (aput env d r) h') = contV P G dr x d os K env h := by cases x <;> rfl
theorem r_pick {c a b : Operand} : runOp P G dr (.pick c a b) d os K env h = contV P G dr (apick (aev G env c) (aev G env a) (aev G env b)) d os K env h := by
 simp only [runOp, runO, nilTest, arrV, awop, aop]
 cases aev G env c <;> rfl
def allocV : Bool → Option Nat → Option (List AV) → List AObj → Option (AV × List AObj)
 | true, some sz, some cells, h => some (.ptr h.length 0, h ++ [.arr false sz cells])
 | true, Option.none, some cells, h => some (.ptr h.length 0, h ++ [.box false cells])
 | false, _, some cells, h => some (.ptr h.length 0, h ++ [.box false cells])
 | _, _, Option.none, _ => Option.none
theorem alloc_arr {sz : Nat} {c : List AV} {h : List AObj} : allocV true (some sz) (some c) h = some (.ptr h.length 0, h ++ [.arr false sz c]) := rfl
theorem alloc_box {c : List AV} {h : List AObj} : allocV true Option.none (some c) h = some (.ptr h.length 0, h ++ [.box false c]) := rfl
theorem alloc_dr {q : Option Nat} {c : List AV} {h : List AObj} : allocV false q (some c) h = some (.ptr h.length 0, h ++ [.box false c]) := rfl
theorem r_alloc {T : TypeId} : runOp P G dr (.alloc T) d os K env h = contVH P G dr (allocV dr.isNone (arrSz P T) (zeroOf P T) h) d os K env := by
 simp only [runOp, runO, nilTest, arrV, awop, aop]
 cases arrSz P T <;> cases zeroOf P T <;> cases dr <;> rfl
theorem r_box {T : TypeId} {x : Operand} : runOp P G dr (.box T x) d os K env h = contVH P G dr (allocV dr.isNone (arrSz P T) (acells (aev G env x)) h) d os K env := by
 simp only [runOp, runO, nilTest, arrV, awop, aop]
 cases arrSz P T <;> cases acells (aev G env x) <;> cases dr <;> rfl
def abuild (pl : Option (List (Nat × Nat))) (z : Option (List AV)) (parts : List (Nat × AV)) : Option AV :=
 match pl, z with
 | some pl, some z => (afill (fun i => pl[i]?) z parts).map .agg
 | _, _ => Option.none
theorem r_build {T : TypeId} {parts : Array (Nat × Operand)} : runOp P G dr (.build T parts) d os K env h = contV P G dr (abuild (placesOf P T) (zeroOf P T) (parts.toList.map fun (i, x) => (i, aev G env x))) d os K env h := by
 simp only [runOp, runO, nilTest, arrV, awop, aop]
 cases placesOf P T with
 | none => rfl
 | some pl =>
   cases zeroOf P T with
   | none => rfl
   | some z =>
     simp only [abuild]
     cases afill (fun i => pl[i]?) z (parts.toList.map fun (i, x) => (i, aev G env x)) <;> rfl
def abuildSlice (h : List AObj) (el : Option TypeId) (len : Nat) (parts : List (Nat × AV)) : Option (AV × List AObj) :=
 match el with
 | some e => match zeroOf P e with
   | some z => if szOf P e = some z.length ∧ 0 < z.length ∧ len * z.length ≤ 65536 then
       (if len = 0 ∧ parts = [] then some (.e0, h) else (afill (fun i => some (i * z.length, z.length)) (List.replicate len z).flatten parts).map fun cells => (.hs h.length 0 len false, h ++ [.arr false z.length cells])) else Option.none
   | Option.none => Option.none
 | Option.none => Option.none
def condO (dr : Option Nat) (l : List (Nat × Operand)) (a b : Option (AV × List AObj)) : Option (AV × List AObj) := if (dr.isSome && cslL l) = true then a else b
theorem co_n {l : List (Nat × Operand)} {a b : Option (AV × List AObj)} : condO Option.none l a b = b := rfl
theorem co_0 {N : Nat} {a b : Option (AV × List AObj)} : condO (some N) [] a b = b := rfl
theorem co_t {N i : Nat} {t : Tmp} {l : List (Nat × Operand)} {a b : Option (AV × List AObj)} : condO (some N) ((i, .tmp t) :: l) a b = b := rfl
theorem co_g {N i : Nat} {t : Nat} {l : List (Nat × Operand)} {a b : Option (AV × List AObj)} : condO (some N) ((i, .global t) :: l) a b = b := rfl
theorem co_f {N i : Nat} {t : Nat} {l : List (Nat × Operand)} {a b : Option (AV × List AObj)} : condO (some N) ((i, .func t) :: l) a b = b := rfl
theorem co_c1 {N i : Nat} {v : Value} {a b : Option (AV × List AObj)} : condO (some N) [(i, .const v)] a b = a := rfl
theorem co_c2 {N i : Nat} {v : Value} {p : Nat × Operand} {l : List (Nat × Operand)} {a b : Option (AV × List AObj)} : condO (some N) ((i, .const v) :: p :: l) a b = condO (some N) (p :: l) a b := by
 have e : cslL ((i, .const v) :: p :: l) = cslL (p :: l) := by simp [cslL, isCst]
 rw [condO, condO, e]
theorem aop_bs {T : TypeId} {len : Nat} {parts : Array (Nat × Operand)} : aop P G env h (.buildSlice T len parts) = abuildSlice (P := P) h (elemOf? P T) len (parts.toList.map fun (i, x) => (i, aev G env x)) := by
 simp only [aop, abuildSlice]
 cases elemOf? P T with
 | none => rfl
 | some e =>
   simp only
   cases zeroOf P e with
   | none => rfl
   | some z =>
     simp only
     have hm : (parts.toList = []) ↔ ((parts.toList.map fun (i, x) => (i, aev G env x)) = []) := by simp
     simp only [hm]
     split
     · split
       · rfl
       · cases afill (fun i => some (i * z.length, z.length)) (List.replicate len z).flatten (parts.toList.map fun (i, x) => (i, aev G env x)) <;> rfl
     · rfl
theorem optK_contVH {x : Option (AV × List AObj)} : optK x (fun r h' => awops P G dr os K (aput env d r) h') = contVH P G dr x d os K env := by
 cases x <;> rfl
theorem r_buildSlice {T : TypeId} {len : Nat} {parts : Array (Nat × Operand)} : runOp P G dr (.buildSlice T len parts) d os K env h = contVH P G dr (condO dr parts.toList ((aslC P T len parts).map fun v => (v, h)) (abuildSlice (P := P) h (elemOf? P T) len (parts.toList.map fun (i, x) => (i, aev G env x)))) d os K env := by
 rw [← aop_bs]
 simp only [runOp, runO, nilTest, arrV, awop]
 exact optK_contVH
def afill1 : Nat → List (Nat × AV) → Option (List AV)
 | _, [] => some []
 | i, (j, a) :: rest => if j = i then (match acells a with
   | some [c] => (afill1 (i + 1) rest).map (c :: ·)
   | _ => Option.none) else Option.none
theorem afill1_ok : ∀ (parts : List (Nat × AV)) (i : Nat) (cells pre : List AV) (z : AV), afill1 i parts = some cells → pre.length = i →
   afill (fun i => some (i * 1, 1)) (pre ++ List.replicate cells.length z) parts = some (pre ++ cells)
 | [], i, cells, pre, z, h, hp => by
   simp only [afill1, Option.some.injEq] at h
   subst h
   simp [afill]
 | (j, a) :: rest, i, cells, pre, z, h, hp => by
   simp only [afill1] at h
   split at h
   case isFalse => cases h
   rename_i hj
   subst hj
   split at h
   case h_2 => cases h
   rename_i c hc
   cases hr : afill1 (j + 1) rest with
   | none => simp [hr] at h
   | some cs =>
     simp only [hr, Option.map_some, Option.some.injEq] at h
     subst h
     have ih := afill1_ok rest (j + 1) cs (pre ++ [c]) z hr (by simp [hp])
     simp only [afill, hc, List.length_cons, List.length_nil, List.length_append, List.length_replicate, Nat.mul_one, Nat.zero_add]
     rw [if_pos ⟨trivial, by omega⟩]
     have hs : splice (pre ++ List.replicate (cs.length + 1) z) j [c] = (pre ++ [c]) ++ List.replicate cs.length z := by
       unfold splice
       rw [List.take_left' hp, List.length_singleton, List.drop_append, List.drop_of_length_le (by omega), hp]
       have : j + 1 - j = 1 := by omega
       rw [this, List.nil_append, List.replicate_succ, List.drop_succ_cons, List.drop_zero]
     have e1 : (fun i => some (i * 1, 1)) = (fun i : Nat => some (i, 1)) := by funext i; rw [Nat.mul_one]
     rw [e1] at ih
     rw [hs, ih, List.append_assoc]; rfl
theorem fill_nil {i : Nat} : afill1 i [] = some [] := rfl
theorem fill_s {i : Nat} {rest : List (Nat × AV)} {l : List UInt8} : afill1 i ((i, .s l) :: rest) = (afill1 (i + 1) rest).map (.s l :: ·) := by simp [afill1, acells, AV.one]
theorem fill_i {i : Nat} {rest : List (Nat × AV)} {k : IntKind} {n : Int} : afill1 i ((i, .i k n) :: rest) = (afill1 (i + 1) rest).map (.i k n :: ·) := by simp [afill1, acells, AV.one]
theorem fill_b {i : Nat} {rest : List (Nat × AV)} {b : Bool} : afill1 i ((i, .b b) :: rest) = (afill1 (i + 1) rest).map (.b b :: ·) := by simp [afill1, acells, AV.one]
theorem fill_e0 {i : Nat} {rest : List (Nat × AV)}  : afill1 i ((i, .e0) :: rest) = (afill1 (i + 1) rest).map (.e0 :: ·) := by simp [afill1, acells, AV.one]
theorem fill_sl {i : Nat} {rest : List (Nat × AV)} {c : List AV} {n : Nat} : afill1 i ((i, .sl c n) :: rest) = (afill1 (i + 1) rest).map (.sl c n :: ·) := by simp [afill1, acells, AV.one]
theorem fill_hs {i : Nat} {rest : List (Nat × AV)} {id o n : Nat} {t : Bool} : afill1 i ((i, .hs id o n t) :: rest) = (afill1 (i + 1) rest).map (.hs id o n t :: ·) := by simp [afill1, acells, AV.one]
theorem fill_ptr {i : Nat} {rest : List (Nat × AV)} {id o : Nat} : afill1 i ((i, .ptr id o) :: rest) = (afill1 (i + 1) rest).map (.ptr id o :: ·) := by simp [afill1, acells, AV.one]
theorem fill_p {i : Nat} {rest : List (Nat × AV)} {v : Value} : afill1 i ((i, .p v) :: rest) = (afill1 (i + 1) rest).map (.p v :: ·) := by simp [afill1, acells, AV.one]
theorem fill_mp {i : Nat} {rest : List (Nat × AV)} {id : Nat} : afill1 i ((i, .mp id) :: rest) = (afill1 (i + 1) rest).map (.mp id :: ·) := by simp [afill1, acells, AV.one]
theorem fill_fn {i : Nat} {rest : List (Nat × AV)} {f : FuncId} {a b : List AV} : afill1 i ((i, .fn f a b) :: rest) = (afill1 (i + 1) rest).map (.fn f a b :: ·) := by simp [afill1, acells, AV.one]
theorem fill_box {i : Nat} {rest : List (Nat × AV)} {c : List AV} {n : Nat} : afill1 i ((i, .box c n) :: rest) = (afill1 (i + 1) rest).map (.box c n :: ·) := by simp [afill1, acells, AV.one]
def abuildSlice1 (h : List AObj) (el : Option TypeId) (len : Nat) (parts : List (Nat × AV)) : Option (AV × List AObj) :=
 match el with
 | some e => match zeroOf P e, szOf P e, afill1 0 parts with
   | some [_], some 1, some cells => if cells.length = len ∧ 0 < len ∧ len ≤ 65536 then some (.hs h.length 0 len false, h ++ [.arr false 1 cells]) else abuildSlice (P := P) h (some e) len parts
   | _, _, _ => abuildSlice (P := P) h (some e) len parts
 | Option.none => Option.none
theorem abuildSlice1_eq {el : Option TypeId} {len : Nat} {parts : List (Nat × AV)} : abuildSlice (P := P) h el len parts = abuildSlice1 (P := P) h el len parts := by
 unfold abuildSlice1
 cases el with
 | none => rfl
 | some e =>
   simp only
   split
   · rename_i z cells hz hs hf
     split
     · rename_i hc
       obtain ⟨hc1, hc0, hc2⟩ := hc
       have := afill1_ok parts 0 cells [] z hf rfl
       simp only [abuildSlice, hz, hs, List.length_singleton]
       rw [if_pos ⟨trivial, by omega, by omega⟩, if_neg (by omega)]
       have e2 : (List.replicate len [z]).flatten = [] ++ List.replicate cells.length z := by
         rw [hc1, List.nil_append]
         clear this hc1 hc0 hc2 hf
         induction len with
         | zero => rfl
         | succ n ih => rw [List.replicate_succ, List.flatten_cons, ih, List.replicate_succ]; rfl
       rw [e2, this]; rfl
     · rfl
   · rfl
theorem r_buildSlice' {T : TypeId} {len : Nat} {parts : Array (Nat × Operand)} : runOp P G dr (.buildSlice T len parts) d os K env h = contVH P G dr (condO dr parts.toList ((aslC P T len parts).map fun v => (v, h)) (abuildSlice1 (P := P) h (elemOf? P T) len (parts.toList.map fun (i, x) => (i, aev G env x)))) d os K env := by
 rw [r_buildSlice, abuildSlice1_eq]
theorem r_load {T : TypeId} {x : Operand} : runOp P G dr (.load T x) d os K env h = contV P G dr (aload P T h (aev G env x)) d os K env h := by
 simp only [runOp, runO, nilTest, arrV, awop, aop]; exact optK_map
theorem r_store {T : TypeId} {x y : Operand} : runOp P G dr (.store T x y) d os K env h = contH P G dr (astore P h T (aev G env x) (aev G env y)) d os K env := by
 simp only [runOp, runO, nilTest, arrV, awop, aop]
 cases astore P h T (aev G env x) (aev G env y) <;> rfl
def anil (h : List AObj) : AV → Option AV
 | .ptr id off => match h[id]? with | some (.box ..) | some (.arr ..) | some (.held false _) => some (.ptr id off) | _ => Option.none
 | .box cells off => some (.box cells off)
 | .fn f a b => some (.fn f a b)
 | _ => Option.none
theorem r_nilCheck {x : Operand} : runOp P G dr (.nilCheck x) d os K env h = contV P G dr (anil h (aev G env x)) d os K env h := by
 simp only [runOp, runO, nilTest, arrV, awop, aop, anil]
 cases aev G env x with
 | ptr id off =>
   simp only
   cases h[id]? with
   | none => rfl
   | some ob => cases ob with
     | held m q => cases m <;> rfl
     | _ => rfl
 | _ => rfl
theorem r_bin {op : BinOp} {T U : TypeId} {x : Operand} {t : Nat} : runOp P G dr (.binOp op T x (.tmp t) U) d os K env h = contV P G dr (aBin P op T (aev G env x) (aev G env (.tmp t))) d os K env h := by
 simp only [runOp, runO, nilTest, arrV, nilB, awop, aop]; exact optK_map
theorem r_bin_i {op : BinOp} {T U : TypeId} {x : Operand} {k : IntKind} {n : Int} : runOp P G dr (.binOp op T x (.const (.int k n)) U) d os K env h = contV P G dr (aBin P op T (aev G env x) (.i k n)) d os K env h := by
 simp only [runOp, runO, nilTest, arrV, nilB, awop, aop]; exact optK_map
theorem r_bin_s {op : BinOp} {T U : TypeId} {x : Operand} {b : ByteArray} : runOp P G dr (.binOp op T x (.const (.string b)) U) d os K env h = contV P G dr (aBin P op T (aev G env x) (aev G env (.const (.string b)))) d os K env h := by
 simp only [runOp, runO, nilTest, arrV, nilB, awop, aop]; exact optK_map
theorem r_bin_b {op : BinOp} {T U : TypeId} {x : Operand} {b : Bool} : runOp P G dr (.binOp op T x (.const (.bool b)) U) d os K env h = contV P G dr (aBin P op T (aev G env x) (.b b)) d os K env h := by
 simp only [runOp, runO, nilTest, arrV, nilB, awop, aop]; exact optK_map
def nilC (P : Program) (G : Glob) (A : Option TypeDesc) (v : AV) (d : Option Nat) (os : List AOper) (K : List AV → List AObj → Prop) (env : List AV) (h : List AObj) : Prop :=
 match A with
 | some (.slice _) => (match v with
   | .e0 => awops P G none os K (aput env d (.b true)) h ∧ awops P G none os K (aput env d (.b false)) h
   | .sl _ n => (n = 0 → awops P G none os K (aput env d (.b true)) h) ∧ awops P G none os K (aput env d (.b false)) h
   | _ => False)
 | _ => False
theorem r_nil {T U : TypeId} {x : Operand} : runOp P G none (.binOp .eql T x (.const (.slice none 0 0)) U) d os K env h = nilC P G (P.underlying T) (aev G env x) d os K env h := by
 simp only [runOp, runO, nilTest, arrV, nilB, nilK, nilC]
 cases P.underlying T with
 | none => rfl
 | some t => cases t <;> first | rfl | (cases aev G env x <;> rfl)
theorem r_un {op : UnOp} {T : TypeId} {x : Operand} : runOp P G dr (.unOp op T x) d os K env h = contV P G dr (aUn op (aev G env x)) d os K env h := by
 simp only [runOp, runO, nilTest, arrV, awop, aop]; exact optK_map
theorem r_conv {S T : TypeId} {x : Operand} : runOp P G dr (.convert S T x) d os K env h = contV P G dr (aConv P S T (aev G env x)) d os K env h := by
 simp only [runOp, runO, nilTest, arrV, awop, aop]; exact optK_map
theorem r_makeFunc {f : FuncId} {a b : Array Operand} : runOp P G dr (.makeFunc (.func f) a b) d os K env h = awops P G dr os K (aput env d (.fn f (a.toList.map (aev G env)) (b.toList.map (aev G env)))) h := rfl
theorem r_makeMap {T : TypeId} : runOp P G dr (.makeMap T none) d os K env h = awops P G dr os K (aput env d (.mp h.length)) (h ++ [.map false [] []]) := rfl
theorem r_makeSlice {T : TypeId} {l c : Operand} : runOp P G dr (.makeSlice T l c) d os K env h = contVH P G dr (amakeSlice P h T (aev G env l) (aev G env c)) d os K env := by
 simp only [runOp, runO, nilTest, arrV, awop, aop]
 cases amakeSlice P h T (aev G env l) (aev G env c) <;> rfl
theorem r_slice {T : TypeId} {x : Operand} {l hi m : Option Operand} : runOp P G dr (.slice T x l hi m) d os K env h = contV P G dr (aslice P h T (aev G env x) (l.map (aev G env)) (hi.map (aev G env)) (m.map (aev G env))) d os K env h := by
 simp only [runOp, runO, nilTest, arrV, awop, aop]; exact optK_map
def afieldAddr (h : List AObj) (q : Option (Nat × Option Nat)) (x : AV) : Option AV :=
 match q with
 | some (fo, some (_ + 1)) => match x with
   | .ptr id off => match h[id]? with | some (.box ..) | some (.arr ..) | some (.held false _) => some (.ptr id (off + fo)) | _ => Option.none
   | .box cells off => some (.box cells (off + fo))
   | _ => Option.none
 | _ => Option.none
def fieldAt? (P : Program) (S : TypeId) (f : Nat) : Option (Nat × Option Nat) := (fieldOf? P S f).map fun q => (q.1, szOf P q.2)
theorem r_fieldAddr {S : TypeId} {x : Operand} {f : Nat} : runOp P G dr (.fieldAddr S x f) d os K env h = contV P G dr (afieldAddr h (fieldAt? P S f) (aev G env x)) d os K env h := by
 simp only [runOp, runO, nilTest, arrV, awop, aop, afieldAddr, fieldAt?]
 cases fieldOf? P S f with
 | none => rfl
 | some q =>
   obtain ⟨fo, ft⟩ := q
   simp only [Option.map_some]
   cases szOf P ft with
   | none => rfl
   | some n =>
     cases n with
     | zero => rfl
     | succ n =>
       cases aev G env x with
       | ptr id off =>
         simp only
         cases h[id]? with
         | none => rfl
         | some ob => cases ob with
           | held m q => cases m <;> rfl
           | _ => rfl
       | _ => rfl
def afield (P : Program) (x : AV) (q : Option (Nat × TypeId)) : Option AV :=
 match x, q with
 | .agg cs, some (fo, ft) => apart P ft cs fo
 | _, _ => Option.none
theorem r_field {T : TypeId} {x : Operand} {f : Nat} : runOp P G dr (.field T x f) d os K env h = contV P G dr (afield P (aev G env x) (fieldOf? P T f)) d os K env h := by
 simp only [runOp, runO, nilTest, arrV, awop, aop, afield]
 cases aev G env x with
 | agg cs =>
   cases fieldOf? P T f with
   | none => rfl
   | some q => exact optK_map
 | _ => rfl
theorem r_indexAddr {T : TypeId} {x i : Operand} : runOp P G dr (.indexAddr T x i) d os K env h = contV P G dr (aindexAddr P h T (aev G env x) (aev G env i)) d os K env h := by
 simp only [runOp, runO, nilTest, arrV, awop, aop]; exact optK_map
theorem r_index {T : TypeId} {x i : Operand} : runOp P G dr (.index T x i) d os K env h = contV P G dr (aindex P T (aev G env x) (aev G env i)) d os K env h := by
 simp only [runOp, runO, nilTest, arrV, awop, aop]; exact optK_map
theorem r_lookup {T : TypeId} {m k : Operand} {ok : Bool} : runOp P G dr (.lookup T m k ok) d os K env h = contV P G dr (alookup P h T (aev G env m) (aev G env k) ok) d os K env h := by
 simp only [runOp, runO, nilTest, arrV, awop, aop]; exact optK_map
def aupdS (P : Program) (h : List AObj) (T : TypeId) (m k x : AV) : Option (List AObj) :=
 if pers x then amapUpdate P h T m k x else amapUpdate P (freeze (reach dep h x) h) T m k (snap dep h x)
theorem r_mapUpdate {T : TypeId} {m k x : Operand} : runOp P G dr (.mapUpdate T m k x) d os K env h = contH P G dr (aupdS P h T (aev G env m) (aev G env k) (aev G env x)) d os K env := by
 simp only [runOp, runO, nilTest, arrV, awop, aupdS]
 split
 · cases amapUpdate P h T (aev G env m) (aev G env k) (aev G env x) <;> rfl
 · cases amapUpdate P (freeze (reach dep h (aev G env x)) h) T (aev G env m) (aev G env k) (snap dep h (aev G env x)) <;> rfl
def atup : AV → Nat → Option AV
 | .tup vs, i => vs[i]?
 | _, _ => Option.none
theorem r_extract {x : Operand} {i : Nat} : runOp P G dr (.extract x i) d os K env h = contV P G dr (atup (aev G env x) i) d os K env h := by
 simp only [runOp, runO, nilTest, arrV, awop, aop, atup]
 cases aev G env x with
 | tup vs => exact optK_map
 | _ => rfl
theorem r_len {T : TypeId} {x : Operand} : runOp P G dr (.call ⟨.builtin .len, #[x], #[T]⟩) d os K env h = contV P G dr ((alen P h T (aev G env x)).map fun n => .i .i64 (Int.ofNat n)) d os K env h := by
 simp only [runOp, runO, nilTest, arrV, awop, acall, abuiltin, List.map_cons, List.map_nil]
 cases alen P h T (aev G env x) <;> rfl
def aappS (P : Program) (h : List AObj) (T : TypeId) (s x : AV) : Option (AV × List AObj) :=
 if winPers h x then aappend P h T s x else aappend P (freeze (reach dep h x) h) T s (snap dep h x)
theorem r_append {T : TypeId} {s x : Operand} : runOp P G dr (.call ⟨.builtin .append, #[s, x], #[T, T]⟩) d os K env h = contVH P G dr (aappS P h T (aev G env s) (aev G env x)) d os K env := by
 simp only [runOp, runO, nilTest, arrV, awop, acall, List.map_cons, List.map_nil, if_true, aappS]
 split
 · cases aappend P h T (aev G env s) (aev G env x) <;> rfl
 · cases aappend P (freeze (reach dep h (aev G env x)) h) T (aev G env s) (snap dep h (aev G env x)) <;> rfl
def zerosC (P : Program) (G : Glob) (dr : Option Nat) (A : Option TypeDesc) (q : Option (AV × List AObj)) (d : Option Nat) (os : List AOper) (K : List AV → List AObj → Prop) (env : List AV) : Prop :=
 match A with
 | some (.int _) => contVH P G dr q d os K env
 | _ => False
theorem zeros_int {k : IntKind} {q : Option (AV × List AObj)} : zerosC P G dr (some (.int k)) q d os K env = contVH P G dr q d os K env := rfl
theorem r_appendZ {T U : TypeId} (hTU : T ≠ U) {s x : Operand} : runOp P G dr (.call ⟨.builtin .append, #[s, x], #[T, U]⟩) d os K env h = zerosC P G dr (P.underlying U) (azeros P h T (aev G env s) (aev G env x)) d os K env := by
 simp only [runOp, runO, nilTest, arrV, awop, acall, List.map_cons, List.map_nil, if_neg hTU]
 generalize azeros P h T (aev G env s) (aev G env x) = q
 cases P.underlying U with
 | none => rfl
 | some t => cases t <;> first | rfl | (cases q <;> rfl)
theorem r_cap {T : TypeId} {x : Operand} : runOp P G dr (.call ⟨.builtin .cap, #[x], #[T]⟩) d os K env h = contVH P G dr (abuiltin P h .cap #[T] [aev G env x]) d os K env := by
 simp only [runOp, runO, nilTest, arrV, awop, acall, List.map_cons, List.map_nil]
 cases abuiltin P h .cap #[T] [aev G env x] <;> rfl
theorem r_max {T U : TypeId} {x y : Operand} : runOp P G dr (.call ⟨.builtin .max, #[x, y], #[T, U]⟩) d os K env h = contVH P G dr (abuiltin P h .max #[T, U] [aev G env x, aev G env y]) d os K env := by
 simp only [runOp, runO, nilTest, arrV, awop, acall, List.map_cons, List.map_nil]
 cases abuiltin P h .max #[T, U] [aev G env x, aev G env y] <;> rfl
theorem max_ii {t : Array TypeId} {h : List AObj} {k : IntKind} {x y : Int} : abuiltin P h .max t [.i k x, .i k y] = some (.i k (if y > x then y else x), h) := by simp [abuiltin]
theorem cap_e0 {T e : TypeId} {h : List AObj} (hT : P.underlying T = some (.slice e)) : abuiltin P h .cap #[T] [.e0] = some (.i .i64 0, h) := by simp [abuiltin, hT]
theorem aappS_e0 {T : TypeId} {x : AV} {h : List AObj} : aappS P h T .e0 x = if winPers h x then aappend P h T .e0 x else aappend P (freeze (reach dep h x) h) T .e0 (snap dep h x) := rfl
theorem aappS_hs {T : TypeId} {x : AV} {h : List AObj} {id o n : Nat} {t : Bool} : aappS P h T (.hs id o n t) x = if winPers h x then aappend P h T (.hs id o n t) x else aappend P (freeze (reach dep h x) h) T (.hs id o n t) (snap dep h x) := rfl
theorem r_call {fx : Operand} {args : Array Operand} {tys : Array TypeId} : runOp P G dr (.call ⟨.value fx, args, tys⟩) d os K env h = callC P G dr (aev G env fx) (args.toList.map (aev G env)) d os K env h := by
 simp only [runOp, runO, nilTest, arrV, awop, acall, callC]
 cases aev G env fx <;> rfl
def rangeC (P : Program) (G : Glob) (T : Option TypeDesc) (x : AV) (h1 : List AObj) (d : Option Nat) (os : List AOper) (K : List AV → List AObj → Prop) (env : List AV) : Prop :=
 match T, x with
 | some (.map _ _), .mapv ks vs => awops P G none os K (aput env d (.ptr h1.length 0)) (h1 ++ [.mit none ks vs])
 | some .string, .s l => awops P G none os K (aput env d (.ptr h1.length 0)) (h1 ++ [.sit l 0])
 | _, _ => False
theorem r_range {T : TypeId} {x : Operand} : runOp P G none (.range T x) d os K env h = rangeC P G (P.underlying T) (snap dep h (aev G env x)) (freeze (reach dep h (aev G env x)) h) d os K env := by
 simp only [runOp, runO, nilTest, arrV, awop, Option.isSome_none, Bool.false_eq_true, if_false, rangeC]
 cases P.underlying T with
 | none => rfl
 | some t => cases t <;> first | rfl | (cases snap dep h (aev G env x) <;> rfl)
theorem range_map {A B : TypeId} {ks vs : List AV} {h1 : List AObj} : rangeC P G (some (.map A B)) (.mapv ks vs) h1 d os K env = awops P G none os K (aput env d (.ptr h1.length 0)) (h1 ++ [.mit none ks vs]) := rfl
def nextC (P : Program) (G : Glob) (x : AV) (d : Option Nat) (os : List AOper) (K : List AV → List AObj → Prop) (env : List AV) (h : List AObj) : Prop :=
 match x with
 | .ptr id 0 => match h[id]? with
   | some (.mit _ ks vs) => (ks = [] → awops P G none os K (aput env d (.tup [.b false])) h) ∧ ∀ (j : Nat) (k v : AV), ks[j]? = some k → vs[j]? = some v → awops P G none os K (aput env d (.tup [.b true, k, v])) (h.set id (.mit (some (k, v)) (ks.eraseIdx j) (vs.eraseIdx j)))
   | _ => False
 | _ => False
theorem r_next {x : Operand} : runOp P G none (.next x false) d os K env h = nextC P G (aev G env x) d os K env h := by
 simp only [runOp, runO, nilTest, arrV, awop, Option.isSome_none, Bool.false_eq_true, if_false, nextC]
 cases aev G env x with
 | ptr id o => cases o with
   | zero => simp only; cases h[id]? with
     | none => rfl
     | some ob => cases ob <;> rfl
   | succ o => rfl
 | _ => rfl
theorem range_str {l : List UInt8} {h1 : List AObj} : rangeC P G (some .string) (.s l) h1 d os K env = awops P G none os K (aput env d (.ptr h1.length 0)) (h1 ++ [.sit l 0]) := rfl
def nextSC (P : Program) (G : Glob) (x : AV) (d : Option Nat) (os : List AOper) (K : List AV → List AObj → Prop) (env : List AV) (h : List AObj) : Prop :=
 match x with
 | .ptr id 0 => match h[id]? with
   | some (.sit l pos) => (l.length ≤ pos → awops P G none os K (aput env d (.tup [.b false])) h) ∧ ∀ (c : UInt8), l[pos]? = some c → (c.toNat < 128 → awops P G none os K (aput env d (.tup [.b true, .i .i64 pos, .i .i32 c.toNat])) (h.set id (.sit l (pos + 1)))) ∧
       ∀ (rn k : Nat), 128 ≤ c.toNat → 128 ≤ rn → rn ≤ 2147483647 → 1 ≤ k → awops P G none os K (aput env d (.tup [.b true, .i .i64 pos, .i .i32 rn])) (h.set id (.sit l (pos + k)))
   | _ => False
 | _ => False
theorem r_nextS {x : Operand} : runOp P G none (.next x true) d os K env h = nextSC P G (aev G env x) d os K env h := by
 simp only [runOp, runO, nilTest, arrV, awop, Option.isSome_none, Bool.false_eq_true, if_false, nextSC]
 cases aev G env x with
 | ptr id o => cases o with
   | zero => simp only; cases h[id]? with
     | none => rfl
     | some ob => cases ob <;> rfl
   | succ o => rfl
 | _ => rfl
theorem nextS_intro {id : Nat} {l : List UInt8} {pos : Nat} (hid : h[id]? = some (.sit l pos)) (h0 : l.length ≤ pos → awops P G none os K (aput env d (.tup [.b false])) h)
   (h1 : ∀ (c : UInt8), l[pos]? = some c → c.toNat < 128 → awops P G none os K (aput env d (.tup [.b true, .i .i64 pos, .i .i32 c.toNat])) (h.set id (.sit l (pos + 1))))
   (h2 : ∀ (c : UInt8) (rn k : Nat), l[pos]? = some c → 128 ≤ c.toNat → 128 ≤ rn → rn ≤ 2147483647 → 1 ≤ k → awops P G none os K (aput env d (.tup [.b true, .i .i64 pos, .i .i32 rn])) (h.set id (.sit l (pos + k)))) : nextSC P G (.ptr id 0) d os K env h := by
 unfold nextSC
 simp only [hid]
 exact ⟨h0, fun c hc => ⟨h1 c hc, fun rn k => h2 c rn k hc⟩⟩
def entryC (P : Program) (G : Glob) (x : AV) (d : Option Nat) (os : List AOper) (K : List AV → List AObj → Prop) (env : List AV) (h : List AObj) : Prop :=
 match x with
 | .ptr id 0 => match h[id]? with
   | some (.mit (some (k, v)) _ _) => awops P G none os K (aput env d (.tup [k, v])) h
   | _ => False
 | _ => False
theorem r_entry {x : Operand} : runOp P G none (.entry x) d os K env h = entryC P G (aev G env x) d os K env h := by
 simp only [runOp, runO, nilTest, arrV, awop, Option.isSome_none, Bool.false_eq_true, if_false, entryC]
 cases aev G env x with
 | ptr id o => cases o with
   | zero => simp only; cases h[id]? with
     | none => rfl
     | some ob => cases ob with
       | mit c _ _ => cases c <;> rfl
       | _ => rfl
   | succ o => rfl
 | _ => rfl
theorem c_fn {f : FuncId} {a b args : List AV} : callC P G dr (.fn f a b) args d os K env h = callF P G dr f (a ++ args ++ b) d os K env h := rfl
theorem c_ctr {f : FuncId} {A : List AV} {r : AV} (s : Ctr P G f (A.map (snap dep h)) r) (k : awops P G dr os K (aput env d (mat r (hAfter r h A)).1) (mat r (hAfter r h A)).2) : callF P G dr f A d os K env h := by
 cases dr
 · exact ACalls.sem s k
 · exact ⟨r, s, k⟩

def snap0 (h : List AObj) : AV → AV
 | .e0 => .e0
 | a => snap dep h a
theorem c_ctr0 {f : FuncId} {A A' : List AV} {r : AV} (s : Ctr P G f A' r) (hA : A.map (snap0 h) = A') (k : awops P G none os K (aput env d (mat r (hAfter r h A)).1) (mat r (hAfter r h A)).2) : callF P G none f A d os K env h := by
 subst hA
 refine ACalls.sem0 s (by simp) (fun j a a' h1 h2 => ?_) k
 rw [List.getElem?_map, h1] at h2
 simp only [Option.map_some, Option.some.injEq] at h2
 subst h2
 cases a <;> first | exact .inr ⟨rfl, rfl⟩ | exact .inl rfl

theorem v_some {v : AV} : contV P G dr (some v) d os K env h = awops P G dr os K (aput env d v) h := rfl
theorem v_ite {c : Prop} [Decidable c] {v : AV} : contV P G dr (if c then some v else Option.none) d os K env h = (c ∧ awops P G dr os K (aput env d v) h) := by
 by_cases hc : c <;> simp [hc, contV]
theorem h_some {h' : List AObj} : contH P G dr (some h') d os K env = awops P G dr os K (aput env d .u) h' := rfl
theorem h_ite {c : Prop} [Decidable c] {h' : List AObj} : contH P G dr (if c then some h' else Option.none) d os K env = (c ∧ awops P G dr os K (aput env d .u) h') := by
 by_cases hc : c <;> simp [hc, contH]
theorem vh_some {v : AV} {h' : List AObj} : contVH P G dr (some (v, h')) d os K env = awops P G dr os K (aput env d v) h' := rfl
theorem vh_ite {c : Prop} [Decidable c] {v : AV} {h' : List AObj} : contVH P G dr (if c then some (v, h') else Option.none) d os K env = (c ∧ awops P G dr os K (aput env d v) h') := by
 by_cases hc : c <;> simp [hc, contVH]
theorem put_some {n : Nat} {x : AV} : aput env (some n) x = env.set n x := rfl
theorem put_none {x : AV} : aput env Option.none x = env := rfl
theorem ev_tmp {t : Nat} : aev G env (.tmp t) = env.getD t .u := rfl
theorem ev_const {v : Value} : aev G env (.const v) = aval v := rfl
theorem ev_func {f : FuncId} : aev G env (.func f) = .fn f [] [] := rfl
end

attribute [go_sem] fill_nil fill_s fill_i fill_b fill_e0 fill_sl fill_hs fill_ptr fill_p fill_mp fill_fn fill_box
attribute [go_sem ↓] x_skip x_region x_draw x_drawN x_seq x_cond x_block ops_nil ops_cons ops_guard ops_ck r_move r_assign r_pick r_alloc r_box r_build r_buildSlice' r_load r_store r_nilCheck r_bin r_bin_i r_bin_s r_bin_b r_nil r_un r_conv r_makeFunc r_makeMap r_makeSlice r_slice r_fieldAddr r_field r_indexAddr r_index r_lookup r_mapUpdate r_extract r_len r_append r_appendZ r_cap r_max r_call r_range r_next r_nextS r_entry
attribute [go_sem] Int.toNat_one zeros_int x_exit x_ret then_normal then_exit then_ret block_normal block_ret block_exit cond_t cond_f guard_tt guard_ff guard_tf guard_ft guard_no c_fn v_some v_ite h_some h_ite vh_some vh_ite put_some put_none ev_tmp ev_const ev_func
attribute [go_sem] alloc_arr alloc_box alloc_dr max_ii
attribute [go_sem] co_n co_0 co_t co_g co_f co_c1 co_c2 aval aval1 alen aindexAddr aindex aload aobj apart astore splice acells AV.one aBin aBinI cmpI aBinS aEq leafEqT aUn aConv aslice awin winPers alookup amapOf aupdS amapUpdate aappS_e0 aappS_hs azeros aappend amakeSlice range_map range_str apick afieldAddr afield atup anil abuild abuildSlice1 abuildSlice afill
attribute [go_sem] List.set_cons_succ List.set_cons_zero List.getD_cons_succ List.getD_cons_zero List.map_cons List.map_nil Option.map_some Int.ofNat_eq_natCast Int.toNat_natCast Nat.mul_one Nat.zero_mul Nat.zero_add Nat.add_zero List.getElem?_cons_zero List.getElem?_cons_succ List.length_cons List.length_nil List.nil_append List.cons_append List.append_nil List.take_succ_cons List.take_zero List.drop_succ_cons List.drop_zero
attribute [go_sem] reach pers persL flat flatL mat matL hAfter ares aresL ares1

inductive Slot where
 | k
 | j
 | v (x : AV)

def mkEnv (F : Nat → AV) : Nat → List Slot → List AV → List AV
 | i, .k :: ps, v :: vs => v :: mkEnv F (i + 1) ps vs
 | i, .j :: ps, _ :: vs => F i :: mkEnv F (i + 1) ps vs
 | i, .v x :: ps, _ :: vs => x :: mkEnv F (i + 1) ps vs
 | _, _, _ => []
def Fits : List Slot → List AV → List AV → Prop
 | .k :: ps, v :: vs, w :: ws => w = v ∧ Fits ps vs ws
 | .j :: ps, _ :: vs, _ :: ws => Fits ps vs ws
 | .v x :: ps, _ :: vs, w :: ws => w = x ∧ Fits ps vs ws
 | [], [], [] => True
 | _, _, _ => False

theorem mk_fits : ∀ (ps : List Slot) (E e : List AV) (i : Nat) (F : Nat → AV), (∀ m v, e[m]? = some v → F (i + m) = v) → Fits ps E e → mkEnv F i ps E = e := by
 intro ps
 induction ps with
 | nil => intro E e i F _ h; cases E <;> cases e <;> simp [Fits] at h; simp [mkEnv]
 | cons p ps ih =>
   intro E e i F hF h
   cases E with
   | nil => cases e <;> cases p <;> simp [Fits] at h
   | cons v vs =>
     cases e with
     | nil => cases p <;> simp [Fits] at h
     | cons w ws =>
       have hF' : ∀ m v, ws[m]? = some v → F (i + 1 + m) = v := fun m u hm => by have := hF (m + 1) u (by simpa using hm); rw [← this]; congr 1; omega
       cases p with
       | k => obtain ⟨h1, h2⟩ := h; simp only [mkEnv]; rw [ih vs ws _ F hF' h2, h1]
       | j => simp only [mkEnv]; rw [ih vs ws _ F hF' h]; have := hF 0 w rfl; simpa using this
       | v x => obtain ⟨h1, h2⟩ := h; simp only [mkEnv]; rw [ih vs ws _ F hF' h2, h1]

section
variable {P : Program} {G : Glob} {env : List AV} {h : List AObj} {Q : Exit → List AV → List AObj → Prop}

theorem x_loopJ {c : ACode} {S : Type} (ps : S → List Slot) (hp : S → List AObj) (I : S → Prop) (μ : S → Nat) (s0 : S) (h0 : I s0) (hh : h = hp s0) (k0 : Fits (ps s0) env env)
   (round : ∀ (s : S) (j : Nat → AV), I s → awx P G c (thenX (fun e' h' => ∃ s', I s' ∧ μ s' < μ s ∧ h' = hp s' ∧ Fits (ps s') env e') Q) (mkEnv j 0 (ps s) env) (hp s)) : awx P G (.loop c) Q env h := by
 refine x_loopS (fun s e h' => I s ∧ h' = hp s ∧ Fits (ps s) env e) μ s0 ⟨h0, hh, k0⟩ ?_
 rintro s e h' ⟨hI, rfl, hf⟩
 have he : mkEnv (fun n => e.getD n .u) 0 (ps s) env = e := mk_fits _ env e 0 _ (fun m v hv => by simp [List.getD, hv]) hf
 have r := round s (fun n => e.getD n .u) hI
 rw [he] at r
 have mono : (fun e2 h2 => ∃ s', I s' ∧ μ s' < μ s ∧ h2 = hp s' ∧ Fits (ps s') env e2) = fun e2 h2 => ∃ s', (I s' ∧ h2 = hp s' ∧ Fits (ps s') env e2) ∧ μ s' < μ s := by
   funext e2 h2
   exact propext ⟨fun ⟨s', a, b, c, d⟩ => ⟨s', ⟨a, c, d⟩, b⟩, fun ⟨s', ⟨a, c, d⟩, b⟩ => ⟨s', a, b, c, d⟩⟩
 rw [mono] at r
 exact r

end

section
variable {P : Program} {G : Glob} {env : List AV} {h : List AObj} {Q : Exit → List AV → List AObj → Prop}
theorem x_loopG {c : ACode} {S : Type} (ps : S → List Slot) (hp : S → List AObj) (I : S → Prop) (μ : S → Nat) (s0 : S) (g0 : List AObj) (h0 : I s0) (hh : h = hp s0 ++ g0) (k0 : Fits (ps s0) env env)
   (round : ∀ (s : S) (g : List AObj) (j : Nat → AV), I s → awx P G c (thenX (fun e' h' => ∃ s' g', I s' ∧ μ s' < μ s ∧ h' = hp s' ++ g' ∧ Fits (ps s') env e') Q) (mkEnv j 0 (ps s) env) (hp s ++ g)) : awx P G (.loop c) Q env h := by
 refine x_loopJ (S := S × List AObj) (fun s => ps s.1) (fun s => hp s.1 ++ s.2) (fun s => I s.1) (fun s => μ s.1) (s0, g0) h0 hh k0 ?_
 rintro ⟨s, g⟩ j hI
 have r := round s g j hI
 have mono : (fun (e2 : List AV) (h2 : List AObj) => ∃ s' g', I s' ∧ μ s' < μ s ∧ h2 = hp s' ++ g' ∧ Fits (ps s') env e2) = fun e2 h2 => ∃ s' : S × List AObj, I s'.1 ∧ μ s'.1 < μ s ∧ h2 = hp s'.1 ++ s'.2 ∧ Fits (ps s'.1) env e2 := by
   funext e2 h2
   exact propext ⟨fun ⟨s', g', a, b, c, d⟩ => ⟨(s', g'), a, b, c, d⟩, fun ⟨s', a, b, c, d⟩ => ⟨s'.1, s'.2, a, b, c, d⟩⟩
 rw [mono] at r
 exact r
end

section
variable {α : Type} {f : α → List AV} {m : Nat}
theorem flat_len (hf : ∀ x, (f x).length = m) : ∀ (l : List α), (l.flatMap f).length = l.length * m
 | [] => by simp
 | x :: l => by rw [List.flatMap_cons, List.length_append, hf, flat_len hf l, List.length_cons, Nat.succ_mul, Nat.add_comm]
theorem flat_drop (hf : ∀ x, (f x).length = m) : ∀ (l : List α) (k : Nat), (l.flatMap f).drop (k * m) = (l.drop k).flatMap f
 | l, 0 => by simp
 | [], k + 1 => by simp
 | x :: l, k + 1 => by
   rw [List.flatMap_cons, Nat.succ_mul, Nat.add_comm, ← List.drop_drop, List.drop_left' (hf x), flat_drop hf l k, List.drop_succ_cons]
theorem flat_take (hf : ∀ x, (f x).length = m) : ∀ (l : List α) (k : Nat), (l.flatMap f).take (k * m) = (l.take k).flatMap f
 | l, 0 => by simp
 | [], k + 1 => by simp
 | x :: l, k + 1 => by
   rw [List.flatMap_cons, Nat.succ_mul, Nat.add_comm, List.take_append, hf, Nat.add_sub_cancel_left, flat_take hf l k, List.take_succ_cons, List.flatMap_cons, List.take_of_length_le (by rw [hf]; omega)]
theorem flat_win (hf : ∀ x, (f x).length = m) (l : List α) (k : Nat) : ((l.flatMap f).drop (k * m)).take m = ((l[k]?).map f).getD [] := by
 rw [flat_drop hf]
 have : (l.drop k).flatMap f = ((l[k]?).map f).getD [] ++ (l.drop (k + 1)).flatMap f := by
   cases hk : l[k]? with
   | none =>
     have hle := List.getElem?_eq_none_iff.1 hk
     rw [List.drop_of_length_le hle, List.drop_of_length_le (by omega)]; simp
   | some x =>
     obtain ⟨hlt, hx⟩ := List.getElem?_eq_some_iff.1 hk
     rw [List.drop_eq_getElem_cons hlt, List.flatMap_cons, hx]; simp
 rw [this]
 cases hk : l[k]? with
 | none =>
   have hle := List.getElem?_eq_none_iff.1 hk
   rw [List.drop_of_length_le (by omega)]; simp
 | some x => simp [List.take_left' (hf x)]
theorem flat_get (hf : ∀ x, (f x).length = m) (l : List α) (k : Nat) {j : Nat} (hj : j < m) : (l.flatMap f)[k * m + j]? = (l[k]?).bind fun x => (f x)[j]? := by
 have h1 : (l.flatMap f)[k * m + j]? = ((((l.flatMap f).drop (k * m)).take m))[j]? := by
   rw [List.getElem?_take_of_lt hj, List.getElem?_drop]
 rw [h1, flat_win hf]
 cases hk : l[k]? with
 | none => simp
 | some x => simp
end
end Go.Vo

namespace Go.Vo
section
variable {P : Program} {G : Glob} {dr : Option Nat} {d : Option Nat} {os : List AOper} {K : List AV → List AObj → Prop} {env : List AV} {h : List AObj} {Q : Exit → List AV → List AObj → Prop}
theorem g_true {op : Op} {x : Bool} (h1 : x = true → runOp P G dr op d os K env h) (h2 : x = false → awops P G dr os K (aput env d (.tup [])) h) : guardC P G dr (.b x) true op d os K env h := guard_intro h1 h2
theorem g_false {op : Op} {x : Bool} (h1 : x = false → runOp P G dr op d os K env h) (h2 : x = true → awops P G dr os K (aput env d (.tup [])) h) : guardC P G dr (.b x) false op d os K env h := guard_intro h1 h2
end
theorem fin_eq {h : List AObj} {x r : AV} (hr : r = x) (hp : pers x = true) : Fin h x r := .inl ⟨hr, hp⟩
attribute [go_sem] true_and and_true if_true if_false Bool.false_eq_true Option.some.injEq exists_eq_left' reduceCtorEq or_true false_or true_or or_false
attribute [go_sem] mkEnv Fits
theorem wrap64 {x : Int} (h1 : -9223372036854775808 ≤ x) (h2 : x ≤ 9223372036854775807) : IntKind.i64.wrap x = x := IntWalk.i64_in _ (by omega)
theorem str_nil {s : List UInt8} : decide (s = []) = decide (s.length = 0) := by cases s <;> simp
attribute [go_sem] wrap64 str_nil Int.toNat_zero Bool.not_true Bool.not_false
theorem anat_none {d : Nat} : anat Option.none d = some d := rfl
theorem anat_pos {k : IntKind} {n : Int} {d : Nat} (h : 0 ≤ n) : anat (some (.i k n)) d = some n.toNat := if_pos h
theorem toNat_sub1 {m : Nat} : ((m : Int) - 1).toNat = m - 1 := by omega
theorem toNat_sub2 {m : Nat} : ((m : Int) - 2).toNat = m - 2 := by omega
theorem toNat_add1 {m : Nat} : ((m : Int) + 1).toNat = m + 1 := by omega
theorem toNat_sub21 {m : Nat} (h : 2 ≤ m) : ((m : Int) - 2 + 1).toNat = m - 1 := by omega
attribute [go_sem] anat_none anat_pos toNat_sub1 toNat_sub2 toNat_add1 toNat_sub21 Option.map_none Option.isSome_none Option.isSome_some Option.isNone_none Option.isNone_some Bool.and_false Bool.false_and Bool.true_and Bool.and_true
theorem map_s_get {l : List (List UInt8)} {k : Nat} (h : k < l.length) : (l.map AV.s)[k]? = some (.s (l.getD k [])) := by simp [h]
theorem map_i_get {q : IntKind} {l : List Int} {k : Nat} (h : k < l.length) : (l.map (AV.i q))[k]? = some (.i q (l.getD k 0)) := by simp [h]
attribute [go_sem] map_s_get map_i_get
theorem fin_own {h : List AObj} {id sz n m : Nat} {cells cs : List AV} (hid : h[id]? = some (.arr false sz cs)) (hm : m = n) (hc : cells = cs) (hl : cs.length = n * sz) (hp : persL cs = true) : Fin h (.hs id 0 n false) (.own sz cells m) := by
 subst hm hc
 refine .inr ⟨⟨rfl, rfl, cells, hid, by omega, ?_, hp⟩, by simp [finIds], by simp [finIds, finRch]⟩
 rw [List.drop_zero, List.take_of_length_le (by omega)]
theorem take_all {α : Type} {l : List α} {n : Nat} (h : l.length ≤ n) : l.take n = l := List.take_of_length_le h
attribute [go_sem] List.length_map
def snapS (h : List AObj) (a : AV) : AV :=
 let L := fun l => if persL l then l else l.map (snap 8 h)
 match a with
 | .e0 => .sl [] 0
 | .hs id off n _ => match h[id]? with
   | some (.arr _ sz cells) => if off + n * sz ≤ cells.length then .sl (L ((cells.drop off).take (n * sz))) n else .u
   | _ => .u
 | .ptr id off => match h[id]? with
   | some (.box _ cells) => .box (L cells) off
   | some (.arr _ _ cells) => .box (L cells) off
   | _ => .u
 | .mp id => match h[id]? with
   | some (.map _ ks vs) => .mapv (L ks) (L vs)
   | _ => .u
 | .fn f a b => .fn f (L a) (L b)
 | .agg cs => .agg (L cs)
 | .tup vs => .tup (L vs)
 | _ => .u
theorem snap_dep {h : List AObj} {a : AV} : snap dep h a = if pers a then a else snapS h a := rfl
theorem persL_s {l : List (List UInt8)} : persL (l.map AV.s) = true := by
 induction l with
 | nil => rfl
 | cons x l ih => simp [persL, pers, ih]
theorem persL_i {k : IntKind} {l : List Int} : persL (l.map (AV.i k)) = true := by
 induction l with
 | nil => rfl
 | cons x l ih => simp [persL, pers, ih]
theorem c_ctrE {P : Program} {G : Glob} {dr : Option Nat} {d : Option Nat} {os : List AOper} {K : List AV → List AObj → Prop} {env : List AV} {h : List AObj} {f : FuncId} {A A' : List AV} {r : AV} (s : Ctr P G f A' r) (hA : A.map (snap dep h) = A')
   (k : awops P G dr os K (aput env d (mat r (hAfter r h A)).1) (mat r (hAfter r h A)).2) : callF P G dr f A d os K env h := c_ctr (hA ▸ s) k
theorem take_map {α β : Type} {f : α → β} {l : List α} {k : Nat} : (l.map f).take k = (l.take k).map f := List.map_take.symm
theorem drop_map {α β : Type} {f : α → β} {l : List α} {k : Nat} : (l.map f).drop k = (l.drop k).map f := List.map_drop.symm
theorem len_take {α : Type} {l : List α} {k : Nat} (h : k ≤ l.length) : (l.take k).length = k := by simp; omega
attribute [go_sem] snap_dep snapS persL_s persL_i take_map drop_map len_take List.length_drop Nat.sub_zero
attribute [go_sem] take_all
theorem flatL_s {l : List (List UInt8)} : flatL (l.map AV.s) = true := by
 induction l with
 | nil => rfl
 | cons x l ih => simp [flatL, flat, ih]
theorem flatL_i {k : IntKind} {l : List Int} : flatL (l.map (AV.i k)) = true := by
 induction l with
 | nil => rfl
 | cons x l ih => simp [flatL, flat, ih]
attribute [go_sem] Nat.le_refl flatL_s flatL_i List.take_length List.flatMap_nil List.flatMap_cons freeze AObj.fz
section
variable {P : Program} {G : Glob} {N : Nat} {env : List AV}
def oldOpt (N : Nat) (G : Glob) (env : List AV) : Option Operand → Prop
 | some x => oldRef N (aev G env x)
 | Option.none => True
theorem ck_load {T : TypeId} {x : Operand} : ckOp G N (.load T x) env = oldRef N (aev G env x) := by simp [ckOp, Op.operands, oldAll]
theorem ck_store {T : TypeId} {a x : Operand} : ckOp G N (.store T a x) env = newRef N (aev G env a) := rfl
theorem ck_nil {x : Operand} : ckOp G N (.nilCheck x) env = oldRef N (aev G env x) := by simp [ckOp, Op.operands, oldAll]
theorem ck_fieldAddr {T : TypeId} {x : Operand} {f : Nat} : ckOp G N (.fieldAddr T x f) env = oldRef N (aev G env x) := by simp [ckOp, Op.operands, oldAll]
theorem ck_indexAddr {T : TypeId} {x i : Operand} : ckOp G N (.indexAddr T x i) env = (oldRef N (aev G env x) ∧ oldRef N (aev G env i)) := by simp [ckOp, Op.operands, oldAll]
theorem ck_lookup {T : TypeId} {x i : Operand} {ok : Bool} : ckOp G N (.lookup T x i ok) env = (oldRef N (aev G env x) ∧ oldRef N (aev G env i)) := by simp [ckOp, Op.operands, oldAll]
theorem ck_slice {T : TypeId} {x : Operand} {l hi m : Option Operand} : ckOp G N (.slice T x l hi m) env = (oldRef N (aev G env x) ∧ oldOpt N G env l ∧ oldOpt N G env hi ∧ oldOpt N G env m) := by
 cases l <;> cases hi <;> cases m <;> simp [ckOp, Op.operands, oldAll, oldOpt]
theorem ck_len {T : TypeId} {x : Operand} : ckOp G N (.call ⟨.builtin .len, #[x], #[T]⟩) env = oldRef N (aev G env x) := by simp [ckOp, Op.operands, Call.operands, oldAll]
theorem ck_append {T : TypeId} {s x : Operand} : ckOp G N (.call ⟨.builtin .append, #[s, x], #[T, T]⟩) env = newRef N (aev G env s) := by simp [ckOp]
end
theorem get_off {α : Type} {l m : List α} {n : Nat} : (l ++ m)[l.length + n]? = m[n]? := by rw [List.getElem?_append_right (by omega)]; congr 1; omega
theorem get_off0 {α : Type} {l m : List α} : (l ++ m)[l.length]? = m[0]? := by rw [List.getElem?_append_right (by omega)]; congr 1; omega
theorem set_off {α : Type} {l m : List α} {n : Nat} {a : α} : (l ++ m).set (l.length + n) a = l ++ m.set n a := by rw [List.set_append_right _ _ (by omega)]; congr 2; omega
theorem set_off0 {α : Type} {l m : List α} {a : α} : (l ++ m).set l.length a = l ++ m.set 0 a := by rw [List.set_append_right _ _ (by omega)]; congr 2; omega
attribute [go_sem] get_off get_off0 set_off set_off0 List.append_assoc List.length_append
attribute [go_sem] ck_load ck_store ck_nil ck_fieldAddr ck_indexAddr ck_lookup ck_slice ck_len ck_append oldOpt oldRef newRef AV.refs

def OutIs (sz N : Nat) (g : List AObj) (out : AV) (cells : List AV) (n : Nat) : Prop :=
 (out = .e0 ∧ cells = [] ∧ n = 0) ∨ ∃ i, out = .hs (i + N) 0 n false ∧ g[i]? = some (.arr false sz cells) ∧ cells.length = n * sz
theorem outIs_e0 {sz N : Nat} {g : List AObj} : OutIs sz N g .e0 [] 0 := .inl ⟨rfl, rfl, rfl⟩
theorem OutIs.more {sz N : Nat} {g : List AObj} {out : AV} {cells : List AV} {n : Nat} (h : OutIs sz N g out cells n) (g' : List AObj) : OutIs sz N (g ++ g') out cells n := by
 rcases h with h | ⟨i, h1, h2, h3⟩
 · exact .inl h
 · exact .inr ⟨i, h1, by rw [List.getElem?_append_left (lt_of_some h2)]; exact h2, h3⟩
theorem OutIs.len {sz N : Nat} {g : List AObj} {out : AV} {cells : List AV} {n : Nat} (h : OutIs sz N g out cells n) : cells.length = n * sz := by
 rcases h with ⟨_, h2, h3⟩ | ⟨i, h1, h2, h3⟩
 · simp [h2, h3]
 · exact h3

section
variable {P : Program} {G : Glob} {dr : Option Nat} {d : Option Nat} {os : List AOper} {K : List AV → List AObj → Prop} {env : List AV}
theorem app_intro {pre g : List AObj} {T e by_ : Nat} {z : List AV} {out x : AV} {cells news : List AV} {n m : Nat} (ho : OutIs z.length pre.length g out cells n) (hT : elemOf? P T = some e) (hz : zeroOf P e = some z) (hs : szOf P e = some z.length) (hb : byOf P e = some by_)
   (hpos : 0 < z.length) (hp : winPers (pre ++ g) x = true) (hx : awin (pre ++ g) z.length x = some (news, m)) (hbd : (n + m) * by_ ≤ 140737488355328 ∧ n + m ≤ 140737488355328)
   (k : ∀ out' g', OutIs z.length pre.length g' out' (cells ++ news) (n + m) → (∀ (i : Nat) (o : AObj), g[i]? = some o → (∀ c : List AV, o ≠ .arr false z.length c) → g'[i]? = some o) → awops P G dr os K (aput env d out') (pre ++ g')) : contVH P G dr (aappS P (pre ++ g) T out x) d os K env := by
 have hm : news.length = m * z.length := by
   cases x with
   | e0 => simp only [awin, Option.some.injEq, Prod.mk.injEq] at hx; obtain ⟨rfl, rfl⟩ := hx; simp
   | sl c q =>
     simp only [awin] at hx
     split at hx
     · simp only [Option.some.injEq, Prod.mk.injEq] at hx; obtain ⟨rfl, rfl⟩ := hx; assumption
     · cases hx
   | hs id off q t =>
     simp only [awin] at hx
     split at hx
     · split at hx
       · rename_i hc
         simp only [Option.some.injEq, Prod.mk.injEq] at hx; obtain ⟨rfl, rfl⟩ := hx
         rw [List.length_take, List.length_drop]; omega
       · cases hx
     · cases hx
   | _ => simp [awin] at hx
 have e1 : aappS P (pre ++ g) T out x = aappend P (pre ++ g) T out x := by simp [aappS, hp]
 rw [e1]
 rcases ho with ⟨rfl, rfl, rfl⟩ | ⟨i, rfl, hi, hl⟩
 · have e2 : aappend P (pre ++ g) T .e0 x = some (.hs (pre ++ g).length 0 m false, (pre ++ g) ++ [.arr false z.length news]) := by
     simp only [aappend, hT, hz, hb, hpos, hs, hx, and_self, if_true, true_and]
     rw [if_pos (by simpa using hbd)]
   rw [e2]
   show awops P G dr os K _ _
   rw [List.append_assoc]
   refine k _ _ (.inr ⟨g.length, ?_, by simp, by simpa using hm⟩) (fun i o ho _ => by rw [List.getElem?_append_left (lt_of_some ho)]; exact ho)
   simp [Nat.add_comm]
 · have hlt := lt_of_some hi
   have hg : (pre ++ g)[i + pre.length]? = some (.arr false z.length cells) := by
     rw [List.getElem?_append_right (by omega)]; simpa using hi
   have e2 : aappend P (pre ++ g) T (.hs (i + pre.length) 0 n false) x = some (.hs (pre ++ g).length 0 (n + m) false, (pre ++ g).set (i + pre.length) .dead ++ [.arr false z.length (cells ++ news)]) := by
     simp only [aappend, hT, hz, hb, hpos, hs, hx, hg, and_self, if_true, true_and, hl, Nat.zero_add, Nat.le_refl, hbd, Bool.false_eq_true, if_false, List.drop_zero]
   rw [e2]
   show awops P G dr os K _ _
   rw [List.set_append_right _ _ (by omega), List.append_assoc, Nat.add_sub_cancel]
   refine k _ _ (.inr ⟨g.length, ?_, by simp, ?_⟩) (fun j o hj hn => ?_)
   · simp [Nat.add_comm]
   · rw [List.length_append, hl, hm, Nat.add_mul]
   · have hne : i ≠ j := by
       rintro rfl
       rw [hi] at hj; cases hj
       exact hn _ rfl
     rw [List.getElem?_append_left (by simpa using lt_of_some hj), List.getElem?_set_ne hne]
     exact hj
theorem app_intro' {h pre g more : List AObj} {T e by_ sz N : Nat} {z : List AV} {out x : AV} {cells news : List AV} {n m : Nat} (ho : OutIs sz N g out cells n) (hN : pre.length = N) (hh : h = pre ++ (g ++ more)) (hT : elemOf? P T = some e) (hz : zeroOf P e = some z) (hs : szOf P e = some sz) (hb : byOf P e = some by_)
   (hzl : z.length = sz) (hpos : 0 < sz) (hp : winPers h x = true) (hx : awin h sz x = some (news, m)) (hbd : (n + m) * by_ ≤ 140737488355328 ∧ n + m ≤ 140737488355328)
   (k : ∀ out' g', OutIs sz N g' out' (cells ++ news) (n + m) → (∀ (i : Nat) (o : AObj), g[i]? = some o → (∀ c : List AV, o ≠ .arr false sz c) → g'[i]? = some o) → awops P G dr os K (aput env d out') (pre ++ g')) : contVH P G dr (aappS P h T out x) d os K env := by
 subst hh hzl hN
 exact app_intro (ho.more more) hT hz hs hb hpos hp hx hbd (fun out' g' h1 h2 => k out' g' h1 (fun i o hi hn => h2 i o (by rw [List.getElem?_append_left (lt_of_some hi)]; exact hi) hn))
end
theorem fin_out {pre g : List AObj} {sz n : Nat} {out : AV} {cells : List AV} (ho : OutIs sz pre.length g out cells n) (hp : persL cells = true) : Fin (pre ++ g) out (.own sz cells n) := by
 rcases ho with ⟨rfl, rfl, rfl⟩ | ⟨i, rfl, hi, hl⟩
 · exact .inr ⟨⟨rfl, rfl⟩, by simp [finIds], by simp [finIds]⟩
 · exact fin_own (by rw [List.getElem?_append_right (by omega)]; simpa using hi) rfl rfl hl hp

def snapK (k : Nat) (h : List AObj) (a : AV) : AV :=
 let L := fun l => if persL l then l else l.map (snap k h)
 match a with
 | .e0 => .sl [] 0
 | .hs id off n _ => match h[id]? with
   | some (.arr _ sz cells) => if off + n * sz ≤ cells.length then .sl (L ((cells.drop off).take (n * sz))) n else .u
   | _ => .u
 | .ptr id off => match h[id]? with
   | some (.box _ cells) => .box (L cells) off
   | some (.arr _ _ cells) => .box (L cells) off
   | _ => .u
 | .mp id => match h[id]? with
   | some (.map _ ks vs) => .mapv (L ks) (L vs)
   | _ => .u
 | .fn f a b => .fn f (L a) (L b)
 | .agg cs => .agg (L cs)
 | .tup vs => .tup (L vs)
 | _ => .u
def reachK (k : Nat) (h : List AObj) (a : AV) : List Nat :=
 let L := fun l => if persL l then [] else l.flatMap (reach k h)
 match a with
 | .hs id off n _ => match h[id]? with
   | some (.arr _ sz cells) => id :: L ((cells.drop off).take (n * sz))
   | _ => []
 | .ptr id off => match h[id]? with
   | some (.box _ cells) => id :: L cells
   | some (.arr _ _ cells) => id :: L cells
   | _ => []
 | .mp id => match h[id]? with
   | some (.map _ ks vs) => id :: (L ks ++ L vs)
   | _ => []
 | .fn f a b => L a ++ L b
 | .agg cs => L cs
 | .tup vs => L vs
 | _ => []
theorem reach_dep {h : List AObj} {a : AV} : reach dep h a = if pers a then [] else reachK 8 h a := rfl
theorem snap_8 {h : List AObj} {a : AV} : snap 8 h a = if pers a then a else snapK 7 h a := rfl
theorem reach_8 {h : List AObj} {a : AV} : reach 8 h a = if pers a then [] else reachK 7 h a := rfl
theorem snap_7 {h : List AObj} {a : AV} : snap 7 h a = if pers a then a else snapK 6 h a := rfl
theorem reach_7 {h : List AObj} {a : AV} : reach 7 h a = if pers a then [] else reachK 6 h a := rfl
theorem snap_6 {h : List AObj} {a : AV} : snap 6 h a = if pers a then a else snapK 5 h a := rfl
theorem reach_6 {h : List AObj} {a : AV} : reach 6 h a = if pers a then [] else reachK 5 h a := rfl
theorem snap_5 {h : List AObj} {a : AV} : snap 5 h a = if pers a then a else snapK 4 h a := rfl
theorem reach_5 {h : List AObj} {a : AV} : reach 5 h a = if pers a then [] else reachK 4 h a := rfl
theorem snap_4 {h : List AObj} {a : AV} : snap 4 h a = if pers a then a else snapK 3 h a := rfl
theorem reach_4 {h : List AObj} {a : AV} : reach 4 h a = if pers a then [] else reachK 3 h a := rfl
theorem fz_0 {a : AObj} {l : List AObj} {f : AObj → AObj} : (a :: l).modify 0 f = f a :: l := rfl
theorem fz_s {a : AObj} {l : List AObj} {n : Nat} {f : AObj → AObj} : (a :: l).modify (n + 1) f = a :: l.modify n f := rfl
theorem fz_off {l m : List AObj} {n : Nat} {f : AObj → AObj} : (l ++ m).modify (l.length + n) f = l ++ m.modify n f := by
 apply List.ext_getElem?
 intro i
 rw [List.getElem?_modify]
 by_cases h : i < l.length
 · rw [List.getElem?_append_left h, List.getElem?_append_left h]
   have : l.length + n ≠ i := by omega
   simp [this]
 · rw [List.getElem?_append_right (by omega), List.getElem?_append_right (by omega), List.getElem?_modify]
   by_cases e : l.length + n = i
   · subst e; simp
   · have : n ≠ i - l.length := by omega
     simp [e, this]
theorem fz_off0 {l m : List AObj} {f : AObj → AObj} : (l ++ m).modify l.length f = l ++ m.modify 0 f := by
 have := fz_off (l := l) (m := m) (n := 0) (f := f); simpa using this
attribute [go_sem] reach_dep snap_8 reach_8 snap_7 reach_7 snap_6 reach_6 snap_5 reach_5 snap_4 reach_4 snapK reachK fz_0 fz_s fz_off fz_off0
end Go.Vo
