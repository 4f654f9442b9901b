/-
  The abstract layer, part T: loops by a state of their own, elements of several cells. It speaks of any program; no condition.
  The abstract layer, part U: values as they read, some levels deep, by rewriting. It speaks of any program; no condition.
-/
import Derived.Test.YtadileniakikeaaGreatDoorVoP3
set_option linter.unusedVariables false
set_option linter.unusedSimpArgs false
set_option linter.constructorNameAsVariable false
namespace Go.Vo

/-- what is known of a slot in a round: as at the beginning, anything, a value -/
inductive Slot where
  | k
  | j
  | v (x : AV)

def mkEnv (F : Nat → AV) : Nat → List Slot → List AV → List AV
  | i, .k :: ps, v :: vs => v :: mkEnv F (i + 1) ps vs
  | i, .j :: ps, _ :: vs => F i :: mkEnv F (i + 1) ps vs
  | i, .v x :: ps, _ :: vs => x :: mkEnv F (i + 1) ps vs
  | _, _, _ => []
def Fits : List Slot → List AV → List AV → Prop
  | .k :: ps, v :: vs, w :: ws => w = v ∧ Fits ps vs ws
  | .j :: ps, _ :: vs, _ :: ws => Fits ps vs ws
  | .v x :: ps, _ :: vs, w :: ws => w = x ∧ Fits ps vs ws
  | [], [], [] => True
  | _, _, _ => False

theorem mk_fits : ∀ (ps : List Slot) (E e : List AV) (i : Nat) (F : Nat → AV), (∀ m v, e[m]? = some v → F (i + m) = v) → Fits ps E e → mkEnv F i ps E = e := by
  intro ps
  induction ps with
  | nil => intro E e i F _ h; cases E <;> cases e <;> simp [Fits] at h; simp [mkEnv]
  | cons p ps ih =>
    intro E e i F hF h
    cases E with
    | nil => cases e <;> cases p <;> simp [Fits] at h
    | cons v vs =>
      cases e with
      | nil => cases p <;> simp [Fits] at h
      | cons w ws =>
        have hF' : ∀ m v, ws[m]? = some v → F (i + 1 + m) = v := fun m u hm => by have := hF (m + 1) u (by simpa using hm); rw [← this]; congr 1; omega
        cases p with
        | k => obtain ⟨h1, h2⟩ := h; simp only [mkEnv]; rw [ih vs ws _ F hF' h2, h1]
        | j => simp only [mkEnv]; rw [ih vs ws _ F hF' h]; have := hF 0 w rfl; simpa using this
        | v x => obtain ⟨h1, h2⟩ := h; simp only [mkEnv]; rw [ih vs ws _ F hF' h2, h1]

section
variable {P : Program} {G : Glob} {env : List AV} {h : List AObj} {Q : Exit → List AV → List AObj → Prop}

/-- A LOOP, by a state of its own -/
theorem x_loopJ {c : ACode} {S : Type} (ps : S → List Slot) (hp : S → List AObj) (I : S → Prop) (μ : S → Nat) (s0 : S) (h0 : I s0) (hh : h = hp s0) (k0 : Fits (ps s0) env env)
    (round : ∀ (s : S) (j : Nat → AV), I s → awx P G c (thenX (fun e' h' => ∃ s', I s' ∧ μ s' < μ s ∧ h' = hp s' ∧ Fits (ps s') env e') Q) (mkEnv j 0 (ps s) env) (hp s)) : awx P G (.loop c) Q env h := by
  refine x_loopS (fun s e h' => I s ∧ h' = hp s ∧ Fits (ps s) env e) μ s0 ⟨h0, hh, k0⟩ ?_
  rintro s e h' ⟨hI, rfl, hf⟩
  have he : mkEnv (fun n => e.getD n .u) 0 (ps s) env = e := mk_fits _ env e 0 _ (fun m v hv => by simp [List.getD, hv]) hf
  have r := round s (fun n => e.getD n .u) hI
  rw [he] at r
  have mono : (fun e2 h2 => ∃ s', I s' ∧ μ s' < μ s ∧ h2 = hp s' ∧ Fits (ps s') env e2) = fun e2 h2 => ∃ s', (I s' ∧ h2 = hp s' ∧ Fits (ps s') env e2) ∧ μ s' < μ s := by
    funext e2 h2
    exact propext ⟨fun ⟨s', a, b, c, d⟩ => ⟨s', ⟨a, c, d⟩, b⟩, fun ⟨s', ⟨a, c, d⟩, b⟩ => ⟨s', a, b, c, d⟩⟩
  rw [mono] at r
  exact r

end

section
variable {P : Program} {G : Glob} {env : List AV} {h : List AObj} {Q : Exit → List AV → List AObj → Prop}
/-- A LOOP whose rounds leave objects behind that nobody asks for -/
theorem x_loopG {c : ACode} {S : Type} (ps : S → List Slot) (hp : S → List AObj) (I : S → Prop) (μ : S → Nat) (s0 : S) (g0 : List AObj) (h0 : I s0) (hh : h = hp s0 ++ g0) (k0 : Fits (ps s0) env env)
    (round : ∀ (s : S) (g : List AObj) (j : Nat → AV), I s → awx P G c (thenX (fun e' h' => ∃ s' g', I s' ∧ μ s' < μ s ∧ h' = hp s' ++ g' ∧ Fits (ps s') env e') Q) (mkEnv j 0 (ps s) env) (hp s ++ g)) : awx P G (.loop c) Q env h := by
  refine x_loopJ (S := S × List AObj) (fun s => ps s.1) (fun s => hp s.1 ++ s.2) (fun s => I s.1) (fun s => μ s.1) (s0, g0) h0 hh k0 ?_
  rintro ⟨s, g⟩ j hI
  have r := round s g j hI
  have mono : (fun (e2 : List AV) (h2 : List AObj) => ∃ s' g', I s' ∧ μ s' < μ s ∧ h2 = hp s' ++ g' ∧ Fits (ps s') env e2) = fun e2 h2 => ∃ s' : S × List AObj, I s'.1 ∧ μ s'.1 < μ s ∧ h2 = hp s'.1 ++ s'.2 ∧ Fits (ps s'.1) env e2 := by
    funext e2 h2
    exact propext ⟨fun ⟨s', g', a, b, c, d⟩ => ⟨(s', g'), a, b, c, d⟩, fun ⟨s', a, b, c, d⟩ => ⟨s'.1, s'.2, a, b, c, d⟩⟩
  rw [mono] at r
  exact r
end

section
variable {α : Type} {f : α → List AV} {m : Nat}
theorem flat_len (hf : ∀ x, (f x).length = m) : ∀ (l : List α), (l.flatMap f).length = l.length * m
  | [] => by simp
  | x :: l => by rw [List.flatMap_cons, List.length_append, hf, flat_len hf l, List.length_cons, Nat.succ_mul, Nat.add_comm]
theorem flat_drop (hf : ∀ x, (f x).length = m) : ∀ (l : List α) (k : Nat), (l.flatMap f).drop (k * m) = (l.drop k).flatMap f
  | l, 0 => by simp
  | [], k + 1 => by simp
  | x :: l, k + 1 => by
    rw [List.flatMap_cons, Nat.succ_mul, Nat.add_comm, ← List.drop_drop, List.drop_left' (hf x), flat_drop hf l k, List.drop_succ_cons]
theorem flat_take (hf : ∀ x, (f x).length = m) : ∀ (l : List α) (k : Nat), (l.flatMap f).take (k * m) = (l.take k).flatMap f
  | l, 0 => by simp
  | [], k + 1 => by simp
  | x :: l, k + 1 => by
    rw [List.flatMap_cons, Nat.succ_mul, Nat.add_comm, List.take_append, hf, Nat.add_sub_cancel_left, flat_take hf l k, List.take_succ_cons, List.flatMap_cons, List.take_of_length_le (by rw [hf]; omega)]
theorem flat_win (hf : ∀ x, (f x).length = m) (l : List α) (k : Nat) : ((l.flatMap f).drop (k * m)).take m = ((l[k]?).map f).getD [] := by
  rw [flat_drop hf]
  have : (l.drop k).flatMap f = ((l[k]?).map f).getD [] ++ (l.drop (k + 1)).flatMap f := by
    cases hk : l[k]? with
    | none =>
      have hle := List.getElem?_eq_none_iff.1 hk
      rw [List.drop_of_length_le hle, List.drop_of_length_le (by omega)]; simp
    | some x =>
      obtain ⟨hlt, hx⟩ := List.getElem?_eq_some_iff.1 hk
      rw [List.drop_eq_getElem_cons hlt, List.flatMap_cons, hx]; simp
  rw [this]
  cases hk : l[k]? with
  | none =>
    have hle := List.getElem?_eq_none_iff.1 hk
    rw [List.drop_of_length_le (by omega)]; simp
  | some x => simp [List.take_left' (hf x)]
theorem flat_get (hf : ∀ x, (f x).length = m) (l : List α) (k : Nat) {j : Nat} (hj : j < m) : (l.flatMap f)[k * m + j]? = (l[k]?).bind fun x => (f x)[j]? := by
  have h1 : (l.flatMap f)[k * m + j]? = ((((l.flatMap f).drop (k * m)).take m))[j]? := by
    rw [List.getElem?_take_of_lt hj, List.getElem?_drop]
  rw [h1, flat_win hf]
  cases hk : l[k]? with
  | none => simp
  | some x => simp
end
end Go.Vo

namespace Go.Vo
section
variable {P : Program} {G : Glob} {dr : Option Nat} {d : Option Nat} {os : List AOper} {K : List AV → List AObj → Prop} {env : List AV} {h : List AObj} {Q : Exit → List AV → List AObj → Prop}
theorem g_true {op : Op} {x : Bool} (h1 : x = true → runOp P G dr op d os K env h) (h2 : x = false → awops P G dr os K (aput env d (.tup [])) h) : guardC P G dr (.b x) true op d os K env h := guard_intro h1 h2
theorem g_false {op : Op} {x : Bool} (h1 : x = false → runOp P G dr op d os K env h) (h2 : x = true → awops P G dr os K (aput env d (.tup [])) h) : guardC P G dr (.b x) false op d os K env h := guard_intro h1 h2
end
theorem fin_eq {h : List AObj} {x r : AV} (hr : r = x) (hp : pers x = true) : Fin h x r := .inl ⟨hr, hp⟩
attribute [go_sem] true_and and_true if_true if_false Bool.false_eq_true Option.some.injEq exists_eq_left' reduceCtorEq or_true false_or true_or or_false
attribute [go_sem] mkEnv Fits
theorem wrap64 {x : Int} (h1 : -9223372036854775808 ≤ x) (h2 : x ≤ 9223372036854775807) : IntKind.i64.wrap x = x := IntWalk.i64_in _ (by omega)
theorem str_nil {s : List UInt8} : decide (s = []) = decide (s.length = 0) := by cases s <;> simp
attribute [go_sem] wrap64 str_nil Int.toNat_zero Bool.not_true Bool.not_false
theorem anat_none {d : Nat} : anat Option.none d = some d := rfl
theorem anat_pos {k : IntKind} {n : Int} {d : Nat} (h : 0 ≤ n) : anat (some (.i k n)) d = some n.toNat := if_pos h
theorem toNat_sub1 {m : Nat} : ((m : Int) - 1).toNat = m - 1 := by omega
theorem toNat_sub2 {m : Nat} : ((m : Int) - 2).toNat = m - 2 := by omega
theorem toNat_add1 {m : Nat} : ((m : Int) + 1).toNat = m + 1 := by omega
theorem toNat_sub21 {m : Nat} (h : 2 ≤ m) : ((m : Int) - 2 + 1).toNat = m - 1 := by omega
attribute [go_sem] anat_none anat_pos toNat_sub1 toNat_sub2 toNat_add1 toNat_sub21 Option.map_none Option.isSome_none Option.isSome_some Option.isNone_none Option.isNone_some Bool.and_false Bool.false_and Bool.true_and Bool.and_true
theorem map_s_get {l : List (List UInt8)} {k : Nat} (h : k < l.length) : (l.map AV.s)[k]? = some (.s (l.getD k [])) := by simp [h]
theorem map_i_get {q : IntKind} {l : List Int} {k : Nat} (h : k < l.length) : (l.map (AV.i q))[k]? = some (.i q (l.getD k 0)) := by simp [h]
attribute [go_sem] map_s_get map_i_get
theorem fin_own {h : List AObj} {id sz n m : Nat} {cells cs : List AV} (hid : h[id]? = some (.arr false sz cs)) (hm : m = n) (hc : cells = cs) (hl : cs.length = n * sz) (hp : persL cs = true) : Fin h (.hs id 0 n false) (.own sz cells m) := by
  subst hm hc
  refine .inr ⟨⟨rfl, rfl, cells, hid, by omega, ?_, hp⟩, by simp [finIds], by simp [finIds, finRch]⟩
  rw [List.drop_zero, List.take_of_length_le (by omega)]
theorem take_all {α : Type} {l : List α} {n : Nat} (h : l.length ≤ n) : l.take n = l := List.take_of_length_le h
attribute [go_sem] List.length_map
def snapS (h : List AObj) (a : AV) : AV :=
  let L := fun l => if persL l then l else l.map (snap 8 h)
  match a with
  | .e0 => .sl [] 0
  | .hs id off n _ => match h[id]? with
    | some (.arr _ sz cells) => if off + n * sz ≤ cells.length then .sl (L ((cells.drop off).take (n * sz))) n else .u
    | _ => .u
  | .ptr id off => match h[id]? with
    | some (.box _ cells) => .box (L cells) off
    | some (.arr _ _ cells) => .box (L cells) off
    | _ => .u
  | .mp id => match h[id]? with
    | some (.map _ ks vs) => .mapv (L ks) (L vs)
    | _ => .u
  | .fn f a b => .fn f (L a) (L b)
  | .agg cs => .agg (L cs)
  | .tup vs => .tup (L vs)
  | _ => .u
theorem snap_dep {h : List AObj} {a : AV} : snap dep h a = if pers a then a else snapS h a := rfl
theorem persL_s {l : List (List UInt8)} : persL (l.map AV.s) = true := by
  induction l with
  | nil => rfl
  | cons x l ih => simp [persL, pers, ih]
theorem persL_i {k : IntKind} {l : List Int} : persL (l.map (AV.i k)) = true := by
  induction l with
  | nil => rfl
  | cons x l ih => simp [persL, pers, ih]
theorem c_ctrE {P : Program} {G : Glob} {dr : Option Nat} {d : Option Nat} {os : List AOper} {K : List AV → List AObj → Prop} {env : List AV} {h : List AObj} {f : FuncId} {A A' : List AV} {r : AV} (s : Ctr P G f A' r) (hA : A.map (snap dep h) = A')
    (k : awops P G dr os K (aput env d (mat r (hAfter r h A)).1) (mat r (hAfter r h A)).2) : callF P G dr f A d os K env h := c_ctr (hA ▸ s) k
theorem take_map {α β : Type} {f : α → β} {l : List α} {k : Nat} : (l.map f).take k = (l.take k).map f := List.map_take.symm
theorem drop_map {α β : Type} {f : α → β} {l : List α} {k : Nat} : (l.map f).drop k = (l.drop k).map f := List.map_drop.symm
theorem len_take {α : Type} {l : List α} {k : Nat} (h : k ≤ l.length) : (l.take k).length = k := by simp; omega
attribute [go_sem] snap_dep snapS persL_s persL_i take_map drop_map len_take List.length_drop Nat.sub_zero
attribute [go_sem] take_all
theorem flatL_s {l : List (List UInt8)} : flatL (l.map AV.s) = true := by
  induction l with
  | nil => rfl
  | cons x l ih => simp [flatL, flat, ih]
theorem flatL_i {k : IntKind} {l : List Int} : flatL (l.map (AV.i k)) = true := by
  induction l with
  | nil => rfl
  | cons x l ih => simp [flatL, flat, ih]
attribute [go_sem] Nat.le_refl flatL_s flatL_i List.take_length List.flatMap_nil List.flatMap_cons freeze AObj.fz
section
variable {P : Program} {G : Glob} {N : Nat} {env : List AV}
def oldOpt (N : Nat) (G : Glob) (env : List AV) : Option Operand → Prop
  | some x => oldRef N (aev G env x)
  | Option.none => True
theorem ck_load {T : TypeId} {x : Operand} : ckOp G N (.load T x) env = oldRef N (aev G env x) := by simp [ckOp, Op.operands, oldAll]
theorem ck_nil {x : Operand} : ckOp G N (.nilCheck x) env = oldRef N (aev G env x) := by simp [ckOp, Op.operands, oldAll]
theorem ck_fieldAddr {T : TypeId} {x : Operand} {f : Nat} : ckOp G N (.fieldAddr T x f) env = oldRef N (aev G env x) := by simp [ckOp, Op.operands, oldAll]
theorem ck_indexAddr {T : TypeId} {x i : Operand} : ckOp G N (.indexAddr T x i) env = (oldRef N (aev G env x) ∧ oldRef N (aev G env i)) := by simp [ckOp, Op.operands, oldAll]
theorem ck_lookup {T : TypeId} {x i : Operand} {ok : Bool} : ckOp G N (.lookup T x i ok) env = (oldRef N (aev G env x) ∧ oldRef N (aev G env i)) := by simp [ckOp, Op.operands, oldAll]
theorem ck_slice {T : TypeId} {x : Operand} {l hi m : Option Operand} : ckOp G N (.slice T x l hi m) env = (oldRef N (aev G env x) ∧ oldOpt N G env l ∧ oldOpt N G env hi ∧ oldOpt N G env m) := by
  cases l <;> cases hi <;> cases m <;> simp [ckOp, Op.operands, oldAll, oldOpt]
theorem ck_len {T : TypeId} {x : Operand} : ckOp G N (.call ⟨.builtin .len, #[x], #[T]⟩) env = oldRef N (aev G env x) := by simp [ckOp, Op.operands, Call.operands, oldAll]
theorem ck_append {T : TypeId} {s x : Operand} : ckOp G N (.call ⟨.builtin .append, #[s, x], #[T, T]⟩) env = newRef N (aev G env s) := by simp [ckOp]
end
theorem get_off {α : Type} {l m : List α} {n : Nat} : (l ++ m)[l.length + n]? = m[n]? := by rw [List.getElem?_append_right (by omega)]; congr 1; omega
theorem get_off0 {α : Type} {l m : List α} : (l ++ m)[l.length]? = m[0]? := by rw [List.getElem?_append_right (by omega)]; congr 1; omega
theorem set_off {α : Type} {l m : List α} {n : Nat} {a : α} : (l ++ m).set (l.length + n) a = l ++ m.set n a := by rw [List.set_append_right _ _ (by omega)]; congr 2; omega
theorem set_off0 {α : Type} {l m : List α} {a : α} : (l ++ m).set l.length a = l ++ m.set 0 a := by rw [List.set_append_right _ _ (by omega)]; congr 2; omega
attribute [go_sem] get_off get_off0 set_off set_off0 List.append_assoc List.length_append
attribute [go_sem] ck_load ck_nil ck_fieldAddr ck_indexAddr ck_lookup ck_slice ck_len ck_append oldOpt oldRef newRef AV.refs

/-! ## a slice that grows -/
/-- what a slice of our own holds; N objects lie before the others -/
def OutIs (sz N : Nat) (g : List AObj) (out : AV) (cells : List AV) (n : Nat) : Prop :=
  (out = .e0 ∧ cells = [] ∧ n = 0) ∨ ∃ i, out = .hs (i + N) 0 n false ∧ g[i]? = some (.arr false sz cells) ∧ cells.length = n * sz
theorem outIs_e0 {sz N : Nat} {g : List AObj} : OutIs sz N g .e0 [] 0 := .inl ⟨rfl, rfl, rfl⟩
theorem OutIs.more {sz N : Nat} {g : List AObj} {out : AV} {cells : List AV} {n : Nat} (h : OutIs sz N g out cells n) (g' : List AObj) : OutIs sz N (g ++ g') out cells n := by
  rcases h with h | ⟨i, h1, h2, h3⟩
  · exact .inl h
  · exact .inr ⟨i, h1, by rw [List.getElem?_append_left (lt_of_some h2)]; exact h2, h3⟩
theorem OutIs.len {sz N : Nat} {g : List AObj} {out : AV} {cells : List AV} {n : Nat} (h : OutIs sz N g out cells n) : cells.length = n * sz := by
  rcases h with ⟨_, h2, h3⟩ | ⟨i, h1, h2, h3⟩
  · simp [h2, h3]
  · exact h3

section
variable {P : Program} {G : Glob} {dr : Option Nat} {d : Option Nat} {os : List AOper} {K : List AV → List AObj → Prop} {env : List AV}
/-- AN APPEND TO A SLICE OF OUR OWN -/
theorem app_intro {pre g : List AObj} {T e by_ : Nat} {z : List AV} {out x : AV} {cells news : List AV} {n m : Nat} (ho : OutIs z.length pre.length g out cells n) (hT : elemOf? P T = some e) (hz : zeroOf P e = some z) (hs : szOf P e = some z.length) (hb : byOf P e = some by_)
    (hpos : 0 < z.length) (hp : winPers (pre ++ g) x = true) (hx : awin (pre ++ g) z.length x = some (news, m)) (hbd : (n + m) * by_ ≤ 140737488355328 ∧ n + m ≤ 140737488355328)
    (k : ∀ out' g', OutIs z.length pre.length g' out' (cells ++ news) (n + m) → (∀ (i : Nat) (o : AObj), g[i]? = some o → (∀ c : List AV, o ≠ .arr false z.length c) → g'[i]? = some o) → awops P G dr os K (aput env d out') (pre ++ g')) : contVH P G dr (aappS P (pre ++ g) T out x) d os K env := by
  have hm : news.length = m * z.length := by
    cases x with
    | e0 => simp only [awin, Option.some.injEq, Prod.mk.injEq] at hx; obtain ⟨rfl, rfl⟩ := hx; simp
    | sl c q =>
      simp only [awin] at hx
      split at hx
      · simp only [Option.some.injEq, Prod.mk.injEq] at hx; obtain ⟨rfl, rfl⟩ := hx; assumption
      · cases hx
    | hs id off q t =>
      simp only [awin] at hx
      split at hx
      · split at hx
        · rename_i hc
          simp only [Option.some.injEq, Prod.mk.injEq] at hx; obtain ⟨rfl, rfl⟩ := hx
          rw [List.length_take, List.length_drop]; omega
        · cases hx
      · cases hx
    | _ => simp [awin] at hx
  have e1 : aappS P (pre ++ g) T out x = aappend P (pre ++ g) T out x := by simp [aappS, hp]
  rw [e1]
  rcases ho with ⟨rfl, rfl, rfl⟩ | ⟨i, rfl, hi, hl⟩
  · have e2 : aappend P (pre ++ g) T .e0 x = some (.hs (pre ++ g).length 0 m false, (pre ++ g) ++ [.arr false z.length news]) := by
      simp only [aappend, hT, hz, hb, hpos, hs, hx, and_self, if_true, true_and]
      rw [if_pos (by simpa using hbd)]
    rw [e2]
    show awops P G dr os K _ _
    rw [List.append_assoc]
    refine k _ _ (.inr ⟨g.length, ?_, by simp, by simpa using hm⟩) (fun i o ho _ => by rw [List.getElem?_append_left (lt_of_some ho)]; exact ho)
    simp [Nat.add_comm]
  · have hlt := lt_of_some hi
    have hg : (pre ++ g)[i + pre.length]? = some (.arr false z.length cells) := by
      rw [List.getElem?_append_right (by omega)]; simpa using hi
    have e2 : aappend P (pre ++ g) T (.hs (i + pre.length) 0 n false) x = some (.hs (pre ++ g).length 0 (n + m) false, (pre ++ g).set (i + pre.length) .dead ++ [.arr false z.length (cells ++ news)]) := by
      simp only [aappend, hT, hz, hb, hpos, hs, hx, hg, and_self, if_true, true_and, hl, Nat.zero_add, Nat.le_refl, hbd, Bool.false_eq_true, if_false, List.drop_zero]
    rw [e2]
    show awops P G dr os K _ _
    rw [List.set_append_right _ _ (by omega), List.append_assoc, Nat.add_sub_cancel]
    refine k _ _ (.inr ⟨g.length, ?_, by simp, ?_⟩) (fun j o hj hn => ?_)
    · simp [Nat.add_comm]
    · rw [List.length_append, hl, hm, Nat.add_mul]
    · have hne : i ≠ j := by
        rintro rfl
        rw [hi] at hj; cases hj
        exact hn _ rfl
      rw [List.getElem?_append_left (by simpa using lt_of_some hj), List.getElem?_set_ne hne]
      exact hj
theorem app_intro' {h pre g more : List AObj} {T e by_ sz N : Nat} {z : List AV} {out x : AV} {cells news : List AV} {n m : Nat} (ho : OutIs sz N g out cells n) (hN : pre.length = N) (hh : h = pre ++ (g ++ more)) (hT : elemOf? P T = some e) (hz : zeroOf P e = some z) (hs : szOf P e = some sz) (hb : byOf P e = some by_)
    (hzl : z.length = sz) (hpos : 0 < sz) (hp : winPers h x = true) (hx : awin h sz x = some (news, m)) (hbd : (n + m) * by_ ≤ 140737488355328 ∧ n + m ≤ 140737488355328)
    (k : ∀ out' g', OutIs sz N g' out' (cells ++ news) (n + m) → (∀ (i : Nat) (o : AObj), g[i]? = some o → (∀ c : List AV, o ≠ .arr false sz c) → g'[i]? = some o) → awops P G dr os K (aput env d out') (pre ++ g')) : contVH P G dr (aappS P h T out x) d os K env := by
  subst hh hzl hN
  exact app_intro (ho.more more) hT hz hs hb hpos hp hx hbd (fun out' g' h1 h2 => k out' g' h1 (fun i o hi hn => h2 i o (by rw [List.getElem?_append_left (lt_of_some hi)]; exact hi) hn))
end
theorem fin_out {pre g : List AObj} {sz n : Nat} {out : AV} {cells : List AV} (ho : OutIs sz pre.length g out cells n) (hp : persL cells = true) : Fin (pre ++ g) out (.own sz cells n) := by
  rcases ho with ⟨rfl, rfl, rfl⟩ | ⟨i, rfl, hi, hl⟩
  · exact .inr ⟨⟨rfl, rfl⟩, by simp [finIds], by simp [finIds]⟩
  · exact fin_own (by rw [List.getElem?_append_right (by omega)]; simpa using hi) rfl rfl hl hp
end Go.Vo
set_option linter.unusedVariables false
set_option linter.unusedSimpArgs false
set_option linter.constructorNameAsVariable false
namespace Go.Vo

def snapK (k : Nat) (h : List AObj) (a : AV) : AV :=
  let L := fun l => if persL l then l else l.map (snap k h)
  match a with
  | .e0 => .sl [] 0
  | .hs id off n _ => match h[id]? with
    | some (.arr _ sz cells) => if off + n * sz ≤ cells.length then .sl (L ((cells.drop off).take (n * sz))) n else .u
    | _ => .u
  | .ptr id off => match h[id]? with
    | some (.box _ cells) => .box (L cells) off
    | some (.arr _ _ cells) => .box (L cells) off
    | _ => .u
  | .mp id => match h[id]? with
    | some (.map _ ks vs) => .mapv (L ks) (L vs)
    | _ => .u
  | .fn f a b => .fn f (L a) (L b)
  | .agg cs => .agg (L cs)
  | .tup vs => .tup (L vs)
  | _ => .u
def reachK (k : Nat) (h : List AObj) (a : AV) : List Nat :=
  let L := fun l => if persL l then [] else l.flatMap (reach k h)
  match a with
  | .hs id off n _ => match h[id]? with
    | some (.arr _ sz cells) => id :: L ((cells.drop off).take (n * sz))
    | _ => []
  | .ptr id off => match h[id]? with
    | some (.box _ cells) => id :: L cells
    | some (.arr _ _ cells) => id :: L cells
    | _ => []
  | .mp id => match h[id]? with
    | some (.map _ ks vs) => id :: (L ks ++ L vs)
    | _ => []
  | .fn f a b => L a ++ L b
  | .agg cs => L cs
  | .tup vs => L vs
  | _ => []
theorem reach_dep {h : List AObj} {a : AV} : reach dep h a = if pers a then [] else reachK 8 h a := rfl
theorem snap_8 {h : List AObj} {a : AV} : snap 8 h a = if pers a then a else snapK 7 h a := rfl
theorem reach_8 {h : List AObj} {a : AV} : reach 8 h a = if pers a then [] else reachK 7 h a := rfl
theorem snap_7 {h : List AObj} {a : AV} : snap 7 h a = if pers a then a else snapK 6 h a := rfl
theorem reach_7 {h : List AObj} {a : AV} : reach 7 h a = if pers a then [] else reachK 6 h a := rfl
theorem snap_6 {h : List AObj} {a : AV} : snap 6 h a = if pers a then a else snapK 5 h a := rfl
theorem reach_6 {h : List AObj} {a : AV} : reach 6 h a = if pers a then [] else reachK 5 h a := rfl
theorem snap_5 {h : List AObj} {a : AV} : snap 5 h a = if pers a then a else snapK 4 h a := rfl
theorem reach_5 {h : List AObj} {a : AV} : reach 5 h a = if pers a then [] else reachK 4 h a := rfl
theorem snap_4 {h : List AObj} {a : AV} : snap 4 h a = if pers a then a else snapK 3 h a := rfl
theorem reach_4 {h : List AObj} {a : AV} : reach 4 h a = if pers a then [] else reachK 3 h a := rfl
theorem fz_0 {a : AObj} {l : List AObj} {f : AObj → AObj} : (a :: l).modify 0 f = f a :: l := rfl
theorem fz_s {a : AObj} {l : List AObj} {n : Nat} {f : AObj → AObj} : (a :: l).modify (n + 1) f = a :: l.modify n f := rfl
theorem fz_off {l m : List AObj} {n : Nat} {f : AObj → AObj} : (l ++ m).modify (l.length + n) f = l ++ m.modify n f := by
  apply List.ext_getElem?
  intro i
  rw [List.getElem?_modify]
  by_cases h : i < l.length
  · rw [List.getElem?_append_left h, List.getElem?_append_left h]
    have : l.length + n ≠ i := by omega
    simp [this]
  · rw [List.getElem?_append_right (by omega), List.getElem?_append_right (by omega), List.getElem?_modify]
    by_cases e : l.length + n = i
    · subst e; simp
    · have : n ≠ i - l.length := by omega
      simp [e, this]
theorem fz_off0 {l m : List AObj} {f : AObj → AObj} : (l ++ m).modify l.length f = l ++ m.modify 0 f := by
  have := fz_off (l := l) (m := m) (n := 0) (f := f); simpa using this
attribute [go_sem] reach_dep snap_8 reach_8 snap_7 reach_7 snap_6 reach_6 snap_5 reach_5 snap_4 reach_4 snapK reachK fz_0 fz_s fz_off fz_off0
end Go.Vo
