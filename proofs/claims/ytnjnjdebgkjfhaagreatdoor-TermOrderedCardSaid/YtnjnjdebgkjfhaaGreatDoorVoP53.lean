/-
  The abstract layer, part P: a statement whose order Go leaves open: run in the order of its text it stands for every order. It speaks of any program that mixes its orders; no condition.
  The abstract layer, part Pa: a statement whose order Go leaves open: run in the order of its text it stands for every order. It speaks of any program that mixes its orders; no condition.
  The abstract layer, part Pb: an object that had no block gets one; what grows; the free variables first. It speaks of any program; no condition.
  The abstract layer, part Pc: a statement whose order Go leaves open: run in the order of its text it stands for every order. It speaks of any program that mixes its orders; no condition.
  The abstract layer, part Pd: a statement of open order whose last operation comes behind all others: that operation may change what is there. It speaks of any program that mixes its orders; no condition.
  The abstract layer, part S: the code: what is shown of abstract states holds of the model's run. It speaks of any program that mixes its orders; no condition.
  The abstract layer, part Q: what a function returns, and how a contract is proved. It speaks of any program; no condition.
-/
import Derived.Test.YtnjnjdebgkjfhaaGreatDoorVoP52
import Derived.Orders
set_option linter.unusedVariables false
set_option linter.unusedSimpArgs false
set_option linter.constructorNameAsVariable false
namespace Go.Vo

inductive DK where
 | c | a | r | w | l
 deriving DecidableEq

def isFree (o : Oper) : Bool :=
 match o.op with
 | .alloc _ => o.guard.isNone && (anyPre o).isEmpty
 | _ => false

def dkind (o : Oper) : Option DK :=
 match o.op with
 | .move _ | .assign _ | .pick .. | .binOp .. | .unOp .. | .convert .. | .makeFunc .. | .field .. | .index .. | .extract .. | .build .. => some .c
 | .alloc _ => if isFree o then some .a else some .w
 | .load .. | .nilCheck _ | .slice .. | .fieldAddr .. | .indexAddr .. | .lookup .. => some .r
 | .buildSlice _ n ps => if (n == 0 && ps.toList.isEmpty || cslL ps.toList) && o.guard.isNone then some .c else some .w
 | .box .. | .makeSlice .. | .makeMap .. => some .w
 | .store .. | .mapUpdate .. => some .l
 | .call c => match c.callee with
   | .builtin .len => some .r
   | .builtin .append => some .l
   | .value _ => some .w
   | _ => Option.none
 | _ => Option.none

def otmps (op : Op) : List Nat := op.operands.toList.filterMap fun | .tmp t => some t | _ => Option.none
def gtmp (ops : Array Oper) (o : Oper) : List Nat :=
 match o.guard with
 | some (j, _) => ((ops[j]?).bind (·.dst)).toList
 | Option.none => []
def ouses (ops : Array Oper) (o : Oper) : List Nat := o.dst.toList ++ (otmps o.op ++ gtmp ops o)

def kindsOK : DK → DK → Bool
 | .w, .w | .w, .l | .l, .w | .l, .l | .r, .l | .l, .r => false
 | _, _ => true

def isMut (o : Oper) : Bool := isApp o || isStore o
def laxOK (rx : Bool) (ops : Array Oper) (p q : Oper) : Bool :=
 rx && ckOf ops p && ckOf ops q && ((dkind p == some .r && isMut q) || (dkind q == some .r && isMut p))

def indepOK (rx : Bool) (ops : Array Oper) (p q : Oper) : Bool :=
 p.dst.all (fun d => !(ouses ops q).contains d) && q.dst.all (fun d => !(ouses ops p).contains d) &&
   ((match dkind p, dkind q with
   | some a, some b => kindsOK a b
   | _, _ => false) || ((dkind p).isSome && (dkind q).isSome && laxOK rx ops p q))

section
variable {P : Program} {G : Glob}

def DOp (P : Program) (G : Glob) (op : Op) (env : List AV) (h : List AObj) (x : AV) (h' : List AObj) : Prop := awop P G true op (fun x1 h1 => x1 = x ∧ h1 = h') env h

theorem optK_iff {q : Option (AV × List AObj)} {K : AV → List AObj → Prop} : optK q K ↔ ∃ x h', optK q (fun x1 h1 => x1 = x ∧ h1 = h') ∧ K x h' := by
 cases q with
 | none => simp [optK]
 | some q => obtain ⟨x, h'⟩ := q; exact ⟨fun hK => ⟨x, h', ⟨rfl, rfl⟩, hK⟩, fun ⟨x', h'', ⟨e1, e2⟩, hK⟩ => by subst e1; subst e2; exact hK⟩

theorem awop_iff {op : Op} {K : AV → List AObj → Prop} {env : List AV} {h : List AObj} : awop P G true op K env h ↔ ∃ x h', DOp P G op env h x h' ∧ K x h' := by
 unfold DOp
 cases op with
 | call c =>
   simp only [awop, acall]
   cases c.callee with
   | builtin b =>
     cases b <;> first
       | exact optK_iff
       | skip
     simp only
     split
     · split
       · split <;> exact optK_iff
       · split
         · exact optK_iff
         · simp
     · simp
   | value f =>
     simp only
     cases aev G env f <;> simp only [kcall, if_true, false_and, exists_const, exists_false]
     exact ⟨fun ⟨r, s, k⟩ => ⟨_, _, ⟨r, s, rfl, rfl⟩, k⟩, fun ⟨x, h', ⟨r, s, e1, e2⟩, k⟩ => ⟨r, s, by rw [e1, e2]; exact k⟩⟩
   | invoke _ _ => simp
 | mapUpdate T m k x =>
   simp only [awop]
   split
   · cases amapUpdate P h T (aev G env m) (aev G env k) (aev G env x) with
     | none => simp
     | some h' => exact ⟨fun hK => ⟨_, _, ⟨rfl, rfl⟩, hK⟩, fun ⟨x', h'', ⟨e1, e2⟩, hK⟩ => by subst e1; subst e2; exact hK⟩
   · cases amapUpdate P (freeze (reach dep h (aev G env x)) h) T (aev G env m) (aev G env k) (snap dep h (aev G env x)) with
     | none => simp
     | some h' => exact ⟨fun hK => ⟨_, _, ⟨rfl, rfl⟩, hK⟩, fun ⟨x', h'', ⟨e1, e2⟩, hK⟩ => by subst e1; subst e2; exact hK⟩
 | range T x => simp [awop]
 | entry x => simp [awop]
 | next x b => cases b with
   | true => simp [awop]
   | false => simp [awop]
 | _ => simp only [awop]; exact optK_iff

theorem map_aev_congr {env env' : List AV} {xs : Array Operand} (he : ∀ o ∈ xs.toList, aev G env o = aev G env' o) : xs.toList.map (aev G env) = xs.toList.map (aev G env') := List.map_congr_left he

theorem opt_aev_congr {env env' : List AV} {o : Option Operand} (he : ∀ x ∈ o.toArray.toList, aev G env x = aev G env' x) : o.map (aev G env) = o.map (aev G env') := by
 cases o with
 | none => rfl
 | some x => simp only [Option.map_some, Option.some.injEq]; exact he x (by simp)

theorem awop_congr {op : Op} {K : AV → List AObj → Prop} {env env' : List AV} {h : List AObj} (he : ∀ o ∈ op.operands.toList, aev G env o = aev G env' o) (e : awop P G true op K env h) : awop P G true op K env' h := by
 have one : ∀ o, o ∈ op.operands.toList → aev G env' o = aev G env o := fun o ho => (he o ho).symm
 cases op with
 | call c =>
   simp only [awop, acall] at e ⊢
   have hargs : c.args.toList.map (aev G env') = c.args.toList.map (aev G env) := (map_aev_congr (fun o ho => he o (by simp only [Op.operands, Call.operands]; cases c.callee <;> simp <;> simp at ho <;> (first | exact ho | exact .inr ho)))).symm
   rw [hargs]
   cases hc : c.callee with
   | builtin b => rw [hc] at e; cases b <;> exact e
   | value f =>
     rw [hc] at e
     simp only at e ⊢
     rw [one f (by simp [Op.operands, Call.operands, hc])]
     exact e
   | invoke _ _ => rw [hc] at e; exact e
 | mapUpdate T m k x =>
   simp only [awop] at e ⊢
   rw [one m (by simp [Op.operands]), one k (by simp [Op.operands]), one x (by simp [Op.operands])]
   exact e
 | move x => simp only [awop, aop] at e ⊢; rw [one x (by simp [Op.operands])]; exact e
 | assign x => simp only [awop, aop] at e ⊢; rw [one x (by simp [Op.operands])]; exact e
 | pick c a b => simp only [awop, aop] at e ⊢; rw [one c (by simp [Op.operands]), one a (by simp [Op.operands]), one b (by simp [Op.operands])]; exact e
 | alloc T => exact e
 | box T x => simp only [awop, aop] at e ⊢; rw [one x (by simp [Op.operands])]; exact e
 | build T ps =>
   simp only [awop, aop] at e ⊢
   have : (ps.toList.map fun (i, x) => (i, aev G env' x)) = ps.toList.map fun (i, x) => (i, aev G env x) := by
     apply List.map_congr_left
     rintro ⟨i, x⟩ hp
     simp only
     rw [one x (by simp only [Op.operands]; simp; exact ⟨i, by simpa using hp⟩)]
   rw [this]; exact e
 | buildSlice T n ps =>
   simp only [awop, aop] at e ⊢
   have : (ps.toList.map fun (i, x) => (i, aev G env' x)) = ps.toList.map fun (i, x) => (i, aev G env x) := by
     apply List.map_congr_left
     rintro ⟨i, x⟩ hp
     simp only
     rw [one x (by simp only [Op.operands]; simp; exact ⟨i, by simpa using hp⟩)]
   rw [this]; exact e
 | load T x => simp only [awop, aop] at e ⊢; rw [one x (by simp [Op.operands])]; exact e
 | store T x y => simp only [awop, aop] at e ⊢; rw [one x (by simp [Op.operands]), one y (by simp [Op.operands])]; exact e
 | nilCheck x => simp only [awop, aop] at e ⊢; rw [one x (by simp [Op.operands])]; exact e
 | binOp op T x y U => simp only [awop, aop] at e ⊢; rw [one x (by simp [Op.operands]), one y (by simp [Op.operands])]; exact e
 | unOp op T x => simp only [awop, aop] at e ⊢; rw [one x (by simp [Op.operands])]; exact e
 | convert S T x => simp only [awop, aop] at e ⊢; rw [one x (by simp [Op.operands])]; exact e
 | makeFunc fn a b =>
   cases fn with
   | func f =>
     simp only [awop, aop] at e ⊢
     have h1 : a.toList.map (aev G env') = a.toList.map (aev G env) := (map_aev_congr (fun o ho => he o (by simp only [Op.operands]; simp; simp at ho; exact .inl ho))).symm
     have h2 : b.toList.map (aev G env') = b.toList.map (aev G env) := (map_aev_congr (fun o ho => he o (by simp only [Op.operands]; simp; simp at ho; exact .inr ho))).symm
     rw [h1, h2]; exact e
   | _ => exact e
 | makeMap T r => cases r <;> exact e
 | makeSlice T l c => simp only [awop, aop] at e ⊢; rw [one l (by simp [Op.operands]), one c (by simp [Op.operands])]; exact e
 | slice T x l hi m =>
   simp only [awop, aop] at e ⊢
   have h1 : l.map (aev G env') = l.map (aev G env) := (opt_aev_congr (fun o ho => he o (by simp only [Op.operands]; simp at ho ⊢; simp [ho]))).symm
   have h2 : hi.map (aev G env') = hi.map (aev G env) := (opt_aev_congr (fun o ho => he o (by simp only [Op.operands]; simp at ho ⊢; simp [ho]))).symm
   have h3 : m.map (aev G env') = m.map (aev G env) := (opt_aev_congr (fun o ho => he o (by simp only [Op.operands]; simp at ho ⊢; simp [ho]))).symm
   rw [h1, h2, h3, one x (by simp [Op.operands])]; exact e
 | fieldAddr S x f => simp only [awop, aop] at e ⊢; rw [one x (by simp [Op.operands])]; exact e
 | field T x f => simp only [awop, aop] at e ⊢; rw [one x (by simp [Op.operands])]; exact e
 | indexAddr T x i => simp only [awop, aop] at e ⊢; rw [one x (by simp [Op.operands]), one i (by simp [Op.operands])]; exact e
 | index T x i => simp only [awop, aop] at e ⊢; rw [one x (by simp [Op.operands]), one i (by simp [Op.operands])]; exact e
 | lookup T m k ok => simp only [awop, aop] at e ⊢; rw [one m (by simp [Op.operands]), one k (by simp [Op.operands])]; exact e
 | extract x i => simp only [awop, aop] at e ⊢; rw [one x (by simp [Op.operands])]; exact e
 | range T x => simp [awop] at e
 | entry x => simp [awop] at e
 | next x b => cases b with
   | true => simp [awop] at e
   | false => simp [awop] at e
 | _ => simp only [awop, aop, optK] at e

def AObj.strip : AObj → AObj
 | .box _ c => .box false c
 | .arr _ s c => .arr false s c
 | .map _ k v => .map false k v
 | o => o

def SameAt (h h' : List AObj) (a : AV) : Prop := ∀ id, a.refs = some id → h[id]? = Option.none ∨ (h[id]?).map AObj.strip = (h'[id]?).map AObj.strip

theorem same_get {h h' : List AObj} {id : Nat} {ob : AObj} (s : h[id]? = Option.none ∨ (h[id]?).map AObj.strip = (h'[id]?).map AObj.strip) (e : h[id]? = some ob) : ∃ ob', h'[id]? = some ob' ∧ ob.strip = ob'.strip := by
 rcases s with s | s
 · rw [e] at s; cases s
 · rw [e] at s
   cases h2 : h'[id]? with
   | none => simp [h2] at s
   | some ob' => simp [h2] at s; exact ⟨ob', rfl, s⟩

theorem strip_box {ob ob' : AObj} {fz : Bool} {c : List AV} (e : ob.strip = ob'.strip) (h : ob = .box fz c) : ∃ fz', ob' = .box fz' c := by
 subst h; cases ob' <;> simp [AObj.strip] at e; exact ⟨_, by rw [e]⟩
theorem strip_arr {ob ob' : AObj} {fz : Bool} {s : Nat} {c : List AV} (e : ob.strip = ob'.strip) (h : ob = .arr fz s c) : ∃ fz', ob' = .arr fz' s c := by
 subst h; cases ob' <;> simp [AObj.strip] at e; exact ⟨_, by rw [e.1, e.2]⟩
theorem strip_held {ob ob' : AObj} {m : Bool} {q : Option (Nat × Obj) → Prop} (e : ob.strip = ob'.strip) (h : ob = .held m q) : ob' = .held m q := by
 subst h; cases ob' <;> simp [AObj.strip] at e; rw [e.1, e.2]
theorem strip_map {ob ob' : AObj} {fz : Bool} {k v : List AV} (e : ob.strip = ob'.strip) (h : ob = .map fz k v) : ∃ fz', ob' = .map fz' k v := by
 subst h; cases ob' <;> simp [AObj.strip] at e; exact ⟨_, by rw [e.1, e.2]⟩

theorem aobj_same {h h' : List AObj} {a : AV} {q : List AV × Nat} (s : SameAt h h' a) (e : aobj h a = some q) : aobj h' a = some q := by
 cases a with
 | ptr id off =>
   simp only [aobj] at e ⊢
   cases ho : h[id]? with
   | none => simp [ho] at e
   | some ob =>
     obtain ⟨ob', h1, h2⟩ := same_get (s id rfl) ho
     cases ob with
     | box fz c => obtain ⟨fz', rfl⟩ := strip_box h2 rfl; simpa [ho, h1] using e
     | arr fz n c => obtain ⟨fz', rfl⟩ := strip_arr h2 rfl; simpa [ho, h1] using e
     | _ => simp [ho] at e
 | box cells off => exact e
 | _ => simp [aobj] at e

theorem aload_same {h h' : List AObj} {T : TypeId} {a x : AV} (s : SameAt h h' a) (e : aload P T h a = some x) : aload P T h' a = some x := by
 unfold aload at e ⊢
 cases ho : aobj h a with
 | none => simp [ho] at e
 | some q => rw [ho] at e; rw [aobj_same s ho]; exact e

theorem aslice_same {h h' : List AObj} {T : TypeId} {x y : AV} {lo hi mx : Option AV} (s : SameAt h h' x) (e : aslice P h T x lo hi mx = some y) : aslice P h' T x lo hi mx = some y := by
 cases x with
 | hs id off n t =>
   unfold aslice at e ⊢
   split at e
   · cases e
   rename_i hc
   rw [if_neg hc]
   cases hu : P.underlying T with
   | none => simp [hu] at e
   | some d =>
     rw [hu] at e
     cases d with
     | slice el =>
       simp only at e ⊢
       cases hs : szOf P el with
       | none => simp [hs] at e
       | some sz =>
         simp only [hs] at e ⊢
         cases ho : h[id]? with
         | none => simp [ho] at e
         | some ob =>
           obtain ⟨ob', h1, h2⟩ := same_get (s id rfl) ho
           cases ob with
           | arr fz k c => obtain ⟨fz', rfl⟩ := strip_arr h2 rfl; simp only [ho] at e; simp only [h1]; exact e
           | _ => simp [ho] at e
     | _ => exact e
 | ptr id off =>
   unfold aslice at e ⊢
   split at e
   · cases e
   rename_i hc
   rw [if_neg hc]
   cases hu : P.underlying T with
   | none => simp [hu] at e
   | some d =>
     rw [hu] at e
     cases d with
     | array len el =>
       simp only at e ⊢
       split at e
       case h_2 => cases e
       split at e
       case h_2 => cases e
       rename_i he
       cases he
       split at e
       case h_2 => cases e
       rename_i ho
       obtain ⟨ob', h1, h2⟩ := same_get (s id rfl) ho
       obtain ⟨fz', rfl⟩ := strip_arr h2 rfl
       simp only [h1]
       exact e
     | _ => exact e
 | _ => exact e

theorem aindexAddr_same {h h' : List AObj} {T : TypeId} {x i y : AV} (s : SameAt h h' x) (e : aindexAddr P h T x i = some y) : aindexAddr P h' T x i = some y := by
 unfold aindexAddr at e ⊢
 cases i with
 | i k n =>
   simp only at e ⊢
   cases hu : P.underlying T with
   | none => simp [hu] at e
   | some d =>
     rw [hu] at e
     cases d with
     | slice el =>
       simp only at e ⊢
       cases hs : szOf P el with
       | none => simp [hs] at e
       | some sz =>
         simp only [hs] at e ⊢
         cases x with
         | hs id off len t =>
           simp only at e ⊢
           cases ho : h[id]? with
           | none => simp [ho] at e
           | some ob =>
             obtain ⟨ob', h1, h2⟩ := same_get (s id rfl) ho
             cases ob with
             | arr fz k c => obtain ⟨fz', rfl⟩ := strip_arr h2 rfl; simp only [ho] at e; simp only [h1]; exact e
             | _ => simp [ho] at e
         | _ => exact e
     | array len el =>
       simp only at e ⊢
       cases hs : szOf P el with
       | none => simp [hs] at e
       | some sz =>
         simp only [hs] at e ⊢
         split at e
         case isFalse => cases e
         rename_i hc
         rw [if_pos hc]
         cases x with
         | ptr id off =>
           simp only at e ⊢
           cases ho : h[id]? with
           | none => simp [ho] at e
           | some ob =>
             obtain ⟨ob', h1, h2⟩ := same_get (s id rfl) ho
             cases ob with
             | arr fz k c => obtain ⟨fz', rfl⟩ := strip_arr h2 rfl; simp only [ho] at e; simp only [h1]; exact e
             | box fz c => obtain ⟨fz', rfl⟩ := strip_box h2 rfl; simp only [ho] at e; simp only [h1]; exact e
             | _ => simp [ho] at e
         | _ => exact e
     | _ => exact e
 | _ => exact e

theorem amapOf_same {h h' : List AObj} {a : AV} {q : List AV × List AV} (s : SameAt h h' a) (e : amapOf h a = some q) : amapOf h' a = some q := by
 cases a with
 | mp id =>
   simp only [amapOf] at e ⊢
   cases ho : h[id]? with
   | none => simp [ho] at e
   | some ob =>
     obtain ⟨ob', h1, h2⟩ := same_get (s id rfl) ho
     cases ob with
     | map fz k v => obtain ⟨fz', rfl⟩ := strip_map h2 rfl; simpa [ho, h1] using e
     | _ => simp [ho] at e
 | p v => cases v with
   | map m => cases m <;> exact e
   | _ => exact e
 | _ => exact e

theorem alookup_same {h h' : List AObj} {T : TypeId} {m k x : AV} {ok : Bool} (s : SameAt h h' m) (e : alookup P h T m k ok = some x) : alookup P h' T m k ok = some x := by
 unfold alookup at e ⊢
 cases hu : P.underlying T with
 | none => simp [hu] at e
 | some d =>
   rw [hu] at e
   cases d with
   | map K E =>
     simp only at e ⊢
     split at e
     case isFalse => cases e
     rename_i hk
     rw [if_pos hk]
     cases hm : amapOf h m with
     | none => simp [hm] at e
     | some q => rw [hm] at e; rw [amapOf_same s hm]; exact e
   | _ => exact e

theorem alen_same {h h' : List AObj} {T : TypeId} {a : AV} {n : Nat} (s : SameAt h h' a) (e : alen P h T a = some n) : alen P h' T a = some n := by
 unfold alen at e ⊢
 cases hu : P.underlying T with
 | none => simp [hu] at e
 | some d =>
   rw [hu] at e
   cases d with
   | string => exact e
   | slice el =>
     cases a with
     | hs id off k t =>
       simp only at e ⊢
       cases ho : h[id]? with
       | none => simp [ho] at e
       | some ob =>
         obtain ⟨ob', h1, h2⟩ := same_get (s id rfl) ho
         cases ob with
         | arr fz k c => obtain ⟨fz', rfl⟩ := strip_arr h2 rfl; simp only [ho] at e; simp only [h1]; exact e
         | _ => simp [ho] at e
     | _ => exact e
   | map K E =>
     cases a with
     | mp id =>
       simp only at e ⊢
       cases ho : h[id]? with
       | none => simp [ho] at e
       | some ob =>
         obtain ⟨ob', h1, h2⟩ := same_get (s id rfl) ho
         cases ob with
         | map fz k v => obtain ⟨fz', rfl⟩ := strip_map h2 rfl; simp only [ho] at e; simp only [h1]; exact e
         | _ => simp [ho] at e
     | p v => cases v with
       | map m => cases m <;> exact e
       | _ => exact e
     | _ => exact e
   | _ => exact e

def rOp : Op → Bool
 | .move _ | .assign _ | .pick .. | .load .. | .nilCheck _ | .binOp .. | .unOp .. | .convert .. | .makeFunc .. | .slice .. | .fieldAddr .. | .field .. | .indexAddr .. | .index .. | .lookup .. | .extract .. | .build .. => true
 | .call c => match c.callee with | .builtin .len => true | _ => false
 | _ => false

theorem reader_ok {op : Op} (hk : rOp op = true) {env : List AV} {h hh : List AObj} {x : AV} (e : DOp P G op env h x hh) :
   hh = h ∧ ∀ h', (∀ o ∈ op.operands.toList, SameAt h h' (aev G env o)) → DOp P G op env h' x h' := by
 unfold DOp at e ⊢
 have fin : ∀ {q : List AObj → Option AV}, optK (match q h with | some v => some (v, h) | Option.none => Option.none) (fun x1 h1 => x1 = x ∧ h1 = hh) →
     (∀ h', (∀ o ∈ op.operands.toList, SameAt h h' (aev G env o)) → ∀ v, q h = some v → q h' = some v) →
     hh = h ∧ ∀ h', (∀ o ∈ op.operands.toList, SameAt h h' (aev G env o)) → optK (match q h' with | some v => some (v, h') | Option.none => Option.none) (fun x1 h1 => x1 = x ∧ h1 = h') := by
   intro q e hq
   cases hv : q h with
   | none => rw [hv] at e; exact e.elim
   | some v =>
     rw [hv] at e
     obtain ⟨e1, e2⟩ := e
     refine ⟨e2.symm, fun h' hs => ?_⟩
     rw [hq h' hs v hv]
     exact ⟨e1, rfl⟩
 have const : ∀ {q : Option AV}, optK (match q with | some v => some (v, h) | Option.none => Option.none) (fun x1 h1 => x1 = x ∧ h1 = hh) →
     hh = h ∧ ∀ h', (∀ o ∈ op.operands.toList, SameAt h h' (aev G env o)) → optK (match q with | some v => some (v, h') | Option.none => Option.none) (fun x1 h1 => x1 = x ∧ h1 = h') := by
   intro q e
   cases q with
   | none => exact e.elim
   | some v => exact ⟨e.2.symm, fun h' _ => ⟨e.1, rfl⟩⟩
 cases op with
 | move y => exact ⟨e.2.symm, fun h' _ => ⟨e.1, rfl⟩⟩
 | assign y => exact ⟨e.2.symm, fun h' _ => ⟨e.1, rfl⟩⟩
 | pick c y z =>
   simp only [awop, aop] at e ⊢
   cases hc : aev G env c with
   | b t => rw [hc] at e; exact ⟨e.2.symm, fun h' _ => ⟨e.1, rfl⟩⟩
   | _ => rw [hc] at e; exact e.elim
 | load T y =>
   simp only [awop, aop] at e ⊢
   exact fin (q := fun h => aload P T h (aev G env y)) e (fun h' hs v hv => aload_same (hs y (by simp [Op.operands])) hv)
 | nilCheck y =>
   simp only [awop, aop] at e ⊢
   cases hy : aev G env y with
   | ptr id off =>
     rw [hy] at e
     simp only at e ⊢
     cases ho : h[id]? with
     | none => rw [ho] at e; exact e.elim
     | some ob =>
       rw [ho] at e
       cases ob with
       | box fz c =>
         refine ⟨e.2.symm, fun h' hs => ?_⟩
         obtain ⟨ob', h1, h2⟩ := same_get (hs y (by simp [Op.operands]) id (by rw [hy]; rfl)) ho
         obtain ⟨fz', rfl⟩ := strip_box h2 rfl
         rw [h1]; exact ⟨e.1, rfl⟩
       | arr fz k c =>
         refine ⟨e.2.symm, fun h' hs => ?_⟩
         obtain ⟨ob', h1, h2⟩ := same_get (hs y (by simp [Op.operands]) id (by rw [hy]; rfl)) ho
         obtain ⟨fz', rfl⟩ := strip_arr h2 rfl
         rw [h1]; exact ⟨e.1, rfl⟩
       | held m q =>
         cases m with
         | true => exact e.elim
         | false =>
           refine ⟨e.2.symm, fun h' hs => ?_⟩
           obtain ⟨ob', h1, h2⟩ := same_get (hs y (by simp [Op.operands]) id (by rw [hy]; rfl)) ho
           obtain rfl := strip_held h2 rfl
           rw [h1]; exact ⟨e.1, rfl⟩
       | _ => exact e.elim
   | box c off => rw [hy] at e; exact ⟨e.2.symm, fun h' _ => ⟨e.1, rfl⟩⟩
   | fn f a b => rw [hy] at e; exact ⟨e.2.symm, fun h' _ => ⟨e.1, rfl⟩⟩
   | _ => rw [hy] at e; exact e.elim
 | binOp op T y z U => simp only [awop, aop] at e ⊢; exact const e
 | unOp op T y => simp only [awop, aop] at e ⊢; exact const e
 | convert S T y => simp only [awop, aop] at e ⊢; exact const e
 | makeFunc fn a b =>
   cases fn with
   | func f => exact ⟨e.2.symm, fun h' _ => ⟨e.1, rfl⟩⟩
   | _ => exact e.elim
 | slice T y l hi m =>
   simp only [awop, aop] at e ⊢
   exact fin (q := fun h => aslice P h T (aev G env y) (l.map (aev G env)) (hi.map (aev G env)) (m.map (aev G env))) e (fun h' hs v hv => aslice_same (hs y (by simp [Op.operands])) hv)
 | fieldAddr S y f =>
   simp only [awop, aop] at e ⊢
   cases hf : fieldOf? P S f with
   | none => rw [hf] at e; exact e.elim
   | some q =>
     obtain ⟨fo, ft⟩ := q
     rw [hf] at e
     simp only at e ⊢
     cases hsz : szOf P ft with
     | none => rw [hsz] at e; exact e.elim
     | some n =>
       rw [hsz] at e
       cases n with
       | zero => exact e.elim
       | succ n =>
         simp only at e ⊢
         cases hy : aev G env y with
         | ptr id off =>
           rw [hy] at e
           simp only at e ⊢
           cases ho : h[id]? with
           | none => rw [ho] at e; exact e.elim
           | some ob =>
             rw [ho] at e
             cases ob with
             | box fz c =>
               refine ⟨e.2.symm, fun h' hs => ?_⟩
               obtain ⟨ob', h1, h2⟩ := same_get (hs y (by simp [Op.operands]) id (by rw [hy]; rfl)) ho
               obtain ⟨fz', rfl⟩ := strip_box h2 rfl
               rw [h1]; exact ⟨e.1, rfl⟩
             | arr fz k c =>
               refine ⟨e.2.symm, fun h' hs => ?_⟩
               obtain ⟨ob', h1, h2⟩ := same_get (hs y (by simp [Op.operands]) id (by rw [hy]; rfl)) ho
               obtain ⟨fz', rfl⟩ := strip_arr h2 rfl
               rw [h1]; exact ⟨e.1, rfl⟩
             | held m q =>
               cases m with
               | true => exact e.elim
               | false =>
                 refine ⟨e.2.symm, fun h' hs => ?_⟩
                 obtain ⟨ob', h1, h2⟩ := same_get (hs y (by simp [Op.operands]) id (by rw [hy]; rfl)) ho
                 obtain rfl := strip_held h2 rfl
                 rw [h1]; exact ⟨e.1, rfl⟩
             | _ => exact e.elim
         | box c off => rw [hy] at e; exact ⟨e.2.symm, fun h' _ => ⟨e.1, rfl⟩⟩
         | _ => rw [hy] at e; exact e.elim
 | field T y f =>
   simp only [awop, aop] at e ⊢
   cases hy : aev G env y with
   | agg cs =>
     rw [hy] at e
     cases hf : fieldOf? P T f with
     | none => rw [hf] at e; exact e.elim
     | some q => rw [hf] at e; exact const e
   | _ => rw [hy] at e; exact e.elim
 | indexAddr T y i =>
   simp only [awop, aop] at e ⊢
   exact fin (q := fun h => aindexAddr P h T (aev G env y) (aev G env i)) e (fun h' hs v hv => aindexAddr_same (hs y (by simp [Op.operands])) hv)
 | index T y i => simp only [awop, aop] at e ⊢; exact const e
 | lookup T m k ok =>
   simp only [awop, aop] at e ⊢
   exact fin (q := fun h => alookup P h T (aev G env m) (aev G env k) ok) e (fun h' hs v hv => alookup_same (hs m (by simp [Op.operands])) hv)
 | extract y i =>
   simp only [awop, aop] at e ⊢
   cases hy : aev G env y with
   | tup vs => rw [hy] at e; exact const e
   | _ => rw [hy] at e; exact e.elim
 | build T ps =>
   simp only [awop, aop] at e ⊢
   cases hp : placesOf P T with
   | none => rw [hp] at e; exact e.elim
   | some pl =>
     cases hz : zeroOf P T with
     | none => rw [hp, hz] at e; exact e.elim
     | some z =>
       rw [hp, hz] at e
       simp only at e ⊢
       cases hf : afill (fun i => pl[i]?) z (ps.toList.map fun (i, x) => (i, aev G env x)) with
       | none => rw [hf] at e; exact e.elim
       | some cs => rw [hf] at e; exact ⟨e.2.symm, fun h' _ => ⟨e.1, rfl⟩⟩
 | call c =>
   simp only [rOp] at hk
   cases hc : c.callee with
   | builtin b =>
     rw [hc] at hk
     cases b <;> simp at hk
     simp only [awop, acall, hc, abuiltin] at e ⊢
     cases hty : c.argTypes.toList with
     | nil => rw [hty] at e; exact e.elim
     | cons T ts =>
       cases ts with
       | cons => rw [hty] at e; exact e.elim
       | nil =>
         cases hl : c.args.toList with
         | nil => rw [hty, hl] at e; exact e.elim
         | cons y l =>
           cases l with
           | cons => rw [hty, hl] at e; exact e.elim
           | nil =>
             rw [hty, hl] at e
             simp only [List.map_cons, List.map_nil] at e ⊢
             cases ha : alen P h T (aev G env y) with
             | none => rw [ha] at e; exact e.elim
             | some n =>
               rw [ha] at e
               refine ⟨e.2.symm, fun h' hs => ?_⟩
               rw [alen_same (hs y (by simp [Op.operands, Call.operands, hc, hl])) ha]
               exact ⟨e.1, rfl⟩
   | _ => rw [hc] at hk; simp at hk
 | _ => simp [rOp] at hk
end

def befs (ops : List Oper) : List (List Nat) :=
 ops.foldl (fun acc o => acc ++ [(List.range acc.length).filter fun k => (anyPre o).contains k || (anyPre o).any fun e => (acc.getD e []).contains k]) []

def dcheck1 (ops : Array Oper) (bs : List (List Nat)) (i : Nat) (p : Oper) : Bool :=
 (dkind p).isSome && ((anyPre p).all (fun e => decide (e < i)) && (bs.getD i []).all (fun k => (anyPre p).contains k || (anyPre p).any fun e => (bs.getD e []).contains k))

def dcheck2 (rx : Bool) (ops : Array Oper) (bs : List (List Nat)) (i j : Nat) (p q : Oper) : Bool :=
 i == j || (p.dst.all (fun d => q.dst != some d) && ((bs.getD j []).contains i || ((bs.getD i []).contains j || indepOK rx ops p q)))

def dcheck (rx : Bool) (ops : Array Oper) (bs : List (List Nat)) : Bool :=
 (List.range ops.size).all fun i => match ops[i]? with
   | Option.none => true
   | some p => dcheck1 ops bs i p && (List.range ops.size).all fun j => match ops[j]? with
       | Option.none => true
       | some q => dcheck2 rx ops bs i j p q

def drawOk (rx : Bool) (ops : Array Oper) : Bool := dcheck rx ops (befs ops.toList)

def hoist (ops : Array Oper) : List Oper := ops.toList.filter isFree ++ ops.toList.filter fun o => !isFree o

structure DOK (rx : Bool) (ops : Array Oper) (B : Nat → Nat → Prop) : Prop where
 kind : ∀ (i : Nat) (o : Oper), ops[i]? = some o → (dkind o).isSome = true
 lt : ∀ (i : Nat) (o : Oper), ops[i]? = some o → ∀ e, e ∈ anyPre o → e < i
 clo : ∀ (i : Nat) (o : Oper), ops[i]? = some o → ∀ k, B k i → k ∈ anyPre o ∨ ∃ e, e ∈ anyPre o ∧ B k e
 dst : ∀ (i j : Nat) (p q : Oper), ops[i]? = some p → ops[j]? = some q → i ≠ j → ∀ d, p.dst = some d → q.dst ≠ some d
 ind : ∀ (i j : Nat) (p q : Oper), ops[i]? = some p → ops[j]? = some q → i ≠ j → B i j ∨ B j i ∨ indepOK rx ops p q = true

theorem dok_of {rx : Bool} {ops : Array Oper} (h : drawOk rx ops = true) : DOK rx ops (fun k i => k ∈ (befs ops.toList).getD i []) := by
 generalize hb : befs ops.toList = bs
 have h : dcheck rx ops bs = true := by rw [← hb]; exact h
 unfold dcheck at h
 rw [List.all_eq_true] at h
 have h1 : ∀ i p, ops[i]? = some p → dcheck1 ops bs i p = true ∧ ∀ j q, ops[j]? = some q → dcheck2 rx ops bs i j p q = true := by
   intro i p hp
   have hi : i < ops.size := (Array.getElem?_eq_some_iff.1 hp).1
   have := h i (List.mem_range.2 hi)
   simp only [hp, Bool.and_eq_true, List.all_eq_true] at this
   refine ⟨this.1, fun j q hq => ?_⟩
   have h2 := this.2 j (List.mem_range.2 (Array.getElem?_eq_some_iff.1 hq).1)
   simp only [hq] at h2
   exact h2
 refine ⟨?_, ?_, ?_, ?_, ?_⟩
 · intro i o ho
   have := (h1 i o ho).1
   simp only [dcheck1, Bool.and_eq_true] at this
   exact this.1
 · intro i o ho e he
   have := (h1 i o ho).1
   simp only [dcheck1, Bool.and_eq_true, List.all_eq_true] at this
   exact of_decide_eq_true (this.2.1 e he)
 · intro i o ho k hk
   have := (h1 i o ho).1
   simp only [dcheck1, Bool.and_eq_true, List.all_eq_true] at this
   have := this.2.2 k hk
   simpa using this
 · intro i j p q hp hq hne d hd
   have := (h1 i p hp).2 j q hq
   simp only [dcheck2, Bool.or_eq_true, beq_iff_eq, hne, false_or, Bool.and_eq_true] at this
   have := this.1
   rw [hd] at this
   simpa using this
 · intro i j p q hp hq hne
   have := (h1 i p hp).2 j q hq
   simp only [dcheck2, Bool.or_eq_true, beq_iff_eq, hne, false_or, Bool.and_eq_true] at this
   simpa using this.2

section
variable {rx : Bool} {ops : Array Oper} {B : Nat → Nat → Prop}

theorem DOK.blt (D : DOK rx ops B) : ∀ (i : Nat) (o : Oper), ops[i]? = some o → ∀ k, B k i → k < i := by
 intro i
 induction i using Nat.strongRecOn with
 | ind i ih =>
   intro o ho k hk
   rcases D.clo i o ho k hk with h | ⟨e, he, hb⟩
   · exact D.lt i o ho k h
   · have hlt := D.lt i o ho e he
     have hi : i < ops.size := (Array.getElem?_eq_some_iff.1 ho).1
     have := ih e hlt ops[e] (by simp) k hb
     omega

def Closed (ops : Array Oper) (S : Nat → Prop) : Prop := ∀ (i : Nat) (o : Oper), S i → ops[i]? = some o → ∀ e, e ∈ anyPre o → S e

theorem DOK.before (D : DOK rx ops B) {S : Nat → Prop} (cl : Closed ops S) : ∀ (i : Nat) (o : Oper), ops[i]? = some o → (∀ e, e ∈ anyPre o → S e) → ∀ k, B k i → S k := by
 intro i
 induction i using Nat.strongRecOn with
 | ind i ih =>
   intro o ho hpre k hk
   rcases D.clo i o ho k hk with h | ⟨e, he, hb⟩
   · exact hpre k h
   · have hlt := D.lt i o ho e he
     have hi : i < ops.size := (Array.getElem?_eq_some_iff.1 ho).1
     exact ih e hlt ops[e] (by simp) (cl e ops[e] (hpre e he) (by simp)) k hb

theorem indep_spec {p q : Oper} (h : indepOK rx ops p q = true) : (∀ d, p.dst = some d → d ∉ ouses ops q) ∧ (∀ d, q.dst = some d → d ∉ ouses ops p) ∧ ∃ a b, dkind p = some a ∧ dkind q = some b ∧ (kindsOK a b = true ∨ laxOK rx ops p q = true) := by
 unfold indepOK at h
 simp only [Bool.and_eq_true] at h
 obtain ⟨⟨h1, h2⟩, h3⟩ := h
 refine ⟨?_, ?_, ?_⟩
 · intro d hd; rw [hd] at h1; simpa using h1
 · intro d hd; rw [hd] at h2; simpa using h2
 · cases ha : dkind p with
   | none => rw [ha] at h3; simp at h3
   | some a =>
     cases hb : dkind q with
     | none => rw [ha, hb] at h3; simp at h3
     | some b =>
       rw [ha, hb] at h3
       simp only [Bool.or_eq_true, Option.isSome_some, Bool.true_and] at h3
       exact ⟨a, b, rfl, rfl, h3⟩

def dstOf (ops : Array Oper) (i : Nat) : Option Nat := (ops[i]?).bind (·.dst)

def envOf (ops : Array Oper) (x : Nat → AV) (L : List Nat) (env : List AV) : List AV := L.foldl (fun e i => aput e (dstOf ops i) (x i)) env

theorem DOK.one (D : DOK rx ops B) {i j d : Nat} (hi : dstOf ops i = some d) (hj : dstOf ops j = some d) : i = j := by
 by_cases h : i = j
 · exact h
 · exfalso
   unfold dstOf at hi hj
   cases hp : ops[i]? with
   | none => rw [hp] at hi; cases hi
   | some p =>
     cases hq : ops[j]? with
     | none => rw [hq] at hj; cases hj
     | some q =>
       rw [hp] at hi; rw [hq] at hj
       exact D.dst i j p q hp hq h d hi hj

def EnvIs (ops : Array Oper) (x : Nat → AV) (env : List AV) (S : Nat → Prop) (e : List AV) : Prop :=
 e.length = env.length ∧ ∀ t, (∃ i, S i ∧ dstOf ops i = some t ∧ t < env.length ∧ e.getD t .u = x i) ∨ ((∀ i, S i → dstOf ops i = some t → env.length ≤ t) ∧ e.getD t .u = env.getD t .u)

variable {x : Nat → AV} {env : List AV}

theorem EnvIs.congr {S S' : Nat → Prop} {e : List AV} (h : EnvIs ops x env S e) (hs : ∀ i, S i ↔ S' i) : EnvIs ops x env S' e := by
 have : S = S' := funext fun i => propext (hs i)
 exact this ▸ h

theorem EnvIs.agree (D : DOK rx ops B) {S S' : Nat → Prop} {e e' : List AV} (h : EnvIs ops x env S e) (h' : EnvIs ops x env S' e') (t : Nat) (ha : ∀ i, dstOf ops i = some t → (S i ↔ S' i)) : e.getD t .u = e'.getD t .u := by
 rcases h.2 t with ⟨i, s, hd, hl, hx⟩ | ⟨hn, hx⟩
 · rcases h'.2 t with ⟨i', s', hd', hl', hx'⟩ | ⟨hn', hx'⟩
   · have := D.one hd hd'; subst this; rw [hx, hx']
   · have := hn' i ((ha i hd).1 s) hd; omega
 · rcases h'.2 t with ⟨i', s', hd', hl', hx'⟩ | ⟨hn', hx'⟩
   · have := hn i' ((ha i' hd').2 s') hd'; omega
   · rw [hx, hx']

theorem EnvIs.unique (D : DOK rx ops B) {S : Nat → Prop} {e e' : List AV} (h : EnvIs ops x env S e) (h' : EnvIs ops x env S e') : e = e' := by
 apply List.ext_getElem (h.1.trans h'.1.symm)
 intro t h1 h2
 have := h.agree D h' t (fun i _ => Iff.rfl)
 simpa [List.getD, h1, h2] using this

theorem EnvIs.start : EnvIs ops x env (fun _ => False) env := ⟨rfl, fun t => .inr ⟨fun i h => h.elim, rfl⟩⟩

theorem EnvIs.step (D : DOK rx ops B) {S : Nat → Prop} {e : List AV} (h : EnvIs ops x env S e) (i : Nat) : EnvIs ops x env (fun k => S k ∨ k = i) (aput e (dstOf ops i) (x i)) := by
 cases hd : dstOf ops i with
 | none =>
   refine ⟨h.1, fun t => ?_⟩
   rcases h.2 t with ⟨k, s, hk, hl, hx⟩ | ⟨hn, hx⟩
   · exact .inl ⟨k, .inl s, hk, hl, hx⟩
   · refine .inr ⟨?_, hx⟩
     rintro k (s | rfl) hk
     · exact hn k s hk
     · rw [hd] at hk; cases hk
 | some d =>
   refine ⟨by simp [aput, h.1], fun t => ?_⟩
   by_cases ht : d = t
   · subst ht
     by_cases hl : d < env.length
     · exact .inl ⟨i, .inr rfl, hd, hl, by simp [aput, List.getD, h.1, hl]⟩
     · refine .inr ⟨fun k _ _ => by omega, ?_⟩
       simp [aput, List.getD, List.getElem?_eq_none (Nat.le_of_not_lt hl), List.getElem?_eq_none (l := e.set d (x i)) (i := d) (by simp [h.1]; omega)]
   · have hg : (aput e (some d) (x i)).getD t .u = e.getD t .u := by simp [aput, List.getD, List.getElem?_set_ne ht]
     rw [hg]
     rcases h.2 t with ⟨k, s, hk, hl, hx⟩ | ⟨hn, hx⟩
     · exact .inl ⟨k, .inl s, hk, hl, hx⟩
     · refine .inr ⟨?_, hx⟩
       rintro k (s | rfl) hk
       · exact hn k s hk
       · rw [hd] at hk; cases hk; exact absurd rfl ht

theorem EnvIs.many (D : DOK rx ops B) : ∀ (L : List Nat) {S : Nat → Prop} {e : List AV}, EnvIs ops x env S e → EnvIs ops x env (fun k => S k ∨ k ∈ L) (envOf ops x L e)
 | [], S, e, h => h.congr (fun i => by simp)
 | i :: L, S, e, h => by
   have := EnvIs.many D L (h.step D i)
   exact this.congr (fun k => by simp [or_assoc])

theorem envIs_of (D : DOK rx ops B) (L : List Nat) : EnvIs ops x env (fun k => k ∈ L) (envOf ops x L env) := (EnvIs.many D L EnvIs.start).congr (fun k => by simp)
end

section
variable {P : Program} {G : Glob} {rx : Bool} {N : Nat} {ops : Array Oper}

def OpD (P : Program) (G : Glob) (N : Nat) (rx : Bool) (ops : Array Oper) (o : Oper) (env : List AV) (h : List AObj) (x : AV) (h' : List AObj) : Prop :=
 ckOK G (some N) (rx && ckOf ops o) o.op env ∧ DOp P G o.op env h x h'

def OpAt (P : Program) (G : Glob) (N : Nat) (rx : Bool) (ops : Array Oper) (o : Oper) (env : List AV) (h : List AObj) (x : AV) (h' : List AObj) : Prop :=
 match o.guard with
 | Option.none => OpD P G N rx ops o env h x h'
 | some (j, want) => ∃ d b, dstOf ops j = some d ∧ gval (env.getD d .u) want = .b b ∧ (b = true → OpD P G N rx ops o env h x h') ∧ (b = false → x = .tup [] ∧ h' = h)

theorem envOf_congr {x x' : Nat → AV} : ∀ (L : List Nat) (env : List AV), (∀ i ∈ L, x i = x' i) → envOf ops x L env = envOf ops x' L env
 | [], env, h => rfl
 | i :: L, env, h => by
   simp only [envOf, List.foldl_cons]
   rw [h i (by simp)]
   exact envOf_congr L _ (fun k hk => h k (by simp [hk]))

theorem trace {K : List AV → List AObj → Prop} : ∀ (L : List Nat) (al : List AOper) (env : List AV) (h : List AObj), (∀ i ∈ L, i < ops.size) → L.Nodup → stripOps rx ops (L.filterMap (ops[·]?)) = some al → awops P G (some N) al K env h →
   ∃ (x : Nat → AV) (hh : Nat → List AObj), hh 0 = h ∧ K (envOf ops x L env) (hh L.length) ∧ ∀ (p i : Nat) (o : Oper), L[p]? = some i → ops[i]? = some o → OpAt P G N rx ops o (envOf ops x (L.take p) env) (hh p) (x i) (hh (p + 1))
 | [], al, env, h, _, _, hs, e => by
   simp only [List.filterMap_nil, stripOps, Option.some.injEq] at hs
   subst hs
   exact ⟨fun _ => .u, fun _ => h, rfl, e, fun p i o hp => by simp at hp⟩
 | i :: L, al, env, h, hlt, hnd, hs, e => by
   have hi : i < ops.size := hlt i (by simp)
   have ho : ops[i]? = some ops[i] := by simp [hi]
   rw [List.filterMap_cons, ho] at hs
   simp only [stripOps] at hs
   cases hso : stripOp rx ops ops[i] with
   | none => simp [hso] at hs
   | some ao =>
   cases hl : stripOps rx ops (L.filterMap (ops[·]?)) with
   | none => simp [hso, hl] at hs
   | some al' =>
   simp only [hso, hl, Option.some.injEq] at hs
   subst hs
   have hd : ao.dst = dstOf ops i ∧ ao.op = ops[i].op ∧ ao.ck = (rx && ckOf ops ops[i]) := by
     unfold stripOp at hso
     split at hso
     · cases hso; simp [dstOf, ho]
     · split at hso
       · cases hso; simp [dstOf, ho]
       · cases hso
   have key : ∃ xi hi', awops P G (some N) al' K (aput env (dstOf ops i) xi) hi' ∧ OpAt P G N rx ops ops[i] env h xi hi' := by
     simp only [awops] at e
     unfold stripOp at hso
     unfold OpAt
     cases hg : ops[i].guard with
     | none =>
       simp only [hg, Option.some.injEq] at hso
       subst hso
       simp only at e
       obtain ⟨xi, hi', hD, hK⟩ := awop_iff.1 (runO_some ▸ e.2)
       exact ⟨xi, hi', by simpa [dstOf, ho] using hK, e.1, hD⟩
     | some q =>
       obtain ⟨j, want⟩ := q
       simp only [hg] at hso
       cases hdj : (ops[j]?).bind (·.dst) with
       | none => simp [hdj] at hso
       | some d =>
         simp only [hdj, Option.some.injEq] at hso
         subst hso
         simp only at e
         cases hx : gval (env.getD d .u) want with
         | b b =>
           rw [hx] at e
           simp only [condK] at e
           cases b with
           | true =>
             obtain ⟨xi, hi', hD, hK⟩ := awop_iff.1 (runO_some ▸ (e.1 rfl).2)
             exact ⟨xi, hi', by simpa [dstOf, ho] using hK, d, true, hdj, hx, (fun _ => ⟨(e.1 rfl).1, hD⟩), (fun hf => by cases hf)⟩
           | false => exact ⟨.tup [], h, by simpa [dstOf, ho] using e.2 rfl, d, false, hdj, hx, (fun hf => by cases hf), (fun _ => ⟨rfl, rfl⟩)⟩
         | _ => rw [hx] at e; exact e.elim
   obtain ⟨xi, hi', e', hat⟩ := key
   have hnd' := List.nodup_cons.1 hnd
   obtain ⟨x, hh, h0, hK, htr⟩ := trace L al' _ hi' (fun k hk => hlt k (by simp [hk])) hnd'.2 hl e'
   have hx : ∀ k ∈ L, x k = (fun k => if k = i then xi else x k) k := by
     intro k hk
     have : k ≠ i := fun he => hnd'.1 (he ▸ hk)
     simp [this]
   refine ⟨fun k => if k = i then xi else x k, fun p => match p with | 0 => h | p + 1 => hh p, rfl, ?_, ?_⟩
   · simp only [envOf, List.foldl_cons, if_true, List.length_cons]
     have := envOf_congr (ops := ops) L (aput env (dstOf ops i) xi) hx
     simp only [envOf] at this hK
     rw [← this]; exact hK
   · intro p k o hp hk
     cases p with
     | zero =>
       simp only [List.getElem?_cons_zero, Option.some.injEq] at hp
       subst hp
       rw [ho] at hk; cases hk
       simp only [List.take_zero, envOf, List.foldl_nil, if_true, h0]
       exact hat
     | succ p =>
       simp only [List.getElem?_cons_succ] at hp
       have := htr p k o hp hk
       have hkL : k ∈ L := List.mem_of_getElem? hp
       have hne : k ≠ i := fun he => hnd'.1 (he ▸ hkL)
       simp only [List.take_succ_cons, envOf, List.foldl_cons, if_true, hne, if_false]
       have hc := envOf_congr (ops := ops) (L.take p) (aput env (dstOf ops i) xi) (fun k hk => hx k (List.mem_of_mem_take hk))
       simp only [envOf] at hc this
       rw [← hc]; exact this
end

structure ExtW (X : Ctx) (w : World) (h : List AObj) (X' : Ctx) (w' : World) : Prop where
 fr : ∀ b, X.F b → X'.F b
 keep : ∀ b, X.F b → w'.heap[b]? = w.heap[b]?
 shp : ∀ b s, w.shape? b = some s → w'.shape? b = some s
 obj : ∀ id bo, X.ι id = some bo → X'.ι id = some bo

theorem RV.monoW {X X' : Ctx} {w w' : World} {h : List AObj} {a : AV} {v : Value} (r : RV X w h a v) (e : ExtW X w h X' w') : RV X' w' h a v := by
 induction r with
 | u v => exact .u v
 | b x => exact .b x
 | i k n => exact .i k n
 | s l => exact .s l
 | p v hv => exact .p v hv
 | e0 a => exact .e0 a
 | sl0 a cap => exact .sl0 a cap
 | sl hF hb hl hc h1 _ ih => exact .sl (e.fr _ hF) ((e.keep _ hF).trans hb) hl hc h1 ih
 | hs hid hι hsh hn hc hN ht hf => exact .hs hid (e.obj _ _ hι) (e.shp _ _ hsh) hn hc hN ht hf
 | hs0 hid hf ho => exact .hs0 hid hf ho
 | ptr hid hnd hι => exact .ptr hid hnd (e.obj _ _ hι)
 | mp hid hι => exact .mp hid (e.obj _ _ hι)
 | dead hr hid hv => exact .dead hr hid hv
 | box hF hb hl h1 _ ih => exact .box (e.fr _ hF) ((e.keep _ hF).trans hb) hl h1 ih
 | mapv hF hb hk hv _ _ hbn hbd ihk ihv => exact .mapv (e.fr _ hF) ((e.keep _ hF).trans hb) hk hv ihk ihv hbn hbd
 | fn h1 h2 _ _ ih1 ih2 => exact .fn h1 h2 ih1 ih2
 | agg h1 h2 _ ih => exact .agg h1 h2 ih
 | tup h1 _ ih => exact .tup h1 ih

theorem GRel.monoW {X X' : Ctx} {w w' : World} {h : List AObj} {k : Nat} {a : AV} (r : GRel X w h k a) (e : ExtW X w h X' w') : GRel X' w' h k a :=
 ⟨r.1.monoW e, fun cells off ha => have ⟨hF, cs, T, fr, h1, h2⟩ := r.2 cells off ha; ⟨e.fr _ hF, cs, T, fr, (e.keep _ hF).trans h1, h2⟩⟩
theorem ObjOK.monoW {X X' : Ctx} {w w' : World} {h : List AObj} {id : Nat} {ob : AObj} (r : ObjOK X w h id ob) (e : ExtW X w h X' w')
   (hι : X'.ι id = X.ι id) (hb : ∀ b o, X.ι id = some (b, o) → w'.heap[b]? = w.heap[b]?) (hF : ∀ b o, X.ι id = some (b, o) → X'.F b → X.F b) : ObjOK X' w' h id ob := by
 cases r with
 | absent h0 hh => exact .absent (hι.trans h0) hh
 | away h0 h1 => exact .away (hι.trans h0) h1
 | box h0 h1 h2 h3 h4 h5 h6 => exact .box (hι.trans h0) ((hb _ _ h0).trans h1) (fun f => e.fr _ (h2 f)) (fun f => ⟨fun g => (h3 f).1 (hF _ _ h0 g), (h3 f).2⟩) h4 h5 (fun j a v ha hv => (h6 j a v ha hv).monoW e)
 | arr h0 h1 h2 h3 h4 h5 h6 => exact .arr (hι.trans h0) ((hb _ _ h0).trans h1) (fun f => e.fr _ (h2 f)) (fun f => ⟨fun g => (h3 f).1 (hF _ _ h0 g), (h3 f).2⟩) h4 h5 (fun j a v ha hv => (h6 j a v ha hv).monoW e)
 | map h0 h1 h2 h3 h4 h5 h6 h7 h8 h9 => exact .map (hι.trans h0) ((hb _ _ h0).trans h1) (fun f => e.fr _ (h2 f)) (fun f g => h3 f (hF _ _ h0 g)) h4 h5 (fun j a v ha hv => (h6 j a v ha hv).monoW e) (fun j a v ha hv => (h7 j a v ha hv).monoW e) h8 h9
 | held h0 h1 h2 h3 => exact .held (hι.trans h0) (fun g => h1 (hF _ _ h0 g)) ((hb _ _ h0).trans h2) h3
 | sit h0 h1 h2 => exact .sit (hι.trans h0) (fun g => h1 (hF _ _ h0 g)) ((hb _ _ h0).trans h2)
 | mit h0 h1 h2 h3 h4 h5 h6 h7 h8 h9 h10 h11 => exact .mit (hι.trans h0) (fun g => h1 (hF _ _ h0 g)) ((hb _ _ h0).trans h2) (e.fr _ h3) ((e.keep _ h3).trans h4) h5 h6 h7 h8 (fun j a v ha hv => (h9 j a v ha hv).monoW e) (fun j a v ha hv => (h10 j a v ha hv).monoW e) (fun k v hc => have ⟨e1, a1, a2, a3, a4⟩ := h11 k v hc; ⟨e1, a1, a2, a3.monoW e, a4.monoW e⟩)

section
variable {G : Glob} {X : Ctx} {w w' : World} {h : List AObj}

theorem gh_fill (g : GH G X w h) {cs : Array Value} {T : TypeId} (p : Pushed w w' (.cells cs T (0, 0))) {id : Nat} {cells : List AV} (hid : h[id]? = some (.box false cells)) (hι : X.ι id = Option.none)
   (hl : cs.size = cells.length) (h1 : Cells1 cs) (hr : ∀ (j : Nat) (x : AV) (u : Value), cells[j]? = some x → cs[j]? = some u → RV X w h x u) :
   ExtW X w h (X.upd id (some (w.heap.size, 0))) w' ∧ GH G (X.upd id (some (w.heap.size, 0))) w' h ∧ Step X w (X.upd id (some (w.heap.size, 0))) w' := by
 have pg := p.grew
 have hs := p.size
 have e : ExtW X w h (X.upd id (some (w.heap.size, 0))) w' := by
   refine ⟨fun b hb => hb, fun b hb => pg.old _ (g.fbnd b hb), fun b s hs => ?_, fun k bo hk => ?_⟩
   · rw [shape_of (pg.old _ (shape_lt hs))]; exact hs
   · have : k ≠ id := fun he => by rw [he, hι] at hk; cases hk
     rw [Ctx.upd_other _ _ this]; exact hk
 refine ⟨e, ⟨?_, ?_, ?_, ?_, ?_, fun k a hk => (g.gl k a hk).monoW e⟩, ⟨by omega, p.os, p.tape, p.output, fun b hb _ => pg.old b hb, ?_, fun b hb => .inl hb⟩⟩
 · intro k ob hk
   by_cases hki : k = id
   · subst hki
     rw [hid] at hk; cases hk
     refine .box (Ctx.upd_same _ _ _) p.at (fun f => by cases f) (fun _ => ⟨fun hF => by have := g.fbnd _ hF; omega, rfl⟩) (by omega) ?_ ?_
     · intro j v hj hv; exact h1 j v (by simpa using hv)
     · intro j a v ha hv; exact (hr j a v ha (by simpa using hv)).monoW e
   · exact (g.objs k ob hk).monoW e (Ctx.upd_other _ _ hki) (fun b o hb => pg.old _ (g.bnd _ _ _ hb)) (fun _ _ _ f => f)
 · intro k b hb
   by_cases hki : k = id
   · subst hki; exact ⟨_, hid⟩
   · rw [Ctx.upd_other _ _ hki] at hb
     exact g.dom _ _ hb
 · intro k k' b c c' h1 h2
   by_cases e1 : k = id
   · by_cases e2 : k' = id
     · omega
     · subst e1
       rw [Ctx.upd_same] at h1
       rw [Ctx.upd_other _ _ e2] at h2
       have := g.bnd _ _ _ h2
       cases h1; omega
   · rw [Ctx.upd_other _ _ e1] at h1
     by_cases e2 : k' = id
     · subst e2
       rw [Ctx.upd_same] at h2
       have := g.bnd _ _ _ h1
       cases h2; omega
     · rw [Ctx.upd_other _ _ e2] at h2
       exact g.inj _ _ _ _ _ h1 h2
 · intro k b c h1
   by_cases e1 : k = id
   · subst e1
     rw [Ctx.upd_same] at h1
     cases h1; omega
   · rw [Ctx.upd_other _ _ e1] at h1
     have := g.bnd _ _ _ h1
     omega
 · intro b hb
   have := g.fbnd b hb
   omega
 · intro k b c h1
   by_cases e1 : k = id
   · subst e1
     rw [Ctx.upd_same] at h1
     cases h1; exact .inl (Nat.le_refl _)
   · rw [Ctx.upd_other _ _ e1] at h1
     exact .inr ⟨k, c, h1⟩

theorem gh_more (g : GH G X w h) (obs : List AObj) (hobs : ∀ ob ∈ obs, ob.isH = false) : GH G X w (h ++ obs) ∧ Tr X w h X w (h ++ obs) := by
 have e : Ext X w h X w (h ++ obs) := ⟨fun _ h => h, fun _ _ => rfl, fun _ _ h => h, fun id o ho => ⟨o, by rw [List.getElem?_append_left (lt_of_some ho)]; exact ho, .inr ⟨AObj.like_refl o, .inl rfl⟩⟩⟩
 refine ⟨⟨?_, ?_, g.inj, g.bnd, g.fbnd, fun k a hk => (g.gl k a hk).mono e⟩, ⟨.refl _ _, e, fun id z hid _ => by rw [List.getElem?_append_left (lt_of_some hid)]; exact hid⟩⟩
 · intro id ob hid
   by_cases hlt : id < h.length
   · rw [List.getElem?_append_left hlt] at hid
     exact (g.objs id ob hid).mono e rfl (fun _ _ _ => rfl) (fun _ _ _ f => f)
   · refine .absent ?_ (hobs ob (by rw [List.getElem?_append_right (by omega)] at hid; exact List.mem_of_getElem? hid))
     cases hi : X.ι id with
     | none => rfl
     | some bo => obtain ⟨ob', ho⟩ := g.dom _ _ hi; exact absurd (lt_of_some ho) hlt
 · intro id bo hb
   obtain ⟨ob, ho⟩ := g.dom _ _ hb
   exact ⟨ob, by rw [List.getElem?_append_left (lt_of_some ho)]; exact ho⟩

theorem gh_same (g : GH G X w h) (hh : w'.heap = w.heap) (ho : w'.os = w.os) (ht : w'.tape = w.tape) (hu : w'.output = w.output) : GH G X w' h ∧ Tr X w h X w' h := by
 have e : Ext X w h X w' h := ⟨fun _ h => h, fun _ _ => by rw [hh], fun b s hs => by rw [shape_of (w := w) (by rw [hh])]; exact hs, fun id o ho => ⟨o, ho, .inr ⟨AObj.like_refl o, .inl rfl⟩⟩⟩
 refine ⟨⟨fun id ob hid => (g.objs id ob hid).mono e rfl (fun _ _ _ => by rw [hh]) (fun _ _ _ f => f), g.dom, g.inj, fun id b o hb => by rw [hh]; exact g.bnd id b o hb, fun b hb => by rw [hh]; exact g.fbnd b hb, fun k a hk => (g.gl k a hk).mono e⟩,
   ⟨⟨by rw [hh]; exact Nat.le_refl _, ho, ht, hu, fun _ _ _ => by rw [hh], fun id b o hb => .inr ⟨id, o, hb⟩, fun b hb => .inl hb⟩, e, fun id z hid _ => hid⟩⟩
end

def Grow (h h' : List AObj) : Prop := ∀ (id : Nat) (o : AObj), h[id]? = some o → ∃ o', h'[id]? = some o' ∧ o'.strip = o.strip
theorem Grow.refl (h : List AObj) : Grow h h := fun id o ho => ⟨o, ho, rfl⟩
theorem Grow.trans {a b c : List AObj} (x : Grow a b) (y : Grow b c) : Grow a c := fun id o ho => by
 obtain ⟨o1, h1, e1⟩ := x id o ho
 obtain ⟨o2, h2, e2⟩ := y id o1 h1
 exact ⟨o2, h2, e2.trans e1⟩
theorem Grow.app (h obs : List AObj) : Grow h (h ++ obs) := fun id o ho => ⟨o, by rw [List.getElem?_append_left (lt_of_some ho)]; exact ho, rfl⟩
theorem strip_fz (o : AObj) : o.fz.strip = o.strip := by cases o <;> rfl
theorem Grow.freeze (ids : List Nat) (h : List AObj) : Grow h (freeze ids h) := fun id o ho => by
 rw [freeze_get, ho]
 refine ⟨_, rfl, ?_⟩
 split
 · exact strip_fz o
 · rfl

mutual
theorem mat_grow : ∀ (a : AV) (h : List AObj), Grow h (mat a h).2
 | .own sz cells n, h => by simp only [mat]; exact .app _ _
 | .agg cells, h => by simp only [mat]; exact matL_grow cells h
 | .tup cells, h => by simp only [mat]; exact matL_grow cells h
 | .u, h | .b _, h | .i _ _, h | .s _, h | .p _, h | .e0, h | .sl _ _, h | .hs _ _ _ _, h | .ptr _ _, h | .box _ _, h | .mp _, h | .mapv _ _, h | .fn _ _ _, h => by simp only [mat]; exact .refl _
theorem matL_grow : ∀ (l : List AV) (h : List AObj), Grow h (matL l h).2
 | [], h => by simp only [matL]; exact .refl _
 | a :: l, h => by simp only [matL]; exact (mat_grow a h).trans (matL_grow l _)
end

theorem hAfter_grow (r : AV) (h : List AObj) (A : List AV) : Grow h (hAfter r h A) := by
 unfold hAfter; split
 · exact .refl _
 · exact .freeze _ _

section
variable {P : Program} {G : Glob}

theorem dop_alloc {T : TypeId} {env : List AV} {h h' : List AObj} {x : AV} (e : DOp P G (.alloc T) env h x h') : ∃ z, zeroOf P T = some z ∧ x = .ptr h.length 0 ∧ h' = h ++ [.box false z] := by
 unfold DOp at e
 simp only [awop, aop] at e
 cases hz : zeroOf P T with
 | none => rw [hz] at e; exact e.elim
 | some z => rw [hz] at e; exact ⟨z, rfl, e.1.symm, e.2.symm⟩

theorem w_grow {o : Oper} (hk : dkind o = some .w) {env : List AV} {h h' : List AObj} {x : AV} (e : DOp P G o.op env h x h') : Grow h h' := by
 unfold dkind at hk
 cases ho : o.op with
 | alloc T =>
   rw [ho] at e
   obtain ⟨z, _, _, rfl⟩ := dop_alloc e
   exact .app _ _
 | box T y =>
   rw [ho] at e
   unfold DOp at e
   simp only [awop, aop] at e
   cases hc : acells (aev G env y) with
   | none => rw [hc] at e; exact e.elim
   | some c => rw [hc] at e; rw [← e.2]; exact .app _ _
 | buildSlice T n ps =>
   rw [ho] at e
   unfold DOp at e
   simp only [awop, aop] at e
   by_cases hcs : (true && cslL ps.toList) = true
   case pos =>
     rw [if_pos hcs] at e
     cases ha : aslC P T n ps with
     | none => rw [ha] at e; exact e.elim
     | some v => rw [ha] at e; rw [← e.2]; exact .refl _
   rw [if_neg hcs] at e
   split at e
   case h_2 => exact e.elim
   rename_i el _
   split at e
   case h_2 => exact e.elim
   rename_i z _
   split at e
   case isFalse => exact e.elim
   split at e
   case isTrue => rw [← e.2]; exact .refl _
   split at e
   case h_2 => exact e.elim
   rw [← e.2]; exact .app _ _
 | makeMap T r =>
   rw [ho] at e
   unfold DOp at e
   cases r with
   | none => simp only [awop, aop] at e; rw [← e.2]; exact .app _ _
   | some _ => exact e.elim
 | makeSlice T l c =>
   rw [ho] at e
   unfold DOp at e
   simp only [awop, aop] at e
   unfold amakeSlice at e
   split at e
   case h_2 => exact e.elim
   split at e
   case h_2 => exact e.elim
   split at e
   case isFalse => exact e.elim
   rw [← e.2]; exact .app _ _
 | call c =>
   rw [ho] at hk e
   simp only at hk
   unfold DOp at e
   simp only [awop, acall] at e
   cases hc : c.callee with
   | builtin b => rw [hc] at hk; cases b <;> simp at hk
   | value f =>
     rw [hc] at e
     simp only at e
     cases hf : aev G env f with
     | fn f' first capt =>
       rw [hf] at e
       simp only [kcall, if_true] at e
       obtain ⟨r, _, e1, e2⟩ := e
       rw [← e2]
       exact (hAfter_grow _ _ _).trans (mat_grow _ _)
     | _ => rw [hf] at e; exact e.elim
   | invoke _ _ => rw [hc] at hk; simp at hk
 | _ => rw [ho] at hk; simp at hk

theorem rv_refs {X : Ctx} {w : World} {h : List AObj} {a : AV} {v : Value} (r : RV X w h a v) {id : Nat} (e : a.refs = some id) : ∃ o, h[id]? = some o := by
 cases r with
 | dead hr hid hv => rw [hr] at e; cases e; exact ⟨_, hid⟩
 | _ => first | (simp [AV.refs] at e; done) | (simp only [AV.refs, Option.some.injEq] at e; subst e; exact ⟨_, by assumption⟩)

theorem kind_rop {o : Oper} (hk : dkind o = some .r) : rOp o.op = true := by
 unfold dkind at hk
 unfold rOp
 cases ho : o.op with
 | call c =>
   rw [ho] at hk
   simp only at hk ⊢
   cases hc : c.callee with
   | builtin b => rw [hc] at hk; cases b <;> simp at hk ⊢
   | value f => rw [hc] at hk; simp at hk
   | invoke _ _ => rw [hc] at hk; simp at hk
 | alloc T => rw [ho] at hk; simp only at hk; split at hk <;> simp at hk
 | buildSlice T n ps => rw [ho] at hk; simp only at hk; split at hk <;> simp at hk
 | _ => first | rfl | (rw [ho] at hk; simp at hk; done)

def pOp : Op → Bool
 | .move _ | .assign _ | .pick .. | .binOp .. | .unOp .. | .convert .. | .makeFunc .. | .field .. | .index .. | .extract .. | .build .. => true
 | _ => false
theorem kind_c {o : Oper} (hk : dkind o = some .c) : pOp o.op = true ∨ (∃ T ps, o.op = .buildSlice T 0 ps ∧ ps.toList = []) ∨ ∃ T n ps, o.op = .buildSlice T n ps ∧ cslL ps.toList = true := by
 unfold dkind at hk
 cases ho : o.op with
 | buildSlice T n ps =>
   right
   rw [ho] at hk
   simp only at hk
   split at hk
   · rename_i h
     simp only [Bool.and_eq_true, Bool.or_eq_true, beq_iff_eq, List.isEmpty_iff] at h
     rcases h.1 with ⟨rfl, h2⟩ | h2
     · exact .inl ⟨T, ps, rfl, h2⟩
     · exact .inr ⟨T, n, ps, rfl, h2⟩
   · simp at hk
 | call c =>
   rw [ho] at hk
   simp only at hk
   cases hc : c.callee with
   | builtin b => rw [hc] at hk; cases b <;> simp at hk
   | value f => rw [hc] at hk; simp at hk
   | invoke _ _ => rw [hc] at hk; simp at hk
 | alloc T => rw [ho] at hk; simp only at hk; split at hk <;> simp at hk
 | _ => first | exact .inl rfl | (rw [ho] at hk; simp at hk; done)
theorem optK_pure {A : Option AV} {h hh : List AObj} {x : AV} (e : optK (match A with | some v => some (v, h) | Option.none => Option.none) (fun x1 h1 => x1 = x ∧ h1 = hh)) : hh = h ∧ ∀ h', optK (match A with | some v => some (v, h') | Option.none => Option.none) (fun x1 h1 => x1 = x ∧ h1 = h') := by
 cases A with
 | none => exact e.elim
 | some v => exact ⟨e.2.symm, fun h' => ⟨e.1, rfl⟩⟩

theorem pure_ok {o : Oper} (hk : dkind o = some .c) {env : List AV} {h hh : List AObj} {x : AV} (e : DOp P G o.op env h x hh) : hh = h ∧ ∀ h', DOp P G o.op env h' x h' := by
 rcases kind_c hk with hp | ⟨T, ps, ho, hps⟩ | ⟨T, n, ps, ho, hcs⟩
 · unfold DOp at e ⊢
   cases ho : o.op with
   | move y => rw [ho] at e; exact ⟨e.2.symm, fun h' => ⟨e.1, rfl⟩⟩
   | assign y => rw [ho] at e; exact ⟨e.2.symm, fun h' => ⟨e.1, rfl⟩⟩
   | pick c a b =>
     rw [ho] at e
     simp only [awop, aop] at e ⊢
     cases hc : aev G env c <;> rw [hc] at e <;> first | exact ⟨e.2.symm, fun h' => ⟨e.1, rfl⟩⟩ | exact e.elim
   | binOp op T y z U => rw [ho] at e; exact optK_pure e
   | unOp op T y => rw [ho] at e; exact optK_pure e
   | convert S T y => rw [ho] at e; exact optK_pure e
   | makeFunc t a b =>
     rw [ho] at e
     cases t with
     | func f => exact ⟨e.2.symm, fun h' => ⟨e.1, rfl⟩⟩
     | _ => exact e.elim
   | field T y f =>
     rw [ho] at e
     simp only [awop, aop] at e ⊢
     split at e
     · exact optK_pure e
     · exact e.elim
   | index T y z => rw [ho] at e; exact optK_pure e
   | extract y i =>
     rw [ho] at e
     simp only [awop, aop] at e ⊢
     split at e
     · exact optK_pure e
     · exact e.elim
   | build T ps =>
     rw [ho] at e
     simp only [awop, aop] at e ⊢
     cases h1 : placesOf P T with
     | none => rw [h1] at e; exact e.elim
     | some pl =>
     cases h2 : zeroOf P T with
     | none => rw [h1, h2] at e; exact e.elim
     | some z =>
       rw [h1, h2] at e
       simp only at e ⊢
       split at e
       · exact ⟨e.2.symm, fun h' => ⟨e.1, rfl⟩⟩
       · exact e.elim
   | _ => rw [ho] at hp; exact absurd hp (by simp [pOp])
 · rw [ho] at e ⊢
   unfold DOp at e ⊢
   have hcf : ¬ (true && cslL ps.toList) = true := by rw [hps]; simp [cslL]
   simp only [awop, aop, if_neg hcf] at e ⊢
   cases h1 : elemOf? P T with
   | none => rw [h1] at e; exact e.elim
   | some el =>
     rw [h1] at e
     simp only at e ⊢
     cases h2 : zeroOf P el with
     | none => rw [h2] at e; exact e.elim
     | some z =>
       rw [h2] at e
       simp only at e ⊢
       split at e
       case isFalse => exact e.elim
       rename_i hc
       rw [if_pos ⟨trivial, hps⟩] at e
       refine ⟨e.2.symm, fun h' => ?_⟩
       rw [if_pos hc, if_pos ⟨trivial, hps⟩]
       exact ⟨e.1, rfl⟩
 · rw [ho] at e ⊢
   unfold DOp at e ⊢
   have hct : (true && cslL ps.toList) = true := by rw [hcs]; rfl
   simp only [awop, if_pos hct] at e ⊢
   cases ha : aslC P T n ps with
   | none => rw [ha] at e; exact e.elim
   | some v => rw [ha] at e; exact ⟨e.2.symm, fun h' => ⟨e.1, rfl⟩⟩
theorem kind_same {o : Oper} (hk : dkind o = some .r ∨ dkind o = some .c) {env : List AV} {h hh : List AObj} {x : AV} (e : DOp P G o.op env h x hh) : hh = h := by
 rcases hk with hk | hk
 · exact (reader_ok (kind_rop hk) e).1
 · exact (pure_ok hk e).1

theorem kind_a {o : Oper} : dkind o = some .a ↔ isFree o = true := by
 constructor
 · intro hk
   unfold dkind at hk
   split at hk <;> first | (exfalso; revert hk; simp; done) | skip
   all_goals (revert hk; split <;> simp [*])
 · intro hf
   have hf' := hf
   unfold isFree at hf'
   unfold dkind
   split at hf'
   · rename_i T ho
     simp only [ho, hf, if_true]
   · cases hf'

theorem free_info {o : Oper} (h : isFree o = true) : ∃ T, o.op = .alloc T ∧ o.guard = Option.none ∧ anyPre o = [] := by
 unfold isFree at h
 split at h
 · rename_i T ho
   simp only [Bool.and_eq_true, Option.isNone_iff_eq_none, List.isEmpty_iff] at h
   exact ⟨T, ho, h.1, h.2⟩
 · cases h
end

def freeAt (ops : Array Oper) (i : Nat) : Bool := match ops[i]? with | some o => isFree o | Option.none => false
def Fs (ops : Array Oper) : List Nat := (List.range ops.size).filter (freeAt ops)
def Rs (ops : Array Oper) : List Nat := (List.range ops.size).filter fun i => !freeAt ops i
def InR (ops : Array Oper) (p i : Nat) : Prop := ∃ m, m < p ∧ (Rs ops)[m]? = some i
def Chg (o : Oper) : Prop := dkind o = some .w ∨ dkind o = some .l

theorem toList_range {α : Type} (ops : Array α) : ops.toList = (List.range ops.size).filterMap (ops[·]?) := by
 apply List.ext_getElem?
 intro i
 have key : ∀ n, n ≤ ops.size → (List.range n).filterMap (ops[·]?) = ops.toList.take n := by
   intro n
   induction n with
   | zero => intro _; simp
   | succ n ih =>
     intro hn
     have hlt : n < ops.size := by omega
     rw [List.range_succ, List.filterMap_append, ih (by omega)]
     simp [hlt, List.take_add_one]
 rw [key ops.size (Nat.le_refl _)]
 simp [← Array.length_toList]

theorem hoist_eq (ops : Array Oper) : hoist ops = (Fs ops ++ Rs ops).filterMap (ops[·]?) := by
 have h1 : ∀ (q : Oper → Bool) (q' : Nat → Bool), (∀ i o, ops[i]? = some o → q' i = q o) → ops.toList.filter q = ((List.range ops.size).filter q').filterMap (ops[·]?) := by
   intro q q' hq
   rw [toList_range]
   generalize List.range ops.size = l
   induction l with
   | nil => rfl
   | cons i l ih =>
     cases ho : ops[i]? with
     | none =>
       rw [List.filterMap_cons, ho]
       simp only
       rw [ih, List.filter_cons]
       split
       · rw [List.filterMap_cons, ho]
       · rfl
     | some o =>
       rw [List.filterMap_cons, ho]
       simp only
       rw [List.filter_cons, List.filter_cons, hq i o ho]
       split
       · rw [List.filterMap_cons, ho, ih]
       · exact ih
 unfold hoist Fs Rs
 rw [List.filterMap_append, h1 isFree (freeAt ops) (fun i o ho => by simp [freeAt, ho]), h1 (fun o => !isFree o) (fun i => !freeAt ops i) (fun i o ho => by simp [freeAt, ho])]

section
variable {ops : Array Oper}
theorem mem_Fs {i : Nat} : i ∈ Fs ops ↔ i < ops.size ∧ freeAt ops i = true := by simp [Fs]
theorem mem_Rs {i : Nat} : i ∈ Rs ops ↔ i < ops.size ∧ freeAt ops i = false := by simp [Rs]
theorem sorted_range_filter (n : Nat) (q : Nat → Bool) {m m' k k' : Nat} (h1 : ((List.range n).filter q)[m]? = some k) (h2 : ((List.range n).filter q)[m']? = some k') (hl : m < m') : k < k' := by
 have hp : ((List.range n).filter q).Pairwise (· < ·) := List.Pairwise.filter _ (List.pairwise_lt_range (n := n))
 rw [List.pairwise_iff_getElem] at hp
 obtain ⟨a1, b1⟩ := List.getElem?_eq_some_iff.1 h1
 obtain ⟨a2, b2⟩ := List.getElem?_eq_some_iff.1 h2
 have := hp m m' a1 a2 hl
 rw [b1, b2] at this
 exact this
theorem Rs_sorted {m m' k k' : Nat} (h1 : (Rs ops)[m]? = some k) (h2 : (Rs ops)[m']? = some k') (hl : m < m') : k < k' := sorted_range_filter _ _ h1 h2 hl
theorem Rs_inj {m m' k : Nat} (h1 : (Rs ops)[m]? = some k) (h2 : (Rs ops)[m']? = some k) : m = m' := by
 rcases Nat.lt_trichotomy m m' with h | h | h
 · have := Rs_sorted h1 h2 h; omega
 · exact h
 · have := Rs_sorted h2 h1 h; omega
theorem nodup_FR : (Fs ops ++ Rs ops).Nodup := by
 rw [List.nodup_append]
 refine ⟨List.Pairwise.filter _ List.nodup_range, List.Pairwise.filter _ List.nodup_range, ?_⟩
 intro a ha b hb hab
 subst hab
 have := (mem_Fs.1 ha).2
 rw [(mem_Rs.1 hb).2] at this; cases this
end

structure Told (P : Program) (G : Glob) (N : Nat) (rx : Bool) (ops : Array Oper) (h0 : List AObj) (env0 : List AV) (x : Nat → AV) (hr : Nat → List AObj) (zz : Nat → List AV) : Prop where
 free : ∀ (q i : Nat), (Fs ops)[q]? = some i → ∃ (o : Oper) (T : TypeId), ops[i]? = some o ∧ o.op = .alloc T ∧ zeroOf P T = some (zz i) ∧ x i = .ptr (h0.length + q) 0 ∧ (hr 0)[h0.length + q]? = some (.box false (zz i))
 start : ∃ obs, hr 0 = h0 ++ obs ∧ ∀ ob ∈ obs, AObj.isH ob = false
 rest : ∀ (q i : Nat) (o : Oper), (Rs ops)[q]? = some i → ops[i]? = some o → ∃ e, EnvIs ops x env0 (fun k => k ∈ Fs ops ∨ InR ops q k) e ∧ OpAt P G N rx ops o e (hr q) (x i) (hr (q + 1))

section
variable {P : Program} {G : Glob} {N : Nat} {rx : Bool} {ops : Array Oper} {B : Nat → Nat → Prop} {h0 : List AObj} {env0 : List AV}

theorem mem_take {α : Type} (l : List α) (q : Nat) (k : α) : k ∈ l.take q ↔ ∃ m, m < q ∧ l[m]? = some k := by
 rw [List.mem_iff_getElem?]
 constructor
 · rintro ⟨m, hm⟩
   rw [List.getElem?_take] at hm
   split at hm
   · exact ⟨m, ‹_›, hm⟩
   · cases hm
 · rintro ⟨m, h1, h2⟩
   exact ⟨m, by rw [List.getElem?_take, if_pos h1]; exact h2⟩

theorem told_of (D : DOK rx ops B) {K : List AV → List AObj → Prop} {al : List AOper} (hs : stripOps rx ops (hoist ops) = some al) (e : awops P G (some N) al K env0 h0) :
   ∃ x hr zz, Told P G N rx ops h0 env0 x hr zz ∧ ∀ e, EnvIs ops x env0 (fun i => i < ops.size) e → K e (hr (Rs ops).length) := by
 rw [hoist_eq] at hs
 obtain ⟨x, hh, e0, hK, htr⟩ := trace (Fs ops ++ Rs ops) al env0 h0 (fun i hi => by
   rcases List.mem_append.1 hi with h | h
   · exact (mem_Fs.1 h).1
   · exact (mem_Rs.1 h).1) nodup_FR hs e
 have hfr : ∀ q i, (Fs ops)[q]? = some i → ∃ (o : Oper) (T : TypeId) (z : List AV), ops[i]? = some o ∧ o.op = .alloc T ∧ zeroOf P T = some z ∧ x i = .ptr (hh q).length 0 ∧ hh (q + 1) = hh q ++ [.box false z] := by
   intro q i hq
   have hm := mem_Fs.1 (List.mem_of_getElem? hq)
   have ho : ops[i]? = some ops[i] := by simp [hm.1]
   have hf : isFree ops[i] = true := by have := hm.2; simp only [freeAt, ho] at this; exact this
   obtain ⟨T, hop, hg, _⟩ := free_info hf
   have hat := htr q i ops[i] (by rw [List.getElem?_append_left (lt_of_some hq)]; exact hq) ho
   unfold OpAt at hat
   rw [hg] at hat
   obtain ⟨z, hz, hx, hh'⟩ := dop_alloc (hop ▸ hat.2)
   exact ⟨ops[i], T, z, ho, hop, hz, hx, hh'⟩
 have hzz : ∃ zz : Nat → List AV, ∀ q i, (Fs ops)[q]? = some i → ∃ (o : Oper) (T : TypeId), ops[i]? = some o ∧ o.op = .alloc T ∧ zeroOf P T = some (zz i) ∧ x i = .ptr (hh q).length 0 ∧ hh (q + 1) = hh q ++ [.box false (zz i)] := by
   refine ⟨fun i => match ops[i]? with | some o => (match o.op with | .alloc T => (zeroOf P T).getD [] | _ => []) | Option.none => [], ?_⟩
   intro q i hq
   obtain ⟨o, T, z, ho, hop, hz, hx, hh'⟩ := hfr q i hq
   exact ⟨o, T, ho, hop, by simp [ho, hop, hz], hx, by simp [ho, hop, hz, hh']⟩
 obtain ⟨zz, hzz⟩ := hzz
 have hlen : ∀ q, q ≤ (Fs ops).length → (hh q).length = h0.length + q ∧ (∃ obs, hh q = h0 ++ obs ∧ ∀ ob ∈ obs, AObj.isH ob = false) ∧ ∀ m i, m < q → (Fs ops)[m]? = some i → (hh q)[h0.length + m]? = some (.box false (zz i)) := by
   intro q
   induction q with
   | zero => intro _; exact ⟨by rw [e0]; rfl, ⟨[], by rw [e0]; simp, by simp⟩, fun m i h => by omega⟩
   | succ q ih =>
     intro hq
     obtain ⟨i1, ⟨obs, i2, i2b⟩, i3⟩ := ih (by omega)
     have hqi : (Fs ops)[q]? = some (Fs ops)[q] := by simp [show q < (Fs ops).length by omega]
     obtain ⟨o, T, ho, hop, hz, hx, hh'⟩ := hzz q _ hqi
     refine ⟨by rw [hh']; simp [i1]; omega, ⟨obs ++ [.box false (zz (Fs ops)[q])], by rw [hh', i2]; simp, fun ob hob => by exact (List.mem_append.1 hob).elim (i2b ob) (fun m => by rw [List.mem_singleton] at m; subst m; rfl)⟩, ?_⟩
     intro m i hm hmi
     rw [hh']
     by_cases hmq : m = q
     · subst hmq
       rw [hqi] at hmi; cases hmi
       rw [List.getElem?_append_right (by omega)]
       simp [i1]
     · rw [List.getElem?_append_left (by omega)]
       exact i3 m i (by omega) hmi
 obtain ⟨l1, l2, l3⟩ := hlen (Fs ops).length (Nat.le_refl _)
 refine ⟨x, fun q => hh ((Fs ops).length + q), zz, ⟨?_, l2, ?_⟩, ?_⟩
 · intro q i hq
   obtain ⟨o, T, ho, hop, hz, hx, hh'⟩ := hzz q i hq
   refine ⟨o, T, ho, hop, hz, ?_, l3 q i (lt_of_some hq) hq⟩
   rw [hx, (hlen q (Nat.le_of_lt (lt_of_some hq))).1]
 · intro q i o hq ho
   refine ⟨_, ?_, htr ((Fs ops).length + q) i o (by rw [List.getElem?_append_right (by omega)]; simpa using hq) ho⟩
   refine (envIs_of D _).congr (fun k => ?_)
   rw [List.take_append, List.take_of_length_le (by omega), Nat.add_sub_cancel_left, List.mem_append, mem_take (Rs ops)]
   rfl
 · intro e he
   have : e = envOf ops x (Fs ops ++ Rs ops) env0 := he.unique D ((envIs_of D _).congr (fun k => by
     rw [List.mem_append, mem_Fs, mem_Rs]
     cases freeAt ops k <;> simp))
   rw [this]
   have := hK
   rw [List.length_append] at this
   exact this

structure Inv (P : Program) (G : Glob) (ops : Array Oper) (h0 : List AObj) (env0 : List AV) (x : Nat → AV) (hr : Nat → List AObj) (zz : Nat → List AV) (X0 : Ctx) (w0 : World) (S : Nat → Prop) (X : Ctx) (w : World) (a : Act) (p : Nat) (e : List AV) : Prop where
 hp : p ≤ (Rs ops).length
 g : GH G X w (hr p)
 ei : EnvIs ops x env0 S e
 eo : EnvOK X w (hr p) e a
 tr : Tr X0 w0 h0 X w (hr p)
 ch : ∀ (i : Nat) (o : Oper), ops[i]? = some o → Chg o → (S i ↔ InR ops p i)
 pend : ∀ (q i : Nat), (Fs ops)[q]? = some i → ¬ S i → (hr p)[h0.length + q]? = some (.box false (zz i)) ∧ X.ι (h0.length + q) = Option.none
 cl : Closed ops S
 lt : ∀ i, S i → i < ops.size

variable {x : Nat → AV} {hr : Nat → List AObj} {zz : Nat → List AV} {X0 : Ctx} {w0 : World} {S : Nat → Prop} {X : Ctx} {w : World} {a : Act} {p : Nat} {e : List AV}

theorem closed_step {i : Nat} {o : Oper} (cl : Closed ops S) (hi : ops[i]? = some o) (hpre : ∀ e, e ∈ anyPre o → S e) : Closed ops (fun k => S k ∨ k = i) := by
 rintro k ok (s | rfl) hk e he
 · exact .inl (cl k ok s hk e he)
 · rw [hi] at hk; cases hk; exact .inl (hpre e he)

theorem not_chg (D : DOK rx ops B) (T : Told P G N rx ops h0 env0 x hr zz) {m k : Nat} {ok : Oper} (hm : (Rs ops)[m]? = some k) (hk : ops[k]? = some ok) (hc : ¬ Chg ok) : (dkind ok = some .r ∨ dkind ok = some .c) ∧ hr (m + 1) = hr m := by
 have hnf : isFree ok = false := by
   have := (mem_Rs.1 (List.mem_of_getElem? hm)).2
   simp only [freeAt, hk] at this; exact this
 have hkind : dkind ok = some .r ∨ dkind ok = some .c := by
   have := D.kind k ok hk
   cases hd : dkind ok with
   | none => rw [hd] at this; cases this
   | some d =>
     cases d with
     | c => exact .inr rfl
     | a => rw [kind_a.1 hd] at hnf; cases hnf
     | r => exact .inl rfl
     | w => exact absurd (.inl hd) hc
     | l => exact absurd (.inr hd) hc
 refine ⟨hkind, ?_⟩
 obtain ⟨eT, _, hat⟩ := T.rest m k ok hm hk
 unfold OpAt at hat
 cases hg : ok.guard with
 | none => rw [hg] at hat; exact kind_same hkind hat.2
 | some q =>
   obtain ⟨j, want⟩ := q
   rw [hg] at hat
   obtain ⟨d, b, _, _, h1, h2⟩ := hat
   cases b with
   | true => exact kind_same hkind (h1 rfl).2
   | false => exact (h2 rfl).2

theorem w_grow_at (D : DOK rx ops B) (T : Told P G N rx ops h0 env0 x hr zz) {m k : Nat} {ok : Oper} (hm : (Rs ops)[m]? = some k) (hk : ops[k]? = some ok) (hc : dkind ok ≠ some .l) : Grow (hr m) (hr (m + 1)) := by
 by_cases hc2 : Chg ok
 · have hw : dkind ok = some .w := hc2.resolve_right hc
   obtain ⟨eT, _, hat⟩ := T.rest m k ok hm hk
   unfold OpAt at hat
   cases hg : ok.guard with
   | none => rw [hg] at hat; exact w_grow hw hat.2
   | some q =>
     obtain ⟨j, want⟩ := q
     rw [hg] at hat
     obtain ⟨d, b, _, _, h1, h2⟩ := hat
     cases b with
     | true => exact w_grow hw (h1 rfl).2
     | false => rw [(h2 rfl).2]; exact .refl _
 · rw [(not_chg D T hm hk hc2).2]; exact .refl _

theorem eq_range {a : Nat} : ∀ (b : Nat), a ≤ b → (∀ m, a ≤ m → m < b → hr (m + 1) = hr m) → hr b = hr a
 | 0, h, _ => by have : a = 0 := by omega
                 rw [this]
 | b + 1, h, hs => by
   by_cases hab : a = b + 1
   · rw [hab]
   · rw [hs b (by omega) (by omega)]
     exact eq_range b (by omega) (fun m h1 h2 => hs m h1 (by omega))
theorem grow_range {a : Nat} : ∀ (b : Nat), a ≤ b → (∀ m, a ≤ m → m < b → Grow (hr m) (hr (m + 1))) → Grow (hr a) (hr b)
 | 0, h, _ => by have : a = 0 := by omega
                 rw [this]; exact .refl _
 | b + 1, h, hs => by
   by_cases hab : a = b + 1
   · rw [hab]; exact .refl _
   · exact (grow_range b (by omega) (fun m h1 h2 => hs m h1 (by omega))).trans (hs b (by omega) (by omega))

def GrowN (N : Nat) (h h' : List AObj) : Prop := ∀ (id : Nat) (o : AObj), id < N → h[id]? = some o → ∃ o', h'[id]? = some o' ∧ o'.strip = o.strip
theorem GrowN.refl (N : Nat) (h : List AObj) : GrowN N h h := fun id o _ ho => ⟨o, ho, rfl⟩
theorem GrowN.trans {N : Nat} {a b c : List AObj} (x : GrowN N a b) (y : GrowN N b c) : GrowN N a c := fun id o hn ho => by
 obtain ⟨o1, h1, e1⟩ := x id o hn ho
 obtain ⟨o2, h2, e2⟩ := y id o1 hn h1
 exact ⟨o2, h2, e2.trans e1⟩
theorem Grow.toN {N : Nat} {h h' : List AObj} (g : Grow h h') : GrowN N h h' := fun id o _ ho => g id o ho
theorem growN_range {N a : Nat} : ∀ (b : Nat), a ≤ b → (∀ m, a ≤ m → m < b → GrowN N (hr m) (hr (m + 1))) → GrowN N (hr a) (hr b)
 | 0, h, _ => by have : a = 0 := by omega
                 rw [this]; exact .refl _ _
 | b + 1, h, hs => by
   by_cases hab : a = b + 1
   · rw [hab]; exact .refl _ _
   · exact (growN_range b (by omega) (fun m h1 h2 => hs m h1 (by omega))).trans (hs b (by omega) (by omega))
theorem GrowN.app {N : Nat} (h obs : List AObj) : GrowN N h (h ++ obs) := (Grow.app h obs).toN
theorem GrowN.set {N id : Nat} {h : List AObj} {ob : AObj} (hn : N ≤ id) : GrowN N h (h.set id ob) := fun i o hi ho => ⟨o, by rw [List.getElem?_set_ne (by omega)]; exact ho, rfl⟩

theorem append_growN {N : Nat} {h h' : List AObj} {T : TypeId} {s x y : AV} (hs : newRef N s) (e : aappend P h T s x = some (y, h')) : GrowN N h h' := by
 unfold aappend at e
 split at e
 case h_2 => cases e
 split at e
 case h_2 => cases e
 split at e
 case isFalse => cases e
 split at e
 case h_2 => cases e
 split at e
 · split at e
   · cases e; exact .app _ _
   · cases e
 · rename_i id off n t
   have hn : N ≤ id := hs
   split at e
   case h_2 => cases e
   split at e
   case isFalse => cases e
   split at e
   · split at e
     · cases e; exact .app _ _
     · cases e
   split at e
   · cases e
   split at e
   · cases e; exact (GrowN.set hn).trans (.app _ _)
   split at e
   · cases e; exact .set hn
   · cases e; exact (GrowN.set hn).trans (.app _ _)
 · cases e

theorem lax_symm {p q : Oper} (h : laxOK rx ops p q = true) : laxOK rx ops q p = true := by
 unfold laxOK at h ⊢
 simp only [Bool.and_eq_true, Bool.or_eq_true] at h ⊢
 exact ⟨⟨⟨h.1.1.1, h.1.2⟩, h.1.1.2⟩, h.2.symm⟩

theorem oldAll_mem {N : Nat} : ∀ {l : List AV}, oldAll N l → ∀ a ∈ l, oldRef N a
 | [], _, a, h => by cases h
 | x :: l, h, a, ha => by
   rcases List.mem_cons.1 ha with rfl | ha
   · exact h.1
   · exact oldAll_mem h.2 a ha

theorem ck_old {N : Nat} {o : Oper} (hk : dkind o = some .r) {env : List AV} (hck : ckOK G (some N) true o.op env) : ∀ y ∈ o.op.operands.toList, ∀ {id : Nat}, (aev G env y).refs = some id → id < N := by
 intro y hy id hid
 have hall : oldAll N (o.op.operands.toList.map (aev G env)) := by
   simp only [ckOK] at hck
   unfold ckOp at hck
   unfold dkind at hk
   cases ho : o.op with
   | call c =>
     rw [ho] at hck hk
     simp only at hck hk
     cases hc : c.callee with
     | builtin b => rw [hc] at hck hk; cases b <;> first | exact hck | simp at hk
     | value f => rw [hc] at hk; simp at hk
     | invoke _ _ => rw [hc] at hk; simp at hk
   | store T a x => rw [ho] at hk; simp at hk
   | _ => rw [ho] at hck; exact hck
 have := oldAll_mem hall _ (List.mem_map.2 ⟨y, hy, rfl⟩)
 unfold oldRef at this
 rw [hid] at this
 exact this

theorem lax_grow (T : Told P G N rx ops h0 env0 x hr zz) {m k : Nat} {ok o : Oper} (hm : (Rs ops)[m]? = some k) (hk : ops[k]? = some ok) (hl : laxOK rx ops o ok = true) (hr' : dkind o = some .r) : GrowN N (hr m) (hr (m + 1)) := by
 obtain ⟨eT, _, hat⟩ := T.rest m k ok hm hk
 have happ : isMut ok = true ∧ (rx && ckOf ops ok) = true := by
   unfold laxOK at hl
   simp only [Bool.and_eq_true, Bool.or_eq_true] at hl
   refine ⟨?_, by simp [hl.1.1.1, hl.1.2]⟩
   rcases hl.2 with h | h
   · exact h.2
   · exfalso
     have h2 := h.2
     unfold isMut isApp isStore at h2
     unfold dkind at hr'
     cases ho : o.op with
     | call c =>
       rw [ho] at hr' h2
       obtain ⟨ce, as, ts⟩ := c
       cases ce with
       | builtin b => cases b <;> simp at hr' h2
       | _ => simp at h2
     | store T a x => rw [ho] at hr'; simp at hr'
     | _ => rw [ho] at h2; simp at h2
 have go : OpD P G N rx ops ok eT (hr m) (x k) (hr (m + 1)) → GrowN N (hr m) (hr (m + 1)) := by
   rintro ⟨hc, hd⟩
   rw [happ.2] at hc
   have h2 := happ.1
   unfold isMut at h2
   rcases Bool.or_eq_true _ _ ▸ h2 with h2 | h2
   case inr =>
     unfold isStore at h2
     split at h2
     case h_2 => cases h2
     rename_i T y z ho
     rw [ho] at hc hd
     simp only [ckOK, ckOp] at hc
     unfold DOp at hd
     simp only [awop, aop] at hd
     cases hst : astore P (hr m) T (aev G eT y) (aev G eT z) with
     | none => rw [hst] at hd; exact hd.elim
     | some h' =>
       rw [hst] at hd
       obtain ⟨_, rfl⟩ := hd
       unfold astore at hst
       split at hst
       case h_2 => cases hst
       rename_i id off cs n hy _ _
       rw [hy] at hc
       have hn : N ≤ id := hc
       split at hst
       · split at hst
         · rw [← Option.some.inj hst]; exact .set hn
         · cases hst
       · split at hst
         · rw [← Option.some.inj hst]; exact .set hn
         · cases hst
       · cases hst
   unfold isApp at h2
   split at h2
   case h_2 => cases h2
   rename_i args tys ho
   rw [ho] at hc hd
   simp only [ckOK, ckOp] at hc
   unfold DOp at hd
   simp only [awop, acall] at hd
   split at hc
   case h_2 => exact hc.elim
   rename_i s z hargs
   rw [hargs] at hd
   split at hd
   case h_2 => exact hd.elim
   rename_i A B s' z' _ hz
   simp only [List.cons.injEq, and_true] at hz
   obtain ⟨rfl, rfl⟩ := hz
   split at hd
   case isFalse =>
     split at hd
     case h_2 => exact hd.elim
     cases ha : azeros P (hr m) A s z with
     | none => rw [ha] at hd; exact hd.elim
     | some q =>
       rw [ha] at hd
       obtain ⟨y, h'⟩ := q
       obtain ⟨_, rfl⟩ := hd
       unfold azeros at ha
       split at ha
       case h_2 => cases ha
       split at ha
       case h_2 => cases ha
       split at ha
       case isFalse => cases ha
       split at ha
       · simp only [Option.some.injEq, Prod.mk.injEq] at ha; rw [← ha.2]; exact .refl _ _
       · simp only [Option.some.injEq, Prod.mk.injEq] at ha; rw [← ha.2]; exact .app _ _
   split at hd
   · cases ha : aappend P (hr m) A s z with
     | none => rw [ha] at hd; exact hd.elim
     | some q =>
       rw [ha] at hd
       obtain ⟨y, h'⟩ := q
       obtain ⟨_, rfl⟩ := hd
       exact append_growN hc ha
   · cases ha : aappend P (freeze (reach dep (hr m) z) (hr m)) A s (snap dep (hr m) z) with
     | none => rw [ha] at hd; exact hd.elim
     | some q =>
       rw [ha] at hd
       obtain ⟨y, h'⟩ := q
       obtain ⟨_, rfl⟩ := hd
       exact (Grow.freeze _ _).toN.trans (append_growN hc ha)
 unfold OpAt at hat
 cases hg : ok.guard with
 | none => rw [hg] at hat; exact go hat
 | some gq =>
   obtain ⟨j, want⟩ := gq
   rw [hg] at hat
   obtain ⟨d, b, _, _, h1, h2⟩ := hat
   cases b with
   | true => exact go (h1 rfl)
   | false => rw [(h2 rfl).2]; exact .refl _ _

structure Here (P : Program) (G : Glob) (N : Nat) (rx : Bool) (ops : Array Oper) (hr : Nat → List AObj) (S : Nat → Prop) (i p : Nat) (o : Oper) (e eT : List AV) (q : Nat) (x : AV) : Prop where
 agree : ∀ t, t ∈ ouses ops o → e.getD t .u = eT.getD t .u
 at_ : OpAt P G N rx ops o eT (hr q) x (hr (q + 1))
 run : OpD P G N rx ops o eT (hr q) x (hr (q + 1)) → ∃ p', p' ≤ (Rs ops).length ∧ DOp P G o.op e (hr p) x (hr p') ∧ ∀ (k : Nat) (ok : Oper), ops[k]? = some ok → Chg ok → ((S k ∨ k = i) ↔ InR ops p' k)
 drop : hr (q + 1) = hr q → ∃ p', p' ≤ (Rs ops).length ∧ hr p' = hr p ∧ ∀ (k : Nat) (ok : Oper), ops[k]? = some ok → Chg ok → ((S k ∨ k = i) ↔ InR ops p' k)

theorem here (D : DOK rx ops B) (T : Told P G N rx ops h0 env0 x hr zz) (I : Inv P G ops h0 env0 x hr zz X0 w0 S X w a p e) {i : Nat} {o : Oper} (hi : ops[i]? = some o) (hS : ¬ S i) (hpre : ∀ e, e ∈ anyPre o → S e) (hf : isFree o = false) :
   ∃ eT q, Here P G N rx ops hr S i p o e eT q (x i) := by
 have hlt : i < ops.size := (Array.getElem?_eq_some_iff.1 hi).1
 have hiR : i ∈ Rs ops := mem_Rs.2 ⟨hlt, by simp only [freeAt, hi]; exact hf⟩
 obtain ⟨q, hq⟩ := List.mem_iff_getElem?.1 hiR
 obtain ⟨eT, hT, hat⟩ := T.rest q i o hq hi
 have notF : i ∉ Fs ops := fun h => by have := (mem_Fs.1 h).2; simp only [freeAt, hi] at this; rw [hf] at this; cases this
 have bef1 : ∀ k, B k i → S k := D.before I.cl i o hi hpre
 have bef2 : ∀ k ok, ops[k]? = some ok → S k → ¬ B i k := fun k ok hk s hb => hS (D.before I.cl k ok hk (I.cl k ok s hk) i hb)
 have agree : ∀ t, t ∈ ouses ops o → e.getD t .u = eT.getD t .u := by
   intro t ht
   refine I.ei.agree D hT t (fun k hk => ?_)
   obtain ⟨ok, hok, hdk⟩ : ∃ ok, ops[k]? = some ok ∧ ok.dst = some t := by
     unfold dstOf at hk
     cases hok : ops[k]? with
     | none => rw [hok] at hk; cases hk
     | some ok => rw [hok] at hk; exact ⟨ok, rfl, hk⟩
   have hkl : k < ops.size := (Array.getElem?_eq_some_iff.1 hok).1
   constructor
   · intro s
     cases hfk : freeAt ops k with
     | true => exact .inl (mem_Fs.2 ⟨hkl, hfk⟩)
     | false =>
       right
       obtain ⟨m, hm⟩ := List.mem_iff_getElem?.1 (mem_Rs.2 ⟨hkl, hfk⟩)
       by_cases hmq : m < q
       · exact ⟨m, hmq, hm⟩
       · exfalso
         have hne : m ≠ q := fun h => by subst h; rw [hq] at hm; cases hm; exact hS s
         have hik := Rs_sorted hq hm (by omega)
         rcases D.ind k i ok o hok hi (by omega) with h | h | h
         · have := D.blt i o hi k h; omega
         · exact bef2 k ok hok s h
         · exact (indep_spec h).1 t hdk ht
   · intro hkk
     by_cases s : S k
     · exact s
     · exfalso
       have hne : k ≠ i := by
         rintro rfl
         rcases hkk with h | ⟨m, hm, hmk⟩
         · exact notF h
         · have := Rs_inj hmk hq; omega
       rcases D.ind k i ok o hok hi hne with h | h | h
       · exact s (bef1 k h)
       · rcases hkk with hF | ⟨m, hm, hmk⟩
         · have hfr : isFree ok = true := by have := (mem_Fs.1 hF).2; simp only [freeAt, hok] at this; exact this
           obtain ⟨_, _, _, hp0⟩ := free_info hfr
           rcases D.clo k ok hok i h with h | ⟨e, he, _⟩
           · rw [hp0] at h; cases h
           · rw [hp0] at he; cases he
         · have := D.blt k ok hok i h
           have := Rs_sorted hmk hq hm
           omega
       · exact (indep_spec h).1 t hdk ht
 have opd : ∀ y ∈ o.op.operands.toList, aev G eT y = aev G e y := by
   intro y hy
   cases y with
   | tmp t =>
     simp only [aev]
     exact (agree t (by
       unfold ouses
       refine List.mem_append_right _ (List.mem_append_left _ ?_)
       unfold otmps
       exact List.mem_filterMap.2 ⟨.tmp t, hy, rfl⟩)).symm
   | _ => rfl
 have pend : ∀ m k ok, (Rs ops)[m]? = some k → ops[k]? = some ok → p ≤ m → m < q → Chg ok → ¬ S k := by
   intro m k ok hm hk h1 h2 hc s
   obtain ⟨m', hm', hmk⟩ := (I.ch k ok hk hc).1 s
   have := Rs_inj hmk hm; omega
 have at_m : ∀ m, m < (Rs ops).length → ∃ k ok, (Rs ops)[m]? = some k ∧ ops[k]? = some ok := by
   intro m hm
   have h1 : (Rs ops)[m]? = some (Rs ops)[m] := by simp [hm]
   have h2 := (mem_Rs.1 (List.mem_of_getElem? h1)).1
   exact ⟨_, ops[(Rs ops)[m]], h1, by simp [h2]⟩
 have hql : q < (Rs ops).length := lt_of_some hq
 by_cases hc : Chg o
 · have hpq : p ≤ q := by
     rcases Nat.lt_or_ge q p with h | h
     · exact absurd ((I.ch i o hi hc).2 ⟨q, h, hq⟩) hS
     · exact h
   have none : ∀ m k ok, (Rs ops)[m]? = some k → ops[k]? = some ok → p ≤ m → m < q → ¬ Chg ok := by
     intro m k ok hm hk h1 h2 hck
     have s := pend m k ok hm hk h1 h2 hck
     have hki := Rs_sorted hm hq h2
     rcases D.ind k i ok o hk hi (by omega) with h | h | h
     · exact s (bef1 k h)
     · have := D.blt k ok hk i h; omega
     · obtain ⟨_, _, a, b, ha, hb, hab⟩ := indep_spec h
       rcases hab with hab | hab
       · rcases hck with c1 | c1 <;> rcases hc with c2 | c2 <;> (rw [c1] at ha; rw [c2] at hb; cases ha; cases hb; simp [kindsOK] at hab)
       · unfold laxOK at hab
         rcases hck with c1 | c1 <;> rcases hc with c2 | c2 <;> simp [c1, c2] at hab
   have heq : hr q = hr p := eq_range q hpq (fun m h1 h2 => by
     obtain ⟨k, ok, hk, hok⟩ := at_m m (by omega)
     exact (not_chg D T hk hok (none m k ok hk hok h1 h2)).2)
   have chq : ∀ (k : Nat) (ok : Oper), ops[k]? = some ok → Chg ok → ((S k ∨ k = i) ↔ InR ops (q + 1) k) := by
     intro k ok hok hck
     constructor
     · rintro (s | rfl)
       · obtain ⟨m, hm, hmk⟩ := (I.ch k ok hok hck).1 s
         exact ⟨m, by omega, hmk⟩
       · exact ⟨q, by omega, hq⟩
     · rintro ⟨m, hm, hmk⟩
       by_cases h1 : m < p
       · exact .inl ((I.ch k ok hok hck).2 ⟨m, h1, hmk⟩)
       · by_cases h2 : m = q
         · subst h2; rw [hq] at hmk; cases hmk; exact .inr rfl
         · exact absurd hck (none m k ok hmk hok (by omega) (by omega))
   refine ⟨eT, q, agree, hat, fun d => ⟨q + 1, hql, ?_, chq⟩, fun hd => ⟨q + 1, hql, by rw [hd, heq], chq⟩⟩
   rw [← heq]; exact awop_congr opd d.2
 · obtain ⟨hkind, hsame⟩ := not_chg D T hq hi hc
   have chp : ∀ (k : Nat) (ok : Oper), ops[k]? = some ok → Chg ok → ((S k ∨ k = i) ↔ InR ops p k) := by
     intro k ok hok hck
     constructor
     · rintro (s | rfl)
       · exact (I.ch k ok hok hck).1 s
       · rw [hi] at hok; cases hok; exact absurd hck hc
     · intro h; exact .inl ((I.ch k ok hok hck).2 h)
   refine ⟨eT, q, agree, hat, fun d => ⟨p, I.hp, ?_, chp⟩, fun _ => ⟨p, I.hp, rfl, chp⟩⟩
   rcases hkind with hk | hk
   · refine awop_congr opd ((reader_ok (kind_rop hk) d.2).2 (hr p) ?_)
     intro y hy
     intro id hid
     have notL : ∀ m k ok, (Rs ops)[m]? = some k → ops[k]? = some ok → ((p ≤ m ∧ m < q) ∨ (q ≤ m ∧ m < p)) → dkind ok ≠ some .l ∨ laxOK rx ops o ok = true := by
       intro m k ok hm hok hpm
       by_cases hl : dkind ok = some .l
       case neg => exact .inl hl
       right
       have hck : Chg ok := .inr hl
       rcases hpm with ⟨h1, h2⟩ | ⟨h1, h2⟩
       · have s := pend m k ok hm hok h1 h2 hck
         have hki := Rs_sorted hm hq h2
         rcases D.ind k i ok o hok hi (by omega) with h | h | h
         · exact absurd (bef1 k h) s
         · have := D.blt k ok hok i h; omega
         · obtain ⟨_, _, a, b, ha, hb, hab⟩ := indep_spec h
           rcases hab with hab | hab
           · rw [hl] at ha; rw [hk] at hb; cases ha; cases hb; simp [kindsOK] at hab
           · exact lax_symm hab
       · have s : S k := (I.ch k ok hok hck).2 ⟨m, h2, hm⟩
         have hne : m ≠ q := fun h => by subst h; rw [hq] at hm; cases hm; exact hS s
         have hik := Rs_sorted hq hm (by omega)
         rcases D.ind k i ok o hok hi (by omega) with h | h | h
         · have := D.blt i o hi k h; omega
         · exact absurd h (bef2 k ok hok s)
         · obtain ⟨_, _, a, b, ha, hb, hab⟩ := indep_spec h
           rcases hab with hab | hab
           · rw [hl] at ha; rw [hk] at hb; cases ha; cases hb; simp [kindsOK] at hab
           · exact lax_symm hab
     have hpl := I.hp
     by_cases hflag : (rx && ckOf ops o) = true
     · -- what it reads was there before
       have hold : id < N := by
         have hck := d.1
         rw [hflag] at hck
         exact ck_old (by rw [hk]) hck y hy hid
       have step : ∀ m, m < (Rs ops).length → ((p ≤ m ∧ m < q) ∨ (q ≤ m ∧ m < p)) → GrowN N (hr m) (hr (m + 1)) := by
         intro m hml hpm
         obtain ⟨k, ok, hk', hok⟩ := at_m m hml
         rcases notL m k ok hk' hok hpm with h | h
         · exact (w_grow_at D T hk' hok h).toN
         · exact lax_grow T hk' hok h (by rw [hk])
       rcases Nat.le_total p q with h | h
       · have gr : GrowN N (hr p) (hr q) := growN_range q h (fun m h1 h2 => step m (by omega) (.inl ⟨h1, h2⟩))
         have rv := aev_ok I.g I.eo y
         rw [← opd y hy] at rv
         obtain ⟨ob, hob⟩ := rv_refs rv hid
         obtain ⟨ob', h1, h2⟩ := gr id ob hold hob
         right; rw [hob, h1]; simp [h2]
       · have gr : GrowN N (hr q) (hr p) := growN_range p h (fun m h1 h2 => step m (by omega) (.inr ⟨h1, h2⟩))
         cases hx : (hr q)[id]? with
         | none => left; rfl
         | some ob => obtain ⟨ob', h1, h2⟩ := gr id ob hold hx; right; rw [h1]; simp [h2]
     · have notL2 : ∀ m k ok, (Rs ops)[m]? = some k → ops[k]? = some ok → ((p ≤ m ∧ m < q) ∨ (q ≤ m ∧ m < p)) → dkind ok ≠ some .l := by
         intro m k ok hm hok hpm
         rcases notL m k ok hm hok hpm with h | h
         · exact h
         · unfold laxOK at h
           simp only [Bool.and_eq_true] at h
           exact absurd (by simp [h.1.1.1, h.1.1.2]) hflag
       rcases Nat.le_total p q with h | h
       · have gr : Grow (hr p) (hr q) := grow_range q h (fun m h1 h2 => by
           obtain ⟨k, ok, hk, hok⟩ := at_m m (by omega)
           exact w_grow_at D T hk hok (notL2 m k ok hk hok (.inl ⟨h1, h2⟩)))
         have rv := aev_ok I.g I.eo y
         rw [← opd y hy] at rv
         obtain ⟨ob, hob⟩ := rv_refs rv hid
         obtain ⟨ob', h1, h2⟩ := gr id ob hob
         right; rw [hob, h1]; simp [h2]
       · have gr : Grow (hr q) (hr p) := grow_range p h (fun m h1 h2 => by
           obtain ⟨k, ok, hk, hok⟩ := at_m m (by omega)
           exact w_grow_at D T hk hok (notL2 m k ok hk hok (.inr ⟨h1, h2⟩)))
         cases hx : (hr q)[id]? with
         | none => left; rfl
         | some ob => obtain ⟨ob', h1, h2⟩ := gr id ob hx; right; rw [h1]; simp [h2]
   · exact awop_congr opd ((pure_ok hk d.2).2 (hr p))

theorem next_inv (D : DOK rx ops B) (I : Inv P G ops h0 env0 x hr zz X0 w0 S X w a p e) {i : Nat} {o : Oper} (hi : ops[i]? = some o) (hpre : ∀ e, e ∈ anyPre o → S e) {p' : Nat} (hp : p' ≤ (Rs ops).length)
   (ch : ∀ (k : Nat) (ok : Oper), ops[k]? = some ok → Chg ok → ((S k ∨ k = i) ↔ InR ops p' k)) {X' : Ctx} {w' : World} {a' : Act} (g : GH G X' w' (hr p')) (eo : EnvOK X' w' (hr p') (aput e o.dst (x i)) a') (t : Tr X w (hr p) X' w' (hr p')) :
   Inv P G ops h0 env0 x hr zz X0 w0 (fun k => S k ∨ k = i) X' w' a' p' (aput e o.dst (x i)) := by
 have hd : dstOf ops i = o.dst := by simp [dstOf, hi]
 refine ⟨hp, g, hd ▸ I.ei.step D i, eo, I.tr.trans t, ch, ?_, closed_step I.cl hi hpre, ?_⟩
 · intro q k hq hk
   obtain ⟨h1, h2⟩ := I.pend q k hq (fun s => hk (.inl s))
   refine ⟨t.abs _ _ h1 h2, ?_⟩
   obtain ⟨o', ho', c⟩ := t.ext.obj _ _ h1
   rw [t.abs _ _ h1 h2] at ho'
   cases ho'
   rcases c with c | ⟨_, c⟩
   · cases c
   · exact (c.resolve_right (by simp)).trans h2
 · rintro k (s | rfl)
   · exact I.lt k s
   · exact (Array.getElem?_eq_some_iff.1 hi).1

theorem inv_step (D : DOK rx ops B) (T : Told P G N rx ops h0 env0 x hr zz) (I : Inv P G ops h0 env0 x hr zz X0 w0 S X w a p e) {i : Nat} {o : Oper} (hi : ops[i]? = some o) (hS : ¬ S i) (hpre : ∀ e, e ∈ anyPre o → S e)
   {Q : Exit → Act → World → Prop} {K : Act → World → Prop} (hK : ∀ X' w' a' p' e', Inv P G ops h0 env0 x hr zz X0 w0 (fun k => S k ∨ k = i) X' w' a' p' e' → K a' w') : wpOp P ops Q i K a w := by
 unfold wpOp
 simp only [hi]
 have hd : dstOf ops i = o.dst := by simp [dstOf, hi]
 cases hf : isFree o with
 | true =>
   obtain ⟨_, _, hg, _⟩ := free_info hf
   have hiF : i ∈ Fs ops := mem_Fs.2 ⟨(Array.getElem?_eq_some_iff.1 hi).1, by simp only [freeAt, hi]; exact hf⟩
   obtain ⟨q, hq⟩ := List.mem_iff_getElem?.1 hiF
   obtain ⟨o', Ty, ho', hop, hz, hx, hbox⟩ := T.free q i hq
   rw [hi] at ho'; cases ho'
   have hw : Region.wanted o (yielded ops a.tmps) = true := by simp [Region.wanted, hg]
   rw [if_pos hw]
   refine .inl ?_
   obtain ⟨hid, hι⟩ := I.pend q i hq hS
   obtain ⟨iz, zv, hiz, hizv, hzc⟩ := zeroOf_info hz
   obtain ⟨h1, h2, h3⟩ := aval_cells (X := X) (w := w) (h := hr p) hzc
   have pp := Pushed.alloc w (.cells zv.cells Ty (0, 0))
   obtain ⟨ex, g', st⟩ := gh_fill I.g pp hid hι h1 h2 h3
   have hrun : (execOp a.eval o).run P w = .ok (.value (.pointer (some ⟨w.heap.size, 0, Option.none⟩))) (w.alloc (.cells zv.cells Ty (0, 0))) := by
     have hnr : (newRow Ty zv.cells).run P w = .ok ⟨w.heap.size, 0, Option.none⟩ (w.alloc (.cells zv.cells Ty (0, 0))) := rfl
     unfold execOp
     simp only [hop]
     simp [Instr.alloc, run_zero hiz hizv, newVar, hnr]
   unfold Oper.wp
   rw [hrun]
   simp only [Oper.upon]
   have rp : RV (X.upd (h0.length + q) (some (w.heap.size, 0))) (w.alloc (.cells zv.cells Ty (0, 0))) (hr p) (x i) (.pointer (some ⟨w.heap.size, 0, Option.none⟩)) := by
     rw [hx]
     have := RV.ptr (X := X.upd (h0.length + q) (some (w.heap.size, 0))) (w := w.alloc (.cells zv.cells Ty (0, 0))) (h := hr p) (id := h0.length + q) (off := 0) (ob := .box false (zz i)) (b := w.heap.size) (o := 0) hid (by simp) (Ctx.upd_same _ _ _)
     simpa using this
   refine hK _ _ _ p (aput e o.dst (x i)) ⟨I.hp, g', hd ▸ I.ei.step D i, ?_, ⟨I.tr.step.trans st, ?_, I.tr.abs⟩, ?_, ?_, closed_step I.cl hi hpre, ?_⟩
   · exact EnvOK.put ⟨I.eo.defers, I.eo.size, fun j y v hy hv => (I.eo.rel j y v hy hv).monoW ex⟩ _ rp
   · refine ⟨fun b hb => I.tr.ext.fr b hb, fun b hb => (ex.keep b (I.tr.ext.fr b hb)).trans (I.tr.ext.keep b hb), fun b s hs => ex.shp b s (I.tr.ext.shp b s hs), fun k ob hk => ?_⟩
     obtain ⟨ob', ho', c⟩ := I.tr.ext.obj k ob hk
     refine ⟨ob', ho', c.imp id (fun c => ⟨c.1, ?_⟩)⟩
     rw [Ctx.upd_other _ _ (by have := lt_of_some hk; omega)]
     exact c.2
   · intro k ok hok hck
     rw [← I.ch k ok hok hck]
     constructor
     · rintro (s | rfl)
       · exact s
       · rw [hi] at hok; cases hok
         rcases hck with c | c <;> (rw [kind_a.2 hf] at c; cases c)
     · exact .inl
   · intro q' k hq' hk
     obtain ⟨p1, p2⟩ := I.pend q' k hq' (fun s => hk (.inl s))
     refine ⟨p1, ?_⟩
     have hne : q' ≠ q := fun h => by subst h; rw [hq] at hq'; cases hq'; exact hk (.inr rfl)
     rw [Ctx.upd_other _ _ (by omega)]
     exact p2
   · rintro k (s | rfl)
     · exact I.lt k s
     · exact (Array.getElem?_eq_some_iff.1 hi).1
 | false =>
   obtain ⟨eT, q, H⟩ := here D T I hi hS hpre hf
   have go : OpD P G N rx ops o eT (hr q) (x i) (hr (q + 1)) → o.wp P a w K Q := by
     intro d
     obtain ⟨p', hp', d', ch⟩ := H.run d
     refine awop_ok (K := fun x1 h1 => x1 = x i ∧ h1 = hr p') o I.g I.eo d' ?_
     rintro x' h' a' w' X' ⟨rfl, rfl⟩ g' r' t
     exact hK _ _ _ _ _ (next_inv D I hi hpre hp' ch g' r' t)
   have stop : hr (q + 1) = hr q → x i = .tup [] → K (a.put o.dst undef) w := by
     intro d hx
     obtain ⟨p', hp', hh, ch⟩ := H.drop d
     refine hK X w (a.put o.dst undef) p' _ (next_inv D I hi hpre hp' ch (by rw [hh]; exact I.g) (by rw [hh, hx]; exact I.eo.put _ (.tup (vs := #[]) rfl (by simp))) (by rw [hh]; exact .refl _ _ _))
   have hat := H.at_
   unfold OpAt at hat
   cases hg : o.guard with
   | none =>
     rw [hg] at hat
     have hw : Region.wanted o (yielded ops a.tmps) = true := by simp [Region.wanted, hg]
     rw [if_pos hw]
     exact .inl (go hat)
   | some gq =>
     obtain ⟨j, want⟩ := gq
     rw [hg] at hat
     obtain ⟨d, b, hdj, hb, h1, h2⟩ := hat
     have hx : gval (e.getD d .u) want = .b b := by
       rw [H.agree d (by
         unfold ouses gtmp
         rw [hg]
         refine List.mem_append_right _ (List.mem_append_right _ ?_)
         have : ((ops[j]?).bind fun x => x.dst) = some d := hdj
         simp [this])]
       exact hb
     rw [wanted_of I.eo hg hdj hx]
     cases b with
     | true =>
       simp only [if_true]
       exact .inl (go (h1 rfl))
     | false =>
       simp only [Bool.false_eq_true, if_false]
       obtain ⟨e1, e2⟩ := h2 rfl
       exact stop e2 e1

theorem countP_lt {α : Type} {p q : α → Bool} : ∀ (l : List α), (∀ y ∈ l, q y = true → p y = true) → (∃ y ∈ l, p y = true ∧ q y = false) → l.countP q < l.countP p
 | [], _, h => by obtain ⟨y, hy, _⟩ := h; cases hy
 | y :: l, hs, h => by
   have hle : l.countP q ≤ l.countP p := List.countP_mono_left (fun z hz => hs z (by simp [hz]))
   rw [List.countP_cons, List.countP_cons]
   by_cases hy : p y = true ∧ q y = false
   · rw [hy.1, hy.2]; simp; omega
   · have h' : ∃ z ∈ l, p z = true ∧ q z = false := by
       obtain ⟨z, hz, hpz⟩ := h
       rcases List.mem_cons.1 hz with rfl | hz
       · exact absurd hpz hy
       · exact ⟨z, hz, hpz⟩
     have := countP_lt l (fun z hz => hs z (by simp [hz])) h'
     have h1 := hs y (by simp)
     cases hq : q y with
     | true => rw [h1 hq]; omega
     | false => simp; omega

theorem anyPre_mem {o : Oper} {e : Nat} : e ∈ anyPre o ↔ ∃ d ∈ o.after, Region.binds .any d = true ∧ d.on = e := by
 unfold anyPre
 simp only [List.mem_map, List.mem_filter, Array.mem_toList_iff]
 constructor
 · rintro ⟨d, ⟨h1, h2⟩, h3⟩; exact ⟨d, h1, h2, h3⟩
 · rintro ⟨d, h1, h2, h3⟩; exact ⟨d, ⟨h1, h2⟩, h3⟩

def Listed (l : Array Bool) (i : Nat) : Prop := l.getD i false = true

theorem any_ok (D : DOK rx ops B) (T : Told P G N rx ops h0 env0 x hr zz) {Q : Exit → Act → World → Prop} (hQ : ∀ X w a p e, Inv P G ops h0 env0 x hr zz X0 w0 (fun i => i < ops.size) X w a p e → Q .normal a w) :
   ∀ (fuel : Nat) (l : Array Bool), l.size = ops.size → (List.range ops.size).countP (fun i => !l.getD i true) ≤ fuel → ∀ (X : Ctx) (w : World) (a : Act) (p : Nat) (e : List AV), Inv P G ops h0 env0 x hr zz X0 w0 (Listed l) X w a p e →
     wpAny P .any ops Q fuel l a w := by
 have all : ∀ (l : Array Bool), l.size = ops.size → Region.ready .any ops l = [] → ∀ i, i < ops.size → Listed l i := by
   intro l hl hr i
   induction i using Nat.strongRecOn with
   | ind i ih =>
     intro hi
     have ho : ops[i]? = some ops[i] := by simp [hi]
     have hn : i ∉ Region.ready .any ops l := by rw [hr]; simp
     rw [mem_ready] at hn
     have hpre : ∀ d ∈ ops[i].after, Region.binds .any d = true → l.getD d.on false = true := by
       intro d hd hb
       have hlt := D.lt i ops[i] ho d.on (anyPre_mem.2 ⟨d, hd, hb, rfl⟩)
       exact ih d.on hlt (by omega)
     unfold Listed
     have hli : i < l.size := by omega
     cases hc : l[i] with
     | true => simp [Array.getD, hli, hc]
     | false => exact absurd ⟨by simp [Array.getD, hli, hc], ops[i], ho, hpre⟩ hn
 have fin : ∀ (l : Array Bool), l.size = ops.size → Region.ready .any ops l = [] → ∀ X w a p e, Inv P G ops h0 env0 x hr zz X0 w0 (Listed l) X w a p e → Q .normal a w := by
   intro l hl hr X w a p e I
   have hs : (Listed l) = (fun i => i < ops.size) := funext fun i => propext ⟨I.lt i, all l hl hr i⟩
   exact hQ X w a p e (hs ▸ I)
 intro fuel
 induction fuel with
 | zero =>
   intro l hl hc X w a p e I
   have hr : Region.ready .any ops l = [] := by
     rw [List.eq_nil_iff_forall_not_mem]
     intro i hi
     obtain ⟨h1, o, ho, _⟩ := mem_ready.1 hi
     have hlt : i < ops.size := (Array.getElem?_eq_some_iff.1 ho).1
     have hz : (List.range ops.size).countP (fun i => !l.getD i true) = 0 := by omega
     rw [List.countP_eq_zero] at hz
     have := hz i (List.mem_range.2 hlt)
     rw [h1] at this
     exact this rfl
   exact ⟨hr, fin l hl hr X w a p e I⟩
 | succ fuel ih =>
   intro l hl hc X w a p e I
   refine ⟨fun hr => fin l hl hr X w a p e I, fun i hi => ?_⟩
   obtain ⟨h1, o, ho, hall⟩ := mem_ready.1 hi
   have hlt : i < ops.size := (Array.getElem?_eq_some_iff.1 ho).1
   have hli : i < l.size := by omega
   have hf : l[i] = false := by simpa [Array.getD, hli] using h1
   refine inv_step D T I ho ?_ ?_ (fun X' w' a' p' e' I' => ih (l.setIfInBounds i true) (by simp [hl]) ?_ X' w' a' p' e' ?_)
   · intro s
     unfold Listed at s
     simp [Array.getD, hli, hf] at s
   · intro d hd
     obtain ⟨d', h1, h2, rfl⟩ := anyPre_mem.1 hd
     exact hall d' h1 h2
   · have : (List.range ops.size).countP (fun k => !(l.setIfInBounds i true).getD k true) < (List.range ops.size).countP (fun k => !l.getD k true) := by
       refine countP_lt _ ?_ ⟨i, List.mem_range.2 hlt, by rw [h1]; rfl, by simp [Array.getD, hli]⟩
       intro k hk hk'
       by_cases hik : i = k
       · subst hik; rw [h1]; rfl
       · rw [getD_set_ne true hik] at hk'; exact hk'
     omega
   · have hs : (Listed (l.setIfInBounds i true)) = (fun k => Listed l k ∨ k = i) := funext fun k => propext (by
       unfold Listed
       by_cases hik : i = k
       · subst hik; simp [Array.getD, hli]
       · rw [getD_set_ne false hik]
         constructor
         · exact .inl
         · rintro (s | rfl)
           · exact s
           · exact absurd rfl hik)
     rw [hs]; exact I'

theorem draw_any (hd : drawOk rx ops = true) {al : List AOper} (hl : stripOps rx ops (hoist ops) = some al) {K : List AV → List AObj → Prop} {env : List AV} {h : List AObj} {X : Ctx} {w : World} {a : Act} {Q : Exit → Act → World → Prop}
   (e : awops P G (some N) al K env h) (g : GH G X w h) (r : EnvOK X w h env a) (hQ : ∀ a' w', Holds G X w h K a' w' → Q .normal a' w') : wpAny P .any ops Q ops.size (Array.replicate ops.size false) a { w with drawn := w.drawn + 1 } := by
 have D := dok_of hd
 obtain ⟨x, hr, zz, T, hK⟩ := told_of (P := P) (G := G) D hl e
 obtain ⟨g1, t1⟩ := gh_same (w' := { w with drawn := w.drawn + 1 }) g rfl rfl rfl rfl
 obtain ⟨obs, hobs, hobs2⟩ := T.start
 obtain ⟨g2, t2⟩ := gh_more g1 obs hobs2
 have t12 := t1.trans t2
 refine any_ok (x := x) (hr := hr) (zz := zz) (h0 := h) (env0 := env) (X0 := X) (w0 := w) D T ?_ ops.size (Array.replicate ops.size false) (by simp) (by
   have := List.countP_le_length (p := fun i => !(Array.replicate ops.size false).getD i true) (l := List.range ops.size)
   simpa using this) X _ a 0 env ?_
 · intro X' w' a' p' e' I
   refine hQ a' w' ⟨e', hr (Rs ops).length, X', hK e' I.ei, ?_⟩
   have heq : hr (Rs ops).length = hr p' := eq_range _ I.hp (fun m h1 h2 => by
     have hm' : (Rs ops)[m]? = some (Rs ops)[m] := by simp [h2]
     have hlt := (mem_Rs.1 (List.mem_of_getElem? hm')).1
     refine (not_chg D T hm' (ok := ops[(Rs ops)[m]]) (by simp [hlt]) (fun hc => ?_)).2
     obtain ⟨m', hm1, hm2⟩ := (I.ch (Rs ops)[m] ops[(Rs ops)[m]] (by simp [hlt]) hc).1 hlt
     have := Rs_inj hm2 hm'
     omega)
   rw [heq]
   exact ⟨I.g, I.eo, I.tr⟩
 · have nol : ∀ i, ¬ Listed (Array.replicate ops.size false) i := by
     intro i s
     unfold Listed at s
     by_cases hi : i < ops.size <;> simp [Array.getD, hi] at s
   have hs : Listed (Array.replicate ops.size false) = fun _ => False := funext fun i => propext ⟨nol i, False.elim⟩
   refine ⟨Nat.zero_le _, hobs ▸ g2, hs ▸ EnvIs.start, hobs ▸ r.mono t12.ext, hobs ▸ t12, ?_, ?_, ?_, ?_⟩
   · intro i o _ _
     exact ⟨fun s => absurd s (nol i), fun ⟨m, hm, _⟩ => by omega⟩
   · intro q i hq _
     obtain ⟨o, Ty, _, _, _, _, hb⟩ := T.free q i hq
     refine ⟨hb, ?_⟩
     cases hi : X.ι (h.length + q) with
     | none => rfl
     | some bo =>
       obtain ⟨ob, hob⟩ := g.dom _ _ hi
       have := lt_of_some hob
       omega
   · intro i o s; exact absurd s (nol i)
   · intro i s; exact absurd s (nol i)
theorem draw_ok (hm : P.follows .mixedOrders = true) {id : Nat} (hd : drawOk rx ops = true) {al : List AOper} (hl : stripOps rx ops (hoist ops) = some al) {K : List AV → List AObj → Prop} {env : List AV} {h : List AObj} {X : Ctx} {w : World} {a : Act} {Q : Exit → Act → World → Prop}
   (e : awops P G (some N) al K env h) (g : GH G X w h) (r : EnvOK X w h env a) (hQ : ∀ a' w', Holds G X w h K a' w' → Q .normal a' w') : (Code.region id ops true).wp P Q a w :=
 wp_region_any hm (draw_any hd hl e g r hQ)
end
def lastB (pre : Array Oper) (o : Oper) : Bool :=
 ((anyPre o).all fun e => decide (e < pre.size)) &&
 (List.range pre.size).all fun i => (anyPre o).contains i || (List.range pre.size).any fun j => decide (i < j) && match pre[j]? with
   | some p => (anyPre p).contains i
   | Option.none => false
def guardB (pre : Array Oper) : Bool := pre.toList.all fun p => match p.guard with
 | some (j, _) => decide (j < pre.size)
 | Option.none => true
section
variable {P : Program} {pre : Array Oper} {o : Oper} {Q : Exit → Act → World → Prop}
def Cl (pre : Array Oper) (l : Array Bool) : Prop := ∀ i p, pre[i]? = some p → l.getD i false = true → ∀ e ∈ anyPre p, l.getD e false = true
def BehindQ (P : Program) (pre : Array Oper) (o : Oper) (Q : Exit → Act → World → Prop) : Exit → Act → World → Prop
 | .normal, a, w => wpOp P (pre.push o) Q pre.size (fun a w => Q .normal a w) a w
 | x, a, w => Q x a w
theorem push_getD {l : Array Bool} {i : Nat} {d : Bool} (h : i < l.size) : (l.push false).getD i d = l.getD i d := by
 simp [Array.getD, h, Array.getElem_push, Nat.lt_succ_of_lt h]
theorem push_last {l : Array Bool} {d : Bool} : (l.push false).getD l.size d = false := by simp [Array.getD]
theorem get_push {i : Nat} (h : i < pre.size) : (pre.push o)[i]? = pre[i]? := by rw [Array.getElem?_push]; rw [if_neg (by omega)]
theorem pre_all {l : Array Bool} (hlt : ∀ i p, pre[i]? = some p → ∀ e ∈ anyPre p, e < i) (hl : l.size = pre.size) (hr : Region.ready .any pre l = []) : ∀ i, i < pre.size → l.getD i false = true := by
 intro i
 induction i using Nat.strongRecOn with
 | ind i ih =>
   intro hi
   have ho : pre[i]? = some pre[i] := by simp [hi]
   have hn : i ∉ Region.ready .any pre l := by rw [hr]; simp
   rw [mem_ready] at hn
   have hli : i < l.size := by omega
   cases hc : l[i] with
   | true => simp [Array.getD, hli, hc]
   | false =>
     refine absurd ⟨by simp [Array.getD, hli, hc], pre[i], ho, fun d hd hb => ?_⟩ hn
     have hlt' := hlt i pre[i] ho d.on (anyPre_mem.2 ⟨d, hd, hb, rfl⟩)
     exact ih d.on hlt' (by omega)
theorem last_all {l : Array Bool} (hL : lastB pre o = true) (hc : Cl pre l) (hd : ∀ e ∈ anyPre o, l.getD e false = true) : ∀ i, i < pre.size → l.getD i false = true := by
 simp only [lastB, Bool.and_eq_true, List.all_eq_true, List.mem_range, Bool.or_eq_true] at hL
 have key : ∀ k i, pre.size - i ≤ k → i < pre.size → l.getD i false = true := by
   intro k
   induction k with
   | zero => intro i h1 h2; omega
   | succ k ih =>
     intro i h1 h2
     rcases hL.2 i h2 with h | h
     · exact hd i (List.contains_iff_mem.1 h)
     · rw [List.any_eq_true] at h
       obtain ⟨j, hj, hj2⟩ := h
       rw [List.mem_range] at hj
       simp only [Bool.and_eq_true, decide_eq_true_eq] at hj2
       have hp : pre[j]? = some pre[j] := by simp [hj]
       rw [hp] at hj2
       exact hc j _ hp (ih j (by omega) hj) i (List.contains_iff_mem.1 hj2.2)
 exact fun i h => key _ i (Nat.le_refl _) h
theorem ready_push {l : Array Bool} {i : Nat} (hlt : ∀ i p, pre[i]? = some p → ∀ e ∈ anyPre p, e < i) (hl : l.size = pre.size) (hi : i < pre.size) : i ∈ Region.ready .any (pre.push o) (l.push false) ↔ i ∈ Region.ready .any pre l := by
 rw [mem_ready, mem_ready, get_push hi, push_getD (by omega)]
 have ho : pre[i]? = some pre[i] := by simp [hi]
 rw [ho]
 have h1 : ∀ d ∈ pre[i].after, Region.binds .any d = true → (l.push false).getD d.on false = l.getD d.on false := fun d hd hb => push_getD (by have := hlt i _ ho d.on (anyPre_mem.2 ⟨d, hd, hb, rfl⟩); omega)
 constructor
 · rintro ⟨a, p, hp, hall⟩; cases hp; exact ⟨a, _, rfl, fun d hd hb => (h1 d hd hb).symm.trans (hall d hd hb)⟩
 · rintro ⟨a, p, hp, hall⟩; cases hp; exact ⟨a, _, rfl, fun d hd hb => (h1 d hd hb).trans (hall d hd hb)⟩
theorem any_done {ops : Array Oper} {l : Array Bool} (hl : ∀ i, i < ops.size → l.getD i true = true) {a : Act} {w : World} (q : Q .normal a w) : ∀ fuel, wpAny P .any ops Q fuel l a w := by
 have hr : Region.ready .any ops l = [] := by
   rw [List.eq_nil_iff_forall_not_mem]
   intro i hi
   obtain ⟨h1, p, hp, _⟩ := mem_ready.1 hi
   have := hl i (Array.getElem?_eq_some_iff.1 hp).1
   rw [h1] at this; cases this
 intro fuel
 cases fuel with
 | zero => exact ⟨hr, q⟩
 | succ f => exact ⟨fun _ => q, fun i hi => by rw [hr] at hi; cases hi⟩
theorem wanted_push (hg : guardB pre = true) {i : Nat} {p : Oper} (hp : pre[i]? = some p) (ts : Array Value) : Region.wanted p (yielded (pre.push o) ts) = Region.wanted p (yielded pre ts) := by
 simp only [guardB, List.all_eq_true] at hg
 have := hg p (Array.mem_toList_iff.2 (Array.mem_of_getElem? hp))
 unfold Region.wanted
 cases hq : p.guard with
 | none => rfl
 | some q =>
   obtain ⟨j, b⟩ := q
   rw [hq] at this
   simp only [decide_eq_true_eq] at this
   simp only [yielded, get_push this]
theorem upon_exits {o : Oper} {a : Act} {w : World} {K : Act → World → Prop} {Q Q' : Exit → Act → World → Prop} (hQ : ∀ x a w, x ≠ .normal → Q x a w → Q' x a w) (hL : LetsOut Q → LetsOut Q') (h : o.wp P a w K Q) : o.wp P a w K Q' := by
 unfold Oper.wp at *
 generalize (execOp a.eval o).run P w = r at *
 cases r with
 | ok n w' =>
   cases n <;> simp only [Oper.upon] at h ⊢ <;> first
     | exact h
     | exact Calls.mono h (fun e w'' he => by cases e <;> first | exact he | exact hQ _ _ _ (by simp) he | exact hL he)
 | halt x w' => cases x <;> simp only [Oper.upon] at h ⊢ <;> first | exact h | exact hQ _ _ _ (by simp) h
theorem any_split (hlt : ∀ i p, pre[i]? = some p → ∀ e ∈ anyPre p, e < i) (hL : lastB pre o = true) (hg : guardB pre = true) :
   ∀ (fuel : Nat) (l : Array Bool), l.size = pre.size → Cl pre l → ∀ (a : Act) (w : World), wpAny P .any pre (BehindQ P pre o Q) fuel l a w → wpAny P .any (pre.push o) Q (fuel + 1) (l.push false) a w := by
 have hn : (pre.push o)[pre.size]? = some o := by simp
 have hdl : ∀ e ∈ anyPre o, e < pre.size := by
   simp only [lastB, Bool.and_eq_true, List.all_eq_true, decide_eq_true_eq] at hL
   exact hL.1
 have fin : ∀ (fuel : Nat) (l : Array Bool), l.size = pre.size → (∀ i, i < pre.size → l.getD i false = true) → ∀ (a : Act) (w : World), BehindQ P pre o Q .normal a w → wpAny P .any (pre.push o) Q (fuel + 1) (l.push false) a w := by
   intro fuel l hl hall a w hB
   have hmem : pre.size ∈ Region.ready .any (pre.push o) (l.push false) := by
     rw [mem_ready]
     refine ⟨by rw [← hl]; exact push_last, o, hn, fun d hd hb => ?_⟩
     have := hdl d.on (anyPre_mem.2 ⟨d, hd, hb, rfl⟩)
     rw [push_getD (by omega)]
     exact hall _ this
   refine ⟨fun hr => (by rw [hr] at hmem; cases hmem), fun i hi => ?_⟩
   have hlt2 : i < pre.size + 1 := by
     obtain ⟨_, p, hp, _⟩ := mem_ready.1 hi
     have := (Array.getElem?_eq_some_iff.1 hp).1
     simpa using this
   by_cases hin : i < pre.size
   · have h1 := (mem_ready.1 hi).1
     rw [push_getD (by omega)] at h1
     have h2 := hall i hin
     have hli : i < l.size := by omega
     simp [Array.getD, hli] at h1 h2
     rw [h1] at h2; cases h2
   · obtain rfl : i = pre.size := by omega
     refine wpOp_mono (fun a w q => any_done (fun k hk => ?_) q fuel) hB
     rw [Array.size_push] at hk
     by_cases hk2 : k < pre.size
     · have h2 := hall k hk2
       have hkl : k < l.size := by omega
       have : ((l.push false).setIfInBounds pre.size true).getD k true = l.getD k false := by
         rw [getD_set_ne true (by omega), push_getD hkl]
         simp [Array.getD, hkl]
       rw [this]; exact h2
     · obtain rfl : k = pre.size := by omega
       rw [← hl]; simp [Array.getD]
 intro fuel
 induction fuel with
 | zero =>
   intro l hl hc a w h
   exact fin 0 l hl (pre_all hlt hl h.1) a w h.2
 | succ fuel ih =>
   intro l hl hc a w h
   by_cases hr : Region.ready .any pre l = []
   · exact fin (fuel + 1) l hl (pre_all hlt hl hr) a w (h.1 hr)
   · refine ⟨fun hr' => ?_, fun i hi => ?_⟩
     · obtain ⟨k, hk⟩ := List.exists_mem_of_ne_nil _ hr
       have hkl : k < pre.size := by obtain ⟨_, p, hp, _⟩ := mem_ready.1 hk; exact (Array.getElem?_eq_some_iff.1 hp).1
       have := (ready_push (o := o) hlt hl hkl).2 hk
       rw [hr'] at this; cases this
     · have hlt2 : i < pre.size + 1 := by
         obtain ⟨_, p, hp, _⟩ := mem_ready.1 hi
         have := (Array.getElem?_eq_some_iff.1 hp).1
         simpa using this
       by_cases hin : i < pre.size
       · have hi' := (ready_push hlt hl hin).1 hi
         have h2 := h.2 i hi'
         have hp : pre[i]? = some pre[i] := by simp [hin]
         have hli : i < l.size := by omega
         have hset : (l.push false).setIfInBounds i true = (l.setIfInBounds i true).push false := by
           apply Array.ext
           · simp
           · intro k h1 h2
             have q1 := Array.getElem?_setIfInBounds (xs := l.push false) (i := i) (j := k) (a := true)
             rw [Array.getElem?_eq_getElem h1] at q1
             have q2 := Array.getElem?_push (xs := l.setIfInBounds i true) (x := false) (i := k)
             rw [Array.getElem?_eq_getElem h2] at q2
             apply Option.some.inj
             rw [q1, q2, Array.getElem?_setIfInBounds, Array.getElem?_push]
             simp only [Array.size_push, Array.size_setIfInBounds]
             by_cases hik : i = k
             · subst hik; rw [if_pos rfl, if_pos (by omega), if_neg (by omega), if_pos rfl, if_pos hli]
             · rw [if_neg hik]
               by_cases hkl : k = l.size
               · rw [if_pos hkl, if_pos hkl]
               · rw [if_neg hkl, if_neg hkl, if_neg hik]
         have K : ∀ a w, wpAny P .any pre (BehindQ P pre o Q) fuel (l.setIfInBounds i true) a w → wpAny P .any (pre.push o) Q (fuel + 1) ((l.push false).setIfInBounds i true) a w := fun a w q => by
           rw [hset]
           refine ih _ (by simp [hl]) ?_ a w q
           intro k p hp' hk e he
           by_cases hik : i = k
           · subst hik
             obtain ⟨_, p2, hp2, hall⟩ := mem_ready.1 hi'
             rw [hp'] at hp2; cases hp2
             obtain ⟨d, hd1, hd2, rfl⟩ := anyPre_mem.1 he
             have := hlt _ _ hp' d.on he
             rw [getD_set_ne false (by omega)]
             exact hall d hd1 hd2
           · rw [getD_set_ne false hik] at hk
             have := hc k p hp' hk e he
             by_cases hie : i = e
             · subst hie; simp [Array.getD, hli]
             · rw [getD_set_ne false hie]; exact this
         unfold wpOp at h2 ⊢
         rw [get_push hin, hp]
         rw [hp] at h2
         dsimp only at h2 ⊢
         rw [wanted_push hg hp]
         by_cases hw : Region.wanted pre[i] (yielded pre a.tmps) = true
         · rw [if_pos hw] at h2 ⊢
           have up : LetsOut (BehindQ P pre o Q) → LetsOut Q := fun ⟨a, w, q⟩ => ⟨a, w, q⟩
           rcases h2 with h2 | ⟨h2, h3⟩
           · exact .inl (upon_exits (fun x a w hx q => by cases x <;> first | exact absurd rfl hx | exact q) up (Oper.wp_mono K h2))
           · exact .inr ⟨h2, up h3⟩
         · rw [if_neg hw] at h2 ⊢
           exact K _ _ h2
       · obtain rfl : i = pre.size := by omega
         exfalso
         apply hr
         have hall := last_all hL hc (fun e he => by
           obtain ⟨_, p, hp, hd⟩ := mem_ready.1 hi
           rw [hn] at hp; cases hp
           obtain ⟨d, hd1, hd2, rfl⟩ := anyPre_mem.1 he
           have := hd d hd1 hd2
           rwa [push_getD (by have := hdl _ he; omega)] at this)
         rw [List.eq_nil_iff_forall_not_mem]
         intro k hk
         obtain ⟨h1, p, hp, _⟩ := mem_ready.1 hk
         have hkl := (Array.getElem?_eq_some_iff.1 hp).1
         have h2 := hall k hkl
         have hkl' : k < l.size := by omega
         simp [Array.getD, hkl'] at h1 h2
         rw [h1] at h2; cases h2
end
section
variable {P : Program} {G : Glob} {N : Nat} {rx : Bool} {pre : Array Oper} {o : Oper}
theorem draw_last (hm : P.follows .mixedOrders = true) {id : Nat} (hd : drawOk rx pre = true) (hL : lastB pre o = true) (hg : guardB pre = true) {al : List AOper} {ao : AOper} (hl : stripOps rx pre (hoist pre) = some al) (ho : stripOp false (pre.push o) o = some ao)
   {K : List AV → List AObj → Prop} {env : List AV} {h : List AObj} {X : Ctx} {w : World} {a : Act} {Q : Exit → Act → World → Prop}
   (e : awops P G (some N) al (fun env h => awops P G Option.none [ao] K env h) env h) (g : GH G X w h) (r : EnvOK X w h env a) (hQ : ∀ a' w', Holds G X w h K a' w' → Q .normal a' w') : (Code.region id (pre.push o) true).wp P Q a w := by
 have D := dok_of hd
 refine wp_region_any hm ?_
 have e1 : (pre.push o).size = pre.size + 1 := by simp
 have e2 : Array.replicate (pre.size + 1) false = (Array.replicate pre.size false).push false := by
   apply Array.ext
   · simp
   · intro k h1 h2; simp [Array.getElem_push]
 rw [e1, e2]
 refine any_split (fun i p hp => D.lt i p hp) hL hg _ _ (by simp) ?_ a _ (draw_any hd hl e g r ?_)
 · intro i p hp hi
   exfalso
   have := (Array.getElem?_eq_some_iff.1 hp).1
   simp [Array.getD, this] at hi
 · rintro a' w' ⟨env', h', X', k1, k2, k3, k4⟩
   have hlst : stripOps false (pre.push o) [o] = some [ao] := by simp only [stripOps, ho]
   have wl := awops_ok (ops := pre.push o) (Q := Q) [o] [ao] hlst env' h' X' w' a' k1 k2 k3 (fun a2 w2 ⟨env2, h2, X2, m1, m2, m3, m4⟩ => hQ a2 w2 ⟨env2, h2, X2, m1, m2, m3, k4.trans m4⟩)
   have hn : (pre.push o)[pre.size]? = some o := by simp
   show wpOp P (pre.push o) Q pre.size (fun a w => Q .normal a w) a' w'
   unfold wpOp
   rw [hn]
   exact wl
end

def splitQ : Option Nat → Bool
 | some n => n == 1000000
 | Option.none => false
def splitL : List Oper → Option (List Oper × Oper)
 | [] => Option.none
 | [o] => some ([], o)
 | a :: b :: l => match splitL (b :: l) with
   | some (p, o) => some (a :: p, o)
   | Option.none => Option.none
theorem splitL_eq : ∀ {l p : List Oper} {o : Oper}, splitL l = some (p, o) → l = p ++ [o]
 | [], _, _, h => by cases h
 | [a], p, o, h => by cases h; rfl
 | a :: b :: l, p, o, h => by
   rw [splitL] at h
   cases hs : splitL (b :: l) with
   | none => rw [hs] at h; cases h
   | some q =>
     rw [hs] at h
     cases h
     rw [splitL_eq hs]; rfl
def lastOk (rx : Bool) (ops : Array Oper) : Bool := match splitL ops.toList with
 | some (p, o) => drawOk rx p.toArray && (lastB p.toArray o && guardB p.toArray)
 | Option.none => false
def strip (rx : Bool) (th : Nat → Option Nat) : Code → Option ACode
 | .skip => some .skip
 | .region id ops true => match splitQ (th id) with
   | true => match splitL ops.toList with
     | some (p, o) => match stripOps rx p.toArray (hoist p.toArray), stripOp false ops o with
       | some l, some a => some (.seq (.draw (th id) l) (.region [a]))
       | _, _ => Option.none
     | Option.none => Option.none
   | false => match stripOps rx ops (hoist ops) with
     | some l => some (.draw (th id) l)
     | Option.none => Option.none
 | .region _ ops false => match stripOps false ops ops.toList with
   | some l => some (.region l)
   | Option.none => Option.none
 | .seq a b => match strip rx th a, strip rx th b with
   | some x, some y => some (.seq x y)
   | _, _ => Option.none
 | .cond c a b => match strip rx th a, strip rx th b with
   | some x, some y => some (.cond c x y)
   | _, _ => Option.none
 | .block id c => match strip rx th c with
   | some x => some (.block id x)
   | Option.none => Option.none
 | .loop c => match strip rx th c with
   | some x => some (.loop x)
   | Option.none => Option.none
 | .exit id => some (.exit id)
 | .ret => some .ret
 | _ => Option.none

def drawsOk (rx : Bool) (th : Nat → Option Nat) : Code → Bool
 | .region id ops true => match splitQ (th id) with
   | true => lastOk rx ops
   | false => drawOk rx ops
 | .seq a b | .cond _ a b => drawsOk rx th a && drawsOk rx th b
 | .block _ c | .loop c => drawsOk rx th c
 | _ => true

section
variable {P : Program} {G : Glob} {rx : Bool} {th : Nat → Option Nat}

theorem wp_loop_st {c : Code} {S : Type} (I : S → Act → World → Prop) (μ : S → Nat) {Q : Exit → Act → World → Prop} (s0 : S) {a : Act} {w : World} (h₀ : I s0 a w)
   (round : ∀ s a w, I s a w → c.wp P (Exit.then (fun a' w' => ∃ s', I s' a' w' ∧ μ s' < μ s) Q) a w) : (Code.loop c).wp P Q a w := by
 intro b k cs
 have key : ∀ n s a w, μ s = n → I s a w →
     ∃ e a' w', Q e a' w' ∧ Arrives P (lone (b.at a (.code c :: .inLoop c :: k)) cs w) b k cs e a' w' := by
   intro n
   induction n using Nat.strongRecOn with
   | _ n ih =>
     intro s a w hn hI
     obtain ⟨e, a₁, w₁, hq, harr⟩ := round s a w hI b (.inLoop c :: k) cs
     cases e with
     | normal =>
       obtain ⟨s', hI₁, hlt⟩ := hq
       obtain ⟨e₂, a₂, w₂, hq₂, harr₂⟩ := ih (μ s') (hn ▸ hlt) s' a₁ w₁ rfl hI₁
       exact ⟨e₂, a₂, w₂, hq₂, .of_steps (Steps.trans harr (.one step_inLoop)) harr₂⟩
     | exit id => exact ⟨_, a₁, w₁, hq, .pass (x := .inLoop c) rfl (fun _ _ => .inl (by simp)) harr⟩
     | goto l => exact ⟨_, a₁, w₁, hq, .pass (x := .inLoop c) rfl (fun _ _ => .inl (by simp)) harr⟩
     | ret => exact ⟨_, a₁, w₁, hq, .pass (x := .inLoop c) rfl (fun _ _ => .inl (by simp)) harr⟩
     | panic ch => exact ⟨_, a₁, w₁, hq, .pass (x := .inLoop c) rfl (fun _ _ => .inl (by simp)) harr⟩
     | outgrown => exact ⟨_, a₁, w₁, hq, .pass (x := .inLoop c) rfl (fun _ _ => .inl (by simp)) harr⟩
 obtain ⟨e, a', w', hq, harr⟩ := key _ s0 a w rfl h₀
 exact ⟨e, a', w', hq, .of_steps (.one step_loop) harr⟩

theorem Holds.trans {X X1 : Ctx} {w w1 : World} {h h1 : List AObj} {K : List AV → List AObj → Prop} {a' : Act} {w' : World} (t : Tr X w h X1 w1 h1) (k : Holds G X1 w1 h1 K a' w') : Holds G X w h K a' w' := by
 obtain ⟨env', h', X', k1, k2, k3, k4⟩ := k
 exact ⟨env', h', X', k1, k2, k3, t.trans k4⟩

theorem awx_ok (hm : P.follows .mixedOrders = true) : ∀ (c : Code) (ac : ACode), drawsOk rx th c = true → strip rx th c = some ac → ∀ (Q : Exit → List AV → List AObj → Prop) (env : List AV) (h : List AObj), awx P G ac Q env h → AW P G c Q env h
 | .skip, ac, hd, hs, Q, env, h, e => by
   simp only [strip, Option.some.injEq] at hs; subst hs
   intro X w a g r
   exact wp_skip ⟨env, h, X, e, g, r, .refl _ _ _⟩
 | .region id ops false, ac, hd, hs, Q, env, h, e => by
   simp only [strip] at hs
   cases hl : stripOps false ops ops.toList with
   | none => simp [hl] at hs
   | some al =>
     simp only [hl, Option.some.injEq] at hs
     subst hs
     intro X w a g r
     exact wp_region_list (awops_ok ops.toList al hl env h X w a e g r (fun a' w' k => k))
 | .region id ops true, ac, hd, hs, Q, env, h, e => by
   simp only [strip] at hs
   simp only [drawsOk] at hd
   cases hq : splitQ (th id) with
   | true =>
     rw [hq] at hs hd
     simp only [lastOk] at hs hd
     cases hb : splitL ops.toList with
     | none => simp [hb] at hs
     | some q =>
       obtain ⟨p, o⟩ := q
       rw [hb] at hs hd
       simp only [Bool.and_eq_true] at hs hd
       have hops : ops = p.toArray.push o := by
         apply Array.ext'
         rw [splitL_eq hb]; simp
       split at hs
       · rename_i l a' h2 h3
         simp only [Option.some.injEq] at hs
         subst hs
         intro X w a g r
         rw [hops]
         exact draw_last hm hd.1 hd.2.1 hd.2.2 h2 (hops ▸ h3) e g r (fun a' w' k => k)
       · cases hs
   | false =>
   rw [hq] at hs hd
   simp only at hs hd
   cases hl : stripOps rx ops (hoist ops) with
   | none => simp [hl] at hs
   | some al =>
     simp only [hl, Option.some.injEq] at hs
     subst hs
     intro X w a g r
     exact draw_ok hm hd hl e g r (fun a' w' k => k)
 | .seq x y, ac, hd, hs, Q, env, h, e => by
   simp only [drawsOk, Bool.and_eq_true] at hd
   simp only [strip] at hs
   cases hx : strip rx th x with
   | none => simp [hx] at hs
   | some ax =>
   cases hy : strip rx th y with
   | none => simp [hx, hy] at hs
   | some ay =>
     simp only [hx, hy, Option.some.injEq] at hs
     subst hs
     intro X w a g r
     refine wp_seq (wp_mono (awx_ok hm x ax hd.1 hx _ env h e X w a g r) ?_)
     intro e' a' w' k
     cases e' with
     | normal =>
       obtain ⟨env', h', X', k1, k2, k3, k4⟩ := k
       exact wp_mono (awx_ok hm y ay hd.2 hy _ env' h' k1 X' w' a' k2 k3) (fun e2 a2 w2 k5 => k5.trans k4)
     | _ => exact k
 | .cond c x y, ac, hd, hs, Q, env, h, e => by
   simp only [drawsOk, Bool.and_eq_true] at hd
   simp only [strip] at hs
   cases hx : strip rx th x with
   | none => simp [hx] at hs
   | some ax =>
   cases hy : strip rx th y with
   | none => simp [hx, hy] at hs
   | some ay =>
     simp only [hx, hy, Option.some.injEq] at hs
     subst hs
     intro X w a g r
     have rc := aev_ok g r c
     simp only [awx] at e
     cases hc : aev G env c with
     | b t =>
       rw [hc] at e rc
       have hv := bool_ok rc
       cases t with
       | true => exact wp_cond_true hv (awx_ok hm x ax hd.1 hx _ env h (e.1 rfl) X w a g r)
       | false => exact wp_cond_false hv (awx_ok hm y ay hd.2 hy _ env h (e.2 rfl) X w a g r)
     | _ => rw [hc] at e; exact e.elim
 | .block id c, ac, hd, hs, Q, env, h, e => by
   simp only [drawsOk] at hd
   simp only [strip] at hs
   cases hx : strip rx th c with
   | none => simp [hx] at hs
   | some ax =>
     simp only [hx, Option.some.injEq] at hs
     subst hs
     intro X w a g r
     refine wp_block (wp_mono (awx_ok hm c ax hd hx _ env h e X w a g r) ?_)
     intro e' a' w' k
     cases e' with
     | exit i =>
       simp only [Exit.inBlock]
       obtain ⟨env', h', X', k1, k2, k3, k4⟩ := k
       simp only [blockX] at k1
       split
       · rename_i hi; rw [if_pos hi] at k1; exact ⟨env', h', X', k1, k2, k3, k4⟩
       · rename_i hi; rw [if_neg hi] at k1; exact ⟨env', h', X', k1, k2, k3, k4⟩
     | _ => exact k
 | .loop c, ac, hd, hs, Q, env, h, e => by
   simp only [drawsOk] at hd
   simp only [strip] at hs
   cases hx : strip rx th c with
   | none => simp [hx] at hs
   | some ax =>
     simp only [hx, Option.some.injEq] at hs
     subst hs
     intro X w a g r
     simp only [awx, Loop] at e
     obtain ⟨S, I, μ, s0, h0, hround⟩ := e
     refine wp_loop_st (S := S × List AV × List AObj × Ctx) (fun s a' w' => I s.1 s.2.1 s.2.2.1 ∧ GH G s.2.2.2 w' s.2.2.1 ∧ EnvOK s.2.2.2 w' s.2.2.1 s.2.1 a' ∧ Tr X w h s.2.2.2 w' s.2.2.1) (fun s => μ s.1) (s0, env, h, X) ⟨h0, g, r, .refl _ _ _⟩ ?_
     rintro ⟨s1, env1, h1, X1⟩ a1 w1 ⟨i1, g1, r1, t1⟩
     refine wp_mono (awx_ok hm c ax hd hx _ env1 h1 (hround s1 env1 h1 i1) X1 w1 a1 g1 r1) ?_
     intro e' a' w' k
     cases e' with
     | normal =>
       obtain ⟨env', h', X', ⟨s', k1, k1'⟩, k2, k3, k4⟩ := k
       exact ⟨(s', env', h', X'), ⟨k1, k2, k3, t1.trans k4⟩, k1'⟩
     | _ => exact k.trans t1
 | .exit id, ac, hd, hs, Q, env, h, e => by
   simp only [strip, Option.some.injEq] at hs; subst hs
   intro X w a g r
   exact wp_exit ⟨env, h, X, e, g, r, .refl _ _ _⟩
 | .ret, ac, hd, hs, Q, env, h, e => by
   simp only [strip, Option.some.injEq] at hs; subst hs
   intro X w a g r
   exact wp_ret ⟨env, h, X, e, g, r, .refl _ _ _⟩
 | .rangeFunc _ _ _ _, ac, hd, hs, Q, env, h, e => by simp [strip] at hs
 | .scope _, ac, hd, hs, Q, env, h, e => by simp [strip] at hs
 | .label _, ac, hd, hs, Q, env, h, e => by simp [strip] at hs
 | .goto _, ac, hd, hs, Q, env, h, e => by simp [strip] at hs
 | .refuse _, ac, hd, hs, Q, env, h, e => by simp [strip] at hs
end

mutual
def finIds : AV → AV → List Nat
 | .hs id _ _ _, .own .. => [id]
 | .agg xs, .agg rs => finIdsL xs rs
 | .tup xs, .tup rs => finIdsL xs rs
 | _, _ => []
def finIdsL : List AV → List AV → List Nat
 | x :: xs, r :: rs => finIds x r ++ finIdsL xs rs
 | _, _ => []
end
mutual
def finRch (h : List AObj) : AV → AV → List Nat
 | .hs _ _ _ _, .own .. => []
 | .e0, .own .. => []
 | .agg xs, .agg rs => finRchL h xs rs
 | .tup xs, .tup rs => finRchL h xs rs
 | x, _ => reach dep h x
def finRchL (h : List AObj) : List AV → List AV → List Nat
 | x :: xs, r :: rs => finRch h x r ++ finRchL h xs rs
 | _, _ => []
end
mutual
def finOK (h : List AObj) : AV → AV → Prop
 | .hs id off n t, .own sz cells m => t = false ∧ m = n ∧ ∃ cs, h[id]? = some (.arr false sz cs) ∧ off + n * sz ≤ cs.length ∧ cells = (cs.drop off).take (n * sz) ∧ persL cells = true
 | .e0, .own sz cells m => cells = [] ∧ m = 0
 | .agg xs, .agg rs => finOKL h xs rs
 | .tup xs, .tup rs => finOKL h xs rs
 | x, r => r = snap dep h x
def finOKL (h : List AObj) : List AV → List AV → Prop
 | [], [] => True
 | x :: xs, r :: rs => finOK h x r ∧ finOKL h xs rs
 | _, _ => False
end

def Fin (h : List AObj) (x r : AV) : Prop := (r = x ∧ pers x = true) ∨ (finOK h x r ∧ (finIds x r).Nodup ∧ ∀ i ∈ finIds x r, i ∉ finRch h x r)

def FB (X : Ctx) (ids : List Nat) (b : Nat) : Prop := X.F b ∨ ∃ id o, id ∉ ids ∧ X.ι id = some (b, o)

section
variable {P : Program} {G : Glob} {X : Ctx} {w : World} {h : List AObj}

def blks (X : Ctx) (ids : List Nat) : List Nat := ids.filterMap fun i => (X.ι i).map (·.1)
theorem blks_append (X : Ctx) (a b : List Nat) : blks X (a ++ b) = blks X a ++ blks X b := by simp [blks]
theorem blks_mem {X : Ctx} {ids : List Nat} {b : Nat} (hb : b ∈ blks X ids) : ∃ id ∈ ids, ∃ o, X.ι id = some (b, o) := by
 simp only [blks, List.mem_filterMap, Option.map_eq_some_iff] at hb
 obtain ⟨id, hi, ⟨c, o⟩, hc, rfl⟩ := hb
 exact ⟨id, hi, o, hc⟩
theorem blks_nodup (g : GH G X w h) : ∀ {ids : List Nat}, ids.Nodup → (blks X ids).Nodup
 | [], _ => by simp [blks]
 | id :: ids, hn => by
   rw [List.nodup_cons] at hn
   have ih := blks_nodup g hn.2
   simp only [blks, List.filterMap_cons]
   cases hb : X.ι id with
   | none => simp only [Option.map_none]; exact ih
   | some bo =>
     obtain ⟨b, o⟩ := bo
     simp only [hb, Option.map_some]
     rw [List.nodup_cons]
     refine ⟨fun hm => ?_, ih⟩
     obtain ⟨id', hi', o', ho'⟩ := blks_mem (X := X) (ids := ids) hm
     exact hn.1 (g.inj _ _ _ _ _ hb ho' ▸ hi')

theorem fin_snap (g : GH G X w h) (ids : List Nat) {x : AV} {v : Value} (r : RV X w h x v) (hd : ∀ i ∈ ids, i ∉ reach dep h x) : RR (FB X ids) w (snap dep h x) v [] := by
 refine RR.val ((snap_ok g dep x v r).monoF ?_)
 rintro b (hb | ⟨id, hi, o, ho⟩)
 · exact .inl hb
 · exact .inr ⟨id, o, fun hm => hd id hm hi, ho⟩

mutual
theorem fin_ok (g : GH G X w h) (ids : List Nat) : ∀ (x r : AV) (v : Value), finOK h x r → RV X w h x v → (∀ i ∈ ids, i ∉ finRch h x r) → RR (FB X ids) w r v (blks X (finIds x r))
 | .hs id off n t, r, v, e, rv, hd => by
   have gen : finOK h (.hs id off n t) r = (r = snap dep h (.hs id off n t)) → finIds (.hs id off n t) r = [] → finRch h (.hs id off n t) r = reach dep h (.hs id off n t) → RR (FB X ids) w r v (blks X (finIds (.hs id off n t) r)) := by
     intro e1 e2 e3
     rw [e1] at e
     rw [e2, e]
     rw [e3] at hd
     exact fin_snap g ids rv hd
   cases r with
   | own sz cells m =>
     clear gen
     simp only [finOK] at e
     obtain ⟨rfl, rfl, cs, hid, hle, rfl, hp⟩ := e
     simp only [finIds, RR]
     cases rv with
     | dead hr hd' _ => simp [AV.refs] at hr; subst hr; rw [hid] at hd'; cases hd'
     | hs0 hid' hf ho => exact .inr ⟨by simp, rfl, _, rfl⟩
     | @hs _ _ _ _ fz' s' cells' b o cap T N hid' hι hsh hn hcc hN htt hff =>
       rw [hid] at hid'; cases hid'
       have ok := g.objs _ _ hid
       cases ok with
       | absent h0 => rw [h0] at hι; cases hι
       | @arr _ _ _ b' o' cur T' fr h0 hb hf1 hf2 hl h1 hr =>
       rw [h0] at hι; cases hι
       obtain ⟨hF, rfl⟩ := hf2 rfl
       have hNs : N = cur.size := by simp [World.shape?, hb] at hsh; exact hsh.2.symm
       subst hNs
       refine .inl ⟨b, o + off, cur, T', cap, by simp [blks, h0], rfl, hb, by simp; omega, hcc, hN, ?_, ?_⟩
       · intro j u hj hu
         simp at hj
         exact h1 (off + j) u (by omega) (by rw [← Nat.add_assoc]; exact hu)
       · intro j y u hy hu
         have hy' := hy
         rw [List.getElem?_take] at hy
         split at hy
         · rw [List.getElem?_drop] at hy
           exact (hr (off + j) y u hy (by rw [← Nat.add_assoc]; exact hu)).pers (persL_mem hp j y hy') (fun b hb => .inl hb) (fun _ _ => rfl)
         · cases hy
   | _ => exact gen rfl rfl rfl
 | .e0, r, v, e, rv, hd => by
   have gen : finOK h .e0 r = (r = snap dep h .e0) → finIds .e0 r = [] → finRch h .e0 r = reach dep h .e0 → RR (FB X ids) w r v (blks X (finIds .e0 r)) := by
     intro e1 e2 e3
     rw [e1] at e
     rw [e2, e]
     rw [e3] at hd
     exact fin_snap g ids rv hd
   cases r with
   | own sz cells m =>
     clear gen
     simp only [finOK] at e
     obtain ⟨rfl, rfl⟩ := e
     simp only [finIds, RR]
     cases rv with
     | e0 a => exact .inr ⟨trivial, trivial, a, rfl⟩
     | dead hr _ _ => simp [AV.refs] at hr
   | _ => exact gen rfl rfl rfl
 | .agg xs, r, v, e, rv, hd => by
   have gen : finOK h (.agg xs) r = (r = snap dep h (.agg xs)) → finIds (.agg xs) r = [] → finRch h (.agg xs) r = reach dep h (.agg xs) → RR (FB X ids) w r v (blks X (finIds (.agg xs) r)) := by
     intro e1 e2 e3
     rw [e1] at e
     rw [e2, e]
     rw [e3] at hd
     exact fin_snap g ids rv hd
   cases r with
   | agg rs =>
     clear gen
     simp only [finOK] at e
     simp only [finIds]
     cases rv with
     | @agg _ vs hl h1 hr => exact ⟨vs, rfl, h1, finL_ok g ids xs rs vs.toList e (by simpa using hl) (fun j a v ha hv => hr j a v ha (by simpa using hv)) hd⟩
     | dead hr _ _ => simp [AV.refs] at hr
   | _ => exact gen rfl rfl rfl
 | .tup xs, r, v, e, rv, hd => by
   have gen : finOK h (.tup xs) r = (r = snap dep h (.tup xs)) → finIds (.tup xs) r = [] → finRch h (.tup xs) r = reach dep h (.tup xs) → RR (FB X ids) w r v (blks X (finIds (.tup xs) r)) := by
     intro e1 e2 e3
     rw [e1] at e
     rw [e2, e]
     rw [e3] at hd
     exact fin_snap g ids rv hd
   cases r with
   | tup rs =>
     clear gen
     simp only [finOK] at e
     simp only [finIds]
     cases rv with
     | @tup _ vs hl hr => exact ⟨vs, rfl, finL_ok g ids xs rs vs.toList e (by simpa using hl) (fun j a v ha hv => hr j a v ha (by simpa using hv)) hd⟩
     | dead hr _ _ => simp [AV.refs] at hr
   | _ => exact gen rfl rfl rfl
 | .u, r, v, e, rv, hd => by
   have e' : r = snap dep h (.u) := by cases r <;> exact e
   have e2 : finIds (.u) r = [] := by cases r <;> rfl
   have e3 : finRch h (.u) r = reach dep h (.u) := by cases r <;> rfl
   rw [e2, e']
   rw [e3] at hd
   exact fin_snap g ids rv hd
 | .b x, r, v, e, rv, hd => by
   have e' : r = snap dep h (.b x) := by cases r <;> exact e
   have e2 : finIds (.b x) r = [] := by cases r <;> rfl
   have e3 : finRch h (.b x) r = reach dep h (.b x) := by cases r <;> rfl
   rw [e2, e']
   rw [e3] at hd
   exact fin_snap g ids rv hd
 | .i k n, r, v, e, rv, hd => by
   have e' : r = snap dep h (.i k n) := by cases r <;> exact e
   have e2 : finIds (.i k n) r = [] := by cases r <;> rfl
   have e3 : finRch h (.i k n) r = reach dep h (.i k n) := by cases r <;> rfl
   rw [e2, e']
   rw [e3] at hd
   exact fin_snap g ids rv hd
 | .s l, r, v, e, rv, hd => by
   have e' : r = snap dep h (.s l) := by cases r <;> exact e
   have e2 : finIds (.s l) r = [] := by cases r <;> rfl
   have e3 : finRch h (.s l) r = reach dep h (.s l) := by cases r <;> rfl
   rw [e2, e']
   rw [e3] at hd
   exact fin_snap g ids rv hd
 | .p v', r, v, e, rv, hd => by
   have e' : r = snap dep h (.p v') := by cases r <;> exact e
   have e2 : finIds (.p v') r = [] := by cases r <;> rfl
   have e3 : finRch h (.p v') r = reach dep h (.p v') := by cases r <;> rfl
   rw [e2, e']
   rw [e3] at hd
   exact fin_snap g ids rv hd
 | .sl cells n, r, v, e, rv, hd => by
   have e' : r = snap dep h (.sl cells n) := by cases r <;> exact e
   have e2 : finIds (.sl cells n) r = [] := by cases r <;> rfl
   have e3 : finRch h (.sl cells n) r = reach dep h (.sl cells n) := by cases r <;> rfl
   rw [e2, e']
   rw [e3] at hd
   exact fin_snap g ids rv hd
 | .own sz cells n, r, v, e, rv, hd => by
   have e' : r = snap dep h (.own sz cells n) := by cases r <;> exact e
   have e2 : finIds (.own sz cells n) r = [] := by cases r <;> rfl
   have e3 : finRch h (.own sz cells n) r = reach dep h (.own sz cells n) := by cases r <;> rfl
   rw [e2, e']
   rw [e3] at hd
   exact fin_snap g ids rv hd
 | .ptr id off, r, v, e, rv, hd => by
   have e' : r = snap dep h (.ptr id off) := by cases r <;> exact e
   have e2 : finIds (.ptr id off) r = [] := by cases r <;> rfl
   have e3 : finRch h (.ptr id off) r = reach dep h (.ptr id off) := by cases r <;> rfl
   rw [e2, e']
   rw [e3] at hd
   exact fin_snap g ids rv hd
 | .box cells off, r, v, e, rv, hd => by
   have e' : r = snap dep h (.box cells off) := by cases r <;> exact e
   have e2 : finIds (.box cells off) r = [] := by cases r <;> rfl
   have e3 : finRch h (.box cells off) r = reach dep h (.box cells off) := by cases r <;> rfl
   rw [e2, e']
   rw [e3] at hd
   exact fin_snap g ids rv hd
 | .mp id, r, v, e, rv, hd => by
   have e' : r = snap dep h (.mp id) := by cases r <;> exact e
   have e2 : finIds (.mp id) r = [] := by cases r <;> rfl
   have e3 : finRch h (.mp id) r = reach dep h (.mp id) := by cases r <;> rfl
   rw [e2, e']
   rw [e3] at hd
   exact fin_snap g ids rv hd
 | .mapv ks vs, r, v, e, rv, hd => by
   have e' : r = snap dep h (.mapv ks vs) := by cases r <;> exact e
   have e2 : finIds (.mapv ks vs) r = [] := by cases r <;> rfl
   have e3 : finRch h (.mapv ks vs) r = reach dep h (.mapv ks vs) := by cases r <;> rfl
   rw [e2, e']
   rw [e3] at hd
   exact fin_snap g ids rv hd
 | .fn f first capt, r, v, e, rv, hd => by
   have e' : r = snap dep h (.fn f first capt) := by cases r <;> exact e
   have e2 : finIds (.fn f first capt) r = [] := by cases r <;> rfl
   have e3 : finRch h (.fn f first capt) r = reach dep h (.fn f first capt) := by cases r <;> rfl
   rw [e2, e']
   rw [e3] at hd
   exact fin_snap g ids rv hd
theorem finL_ok (g : GH G X w h) (ids : List Nat) : ∀ (xs rs : List AV) (vs : List Value), finOKL h xs rs → xs.length = vs.length → (∀ (j : Nat) (a : AV) (v : Value), xs[j]? = some a → vs[j]? = some v → RV X w h a v) → (∀ i ∈ ids, i ∉ finRchL h xs rs) →
   RRs (FB X ids) w rs vs (blks X (finIdsL xs rs))
 | [], [], [], e, hl, hr, hd => by simp [finIdsL, blks, RRs]
 | x :: xs, r :: rs, v :: vs, e, hl, hr, hd => by
   simp only [finOKL] at e
   simp only [finRchL] at hd
   simp only [finIdsL, blks_append]
   exact ⟨_, _, rfl, fin_ok g ids x r v e.1 (hr 0 x v rfl rfl) (fun i hi hm => hd i hi (List.mem_append_left _ hm)),
     finL_ok g ids xs rs vs e.2 (by simpa using hl) (fun j a v ha hv => hr (j + 1) a v (by simpa using ha) (by simpa using hv)) (fun i hi hm => hd i hi (List.mem_append_right _ hm))⟩
 | [], r :: rs, vs, e, hl, hr, hd => by simp [finOKL] at e
 | x :: xs, [], vs, e, hl, hr, hd => by simp [finOKL] at e
 | [], [], _ :: _, e, hl, hr, hd => by simp at hl
 | _ :: _, _ :: _, [], e, hl, hr, hd => by simp at hl
end

mutual
theorem fin_live : ∀ (x r : AV), finOK h x r → ∀ i ∈ finIds x r, ∃ sz cs, h[i]? = some (.arr false sz cs)
 | .hs id off n t, r, e, i, hi => by
   cases r with
   | own sz cells m =>
     simp only [finOK] at e
     obtain ⟨rfl, rfl, cs, hid, _⟩ := e
     simp only [finIds, List.mem_singleton] at hi
     subst hi
     exact ⟨_, _, hid⟩
   | _ => simp [finIds] at hi
 | .agg xs, r, e, i, hi => by
   cases r with
   | agg rs => simp only [finOK] at e; simp only [finIds] at hi; exact finL_live xs rs e i hi
   | _ => simp [finIds] at hi
 | .tup xs, r, e, i, hi => by
   cases r with
   | tup rs => simp only [finOK] at e; simp only [finIds] at hi; exact finL_live xs rs e i hi
   | _ => simp [finIds] at hi
 | .e0, r, e, i, hi => by cases r <;> simp [finIds] at hi
 | .u, r, e, i, hi => by cases r <;> simp [finIds] at hi
 | .b x, r, e, i, hi => by cases r <;> simp [finIds] at hi
 | .i k n, r, e, i, hi => by cases r <;> simp [finIds] at hi
 | .s l, r, e, i, hi => by cases r <;> simp [finIds] at hi
 | .p v', r, e, i, hi => by cases r <;> simp [finIds] at hi
 | .sl cells n, r, e, i, hi => by cases r <;> simp [finIds] at hi
 | .own sz cells n, r, e, i, hi => by cases r <;> simp [finIds] at hi
 | .ptr id off, r, e, i, hi => by cases r <;> simp [finIds] at hi
 | .box cells off, r, e, i, hi => by cases r <;> simp [finIds] at hi
 | .mp id, r, e, i, hi => by cases r <;> simp [finIds] at hi
 | .mapv ks vs, r, e, i, hi => by cases r <;> simp [finIds] at hi
 | .fn f first capt, r, e, i, hi => by cases r <;> simp [finIds] at hi
theorem finL_live : ∀ (xs rs : List AV), finOKL h xs rs → ∀ i ∈ finIdsL xs rs, ∃ sz cs, h[i]? = some (.arr false sz cs)
 | [], [], e, i, hi => by simp [finIdsL] at hi
 | x :: xs, r :: rs, e, i, hi => by
   simp only [finOKL] at e
   simp only [finIdsL, List.mem_append] at hi
   rcases hi with hi | hi
   · exact fin_live x r e.1 i hi
   · exact finL_live xs rs e.2 i hi
 | [], _ :: _, e, i, hi => by simp [finOKL] at e
 | _ :: _, [], e, i, hi => by simp [finOKL] at e
end

def ares1 (P : Program) (env : List AV) (h : List AObj) : ResultVar → Option AV
 | .tmp t => some (env.getD t .u)
 | .cell a T => aload P T h (env.getD a .u)
def aresL (P : Program) (env : List AV) (h : List AObj) : List ResultVar → Option (List AV)
 | [] => some []
 | r :: rs => match ares1 P env h r, aresL P env h rs with
   | some x, some l => some (x :: l)
   | _, _ => Option.none
def ares (P : Program) (rs : List ResultVar) (env : List AV) (h : List AObj) : Option AV :=
 match aresL P env h rs with
 | some [x] => some x
 | some l => some (.tup l)
 | Option.none => Option.none

def resSem (tmps : Array Value) : ResultVar → Go.Sem Value
 | .tmp t => pure (tmps.getD t undef)
 | .cell b t => do loadVar t (← asAddr (tmps.getD b undef))
theorem results_eq (fn : Func) (tmps : Array Value) : results fn tmps = (do
   let vs ← fn.results.mapM (resSem tmps)
   pure (if h : vs.size = 1 then vs[0] else .tuple vs)) := rfl

theorem ares1_ok {env : List AV} {a : Act} (g : GH G X w h) (r : EnvOK X w h env a) (rv : ResultVar) {x : AV} (e : ares1 P env h rv = some x) :
   ∃ v, (resSem a.tmps rv).run P w = .ok v w ∧ RV X w h x v := by
 cases rv with
 | tmp t =>
   simp only [ares1, Option.some.injEq] at e
   subst e
   exact ⟨_, rfl, aev_ok g r (.tmp t)⟩
 | cell b T =>
   simp only [ares1] at e
   have rb := aev_ok g r (.tmp b)
   simp only [aev, Act.eval] at rb
   obtain ⟨u, hu, ru⟩ := load_ok g rb e
   refine ⟨u, ?_, ru⟩
   have : ∃ ad, a.tmps.getD b undef = .pointer (some ad) := by
     unfold aload at e
     cases ho : aobj h (env.getD b .u) with
     | none => rw [ho] at e; cases e
     | some q =>
       obtain ⟨cells, off⟩ := q
       obtain ⟨b', o, cs, T', fr, hv, _⟩ := aobj_ok g rb ho
       exact ⟨_, hv⟩
   obtain ⟨ad, had⟩ := this
   simp only [resSem]
   rw [had] at hu ⊢
   simpa [Instr.loadAt, Instr.sureAddr, asAddr] using hu

theorem aresL_ok {env : List AV} {a : Act} (g : GH G X w h) (r : EnvOK X w h env a) : ∀ (rs : List ResultVar) (l : List AV), aresL P env h rs = some l →
   ∃ vs : List Value, (rs.mapM (resSem a.tmps)).run P w = .ok vs w ∧ l.length = vs.length ∧ ∀ (j : Nat) (x : AV) (v : Value), l[j]? = some x → vs[j]? = some v → RV X w h x v
 | [], l, e => by
   simp only [aresL, Option.some.injEq] at e
   subst e
   exact ⟨[], by simp, rfl, by simp⟩
 | rv :: rs, l, e => by
   simp only [aresL] at e
   cases h1 : ares1 P env h rv with
   | none => simp [h1] at e
   | some x =>
   cases h2 : aresL P env h rs with
   | none => simp [h1, h2] at e
   | some l' =>
     simp only [h1, h2, Option.some.injEq] at e
     subst e
     obtain ⟨v, hv, rx⟩ := ares1_ok g r rv h1
     obtain ⟨vs, hvs, hl, hr⟩ := aresL_ok g r rs l' h2
     refine ⟨v :: vs, ?_, by simp [hl], ?_⟩
     · rw [List.mapM_cons, Sem.run_bind, hv, Result.andThen_ok, Sem.run_bind, hvs]; rfl
     · intro j y u hy hu
       cases j with
       | zero => simp at hy hu; exact hy ▸ hu ▸ rx
       | succ j => exact hr j y u (by simpa using hy) (by simpa using hu)

theorem ares_ok {env : List AV} {a : Act} {fn : Func} (g : GH G X w h) (r : EnvOK X w h env a) {x : AV} (e : ares P fn.results.toList env h = some x) : ∃ v, (results fn a.tmps).run P w = .ok v w ∧ RV X w h x v := by
 unfold ares at e
 cases hl : aresL P env h fn.results.toList with
 | none => simp [hl] at e
 | some l =>
   obtain ⟨vs, hvs, hlen, hr⟩ := aresL_ok g r _ l hl
   have hrun : (results fn a.tmps).run P w = .ok (if h : vs.toArray.size = 1 then vs.toArray[0] else .tuple vs.toArray) w := by
     rw [results_eq, Sem.run_bind, Array.mapM_eq_mapM_toList, Sem.run_map, hvs]
     rfl
   rw [hrun]
   rw [hl] at e
   clear hl hvs hrun
   cases l with
   | nil =>
     cases vs with
     | cons => simp at hlen
     | nil =>
       simp only [Option.some.injEq] at e
       subst e
       exact ⟨_, rfl, by simpa using .tup (vs := #[]) rfl (by simp)⟩
   | cons y l =>
     cases vs with
     | nil => simp at hlen
     | cons v vs =>
       cases l with
       | nil =>
         have hvs0 : vs = [] := List.eq_nil_of_length_eq_zero (by simpa using hlen.symm)
         subst hvs0
         simp only [Option.some.injEq] at e
         subst e
         exact ⟨v, by simp, hr 0 y v rfl rfl⟩
       | cons z l =>
         simp only [Option.some.injEq] at e
         subst e
         refine ⟨_, rfl, ?_⟩
         have : (v :: vs).toArray.size ≠ 1 := by simp at hlen ⊢; intro h0; rw [h0] at hlen; simp at hlen
         rw [dif_neg this]
         exact .tup (by simpa using hlen) (fun j a v ha hv => hr j a v ha (by simpa using hv))
end

theorem sem_aw {P : Program} {G : Glob} {f : FuncId} {fn : Func} {c : Code} {args : List AV} {r : AV} (hf : P.funcs[f]? = some fn) (hb : fn.body = some c) (hcal : callable P f = true) (hG : GPers G)
   (h : AW P G c (fun e env h => (e = .normal ∨ e = .ret) ∧ ∃ x, ares P fn.results.toList env h = some x ∧ Fin h x r) (args ++ List.replicate (fn.ntmps - args.length) .u) []) : Ctr P G f args r := by
 refine ⟨hcal, hG, ?_⟩
 intro F w vs hF hgl hl hr
 have g0 : GH G (.none F) w [] := ⟨fun id ob h => by simp at h, fun id bo h => by simp [Ctx.none] at h, fun id id' b o o' h => by simp [Ctx.none] at h, fun id b o h => by simp [Ctx.none] at h, hF, hgl⟩
 have r0 : EnvOK (.none F) w [] (args ++ List.replicate (fn.ntmps - args.length) .u) { tmps := vs ++ Array.replicate (fn.ntmps - vs.size) undef, defers := [] } := by
   refine ⟨rfl, by simp [hl], ?_⟩
   intro j x v hx hv
   by_cases hj : j < args.length
   · rw [List.getElem?_append_left hj] at hx
     rw [Array.getElem?_append_left (by omega)] at hv
     exact hr j x v hx hv
   · rw [List.getElem?_append_right (by omega), List.getElem?_replicate] at hx
     split at hx
     · cases hx; exact .u _
     · cases hx
 refine calls_of_wp hf hb (wp_mono (h (.none F) w _ g0 r0) ?_)
 rintro e a' w' ⟨env', h', X', ⟨he, x, hres, hfin⟩, g', r', t⟩
 obtain ⟨v, hrun, rx⟩ := ares_ok g' r' hres
 have hgr : Grew w w' := ⟨fun b hb => t.step.frame b hb (fun id o e => by simp [Ctx.none] at e), t.step.size, t.step.os, t.step.tape, t.step.output⟩
 have hι : ∀ id b o, X'.ι id = some (b, o) → w.heap.size ≤ b := by
   intro id b o hb
   rcases t.step.new id b o hb with h | ⟨_, _, h⟩
   · exact h
   · simp [Ctx.none] at h
 have hXF : ∀ b, X'.F b → F b ∨ w.heap.size ≤ b := by
   intro b hb
   rcases t.step.fnew b hb with h | h | ⟨_, _, h⟩
   · exact .inl h
   · exact .inr h
   · simp [Ctx.none] at h
 have hFB : ∀ (ids : List Nat), (∀ b, F b → FB X' ids b) ∧ (∀ b, FB X' ids b → F b ∨ w.heap.size ≤ b) ∧ (∀ b, FB X' ids b → b < w'.heap.size) := by
   intro ids
   refine ⟨fun b hb => .inl (t.ext.fr b hb), ?_, ?_⟩
   · rintro b (hb | ⟨id, o, _, ho⟩)
     · exact hXF b hb
     · exact .inr (hι _ _ _ ho)
   · rintro b (hb | ⟨id, o, _, ho⟩)
     · exact g'.fbnd b hb
     · exact g'.bnd _ _ _ ho
 have hR : ∃ v' F' bs, Ending.returned v = .returned v' ∧ Grew w w' ∧ (∀ b, F b → F' b) ∧ (∀ b, F' b → F b ∨ w.heap.size ≤ b) ∧ (∀ b, F' b → b < w'.heap.size) ∧ RR F' w' r v' bs ∧ bs.Nodup ∧ ∀ b ∈ bs, ¬ F' b ∧ w.heap.size ≤ b := by
   rcases hfin with ⟨rfl, hp⟩ | ⟨hok, hnd, hdis⟩
   · exact ⟨v, FB X' [], [], rfl, hgr, (hFB []).1, (hFB []).2.1, (hFB []).2.2, RR.val (rx.pers hp (fun b hb => .inl hb) (fun _ _ => rfl)), List.nodup_nil, by simp⟩
   · refine ⟨v, FB X' (finIds x r), blks X' (finIds x r), rfl, hgr, (hFB _).1, (hFB _).2.1, (hFB _).2.2, fin_ok g' _ x r v hok rx hdis, blks_nodup g' hnd, ?_⟩
     intro b hb
     obtain ⟨id, hi, o, ho⟩ := blks_mem hb
     refine ⟨?_, hι _ _ _ ho⟩
     rintro (hF' | ⟨id', o', hn, ho'⟩)
     · obtain ⟨sz, cs, hid⟩ := fin_live x r hok id hi
       have ok := g'.objs _ _ hid
       cases ok with
       | arr h0 h1 h2 h3 => rw [h0] at ho; cases ho; exact (h3 rfl).1 hF'
       | absent h0 => rw [h0] at ho; cases ho
     · exact hn (g'.inj _ _ _ _ _ ho ho' ▸ hi)
 rcases he with rfl | rfl
 · exact ⟨r'.defers, v, hrun, hR⟩
 · exact ⟨r'.defers, v, hrun, hR⟩
theorem sem_intro {rx : Bool} {th : Nat → Option Nat} {P : Program} (hm : P.follows .mixedOrders = true) {G : Glob} {f : FuncId} {fn : Func} {c : Code} {ac : ACode} {args : List AV} {r : AV} (hf : P.funcs[f]? = some fn) (hb : fn.body = some c) (hcal : callable P f = true) (hd : drawsOk rx th c = true) (hs : strip rx th c = some ac) (hG : GPers G)
   (h : awx P G ac (fun e env h => (e = .normal ∨ e = .ret) ∧ ∃ x, ares P fn.results.toList env h = some x ∧ Fin h x r) (args ++ List.replicate (fn.ntmps - args.length) .u) []) : Ctr P G f args r :=
 sem_aw hf hb hcal hG (awx_ok hm c ac hd hs _ _ _ h)
end Go.Vo
