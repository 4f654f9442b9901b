/-
  The abstract layer, part Y: code over abstract states, worked out: a program that computes all ends of a run, and that its answer is a contract. It speaks of any program; no condition.
-/
import Derived.Test.YtnjnjdebgkjfhaaGreatDoorVoP55
set_option linter.unusedVariables false
set_option linter.unusedSimpArgs false
namespace Go.Vo

abbrev Ends := Option (List (AV × List AObj))
def optL : Option (AV × List AObj) → Ends
 | some p => some [p]
 | none => none
theorem optL_ok {x : Option (AV × List AObj)} {l : List (AV × List AObj)} {K : AV → List AObj → Prop} (e : optL x = some l) (k : ∀ p ∈ l, K p.1 p.2) : optK x K := by
 cases x with
 | none => cases e
 | some p => cases e; exact k p (by simp)
def bindL {α β : Type} : List α → (α → Option (List β)) → Option (List β)
 | [], _ => some []
 | p :: ps, k => match k p, bindL ps k with
   | some a, some b => some (a ++ b)
   | _, _ => none
def bindX {α β : Type} (x : Option (List α)) (k : α → Option (List β)) : Option (List β) :=
 match x with
 | none => none
 | some [p] => k p
 | some l => bindL l k
theorem bindL_ok {α β : Type} {k : α → Option (List β)} : ∀ {l : List α} {r : List β}, bindL l k = some r → ∀ p ∈ l, ∃ a, k p = some a ∧ ∀ x ∈ a, x ∈ r
 | [], _, _, p, hp => by cases hp
 | q :: l, r, e, p, hp => by
   rw [bindL] at e
   cases h1 : k q with
   | none => rw [h1] at e; cases e
   | some a =>
     cases h2 : bindL l k with
     | none => rw [h1, h2] at e; cases e
     | some b =>
       rw [h1, h2] at e
       cases e
       rcases List.mem_cons.1 hp with rfl | hp
       · exact ⟨a, h1, fun x hx => List.mem_append_left _ hx⟩
       · obtain ⟨c, hc, hs⟩ := bindL_ok h2 p hp
         exact ⟨c, hc, fun x hx => List.mem_append_right _ (hs x hx)⟩
theorem bindX_ok {α β : Type} {x : Option (List α)} {k : α → Option (List β)} {r : List β} (e : bindX x k = some r) : ∃ l, x = some l ∧ ∀ p ∈ l, ∃ a, k p = some a ∧ ∀ y ∈ a, y ∈ r := by
 unfold bindX at e
 split at e
 · cases e
 · rename_i p
   exact ⟨[p], rfl, fun q hq => by rw [List.mem_singleton] at hq; subst hq; exact ⟨r, e, fun y hy => hy⟩⟩
 · rename_i l _
   exact ⟨l, rfl, bindL_ok e⟩

def oldRefB (N : Nat) (a : AV) : Bool :=
 match a.refs with
 | some id => decide (id < N)
 | Option.none => true
def newRefB (N : Nat) : AV → Bool
 | .e0 => true
 | .hs id _ _ _ => decide (N ≤ id)
 | .ptr id _ => decide (N ≤ id)
 | _ => false
def oldAllB (N : Nat) : List AV → Bool
 | [] => true
 | a :: l => oldRefB N a && oldAllB N l
theorem oldRefB_ok {N : Nat} {a : AV} (h : oldRefB N a = true) : oldRef N a := by
 unfold oldRefB at h; unfold oldRef
 split <;> simp_all
theorem newRefB_ok {N : Nat} {a : AV} (h : newRefB N a = true) : newRef N a := by
 unfold newRefB at h; unfold newRef
 split <;> simp_all
theorem oldAllB_ok {N : Nat} : ∀ {l : List AV}, oldAllB N l = true → oldAll N l
 | [], _ => trivial
 | a :: l, h => by
   rw [oldAllB, Bool.and_eq_true] at h
   exact ⟨oldRefB_ok h.1, oldAllB_ok h.2⟩
def ckOpB (ev : Operand → AV) (N : Nat) (op : Op) : Bool :=
 match op with
 | .call c => match c.callee with
   | .builtin .append => match c.args.toList.map ev with
     | [s, _] => newRefB N s
     | _ => false
   | _ => oldAllB N (op.operands.toList.map ev)
 | .store _ a _ => newRefB N (ev a)
 | op => oldAllB N (op.operands.toList.map ev)
theorem ckOpB_ok {G : Glob} {N : Nat} {op : Op} {env : List AV} (h : ckOpB (aev G env) N op = true) : ckOp G N op env := by
 cases op with
 | call c =>
   obtain ⟨callee, args, ats⟩ := c
   cases callee with
   | value f => exact oldAllB_ok h
   | invoke a b => exact oldAllB_ok h
   | builtin b =>
     cases b with
     | append =>
       simp only [ckOpB] at h
       simp only [ckOp]
       split at h
       · rename_i s x hh; rw [hh]; exact newRefB_ok h
       · cases h
     | _ => exact oldAllB_ok h
 | store T a v => exact newRefB_ok h
 | _ => exact oldAllB_ok h
def ckB (ev : Operand → AV) (dr : Option Nat) (ck : Bool) (op : Op) : Bool :=
 match ck, dr with
 | true, some N => ckOpB ev N op
 | _, _ => true
theorem ckB_ok {G : Glob} {dr : Option Nat} {ck : Bool} {op : Op} {env : List AV} (h : ckB (aev G env) dr ck op = true) : ckOK G dr ck op env := by
 unfold ckB at h; unfold ckOK
 split at h
 · exact ckOpB_ok h
 · rename_i hne
   split
   · rename_i N; exact absurd rfl (hne N rfl)
   · trivial

inductive ET where
 | lf (x : AV)
 | nd (l r : ET)
def ET.get : ET → Nat → AV
 | .lf x, _ => x
 | .nd l r, i => match Nat.mod i 2 with
   | 0 => l.get (Nat.div i 2)
   | _ + 1 => r.get (Nat.div i 2)
def ET.set : ET → Nat → AV → ET
 | .lf _, _, y => .lf y
 | .nd l r, i, y => match Nat.mod i 2 with
   | 0 => .nd (l.set (Nat.div i 2) y) r
   | _ + 1 => .nd l (r.set (Nat.div i 2) y)
def ET.setK {α : Type} : ET → Nat → AV → (ET → α) → α
 | .lf _, _, y, k => k (.lf y)
 | .nd l r, i, y, k => match Nat.mod i 2 with
   | 0 => l.setK (Nat.div i 2) y fun l' => k (.nd l' r)
   | _ + 1 => r.setK (Nat.div i 2) y fun r' => k (.nd l r')
def ET.full : Nat → ET → Prop
 | 0, .lf _ => True
 | k + 1, .nd l r => l.full k ∧ r.full k
 | _, _ => False
def ET.mk : Nat → ET
 | 0 => .lf .u
 | k + 1 => .nd (ET.mk k) (ET.mk k)
theorem ET.setK_eq {α : Type} : ∀ (e : ET) (i : Nat) (y : AV) (k : ET → α), e.setK i y k = k (e.set i y)
 | .lf _, i, y, k => rfl
 | .nd l r, i, y, k => by
   rw [ET.setK, ET.set]
   split
   · rw [ET.setK_eq l]
   · rw [ET.setK_eq r]
theorem ET.full_mk : ∀ k, (ET.mk k).full k
 | 0 => trivial
 | k + 1 => ⟨ET.full_mk k, ET.full_mk k⟩
theorem ET.full_set : ∀ (k : Nat) (e : ET) (i : Nat) (y : AV), e.full k → (e.set i y).full k
 | 0, .lf _, i, y, h => trivial
 | k + 1, .nd l r, i, y, h => by
   rw [ET.set]
   split
   · exact ⟨ET.full_set k l _ y h.1, h.2⟩
   · exact ⟨h.1, ET.full_set k r _ y h.2⟩
 | 0, .nd _ _, _, _, h => h.elim
 | _ + 1, .lf _, _, _, h => h.elim
theorem ET.get_set : ∀ (k : Nat) (e : ET) (i j : Nat) (y : AV), e.full k → i < 2 ^ k → j < 2 ^ k → (e.set i y).get j = if i = j then y else e.get j
 | 0, .lf x, i, j, y, h, hi, hj => by
   have : i = j := by simp at hi hj; omega
   rw [if_pos this]; rfl
 | k + 1, .nd l r, i, j, y, h, hi, hj => by
   have e1 : Nat.mod i 2 = i % 2 := rfl
   have e2 : Nat.mod j 2 = j % 2 := rfl
   have e3 : Nat.div i 2 = i / 2 := rfl
   have e4 : Nat.div j 2 = j / 2 := rfl
   have hi2 : i / 2 < 2 ^ k := by rw [Nat.pow_succ] at hi; omega
   have hj2 : j / 2 < 2 ^ k := by rw [Nat.pow_succ] at hj; omega
   have gl := ET.get_set k l (i / 2) (j / 2) y h.1 hi2 hj2
   have gr := ET.get_set k r (i / 2) (j / 2) y h.2 hi2 hj2
   rw [ET.set]
   rcases Nat.mod_two_eq_zero_or_one i with a | a <;> rcases Nat.mod_two_eq_zero_or_one j with b | b <;> simp only [ET.get, e1, e2, e3, e4, a, b]
   · rw [gl]; by_cases hij : i = j
     · rw [if_pos hij, if_pos (by omega)]
     · rw [if_neg hij, if_neg (by omega)]
   · rw [if_neg (by omega)]
   · rw [if_neg (by omega)]
   · rw [gr]; by_cases hij : i = j
     · rw [if_pos hij, if_pos (by omega)]
     · rw [if_neg hij, if_neg (by omega)]
 | 0, .nd _ _, _, _, _, h, _, _ => h.elim
 | _ + 1, .lf _, _, _, _, h, _, _ => h.elim
theorem ET.get_mk : ∀ (k i : Nat), (ET.mk k).get i = .u
 | 0, i => rfl
 | k + 1, i => by
   rw [ET.mk, ET.get]
   split
   · exact ET.get_mk k _
   · exact ET.get_mk k _
def evT (G : Glob) (n : Nat) (e : ET) : Operand → AV
 | .tmp t => match Nat.blt t n with
   | true => e.get t
   | false => .u
 | .const v => aval v
 | .global g => (G g).getD .u
 | .func f => .fn f [] []
structure ERel (n k : Nat) (e : ET) (env : List AV) : Prop where
 len : env.length = n
 le : n ≤ 2 ^ k
 full : e.full k
 get : ∀ t, t < n → e.get t = env.getD t .u
theorem blt_dec {t n : Nat} : Nat.blt t n = decide (t < n) := by
 by_cases h : t < n
 · rw [decide_eq_true h, Nat.blt_eq]; exact h
 · rw [decide_eq_false h]; exact Bool.eq_false_iff.2 fun e => h (by rwa [Nat.blt_eq] at e)
theorem ERel.ev {n k : Nat} {e : ET} {env : List AV} (r : ERel n k e env) (G : Glob) : evT G n e = aev G env := by
 funext x
 cases x with
 | tmp t =>
   simp only [evT, aev]
   by_cases h : t < n
   · simp only [blt_dec, decide_eq_true h]; exact r.get t h
   · have h3 : env.length ≤ t := by
       rw [r.len]; exact Nat.le_of_not_lt h
     simp only [blt_dec, decide_eq_false h]
     rw [List.getD_eq_getElem?_getD, List.getElem?_eq_none h3]; rfl
 | _ => rfl
theorem ERel.put {n k : Nat} {e : ET} {env : List AV} (r : ERel n k e env) {d : Nat} (hd : d < n) (y : AV) : ERel n k (e.set d y) (env.set d y) := by
 refine ⟨by simp [r.len], r.le, ET.full_set k e d y r.full, fun t ht => ?_⟩
 have hk := r.le
 have hl := r.len
 rw [ET.get_set k e d t y r.full (by omega) (by omega)]
 by_cases h : d = t
 · subst h; simp [List.getD, hl, hd]
 · rw [if_neg h, r.get t ht]; simp [List.getD, h]
def forceN {α : Type} (m : Nat) (k : Nat → α) : α := match m with
 | 0 => k 0
 | m + 1 => k (Nat.succ m)
def forceI {α : Type} (n : Int) (k : Int → α) : α := match n with
 | .ofNat m => forceN m fun m => k (.ofNat m)
 | .negSucc m => forceN m fun m => k (.negSucc m)
def forceV {α : Type} (a : AV) (k : AV → α) : α := match a with
 | .u => k .u
 | .b true => k (.b true)
 | .b false => k (.b false)
 | .i kd n => forceI n fun n => k (.i kd n)
 | .s l => k (.s l)
 | .p v => k (.p v)
 | .e0 => k .e0
 | .sl a n => k (.sl a n)
 | .own s a n => k (.own s a n)
 | .hs a b c d => k (.hs a b c d)
 | .ptr a b => k (.ptr a b)
 | .box a n => k (.box a n)
 | .mp a => k (.mp a)
 | .mapv a b => k (.mapv a b)
 | .fn f a b => k (.fn f a b)
 | .agg a => k (.agg a)
 | .tup a => k (.tup a)
theorem forceN_eq {α : Type} (m : Nat) (k : Nat → α) : forceN m k = k m := by cases m <;> rfl
theorem forceI_eq {α : Type} (m : Int) (k : Int → α) : forceI m k = k m := by cases m <;> (simp only [forceI]; rw [forceN_eq])
theorem forceV_eq {α : Type} (a : AV) (k : AV → α) : forceV a k = k a := by
 cases a with
 | b x => cases x <;> rfl
 | i kd n => simp only [forceV]; rw [forceI_eq]
 | _ => rfl
def forceH {α : Type} : List AObj → (List AObj → α) → α
 | [], k => k []
 | o :: h, k => forceH h fun h' => k (o :: h')
theorem forceH_eq {α : Type} : ∀ (h : List AObj) (k : List AObj → α), forceH h k = k h
 | [], k => rfl
 | o :: h, k => by rw [forceH, forceH_eq]
abbrev CallX := Bool → FuncId → List AV → List AObj → Ends
def aopE (P : Program) (ev : Operand → AV) (h : List AObj) : Op → Option (AV × List AObj)
 | .move x | .assign x => some (ev x, h)
 | .pick c a b => match ev c with
   | .b t => some (if t then ev a else ev b, h)
   | _ => Option.none
 | .alloc T => match zeroOf P T with
   | some cells => some (.ptr h.length 0, h ++ [.box false cells])
   | Option.none => Option.none
 | .box _ x => match acells (ev x) with
   | some cells => some (.ptr h.length 0, h ++ [.box false cells])
   | Option.none => Option.none
 | .build T parts => match placesOf P T, zeroOf P T with
   | some pl, some z => match afill (fun i => pl[i]?) z (parts.toList.map fun (i, x) => (i, ev x)) with
     | some cells => some (.agg cells, h)
     | Option.none => Option.none
   | _, _ => Option.none
 | .buildSlice T len parts => match elemOf? P T with
   | some e => match zeroOf P e with
     | some z => if szOf P e = some z.length ∧ 0 < z.length ∧ len * z.length ≤ 65536 then
         (if len = 0 ∧ parts.toList = [] then some (.e0, h) else match afill (fun i => some (i * z.length, z.length)) (List.replicate len z).flatten (parts.toList.map fun (i, x) => (i, ev x)) with
           | some cells => some (.hs h.length 0 len false, h ++ [.arr false z.length cells])
           | Option.none => Option.none) else Option.none
     | Option.none => Option.none
   | Option.none => Option.none
 | .load T a => match aload P T h (ev a) with
   | some v => some (v, h)
   | Option.none => Option.none
 | .store T a x => match astore P h T (ev a) (ev x) with
   | some h' => some (.u, h')
   | Option.none => Option.none
 | .nilCheck x => match ev x with
   | .ptr id off => match h[id]? with | some (.box ..) | some (.arr ..) | some (.held false _) => some (.ptr id off, h) | _ => Option.none
   | .box cells off => some (.box cells off, h)
   | .fn f a b => some (.fn f a b, h)
   | _ => Option.none
 | .binOp op T x y _ => match aBin P op T (ev x) (ev y) with
   | some v => some (v, h)
   | Option.none => Option.none
 | .unOp op _ x => match aUn op (ev x) with
   | some v => some (v, h)
   | Option.none => Option.none
 | .convert s d x => match aConv P s d (ev x) with
   | some v => some (v, h)
   | Option.none => Option.none
 | .makeFunc (.func f) first capt => some (.fn f (first.toList.map ev) (capt.toList.map ev), h)
 | .makeMap T Option.none => some (.mp h.length, h ++ [.map false [] []])
 | .makeSlice T l c => amakeSlice P h T (ev l) (ev c)
 | .slice T x l hi m => match aslice P h T (ev x) (l.map ev) (hi.map ev) (m.map ev) with
   | some v => some (v, h)
   | Option.none => Option.none
 | .fieldAddr S x f => match fieldOf? P S f with
   | some (fo, ft) => match szOf P ft with
     | some (_ + 1) => match ev x with
       | .ptr id off => match h[id]? with | some (.box ..) | some (.arr ..) | some (.held false _) => some (.ptr id (off + fo), h) | _ => Option.none
       | .box cells off => some (.box cells (off + fo), h)
       | _ => Option.none
     | _ => Option.none
   | Option.none => Option.none
 | .field T x f => match ev x, fieldOf? P T f with
   | .agg cs, some (fo, ft) => match apart P ft cs fo with
     | some v => some (v, h)
     | Option.none => Option.none
   | _, _ => Option.none
 | .indexAddr T x i => match aindexAddr P h T (ev x) (ev i) with
   | some v => some (v, h)
   | Option.none => Option.none
 | .index T x i => match aindex P T (ev x) (ev i) with
   | some v => some (v, h)
   | Option.none => Option.none
 | .lookup T m k ok => match alookup P h T (ev m) (ev k) ok with
   | some v => some (v, h)
   | Option.none => Option.none
 | .mapUpdate T m k x => match amapUpdate P h T (ev m) (ev k) (ev x) with
   | some h' => some (.u, h')
   | Option.none => Option.none
 | .extract t i => match ev t with
   | .tup vs => match vs[i]? with
     | some v => some (v, h)
     | Option.none => Option.none
   | _ => Option.none
 | .call c => match c.callee with
   | .builtin b => abuiltin P h b c.argTypes (c.args.toList.map ev)
   | _ => Option.none
 | _ => Option.none
theorem aopE_eq {P : Program} {G : Glob} {env : List AV} {h : List AObj} (o : Op) : aopE P (aev G env) h o = aop P G env h o := by
 cases o with
 | makeFunc f a b => cases f <;> rfl
 | makeMap T r => cases r <;> rfl
 | _ => rfl
section
variable (P : Program) (ev : Operand → AV) (cx : CallX)
def acallX (dr : Bool) (h : List AObj) (c : Call) : Ends :=
 match c.callee with
 | .builtin .append => match c.argTypes.toList, c.args.toList.map ev with
   | [T, U], [s, x] => if T = U then (if winPers h x then optL (aappend P h T s x) else optL (aappend P (freeze (reach dep h x) h) T s (snap dep h x))) else (match P.underlying U with | some (.int _) => optL (azeros P h T s x) | _ => none)
   | _, _ => none
 | .builtin b => optL (abuiltin P h b c.argTypes (c.args.toList.map ev))
 | .value fx => match ev fx with
   | .fn f first capt => cx dr f (first ++ c.args.toList.map ev ++ capt) h
   | _ => none
 | .invoke .. => none
def awopX (dr : Bool) (o : Op) (h : List AObj) : Ends :=
 match o with
 | .call c => acallX P ev cx dr h c
 | .mapUpdate T m k x => if pers (ev x) then (match amapUpdate P h T (ev m) (ev k) (ev x) with
     | some h' => some [(.u, h')]
     | Option.none => none)
   else (match amapUpdate P (freeze (reach dep h (ev x)) h) T (ev m) (ev k) (snap dep h (ev x)) with
     | some h' => some [(.u, h')]
     | Option.none => none)
 | .range T x => if dr then none else match P.underlying T, snap dep h (ev x) with
   | some (.map _ _), .mapv ks vs => some [(.ptr (freeze (reach dep h (ev x)) h).length 0, freeze (reach dep h (ev x)) h ++ [.mit none ks vs])]
   | some .string, .s l => some [(.ptr (freeze (reach dep h (ev x)) h).length 0, freeze (reach dep h (ev x)) h ++ [.sit l 0])]
   | _, _ => none
 | .next x false => if dr then none else match ev x with
   | .ptr id 0 => match h[id]? with
     | some (.mit _ [] vs) => some [(.tup [.b false], h)]
     | some (.mit _ ks vs) => some (((List.range ks.length).filterMap fun j => match ks[j]?, vs[j]? with
       | some k, some v => some (.tup [.b true, k, v], h.set id (.mit (some (k, v)) (ks.eraseIdx j) (vs.eraseIdx j)))
       | _, _ => none))
     | _ => none
   | _ => none
 | .next x true => if dr then none else match ev x with
   | .ptr id 0 => match h[id]? with
     | some (.sit l pos) => match l[pos]? with
       | none => some [(.tup [.b false], h)]
       | some c => if c.toNat < 128 then some [(.tup [.b true, .i .i64 pos, .i .i32 c.toNat], h.set id (.sit l (pos + 1)))] else none
     | _ => none
   | _ => none
 | .entry x => if dr then none else match ev x with
   | .ptr id 0 => match h[id]? with
     | some (.mit (some (k, v)) _ _) => some [(.tup [k, v], h)]
     | _ => none
   | _ => none
 | .buildSlice T len ps => optL (if (dr && cslL ps.toList) = true then (aslC P T len ps).map fun v => (v, h) else aopE P ev h (.buildSlice T len ps))
 | o => optL (aopE P ev h o)
def nilX (T : TypeId) (v : AV) (h : List AObj) : Ends :=
 match P.underlying T with
 | some (.slice _) => (match v with
   | .e0 => some [(.b true, h), (.b false, h)]
   | .sl _ n => if n = 0 then some [(.b true, h), (.b false, h)] else some [(.b false, h)]
   | _ => none)
 | _ => none
def runX (dr : Option Nat) (op : Op) (h : List AObj) : Ends :=
 match nilTest op, dr with
 | some (T, x), Option.none => nilX P T (ev x) h
 | _, _ => match arrV P ev op with
   | some (sz, cells) => (match dr with
     | Option.none => some [(.ptr h.length 0, h ++ [.arr false sz cells])]
     | some _ => awopX P ev cx dr.isSome op h)
   | Option.none => awopX P ev cx dr.isSome op h
end
def turns : Op → Bool
 | .move _ | .assign _ | .pick .. | .load .. | .nilCheck _ | .binOp .. | .unOp .. | .convert .. | .slice .. | .fieldAddr .. | .field .. | .indexAddr .. | .index .. | .lookup .. | .extract .. | .build .. => false
 | _ => true
section
variable (P : Program) (G : Glob) (cx : CallX) (n : Nat)
def putX {α : Type} (e : ET) (dst : Option Nat) (y : AV) (k : ET → Option α) : Option α :=
 match dst with
 | none => k e
 | some d => match Nat.blt d n with
   | true => forceV y fun y => e.setK d y k
   | false => none
def opsX (dr : Option Nat) : List AOper → ET → List AObj → Option (List (ET × List AObj))
 | [], e, h => some [(e, h)]
 | o :: os, e, h =>
   let go : Option (List (ET × List AObj)) := match ckB (evT G n e) dr o.ck o.op with
     | true => bindX (runX P (evT G n e) cx dr o.op h) fun p => putX n e o.dst p.1 fun e' => match turns o.op with
       | true => forceH p.2 fun h' => opsX dr os e' h'
       | false => opsX dr os e' p.2
     | false => none
   match o.gd with
   | Option.none => go
   | some (t, want) => match gval (evT G n e (.tmp t)) want with
     | .b true => go
     | .b false => putX n e o.dst (.tup []) fun e' => opsX dr os e' h
     | _ => none
abbrev End3 := Exit × ET × List AObj
def loopX (B : ET → List AObj → Option (List End3)) : Nat → ET → List AObj → Option (List End3)
 | 0, _, _ => none
 | n + 1, env, h => bindX (B env h) fun p => match p.1 with
   | .normal => loopX B n p.2.1 p.2.2
   | e => some [p]
def codeX (m : Nat) : ACode → ET → List AObj → Option (List End3)
 | .skip, env, h => some [(.normal, env, h)]
 | .region ops, env, h => bindX (opsX P G cx n Option.none ops env h) fun p => some [(.normal, p)]
 | .draw th ops, env, h => bindX (opsX P G cx n (some (th.getD h.length)) ops env h) fun p => some [(.normal, p)]
 | .seq a b, env, h => bindX (codeX m a env h) fun p => match p.1 with
   | .normal => codeX m b p.2.1 p.2.2
   | e => some [p]
 | .cond c a b, env, h => match evT G n env c with
   | .b true => codeX m a env h
   | .b false => codeX m b env h
   | _ => none
 | .block id c, env, h => bindX (codeX m c env h) fun p => match p.1 with
   | .exit i => if i = id then some [(.normal, p.2)] else some [p]
   | e => some [p]
 | .loop c, env, h => loopX (codeX m c) m env h
 | .exit id, env, h => some [(.exit id, env, h)]
 | .ret, env, h => some [(.ret, env, h)]
end

def CallOk (P : Program) (G : Glob) (cx : CallX) : Prop :=
 ∀ dr f A h l, cx dr f A h = some l → ∀ K : AV → List AObj → Prop, (∀ p ∈ l, K p.1 p.2) → kcall P G dr f A h K
section
variable {P : Program} {G : Glob} {cx : CallX}
theorem one2 {α β : Type} {K : α → β → Prop} {a : α} {b : β} (k : ∀ p ∈ [(a, b)], K p.1 p.2) : K a b := k (a, b) (List.mem_singleton_self _)
theorem awopX_ok (hc : CallOk P G cx) {dr : Bool} {o : Op} {env : List AV} {h : List AObj} {l : List (AV × List AObj)} {K : AV → List AObj → Prop} (e : awopX P (aev G env) cx dr o h = some l) (k : ∀ p ∈ l, K p.1 p.2) : awop P G dr o K env h := by
 cases o with
 | call c =>
   obtain ⟨callee, args, ats⟩ := c
   cases callee with
   | value f =>
     simp only [awopX, acallX] at e
     simp only [awop, acall]
     split at e
     · rename_i hh; rw [hh]; exact hc _ _ _ _ _ e K k
     · cases e
   | invoke a b => cases e
   | builtin b =>
     cases b with
     | append =>
       simp only [awopX, acallX] at e
       simp only [awop, acall]
       split at e
       · rename_i T U s x h1 h2
         rw [h1, h2]
         by_cases hT : T = U
         · simp only [hT, if_true] at e ⊢
           split at e
           · rename_i hw; rw [if_pos hw]; exact optL_ok e k
           · rename_i hw; rw [if_neg hw]; exact optL_ok e k
         · simp only [hT, if_false] at e ⊢
           split at e
           · rename_i hu; rw [hu]; exact optL_ok e k
           · cases e
       · cases e
     | _ =>
       simp only [awopX, acallX] at e
       simp only [awop, acall]
       exact optL_ok e k
 | mapUpdate T m ky x =>
   simp only [awopX] at e
   simp only [awop]
   split at e
   · rename_i hp
     rw [if_pos hp]
     split at e
     · rename_i hh; rw [hh]; cases e; exact one2 (K := K) k
     · cases e
   · rename_i hp
     rw [if_neg hp]
     split at e
     · rename_i hh; rw [hh]; cases e; exact one2 (K := K) k
     · cases e
 | range T x =>
   simp only [awopX] at e
   simp only [awop]
   split at e
   · cases e
   rename_i hd
   rw [if_neg hd]
   split at e
   · rename_i h1 h2; rw [h1, h2]; cases e; exact one2 (K := K) k
   · rename_i h1 h2; rw [h1, h2]; cases e; exact one2 (K := K) k
   · cases e
 | next x b =>
   cases b with
   | false =>
     simp only [awopX] at e
     simp only [awop]
     split at e
     · cases e
     rename_i hd
     rw [if_neg hd]
     split at e
     · rename_i id h1
       rw [h1]
       try dsimp only
       split at e
       · rename_i c vs h2
         simp only [h2]
         cases e
         refine ⟨fun _ => one2 (K := K) k, fun j a b ha => by simp at ha⟩
       · rename_i c ks vs hne h2
         simp only [h2]
         cases e
         refine ⟨fun h0 => (hne h0).elim, fun j a b ha hb => k (_, _) ?_⟩
         rw [List.mem_filterMap]
         refine ⟨j, ?_, by rw [ha, hb]⟩
         rw [List.mem_range]
         exact (List.getElem?_eq_some_iff.1 ha).1
       · cases e
     · cases e
   | true =>
     simp only [awopX] at e
     simp only [awop]
     split at e
     · cases e
     rename_i hd
     rw [if_neg hd]
     split at e
     · rename_i id h1
       rw [h1]
       try dsimp only
       split at e
       · rename_i s pos h2
         simp only [h2]
         split at e
         · rename_i h3
           cases e
           refine ⟨fun _ => one2 (K := K) k, fun c hc => ?_⟩
           rw [h3] at hc; cases hc
         · rename_i c h3
           split at e
           · rename_i hlt
             cases e
             refine ⟨fun hle => ?_, fun c' hc' => ?_⟩
             · have := (List.getElem?_eq_some_iff.1 h3).1; omega
             · rw [h3] at hc'; cases hc'
               exact ⟨fun _ => one2 (K := K) k, fun rn m h4 => by omega⟩
           · cases e
       · cases e
     · cases e
 | entry x =>
   simp only [awopX] at e
   simp only [awop]
   split at e
   · cases e
   rename_i hd
   rw [if_neg hd]
   split at e
   · rename_i id h1
     rw [h1]
     try dsimp only
     split at e
     · rename_i h2; simp only [h2]; cases e; exact one2 (K := K) k
     · cases e
   · cases e
 | _ =>
   simp only [awopX, aopE_eq] at e
   simp only [awop]
   exact optL_ok e k
theorem runX_ok (hc : CallOk P G cx) {dr : Option Nat} {o : Op} {env : List AV} {h : List AObj} {l : List (AV × List AObj)} {K : AV → List AObj → Prop} (e : runX P (aev G env) cx dr o h = some l) (k : ∀ p ∈ l, K p.1 p.2) : runO P G dr o K env h := by
 unfold runX at e
 unfold runO
 split at e
 · rename_i T x h1
   rw [h1]
   dsimp only
   unfold nilX at e
   unfold nilK
   split at e
   · rename_i h2
     rw [h2]
     try dsimp only
     split at e
     · rename_i hv; rw [hv]; cases e; exact ⟨k (.b true, h) (by simp), k (.b false, h) (by simp)⟩
     · rename_i hv
       rw [hv]
       split at e
       · cases e; exact ⟨fun _ => k (.b true, h) (by simp), k (.b false, h) (by simp)⟩
       · rename_i hn; cases e; exact ⟨fun h0 => absurd h0 hn, k (.b false, h) (by simp)⟩
     · cases e
   · cases e
 · rename_i hne
   split
   · rename_i T x h1; exact absurd rfl (hne T x h1)
   · split at e
     · rename_i ha
       rw [ha]
       split at e
       · cases e; exact k (_, _) (List.mem_singleton.2 rfl)
       · exact awopX_ok hc e k
     · rename_i ha
       rw [ha]
       exact awopX_ok hc e k
theorem putX_ok {n k : Nat} {α : Type} {e : ET} {env : List AV} (r : ERel n k e env) {dst : Option Nat} {y : AV} {f : ET → Option α} {x : α} (h : putX n e dst y f = some x) : ∃ e', ERel n k e' (aput env dst y) ∧ f e' = some x := by
 unfold putX at h
 split at h
 · exact ⟨e, r, h⟩
 · rename_i d
   split at h
   · rename_i hb
     rw [forceV_eq, ET.setK_eq] at h
     exact ⟨_, r.put (by rwa [Nat.blt_eq] at hb) y, h⟩
   · cases h
theorem opsX_ok (hc : CallOk P G cx) {n k : Nat} {dr : Option Nat} : ∀ {os : List AOper} {e : ET} {env : List AV} {h : List AObj} {l : List (ET × List AObj)} {K : List AV → List AObj → Prop}, ERel n k e env → opsX P G cx n dr os e h = some l → (∀ p ∈ l, ∀ env', ERel n k p.1 env' → K env' p.2) → awops P G dr os K env h
 | [], e, env, h, l, K, r, x, kk => by
   rw [opsX] at x; cases x
   rw [awops]; exact kk (e, h) (List.mem_singleton_self _) env r
 | o :: os, e, env, h, l, K, r, x, kk => by
   rw [opsX] at x
   rw [r.ev G] at x
   have step : ∀ {l}, (match ckB (aev G env) dr o.ck o.op with
     | true => bindX (runX P (aev G env) cx dr o.op h) fun p => putX n e o.dst p.1 fun e' => match turns o.op with
       | true => forceH p.2 fun h' => opsX P G cx n dr os e' h'
       | false => opsX P G cx n dr os e' p.2
     | false => none) = some l → (∀ p ∈ l, ∀ env', ERel n k p.1 env' → K env' p.2) → ckOK G dr o.ck o.op env ∧ runO P G dr o.op (fun r h' => awops P G dr os K (aput env o.dst r) h') env h := by
     intro l x kk
     split at x
     · rename_i hck
       refine ⟨ckB_ok hck, ?_⟩
       obtain ⟨m, h1, h2⟩ := bindX_ok x
       refine runX_ok hc h1 fun p hp => ?_
       obtain ⟨a, ha, hs⟩ := h2 p hp
       obtain ⟨e', r', ha⟩ := putX_ok r ha
       have ha : opsX P G cx n dr os e' p.2 = some a := by
         split at ha
         · rwa [forceH_eq] at ha
         · exact ha
       exact opsX_ok hc r' ha fun q hq => kk q (hs q hq)
     · cases x
   rw [awops]
   try dsimp only at x
   split at x
   · rename_i hg; rw [hg]; exact step x kk
   · rename_i t want hg
     rw [hg]
     dsimp only
     split at x
     · rename_i hv
       have hv : gval (env.getD t .u) want = .b true := hv
       rw [hv]; exact ⟨fun _ => step x kk, fun h => (by cases h)⟩
     · rename_i hv
       have hv : gval (env.getD t .u) want = .b false := hv
       obtain ⟨e', r', ha⟩ := putX_ok r x
       rw [hv]; exact ⟨fun h => (by cases h), fun _ => opsX_ok hc r' ha kk⟩
     · cases x
def Alls (n k : Nat) (l : List End3) (Q : Exit → List AV → List AObj → Prop) : Prop := ∀ p ∈ l, ∀ env, ERel n k p.2.1 env → Q p.1 env p.2.2
theorem loopX_ok {n k : Nat} {c : (Exit → List AV → List AObj → Prop) → List AV → List AObj → Prop} {B : ET → List AObj → Option (List End3)} (hB : ∀ e env h l Q, ERel n k e env → B e h = some l → Alls n k l Q → c Q env h) {m : Nat} {e : ET} {env : List AV} {h : List AObj} {l : List End3} {Q : Exit → List AV → List AObj → Prop} (r : ERel n k e env) (x : loopX B m e h = some l) (kk : Alls n k l Q) : Loop c Q env h := by
 refine ⟨Nat, fun s env h => ∃ e l, ERel n k e env ∧ loopX B s e h = some l ∧ Alls n k l Q, id, m, ⟨e, l, r, x, kk⟩, ?_⟩
 rintro s env h ⟨e, l, r, x, kk⟩
 cases s with
 | zero => cases x
 | succ s =>
   rw [loopX] at x
   obtain ⟨m, h1, h2⟩ := bindX_ok x
   refine hB _ _ _ _ _ r h1 fun p hp env' r' => ?_
   obtain ⟨a, ha, hs⟩ := h2 p hp
   obtain ⟨y, e', h'⟩ := p
   dsimp only at ha r'
   cases y with
   | normal => exact ⟨s, ⟨e', a, r', ha, fun q hq => kk q (hs q hq)⟩, Nat.lt_succ_self s⟩
   | _ => cases ha; exact kk _ (hs _ (List.mem_singleton_self _)) env' r'
theorem codeX_ok (hc : CallOk P G cx) {n k : Nat} (m : Nat) : ∀ (c : ACode) (e : ET) (env : List AV) (h : List AObj) (l : List End3) (Q : Exit → List AV → List AObj → Prop), ERel n k e env → codeX P G cx n m c e h = some l → Alls n k l Q → awx P G c Q env h
 | .skip, e, env, h, l, Q, r, x, kk => by rw [codeX] at x; cases x; exact kk _ (List.mem_singleton_self _) env r
 | .region ops, e, env, h, l, Q, r, x, kk => by
   rw [codeX] at x
   obtain ⟨m, h1, h2⟩ := bindX_ok x
   rw [awx]
   refine opsX_ok hc r h1 fun p hp env' r' => ?_
   obtain ⟨a, ha, hs⟩ := h2 p hp
   cases ha; exact kk _ (hs _ (List.mem_singleton_self _)) env' r'
 | .draw th ops, e, env, h, l, Q, r, x, kk => by
   rw [codeX] at x
   obtain ⟨m, h1, h2⟩ := bindX_ok x
   rw [awx]
   refine opsX_ok hc r h1 fun p hp env' r' => ?_
   obtain ⟨a, ha, hs⟩ := h2 p hp
   cases ha; exact kk _ (hs _ (List.mem_singleton_self _)) env' r'
 | .seq a b, e, env, h, l, Q, r, x, kk => by
   rw [codeX] at x
   obtain ⟨m', h1, h2⟩ := bindX_ok x
   rw [awx]
   refine codeX_ok hc m a _ _ _ _ _ r h1 fun p hp env' r' => ?_
   obtain ⟨q, hq, hs⟩ := h2 p hp
   obtain ⟨y, e', h'⟩ := p
   dsimp only at hq r'
   cases y with
   | normal => exact codeX_ok hc m b _ _ _ _ _ r' hq fun z hz => kk z (hs z hz)
   | _ => cases hq; exact kk _ (hs _ (List.mem_singleton_self _)) env' r'
 | .cond c a b, e, env, h, l, Q, r, x, kk => by
   rw [codeX, r.ev G] at x
   rw [awx]
   split at x
   · rename_i hv; rw [hv]; exact ⟨fun _ => codeX_ok hc m a _ _ _ _ _ r x kk, fun h => (by cases h)⟩
   · rename_i hv; rw [hv]; exact ⟨fun h => (by cases h), fun _ => codeX_ok hc m b _ _ _ _ _ r x kk⟩
   · cases x
 | .block id c, e, env, h, l, Q, r, x, kk => by
   rw [codeX] at x
   obtain ⟨m', h1, h2⟩ := bindX_ok x
   rw [awx]
   refine codeX_ok hc m c _ _ _ _ _ r h1 fun p hp env' r' => ?_
   obtain ⟨q, hq, hs⟩ := h2 p hp
   obtain ⟨y, e', h'⟩ := p
   dsimp only at hq r'
   cases y with
   | exit i =>
     simp only [blockX]
     simp only at hq
     split at hq
     · rename_i hi; rw [if_pos hi]; cases hq; exact kk _ (hs _ (List.mem_singleton_self _)) env' r'
     · rename_i hi; rw [if_neg hi]; cases hq; exact kk _ (hs _ (List.mem_singleton_self _)) env' r'
   | _ => cases hq; exact kk _ (hs _ (List.mem_singleton_self _)) env' r'
 | .loop c, e, env, h, l, Q, r, x, kk => by
   rw [codeX] at x
   rw [awx]
   exact loopX_ok (fun e env h l Q r x kk => codeX_ok hc m c e env h l Q r x kk) r x kk
 | .exit id, e, env, h, l, Q, r, x, kk => by rw [codeX] at x; cases x; exact kk _ (List.mem_singleton_self _) env r
 | .ret, e, env, h, l, Q, r, x, kk => by rw [codeX] at x; cases x; exact kk _ (List.mem_singleton_self _) env r
end

mutual
def finR (h : List AObj) : AV → AV
 | .agg xs => .agg (finRL h xs)
 | .tup xs => .tup (finRL h xs)
 | x => snap dep h x
def finRL (h : List AObj) : List AV → List AV
 | [] => []
 | x :: xs => finR h x :: finRL h xs
end
theorem snap_own {h : List AObj} {x : AV} {sz n : Nat} {cells : List AV} : snap dep h x ≠ .own sz cells n := by
 intro e
 rw [snap_dep] at e
 split at e
 · rename_i hp; rw [e] at hp; simp [pers] at hp
 · unfold snapS at e
   dsimp only at e
   split at e
   all_goals try (split at e)
   all_goals try (split at e)
   all_goals cases e
mutual
theorem finR_ok (h : List AObj) : ∀ (x : AV), finOK h x (finR h x) ∧ finIds x (finR h x) = []
 | .agg xs => by
   have := finRL_ok h xs
   rw [finR]
   exact ⟨this.1, this.2⟩
 | .tup xs => by
   have := finRL_ok h xs
   rw [finR]
   exact ⟨this.1, this.2⟩
 | .u => ⟨rfl, rfl⟩
 | .b _ => ⟨rfl, rfl⟩
 | .i _ _ => ⟨rfl, rfl⟩
 | .s _ => ⟨rfl, rfl⟩
 | .p v => ⟨rfl, rfl⟩
 | .e0 => ⟨rfl, rfl⟩
 | .sl cells n => by
   rw [finR]
   all_goals try (intro xs e; cases e; done)
   cases hs : snap dep h (.sl cells n) with
   | own a b c => exact absurd hs snap_own
   | _ => exact ⟨hs.symm, rfl⟩
 | .own a b c => by
   rw [finR]
   all_goals try (intro xs e; cases e; done)
   cases hs : snap dep h (.own a b c) with
   | own a b c => exact absurd hs snap_own
   | _ => exact ⟨hs.symm, rfl⟩
 | .hs a b c d => by
   rw [finR]
   all_goals try (intro xs e; cases e; done)
   cases hs : snap dep h (.hs a b c d) with
   | own a b c => exact absurd hs snap_own
   | _ => exact ⟨hs.symm, rfl⟩
 | .ptr a b => by
   rw [finR]
   all_goals try (intro xs e; cases e; done)
   cases hs : snap dep h (.ptr a b) with
   | own a b c => exact absurd hs snap_own
   | _ => exact ⟨hs.symm, rfl⟩
 | .box a b => by
   rw [finR]
   all_goals try (intro xs e; cases e; done)
   cases hs : snap dep h (.box a b) with
   | own a b c => exact absurd hs snap_own
   | _ => exact ⟨hs.symm, rfl⟩
 | .mp a => by
   rw [finR]
   all_goals try (intro xs e; cases e; done)
   cases hs : snap dep h (.mp a) with
   | own a b c => exact absurd hs snap_own
   | _ => exact ⟨hs.symm, rfl⟩
 | .mapv a b => by
   rw [finR]
   all_goals try (intro xs e; cases e; done)
   cases hs : snap dep h (.mapv a b) with
   | own a b c => exact absurd hs snap_own
   | _ => exact ⟨hs.symm, rfl⟩
 | .fn a b c => by
   rw [finR]
   all_goals try (intro xs e; cases e; done)
   cases hs : snap dep h (.fn a b c) with
   | own a b c => exact absurd hs snap_own
   | _ => exact ⟨hs.symm, rfl⟩
theorem finRL_ok (h : List AObj) : ∀ (xs : List AV), finOKL h xs (finRL h xs) ∧ finIdsL xs (finRL h xs) = []
 | [] => ⟨trivial, rfl⟩
 | x :: xs => by
   have h1 := finR_ok h x
   have h2 := finRL_ok h xs
   rw [finRL]
   exact ⟨⟨h1.1, h2.1⟩, by rw [finIdsL, h1.2, h2.2]; rfl⟩
end
theorem fin_finR {h : List AObj} {x : AV} : Fin h x (finR h x) := by
 have e := finR_ok h x
 exact .inr ⟨e.1, by rw [e.2]; exact List.nodup_nil, by rw [e.2]; simp⟩

mutual
def avEq : AV → AV → Bool
 | .b x, .b y => x == y
 | .i k n, .i l m => decide (k = l) && decide (n = m)
 | .s a, .s b => decide (a = b)
 | .e0, .e0 => true
 | .sl a n, .sl b m => avEqL a b && decide (n = m)
 | .agg a, .agg b => avEqL a b
 | .tup a, .tup b => avEqL a b
 | .box a n, .box b m => avEqL a b && decide (n = m)
 | .mapv a b, .mapv c d => avEqL a c && avEqL b d
 | .fn f a b, .fn g c d => decide (f = g) && avEqL a c && avEqL b d
 | .own s a n, .own z b m => decide (s = z) && avEqL a b && decide (n = m)
 | _, _ => false
def avEqL : List AV → List AV → Bool
 | [], [] => true
 | x :: xs, y :: ys => avEq x y && avEqL xs ys
 | _, _ => false
end
mutual
theorem avEq_ok : ∀ (x y : AV), avEq x y = true → x = y
 | .b x, .b y, h => by simp [avEq] at h; rw [h]
 | .i k n, .i l m, h => by simp [avEq] at h; rw [h.1, h.2]
 | .s a, .s b, h => by simp [avEq] at h; rw [h]
 | .e0, .e0, _ => rfl
 | .sl a n, .sl b m, h => by simp [avEq] at h; rw [avEqL_ok a b h.1, h.2]
 | .agg a, .agg b, h => by rw [avEq] at h; rw [avEqL_ok a b h]
 | .tup a, .tup b, h => by rw [avEq] at h; rw [avEqL_ok a b h]
 | .box a n, .box b m, h => by simp [avEq] at h; rw [avEqL_ok a b h.1, h.2]
 | .mapv a b, .mapv c d, h => by simp [avEq] at h; rw [avEqL_ok a c h.1, avEqL_ok b d h.2]
 | .fn f a b, .fn g c d, h => by simp [avEq] at h; rw [h.1.1, avEqL_ok a c h.1.2, avEqL_ok b d h.2]
 | .own s a n, .own z b m, h => by simp [avEq] at h; rw [h.1.1, avEqL_ok a b h.1.2, h.2]
 | .own _ _ _, .u, h => by simp [avEq] at h
 | .u, y, h => by cases y <;> simp [avEq] at h
 | .p _, y, h => by cases y <;> simp [avEq] at h
 | .hs _ _ _ _, y, h => by cases y <;> simp [avEq] at h
 | .ptr _ _, y, h => by cases y <;> simp [avEq] at h
 | .mp _, y, h => by cases y <;> simp [avEq] at h
theorem avEqL_ok : ∀ (xs ys : List AV), avEqL xs ys = true → xs = ys
 | [], [], _ => rfl
 | x :: xs, y :: ys, h => by
   rw [avEqL, Bool.and_eq_true] at h
   rw [avEq_ok x y h.1, avEqL_ok xs ys h.2]
 | [], _ :: _, h => by simp [avEqL] at h
 | _ :: _, [], h => by simp [avEqL] at h
end

def finT (P : Program) (h : List AObj) (T : Option TypeId) : AV → AV
 | .e0 => match (T.bind (elemOf? P)).bind (szOf P) with
   | some sz => .own sz [] 0
   | none => finR h .e0
 | .hs id off n false => match h[id]? with
   | some (.arr false sz cs) => if off + n * sz ≤ cs.length ∧ persL ((cs.drop off).take (n * sz)) = true then .own sz ((cs.drop off).take (n * sz)) n else finR h (.hs id off n false)
   | _ => finR h (.hs id off n false)
 | x => finR h x
def finTL (P : Program) (h : List AObj) : List TypeId → List AV → List AV
 | T :: Ts, x :: xs => finT P h (some T) x :: finTL P h Ts xs
 | _, xs => finRL h xs
def finX (P : Program) (h : List AObj) (Ts : List TypeId) : AV → AV
 | .tup xs => .tup (finTL P h Ts xs)
 | x => finT P h Ts.head? x
theorem finT_ok (P : Program) (h : List AObj) (T : Option TypeId) (x : AV) : finOK h x (finT P h T x) := by
 unfold finT
 split
 · split
   · exact ⟨rfl, rfl⟩
   · exact (finR_ok h _).1
 · rename_i id off n
   split
   · rename_i sz cs hh
     split
     · rename_i hc; exact ⟨rfl, rfl, cs, hh, hc.1, rfl, hc.2⟩
     · exact (finR_ok h _).1
   · exact (finR_ok h _).1
 · exact (finR_ok h _).1
theorem finTL_ok (P : Program) (h : List AObj) : ∀ (Ts : List TypeId) (xs : List AV), finOKL h xs (finTL P h Ts xs)
 | T :: Ts, x :: xs => ⟨finT_ok P h _ x, finTL_ok P h Ts xs⟩
 | [], xs => by rw [finTL]; exact (finRL_ok h xs).1; intros; contradiction
 | _ :: _, [] => trivial
theorem finX_ok (P : Program) (h : List AObj) (Ts : List TypeId) (x : AV) : finOK h x (finX P h Ts x) := by
 unfold finX
 split
 · exact finTL_ok P h Ts _
 · exact finT_ok P h _ _
def apartB (h : List AObj) (x r : AV) : Bool := decide (finIds x r).Nodup && (finIds x r).all fun i => !(finRch h x r).contains i
def finB (P : Program) (h : List AObj) (Ts : List TypeId) (x : AV) : AV := if apartB h x (finX P h Ts x) then finX P h Ts x else finR h x
theorem fin_finB {P : Program} {h : List AObj} {Ts : List TypeId} {x : AV} : Fin h x (finB P h Ts x) := by
 unfold finB
 split
 · rename_i hb
   simp only [apartB, Bool.and_eq_true, decide_eq_true_eq, List.all_eq_true, Bool.not_eq_true'] at hb
   refine .inr ⟨finX_ok P h Ts x, hb.1, fun i hi hc => ?_⟩
   have := hb.2 i hi
   rw [← List.contains_iff_mem, this] at hc
   cases hc
 · exact fin_finR

section
variable (P : Program) (G : Glob)
structure How where
 heap : Bool := false
 rx : Bool := false
 th : Nat → Option Nat := fun _ => none
def aresTL (ev : Operand → AV) (h : List AObj) : List ResultVar → Option (List AV)
 | [] => some []
 | .tmp t :: rs => match aresTL ev h rs with
   | some l => some (ev (.tmp t) :: l)
   | none => none
 | .cell a T :: rs => match aload P T h (ev (.tmp a)), aresTL ev h rs with
   | some x, some l => some (x :: l)
   | _, _ => none
def aresT (ev : Operand → AV) (h : List AObj) (rs : List ResultVar) : Option AV :=
 match aresTL P ev h rs with
 | some [x] => some x
 | some l => some (.tup l)
 | none => none
def endsX (n : Nat) (rs : List ResultVar) : Option (List End3) → Ends
 | none => none
 | some l => bindL l fun p => match p.1 with
   | .normal | .ret => match aresT P (evT G n p.2.1) p.2.2 rs with
     | some x => some [(x, p.2.2)]
     | none => none
   | _ => none
def argsT : ET → Nat → List AV → ET
 | e, _, [] => e
 | e, i, a :: l => argsT (e.set i a) (i + 1) l
def dpt (n : Nat) : Nat := if n ≤ 16 then 4 else if n ≤ 64 then 6 else if n ≤ 256 then 8 else if n ≤ 1024 then 10 else 14
abbrev LibX := FuncId → List AV → Option AV
def callX (lib : LibX) (how : FuncId → How) (E : FuncId → List AV → List AObj → Ends) : CallX := fun dr f A h =>
 match lib f (A.map (snap dep h)) with
 | some r => some [mat r (hAfter r h A)]
 | none =>
 if (how f).heap && !dr then E f A h else
 match E f (A.map (snap dep h)) [], P.funcs[f]? with
 | some ((x, h1) :: l), some fn =>
   if l.all fun q => avEq (finB P q.2 fn.resultTypes.toList q.1) (finB P h1 fn.resultTypes.toList x) then some [mat (finB P h1 fn.resultTypes.toList x) (hAfter (finB P h1 fn.resultTypes.toList x) h A)] else none
 | _, _ => none
def fOkB (P : Program) (rx : Bool) (th : Nat → Option Nat) (f : FuncId) : Bool := match P.funcs[f]? with
 | some fn => match fn.body with
   | some c => callable P f && drawsOk rx th c
   | none => false
 | none => false
def funX (lib : LibX) (how : FuncId → How) (ok : FuncId → Bool) : Nat → FuncId → List AV → List AObj → Ends
 | 0, _, _, _ => none
 | n + 1, f, A, h => match P.funcs[f]? with
   | none => none
   | some fn => match fn.body with
     | none => none
     | some c => if ok f then
       match strip (how f).rx (how f).th c with
       | none => none
       | some ac => if fn.ntmps ≤ 16384 ∧ A.length ≤ fn.ntmps then endsX P G fn.ntmps fn.results.toList (codeX P G (callX P lib how (funX lib how ok n)) fn.ntmps n ac (argsT (ET.mk (dpt fn.ntmps)) 0 A) h) else none
       else none
end
section
variable {P : Program} {G : Glob}
theorem aresTL_eq {env : List AV} {h : List AObj} : ∀ (rs : List ResultVar), aresTL P (aev G env) h rs = aresL P env h rs
 | [] => rfl
 | .tmp t :: rs => by
   rw [aresTL, aresL, aresTL_eq rs, ares1]
   cases aresL P env h rs <;> rfl
 | .cell a T :: rs => by
   rw [aresTL, aresL, aresTL_eq rs, ares1]
   rfl
theorem aresT_eq {env : List AV} {h : List AObj} {rs : List ResultVar} : aresT P (aev G env) h rs = ares P rs env h := by
 rw [aresT, aresTL_eq, ares]
 rfl
theorem endsX_ok {n k : Nat} {rs : List ResultVar} {x : Option (List End3)} {l : List (AV × List AObj)} (e : endsX P G n rs x = some l) : ∃ m, x = some m ∧ ∀ p ∈ m, ∀ env, ERel n k p.2.1 env → (p.1 = .normal ∨ p.1 = .ret) ∧ ∃ y, ares P rs env p.2.2 = some y ∧ (y, p.2.2) ∈ l := by
 unfold endsX at e
 split at e
 · cases e
 · rename_i m
   refine ⟨m, rfl, fun p hp env r => ?_⟩
   obtain ⟨a, ha, hs⟩ := bindL_ok e p hp
   rw [r.ev G, aresT_eq] at ha
   split at ha
   · rename_i hx
     split at ha
     · rename_i y hy; cases ha; exact ⟨.inl hx, y, hy, hs _ (List.mem_singleton_self _)⟩
     · cases ha
   · rename_i hx
     split at ha
     · rename_i y hy; cases ha; exact ⟨.inr hx, y, hy, hs _ (List.mem_singleton_self _)⟩
     · cases ha
   · cases ha
theorem argsT_ok {k : Nat} : ∀ (l : List AV) (e : ET) (i : Nat) (pre : List AV) (m : Nat), pre.length = i → i + l.length ≤ m → ERel m k e (pre ++ List.replicate (m - i) .u) → ERel m k (argsT e i l) (pre ++ l ++ List.replicate (m - (i + l.length)) .u)
 | [], e, i, pre, m, hp, hm, r => by rw [argsT]; simpa using r
 | a :: l, e, i, pre, m, hp, hm, r => by
   rw [List.length_cons] at hm
   have r1 := r.put (d := i) (by omega) a
   have e1 : (pre ++ List.replicate (m - i) AV.u).set i a = (pre ++ [a]) ++ List.replicate (m - (i + 1)) AV.u := by
     rw [List.set_append_right _ _ (by omega), hp, Nat.sub_self, show m - i = (m - (i + 1)) + 1 by omega, List.replicate_succ, List.set_cons_zero, List.append_assoc]
     rfl
   rw [e1] at r1
   have := argsT_ok l (e.set i a) (i + 1) (pre ++ [a]) m (by simp [hp]) (by omega) r1
   rw [argsT]
   simpa [Nat.add_assoc, Nat.add_comm 1] using this
theorem erel0 {m : Nat} (h : m ≤ 16384) : ERel m (dpt m) (ET.mk (dpt m)) (List.replicate m .u) := by
 refine ⟨by simp, ?_, ET.full_mk _, fun t ht => by rw [ET.get_mk]; simp [List.getD, ht]⟩
 unfold dpt
 repeat' split
 all_goals omega
def FunOk (P : Program) (G : Glob) (E : FuncId → List AV → List AObj → Ends) : Prop :=
 ∀ f A h l, E f A h = some l → ∃ (rx : Bool) (th : Nat → Option Nat) (fn : Func) (c : Code) (ac : ACode), P.funcs[f]? = some fn ∧ fn.body = some c ∧ callable P f = true ∧ drawsOk rx th c = true ∧ strip rx th c = some ac ∧
   ∀ K : AV → List AObj → Prop, (∀ p ∈ l, K p.1 p.2) → awx P G ac (fun e env h' => (e = .normal ∨ e = .ret) ∧ ∃ x, ares P fn.results.toList env h' = some x ∧ K x h') (A ++ List.replicate (fn.ntmps - A.length) .u) h
theorem FunOk.ctr (hm : P.follows .mixedOrders = true) (hG : GPers G) {E : FuncId → List AV → List AObj → Ends} (he : FunOk P G E) {f : FuncId} {A : List AV} {l : List (AV × List AObj)} {r : AV} (e : E f A [] = some l) (k : ∀ p ∈ l, Fin p.2 p.1 r) : Ctr P G f A r := by
 obtain ⟨rx, th, fn, c, ac, h1, h2, h3, h4, h5, h6⟩ := he _ _ _ _ e
 exact sem_intro hm h1 h2 h3 h4 h5 hG (h6 (fun x h => Fin h x r) k)
def LibOk (P : Program) (G : Glob) (lib : LibX) : Prop := ∀ f A r, lib f A = some r → Ctr P G f A r
def tabL (l : List (FuncId × List AV × AV)) : LibX := fun f A => match l.find? fun e => Nat.beq e.1 f && avEqL e.2.1 A with
 | some e => some e.2.2
 | none => none
theorem tabL_ok {l : List (FuncId × List AV × AV)} (h : ∀ e ∈ l, Ctr P G e.1 e.2.1 e.2.2) : LibOk P G (tabL l) := by
 intro f A r e
 unfold tabL at e
 split at e
 · rename_i x hx
   cases e
   have h1 := List.find?_some hx
   rw [Bool.and_eq_true] at h1
   have h2 := h x (List.mem_of_find?_eq_some hx)
   rw [avEqL_ok _ _ h1.2] at h2
   rwa [Nat.eq_of_beq_eq_true h1.1] at h2
 · cases e
theorem oks_of {how : FuncId → How} {l : List FuncId} (h : l.all (fun f => fOkB P (how f).rx (how f).th f) = true) : ∀ f, l.contains f = true → fOkB P (how f).rx (how f).th f = true := fun f hf => List.all_eq_true.1 h f (by simpa using hf)
theorem callX_ok (hm : P.follows .mixedOrders = true) (hG : GPers G) {lib : LibX} (hl : LibOk P G lib) {how : FuncId → How} {E : FuncId → List AV → List AObj → Ends} (he : FunOk P G E) : CallOk P G (callX P lib how E) := by
 intro dr f A h l e K k
 unfold callX at e
 split at e
 · rename_i r hr
   cases e
   have hK := k _ (List.mem_singleton_self _)
   have c := hl _ _ _ hr
   unfold kcall
   split
   · exact ⟨_, c, hK⟩
   · exact ACalls.sem c hK
 split at e
 · rename_i hh
   simp only [Bool.and_eq_true, Bool.not_eq_true'] at hh
   rw [hh.2]
   obtain ⟨rx, th, fn, c, ac, h1, h2, h3, h4, h5, h6⟩ := he _ _ _ _ e
   exact acalls_intro hm h1 h2 h3 h4 h5 (h6 K k)
 · split at e
   · rename_i x h1 m fn hE _
     split at e
     · rename_i hall
       cases e
       have hK := k _ (List.mem_singleton_self _)
       have c : Ctr P G f (A.map (snap dep h)) (finB P h1 fn.resultTypes.toList x) := he.ctr hm hG hE fun p hp => by
         rcases List.mem_cons.1 hp with rfl | hp
         · exact fin_finB
         · rw [← avEq_ok _ _ (List.all_eq_true.1 hall p hp)]; exact fin_finB
       unfold kcall
       split
       · exact ⟨_, c, hK⟩
       · exact ACalls.sem c hK
     · cases e
   · cases e
theorem funX_ok (hm : P.follows .mixedOrders = true) (hG : GPers G) {lib : LibX} (hl : LibOk P G lib) (how : FuncId → How) {ok : FuncId → Bool} (hok : ∀ f, ok f = true → fOkB P (how f).rx (how f).th f = true) : ∀ n, FunOk P G (funX P G lib how ok n)
 | 0 => fun f A h l e => by cases e
 | n + 1 => fun f A h l e => by
   rw [funX] at e
   split at e
   · cases e
   rename_i fn h1
   split at e
   · cases e
   rename_i c h2
   split at e
   · rename_i h3
     have h3 := hok _ h3
     rw [fOkB, h1] at h3
     dsimp only at h3
     rw [h2] at h3
     dsimp only at h3
     rw [Bool.and_eq_true] at h3
     split at e
     · cases e
     rename_i ac h5
     split at e
     · rename_i h6
       refine ⟨_, _, fn, c, ac, h1, h2, h3.1, h3.2, h5, fun K k => ?_⟩
       obtain ⟨m, hm1, hm2⟩ := endsX_ok (k := dpt fn.ntmps) e
       have r0 := argsT_ok A _ 0 [] fn.ntmps rfl (by omega) (by simpa using erel0 h6.1)
       simp only [List.nil_append, Nat.zero_add] at r0
       refine codeX_ok (callX_ok hm hG hl (funX_ok hm hG hl how hok n)) n ac _ _ _ m _ r0 hm1 fun p hp env r => ?_
       obtain ⟨a, y, hy, hl⟩ := hm2 p hp env r
       exact ⟨a, y, hy, k _ hl⟩
     · cases e
   · cases e
theorem run_ctr (hm : P.follows .mixedOrders = true) (hG : GPers G) {lib : LibX} (hl : LibOk P G lib) (how : FuncId → How) {ok : FuncId → Bool} (hok : ∀ f, ok f = true → fOkB P (how f).rx (how f).th f = true) (n : Nat) {f : FuncId} {A : List AV} {r : AV} (e : (match funX P G lib how ok n f A [] with | some l => l.all fun p => avEq (finR p.2 p.1) r | none => false) = true) : Ctr P G f A r := by
 cases hx : funX P G lib how ok n f A [] with
 | none => rw [hx] at e; cases e
 | some l =>
   rw [hx] at e
   refine (funX_ok hm hG hl how hok n).ctr hm hG hx fun p hp => ?_
   rw [← avEq_ok _ _ (List.all_eq_true.1 e p hp)]
   exact fin_finR
end
end Go.Vo
