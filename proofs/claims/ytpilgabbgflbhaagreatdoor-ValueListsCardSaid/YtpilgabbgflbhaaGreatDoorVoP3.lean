/-
  The abstract layer, part Pa: a statement whose order Go leaves open: run in the order of its text it stands for every order. It speaks of any program that mixes its orders; no condition.
  The abstract layer, part Pb: an object that had no block gets one; what grows; the free variables first. It speaks of any program; no condition.
  The abstract layer, part Pc: a statement whose order Go leaves open: run in the order of its text it stands for every order. It speaks of any program that mixes its orders; no condition.
  The abstract layer, part S: the code: what is shown of abstract states holds of the model's run. It speaks of any program that mixes its orders; no condition.
  The abstract layer, part Q: what a function returns, and how a contract is proved. It speaks of any program; no condition.
  The abstract layer, part R: how code over abstract states is run by rewriting. It speaks of any program; no condition.
  The abstract layer, part T: loops by a state of their own, elements of several cells. It speaks of any program; no condition.
  The abstract layer, part U: values as they read, some levels deep, by rewriting. It speaks of any program; no condition.
-/
import Derived.Test.YtpilgabbgflbhaaGreatDoorVoP2
import Derived.Orders
set_option linter.unusedVariables false
set_option linter.unusedSimpArgs false
set_option linter.constructorNameAsVariable false
namespace Go.Vo

def befs (ops : List Oper) : List (List Nat) :=
 ops.foldl (fun acc o => acc ++ [(List.range acc.length).filter fun k => (anyPre o).contains k || (anyPre o).any fun e => (acc.getD e []).contains k]) []

def dcheck1 (ops : Array Oper) (bs : List (List Nat)) (i : Nat) (p : Oper) : Bool :=
 (dkind p).isSome && ((anyPre p).all (fun e => decide (e < i)) && (bs.getD i []).all (fun k => (anyPre p).contains k || (anyPre p).any fun e => (bs.getD e []).contains k))

def dcheck2 (rx : Bool) (ops : Array Oper) (bs : List (List Nat)) (i j : Nat) (p q : Oper) : Bool :=
 i == j || (p.dst.all (fun d => q.dst != some d) && ((bs.getD j []).contains i || ((bs.getD i []).contains j || indepOK rx ops p q)))

def dcheck (rx : Bool) (ops : Array Oper) (bs : List (List Nat)) : Bool :=
 (List.range ops.size).all fun i => match ops[i]? with
   | Option.none => true
   | some p => dcheck1 ops bs i p && (List.range ops.size).all fun j => match ops[j]? with
       | Option.none => true
       | some q => dcheck2 rx ops bs i j p q

def drawOk (rx : Bool) (ops : Array Oper) : Bool := dcheck rx ops (befs ops.toList)

def hoist (ops : Array Oper) : List Oper := ops.toList.filter isFree ++ ops.toList.filter fun o => !isFree o

structure DOK (rx : Bool) (ops : Array Oper) (B : Nat → Nat → Prop) : Prop where
 kind : ∀ (i : Nat) (o : Oper), ops[i]? = some o → (dkind o).isSome = true
 lt : ∀ (i : Nat) (o : Oper), ops[i]? = some o → ∀ e, e ∈ anyPre o → e < i
 clo : ∀ (i : Nat) (o : Oper), ops[i]? = some o → ∀ k, B k i → k ∈ anyPre o ∨ ∃ e, e ∈ anyPre o ∧ B k e
 dst : ∀ (i j : Nat) (p q : Oper), ops[i]? = some p → ops[j]? = some q → i ≠ j → ∀ d, p.dst = some d → q.dst ≠ some d
 ind : ∀ (i j : Nat) (p q : Oper), ops[i]? = some p → ops[j]? = some q → i ≠ j → B i j ∨ B j i ∨ indepOK rx ops p q = true

theorem dok_of {rx : Bool} {ops : Array Oper} (h : drawOk rx ops = true) : DOK rx ops (fun k i => k ∈ (befs ops.toList).getD i []) := by
 generalize hb : befs ops.toList = bs
 have h : dcheck rx ops bs = true := by rw [← hb]; exact h
 unfold dcheck at h
 rw [List.all_eq_true] at h
 have h1 : ∀ i p, ops[i]? = some p → dcheck1 ops bs i p = true ∧ ∀ j q, ops[j]? = some q → dcheck2 rx ops bs i j p q = true := by
   intro i p hp
   have hi : i < ops.size := (Array.getElem?_eq_some_iff.1 hp).1
   have := h i (List.mem_range.2 hi)
   simp only [hp, Bool.and_eq_true, List.all_eq_true] at this
   refine ⟨this.1, fun j q hq => ?_⟩
   have h2 := this.2 j (List.mem_range.2 (Array.getElem?_eq_some_iff.1 hq).1)
   simp only [hq] at h2
   exact h2
 refine ⟨?_, ?_, ?_, ?_, ?_⟩
 · intro i o ho
   have := (h1 i o ho).1
   simp only [dcheck1, Bool.and_eq_true] at this
   exact this.1
 · intro i o ho e he
   have := (h1 i o ho).1
   simp only [dcheck1, Bool.and_eq_true, List.all_eq_true] at this
   exact of_decide_eq_true (this.2.1 e he)
 · intro i o ho k hk
   have := (h1 i o ho).1
   simp only [dcheck1, Bool.and_eq_true, List.all_eq_true] at this
   have := this.2.2 k hk
   simpa using this
 · intro i j p q hp hq hne d hd
   have := (h1 i p hp).2 j q hq
   simp only [dcheck2, Bool.or_eq_true, beq_iff_eq, hne, false_or, Bool.and_eq_true] at this
   have := this.1
   rw [hd] at this
   simpa using this
 · intro i j p q hp hq hne
   have := (h1 i p hp).2 j q hq
   simp only [dcheck2, Bool.or_eq_true, beq_iff_eq, hne, false_or, Bool.and_eq_true] at this
   simpa using this.2

section
variable {rx : Bool} {ops : Array Oper} {B : Nat → Nat → Prop}

theorem DOK.blt (D : DOK rx ops B) : ∀ (i : Nat) (o : Oper), ops[i]? = some o → ∀ k, B k i → k < i := by
 intro i
 induction i using Nat.strongRecOn with
 | ind i ih =>
   intro o ho k hk
   rcases D.clo i o ho k hk with h | ⟨e, he, hb⟩
   · exact D.lt i o ho k h
   · have hlt := D.lt i o ho e he
     have hi : i < ops.size := (Array.getElem?_eq_some_iff.1 ho).1
     have := ih e hlt ops[e] (by simp) k hb
     omega

def Closed (ops : Array Oper) (S : Nat → Prop) : Prop := ∀ (i : Nat) (o : Oper), S i → ops[i]? = some o → ∀ e, e ∈ anyPre o → S e

theorem DOK.before (D : DOK rx ops B) {S : Nat → Prop} (cl : Closed ops S) : ∀ (i : Nat) (o : Oper), ops[i]? = some o → (∀ e, e ∈ anyPre o → S e) → ∀ k, B k i → S k := by
 intro i
 induction i using Nat.strongRecOn with
 | ind i ih =>
   intro o ho hpre k hk
   rcases D.clo i o ho k hk with h | ⟨e, he, hb⟩
   · exact hpre k h
   · have hlt := D.lt i o ho e he
     have hi : i < ops.size := (Array.getElem?_eq_some_iff.1 ho).1
     exact ih e hlt ops[e] (by simp) (cl e ops[e] (hpre e he) (by simp)) k hb

theorem indep_spec {p q : Oper} (h : indepOK rx ops p q = true) : (∀ d, p.dst = some d → d ∉ ouses ops q) ∧ (∀ d, q.dst = some d → d ∉ ouses ops p) ∧ ∃ a b, dkind p = some a ∧ dkind q = some b ∧ (kindsOK a b = true ∨ laxOK rx ops p q = true) := by
 unfold indepOK at h
 simp only [Bool.and_eq_true] at h
 obtain ⟨⟨h1, h2⟩, h3⟩ := h
 refine ⟨?_, ?_, ?_⟩
 · intro d hd; rw [hd] at h1; simpa using h1
 · intro d hd; rw [hd] at h2; simpa using h2
 · cases ha : dkind p with
   | none => rw [ha] at h3; simp at h3
   | some a =>
     cases hb : dkind q with
     | none => rw [ha, hb] at h3; simp at h3
     | some b =>
       rw [ha, hb] at h3
       simp only [Bool.or_eq_true, Option.isSome_some, Bool.true_and] at h3
       exact ⟨a, b, rfl, rfl, h3⟩

def dstOf (ops : Array Oper) (i : Nat) : Option Nat := (ops[i]?).bind (·.dst)

def envOf (ops : Array Oper) (x : Nat → AV) (L : List Nat) (env : List AV) : List AV := L.foldl (fun e i => aput e (dstOf ops i) (x i)) env

theorem DOK.one (D : DOK rx ops B) {i j d : Nat} (hi : dstOf ops i = some d) (hj : dstOf ops j = some d) : i = j := by
 by_cases h : i = j
 · exact h
 · exfalso
   unfold dstOf at hi hj
   cases hp : ops[i]? with
   | none => rw [hp] at hi; cases hi
   | some p =>
     cases hq : ops[j]? with
     | none => rw [hq] at hj; cases hj
     | some q =>
       rw [hp] at hi; rw [hq] at hj
       exact D.dst i j p q hp hq h d hi hj

def EnvIs (ops : Array Oper) (x : Nat → AV) (env : List AV) (S : Nat → Prop) (e : List AV) : Prop :=
 e.length = env.length ∧ ∀ t, (∃ i, S i ∧ dstOf ops i = some t ∧ t < env.length ∧ e.getD t .u = x i) ∨ ((∀ i, S i → dstOf ops i = some t → env.length ≤ t) ∧ e.getD t .u = env.getD t .u)

variable {x : Nat → AV} {env : List AV}

theorem EnvIs.congr {S S' : Nat → Prop} {e : List AV} (h : EnvIs ops x env S e) (hs : ∀ i, S i ↔ S' i) : EnvIs ops x env S' e := by
 have : S = S' := funext fun i => propext (hs i)
 exact this ▸ h

theorem EnvIs.agree (D : DOK rx ops B) {S S' : Nat → Prop} {e e' : List AV} (h : EnvIs ops x env S e) (h' : EnvIs ops x env S' e') (t : Nat) (ha : ∀ i, dstOf ops i = some t → (S i ↔ S' i)) : e.getD t .u = e'.getD t .u := by
 rcases h.2 t with ⟨i, s, hd, hl, hx⟩ | ⟨hn, hx⟩
 · rcases h'.2 t with ⟨i', s', hd', hl', hx'⟩ | ⟨hn', hx'⟩
   · have := D.one hd hd'; subst this; rw [hx, hx']
   · have := hn' i ((ha i hd).1 s) hd; omega
 · rcases h'.2 t with ⟨i', s', hd', hl', hx'⟩ | ⟨hn', hx'⟩
   · have := hn i' ((ha i' hd').2 s') hd'; omega
   · rw [hx, hx']

theorem EnvIs.unique (D : DOK rx ops B) {S : Nat → Prop} {e e' : List AV} (h : EnvIs ops x env S e) (h' : EnvIs ops x env S e') : e = e' := by
 apply List.ext_getElem (h.1.trans h'.1.symm)
 intro t h1 h2
 have := h.agree D h' t (fun i _ => Iff.rfl)
 simpa [List.getD, h1, h2] using this

theorem EnvIs.start : EnvIs ops x env (fun _ => False) env := ⟨rfl, fun t => .inr ⟨fun i h => h.elim, rfl⟩⟩

theorem EnvIs.step (D : DOK rx ops B) {S : Nat → Prop} {e : List AV} (h : EnvIs ops x env S e) (i : Nat) : EnvIs ops x env (fun k => S k ∨ k = i) (aput e (dstOf ops i) (x i)) := by
 cases hd : dstOf ops i with
 | none =>
   refine ⟨h.1, fun t => ?_⟩
   rcases h.2 t with ⟨k, s, hk, hl, hx⟩ | ⟨hn, hx⟩
   · exact .inl ⟨k, .inl s, hk, hl, hx⟩
   · refine .inr ⟨?_, hx⟩
     rintro k (s | rfl) hk
     · exact hn k s hk
     · rw [hd] at hk; cases hk
 | some d =>
   refine ⟨by simp [aput, h.1], fun t => ?_⟩
   by_cases ht : d = t
   · subst ht
     by_cases hl : d < env.length
     · exact .inl ⟨i, .inr rfl, hd, hl, by simp [aput, List.getD, h.1, hl]⟩
     · refine .inr ⟨fun k _ _ => by omega, ?_⟩
       simp [aput, List.getD, List.getElem?_eq_none (Nat.le_of_not_lt hl), List.getElem?_eq_none (l := e.set d (x i)) (i := d) (by simp [h.1]; omega)]
   · have hg : (aput e (some d) (x i)).getD t .u = e.getD t .u := by simp [aput, List.getD, List.getElem?_set_ne ht]
     rw [hg]
     rcases h.2 t with ⟨k, s, hk, hl, hx⟩ | ⟨hn, hx⟩
     · exact .inl ⟨k, .inl s, hk, hl, hx⟩
     · refine .inr ⟨?_, hx⟩
       rintro k (s | rfl) hk
       · exact hn k s hk
       · rw [hd] at hk; cases hk; exact absurd rfl ht

theorem EnvIs.many (D : DOK rx ops B) : ∀ (L : List Nat) {S : Nat → Prop} {e : List AV}, EnvIs ops x env S e → EnvIs ops x env (fun k => S k ∨ k ∈ L) (envOf ops x L e)
 | [], S, e, h => h.congr (fun i => by simp)
 | i :: L, S, e, h => by
   have := EnvIs.many D L (h.step D i)
   exact this.congr (fun k => by simp [or_assoc])

theorem envIs_of (D : DOK rx ops B) (L : List Nat) : EnvIs ops x env (fun k => k ∈ L) (envOf ops x L env) := (EnvIs.many D L EnvIs.start).congr (fun k => by simp)
end

section
variable {P : Program} {G : Glob} {rx : Bool} {N : Nat} {ops : Array Oper}

def OpD (P : Program) (G : Glob) (N : Nat) (rx : Bool) (ops : Array Oper) (o : Oper) (env : List AV) (h : List AObj) (x : AV) (h' : List AObj) : Prop :=
 ckOK G (some N) (rx && ckOf ops o) o.op env ∧ DOp P G o.op env h x h'

def OpAt (P : Program) (G : Glob) (N : Nat) (rx : Bool) (ops : Array Oper) (o : Oper) (env : List AV) (h : List AObj) (x : AV) (h' : List AObj) : Prop :=
 match o.guard with
 | Option.none => OpD P G N rx ops o env h x h'
 | some (j, want) => ∃ d b, dstOf ops j = some d ∧ gval (env.getD d .u) want = .b b ∧ (b = true → OpD P G N rx ops o env h x h') ∧ (b = false → x = .tup [] ∧ h' = h)

theorem envOf_congr {x x' : Nat → AV} : ∀ (L : List Nat) (env : List AV), (∀ i ∈ L, x i = x' i) → envOf ops x L env = envOf ops x' L env
 | [], env, h => rfl
 | i :: L, env, h => by
   simp only [envOf, List.foldl_cons]
   rw [h i (by simp)]
   exact envOf_congr L _ (fun k hk => h k (by simp [hk]))

theorem trace {K : List AV → List AObj → Prop} : ∀ (L : List Nat) (al : List AOper) (env : List AV) (h : List AObj), (∀ i ∈ L, i < ops.size) → L.Nodup → stripOps rx ops (L.filterMap (ops[·]?)) = some al → awops P G (some N) al K env h →
   ∃ (x : Nat → AV) (hh : Nat → List AObj), hh 0 = h ∧ K (envOf ops x L env) (hh L.length) ∧ ∀ (p i : Nat) (o : Oper), L[p]? = some i → ops[i]? = some o → OpAt P G N rx ops o (envOf ops x (L.take p) env) (hh p) (x i) (hh (p + 1))
 | [], al, env, h, _, _, hs, e => by
   simp only [List.filterMap_nil, stripOps, Option.some.injEq] at hs
   subst hs
   exact ⟨fun _ => .u, fun _ => h, rfl, e, fun p i o hp => by simp at hp⟩
 | i :: L, al, env, h, hlt, hnd, hs, e => by
   have hi : i < ops.size := hlt i (by simp)
   have ho : ops[i]? = some ops[i] := by simp [hi]
   rw [List.filterMap_cons, ho] at hs
   simp only [stripOps] at hs
   cases hso : stripOp rx ops ops[i] with
   | none => simp [hso] at hs
   | some ao =>
   cases hl : stripOps rx ops (L.filterMap (ops[·]?)) with
   | none => simp [hso, hl] at hs
   | some al' =>
   simp only [hso, hl, Option.some.injEq] at hs
   subst hs
   have hd : ao.dst = dstOf ops i ∧ ao.op = ops[i].op ∧ ao.ck = (rx && ckOf ops ops[i]) := by
     unfold stripOp at hso
     split at hso
     · cases hso; simp [dstOf, ho]
     · split at hso
       · cases hso; simp [dstOf, ho]
       · cases hso
   have key : ∃ xi hi', awops P G (some N) al' K (aput env (dstOf ops i) xi) hi' ∧ OpAt P G N rx ops ops[i] env h xi hi' := by
     simp only [awops] at e
     unfold stripOp at hso
     unfold OpAt
     cases hg : ops[i].guard with
     | none =>
       simp only [hg, Option.some.injEq] at hso
       subst hso
       simp only at e
       obtain ⟨xi, hi', hD, hK⟩ := awop_iff.1 (runO_some ▸ e.2)
       exact ⟨xi, hi', by simpa [dstOf, ho] using hK, e.1, hD⟩
     | some q =>
       obtain ⟨j, want⟩ := q
       simp only [hg] at hso
       cases hdj : (ops[j]?).bind (·.dst) with
       | none => simp [hdj] at hso
       | some d =>
         simp only [hdj, Option.some.injEq] at hso
         subst hso
         simp only at e
         cases hx : gval (env.getD d .u) want with
         | b b =>
           rw [hx] at e
           simp only [condK] at e
           cases b with
           | true =>
             obtain ⟨xi, hi', hD, hK⟩ := awop_iff.1 (runO_some ▸ (e.1 rfl).2)
             exact ⟨xi, hi', by simpa [dstOf, ho] using hK, d, true, hdj, hx, (fun _ => ⟨(e.1 rfl).1, hD⟩), (fun hf => by cases hf)⟩
           | false => exact ⟨.tup [], h, by simpa [dstOf, ho] using e.2 rfl, d, false, hdj, hx, (fun hf => by cases hf), (fun _ => ⟨rfl, rfl⟩)⟩
         | _ => rw [hx] at e; exact e.elim
   obtain ⟨xi, hi', e', hat⟩ := key
   have hnd' := List.nodup_cons.1 hnd
   obtain ⟨x, hh, h0, hK, htr⟩ := trace L al' _ hi' (fun k hk => hlt k (by simp [hk])) hnd'.2 hl e'
   have hx : ∀ k ∈ L, x k = (fun k => if k = i then xi else x k) k := by
     intro k hk
     have : k ≠ i := fun he => hnd'.1 (he ▸ hk)
     simp [this]
   refine ⟨fun k => if k = i then xi else x k, fun p => match p with | 0 => h | p + 1 => hh p, rfl, ?_, ?_⟩
   · simp only [envOf, List.foldl_cons, if_true, List.length_cons]
     have := envOf_congr (ops := ops) L (aput env (dstOf ops i) xi) hx
     simp only [envOf] at this hK
     rw [← this]; exact hK
   · intro p k o hp hk
     cases p with
     | zero =>
       simp only [List.getElem?_cons_zero, Option.some.injEq] at hp
       subst hp
       rw [ho] at hk; cases hk
       simp only [List.take_zero, envOf, List.foldl_nil, if_true, h0]
       exact hat
     | succ p =>
       simp only [List.getElem?_cons_succ] at hp
       have := htr p k o hp hk
       have hkL : k ∈ L := List.mem_of_getElem? hp
       have hne : k ≠ i := fun he => hnd'.1 (he ▸ hkL)
       simp only [List.take_succ_cons, envOf, List.foldl_cons, if_true, hne, if_false]
       have hc := envOf_congr (ops := ops) (L.take p) (aput env (dstOf ops i) xi) (fun k hk => hx k (List.mem_of_mem_take hk))
       simp only [envOf] at hc this
       rw [← hc]; exact this
end

structure ExtW (X : Ctx) (w : World) (h : List AObj) (X' : Ctx) (w' : World) : Prop where
 fr : ∀ b, X.F b → X'.F b
 keep : ∀ b, X.F b → w'.heap[b]? = w.heap[b]?
 shp : ∀ b s, w.shape? b = some s → w'.shape? b = some s
 obj : ∀ id bo, X.ι id = some bo → X'.ι id = some bo

theorem RV.monoW {X X' : Ctx} {w w' : World} {h : List AObj} {a : AV} {v : Value} (r : RV X w h a v) (e : ExtW X w h X' w') : RV X' w' h a v := by
 induction r with
 | u v => exact .u v
 | b x => exact .b x
 | i k n => exact .i k n
 | s l => exact .s l
 | p v hv => exact .p v hv
 | e0 a => exact .e0 a
 | sl0 a cap => exact .sl0 a cap
 | sl hF hb hl hc h1 _ ih => exact .sl (e.fr _ hF) ((e.keep _ hF).trans hb) hl hc h1 ih
 | hs hid hι hsh hn hc hN ht hf => exact .hs hid (e.obj _ _ hι) (e.shp _ _ hsh) hn hc hN ht hf
 | hs0 hid hf ho => exact .hs0 hid hf ho
 | ptr hid hnd hι => exact .ptr hid hnd (e.obj _ _ hι)
 | mp hid hι => exact .mp hid (e.obj _ _ hι)
 | dead hr hid hv => exact .dead hr hid hv
 | box hF hb hl h1 _ ih => exact .box (e.fr _ hF) ((e.keep _ hF).trans hb) hl h1 ih
 | mapv hF hb hk hv _ _ hbn hbd ihk ihv => exact .mapv (e.fr _ hF) ((e.keep _ hF).trans hb) hk hv ihk ihv hbn hbd
 | fn h1 h2 _ _ ih1 ih2 => exact .fn h1 h2 ih1 ih2
 | agg h1 h2 _ ih => exact .agg h1 h2 ih
 | tup h1 _ ih => exact .tup h1 ih

theorem GRel.monoW {X X' : Ctx} {w w' : World} {h : List AObj} {k : Nat} {a : AV} (r : GRel X w h k a) (e : ExtW X w h X' w') : GRel X' w' h k a :=
 ⟨r.1.monoW e, fun cells off ha => have ⟨hF, cs, T, fr, h1, h2⟩ := r.2 cells off ha; ⟨e.fr _ hF, cs, T, fr, (e.keep _ hF).trans h1, h2⟩⟩
theorem ObjOK.monoW {X X' : Ctx} {w w' : World} {h : List AObj} {id : Nat} {ob : AObj} (r : ObjOK X w h id ob) (e : ExtW X w h X' w')
   (hι : X'.ι id = X.ι id) (hb : ∀ b o, X.ι id = some (b, o) → w'.heap[b]? = w.heap[b]?) (hF : ∀ b o, X.ι id = some (b, o) → X'.F b → X.F b) : ObjOK X' w' h id ob := by
 cases r with
 | absent h0 => exact .absent (hι.trans h0)
 | box h0 h1 h2 h3 h4 h5 h6 => exact .box (hι.trans h0) ((hb _ _ h0).trans h1) (fun f => e.fr _ (h2 f)) (fun f => ⟨fun g => (h3 f).1 (hF _ _ h0 g), (h3 f).2⟩) h4 h5 (fun j a v ha hv => (h6 j a v ha hv).monoW e)
 | arr h0 h1 h2 h3 h4 h5 h6 => exact .arr (hι.trans h0) ((hb _ _ h0).trans h1) (fun f => e.fr _ (h2 f)) (fun f => ⟨fun g => (h3 f).1 (hF _ _ h0 g), (h3 f).2⟩) h4 h5 (fun j a v ha hv => (h6 j a v ha hv).monoW e)
 | map h0 h1 h2 h3 h4 h5 h6 h7 h8 h9 => exact .map (hι.trans h0) ((hb _ _ h0).trans h1) (fun f => e.fr _ (h2 f)) (fun f g => h3 f (hF _ _ h0 g)) h4 h5 (fun j a v ha hv => (h6 j a v ha hv).monoW e) (fun j a v ha hv => (h7 j a v ha hv).monoW e) h8 h9
 | sit h0 h1 h2 => exact .sit (hι.trans h0) (fun g => h1 (hF _ _ h0 g)) ((hb _ _ h0).trans h2)
 | mit h0 h1 h2 h3 h4 h5 h6 h7 h8 h9 h10 h11 => exact .mit (hι.trans h0) (fun g => h1 (hF _ _ h0 g)) ((hb _ _ h0).trans h2) (e.fr _ h3) ((e.keep _ h3).trans h4) h5 h6 h7 h8 (fun j a v ha hv => (h9 j a v ha hv).monoW e) (fun j a v ha hv => (h10 j a v ha hv).monoW e) (fun k v hc => have ⟨e1, a1, a2, a3, a4⟩ := h11 k v hc; ⟨e1, a1, a2, a3.monoW e, a4.monoW e⟩)

section
variable {G : Glob} {X : Ctx} {w w' : World} {h : List AObj}

theorem gh_fill (g : GH G X w h) {cs : Array Value} {T : TypeId} (p : Pushed w w' (.cells cs T (0, 0))) {id : Nat} {cells : List AV} (hid : h[id]? = some (.box false cells)) (hι : X.ι id = Option.none)
   (hl : cs.size = cells.length) (h1 : Cells1 cs) (hr : ∀ (j : Nat) (x : AV) (u : Value), cells[j]? = some x → cs[j]? = some u → RV X w h x u) :
   ExtW X w h (X.upd id (some (w.heap.size, 0))) w' ∧ GH G (X.upd id (some (w.heap.size, 0))) w' h ∧ Step X w (X.upd id (some (w.heap.size, 0))) w' := by
 have pg := p.grew
 have hs := p.size
 have e : ExtW X w h (X.upd id (some (w.heap.size, 0))) w' := by
   refine ⟨fun b hb => hb, fun b hb => pg.old _ (g.fbnd b hb), fun b s hs => ?_, fun k bo hk => ?_⟩
   · rw [shape_of (pg.old _ (shape_lt hs))]; exact hs
   · have : k ≠ id := fun he => by rw [he, hι] at hk; cases hk
     rw [Ctx.upd_other _ _ this]; exact hk
 refine ⟨e, ⟨?_, ?_, ?_, ?_, ?_, fun k a hk => (g.gl k a hk).monoW e⟩, ⟨by omega, p.os, p.tape, p.output, fun b hb _ => pg.old b hb, ?_, fun b hb => .inl hb⟩⟩
 · intro k ob hk
   by_cases hki : k = id
   · subst hki
     rw [hid] at hk; cases hk
     refine .box (Ctx.upd_same _ _ _) p.at (fun f => by cases f) (fun _ => ⟨fun hF => by have := g.fbnd _ hF; omega, rfl⟩) (by omega) ?_ ?_
     · intro j v hj hv; exact h1 j v (by simpa using hv)
     · intro j a v ha hv; exact (hr j a v ha (by simpa using hv)).monoW e
   · exact (g.objs k ob hk).monoW e (Ctx.upd_other _ _ hki) (fun b o hb => pg.old _ (g.bnd _ _ _ hb)) (fun _ _ _ f => f)
 · intro k b hb
   by_cases hki : k = id
   · subst hki; exact ⟨_, hid⟩
   · rw [Ctx.upd_other _ _ hki] at hb
     exact g.dom _ _ hb
 · intro k k' b c c' h1 h2
   by_cases e1 : k = id
   · by_cases e2 : k' = id
     · omega
     · subst e1
       rw [Ctx.upd_same] at h1
       rw [Ctx.upd_other _ _ e2] at h2
       have := g.bnd _ _ _ h2
       cases h1; omega
   · rw [Ctx.upd_other _ _ e1] at h1
     by_cases e2 : k' = id
     · subst e2
       rw [Ctx.upd_same] at h2
       have := g.bnd _ _ _ h1
       cases h2; omega
     · rw [Ctx.upd_other _ _ e2] at h2
       exact g.inj _ _ _ _ _ h1 h2
 · intro k b c h1
   by_cases e1 : k = id
   · subst e1
     rw [Ctx.upd_same] at h1
     cases h1; omega
   · rw [Ctx.upd_other _ _ e1] at h1
     have := g.bnd _ _ _ h1
     omega
 · intro b hb
   have := g.fbnd b hb
   omega
 · intro k b c h1
   by_cases e1 : k = id
   · subst e1
     rw [Ctx.upd_same] at h1
     cases h1; exact .inl (Nat.le_refl _)
   · rw [Ctx.upd_other _ _ e1] at h1
     exact .inr ⟨k, c, h1⟩

theorem gh_more (g : GH G X w h) (obs : List AObj) : GH G X w (h ++ obs) ∧ Tr X w h X w (h ++ obs) := by
 have e : Ext X w h X w (h ++ obs) := ⟨fun _ h => h, fun _ _ => rfl, fun _ _ h => h, fun id o ho => ⟨o, by rw [List.getElem?_append_left (lt_of_some ho)]; exact ho, .inr ⟨AObj.like_refl o, rfl⟩⟩⟩
 refine ⟨⟨?_, ?_, g.inj, g.bnd, g.fbnd, fun k a hk => (g.gl k a hk).mono e⟩, ⟨.refl _ _, e, fun id z hid _ => by rw [List.getElem?_append_left (lt_of_some hid)]; exact hid⟩⟩
 · intro id ob hid
   by_cases hlt : id < h.length
   · rw [List.getElem?_append_left hlt] at hid
     exact (g.objs id ob hid).mono e rfl (fun _ _ _ => rfl) (fun _ _ _ f => f)
   · refine .absent ?_
     cases hi : X.ι id with
     | none => rfl
     | some bo => obtain ⟨ob', ho⟩ := g.dom _ _ hi; exact absurd (lt_of_some ho) hlt
 · intro id bo hb
   obtain ⟨ob, ho⟩ := g.dom _ _ hb
   exact ⟨ob, by rw [List.getElem?_append_left (lt_of_some ho)]; exact ho⟩

theorem gh_same (g : GH G X w h) (hh : w'.heap = w.heap) (ho : w'.os = w.os) (ht : w'.tape = w.tape) (hu : w'.output = w.output) : GH G X w' h ∧ Tr X w h X w' h := by
 have e : Ext X w h X w' h := ⟨fun _ h => h, fun _ _ => by rw [hh], fun b s hs => by rw [shape_of (w := w) (by rw [hh])]; exact hs, fun id o ho => ⟨o, ho, .inr ⟨AObj.like_refl o, rfl⟩⟩⟩
 refine ⟨⟨fun id ob hid => (g.objs id ob hid).mono e rfl (fun _ _ _ => by rw [hh]) (fun _ _ _ f => f), g.dom, g.inj, fun id b o hb => by rw [hh]; exact g.bnd id b o hb, fun b hb => by rw [hh]; exact g.fbnd b hb, fun k a hk => (g.gl k a hk).mono e⟩,
   ⟨⟨by rw [hh]; exact Nat.le_refl _, ho, ht, hu, fun _ _ _ => by rw [hh], fun id b o hb => .inr ⟨id, o, hb⟩, fun b hb => .inl hb⟩, e, fun id z hid _ => hid⟩⟩
end

def Grow (h h' : List AObj) : Prop := ∀ (id : Nat) (o : AObj), h[id]? = some o → ∃ o', h'[id]? = some o' ∧ o'.strip = o.strip
theorem Grow.refl (h : List AObj) : Grow h h := fun id o ho => ⟨o, ho, rfl⟩
theorem Grow.trans {a b c : List AObj} (x : Grow a b) (y : Grow b c) : Grow a c := fun id o ho => by
 obtain ⟨o1, h1, e1⟩ := x id o ho
 obtain ⟨o2, h2, e2⟩ := y id o1 h1
 exact ⟨o2, h2, e2.trans e1⟩
theorem Grow.app (h obs : List AObj) : Grow h (h ++ obs) := fun id o ho => ⟨o, by rw [List.getElem?_append_left (lt_of_some ho)]; exact ho, rfl⟩
theorem strip_fz (o : AObj) : o.fz.strip = o.strip := by cases o <;> rfl
theorem Grow.freeze (ids : List Nat) (h : List AObj) : Grow h (freeze ids h) := fun id o ho => by
 rw [freeze_get, ho]
 refine ⟨_, rfl, ?_⟩
 split
 · exact strip_fz o
 · rfl

mutual
theorem mat_grow : ∀ (a : AV) (h : List AObj), Grow h (mat a h).2
 | .own sz cells n, h => by simp only [mat]; exact .app _ _
 | .agg cells, h => by simp only [mat]; exact matL_grow cells h
 | .tup cells, h => by simp only [mat]; exact matL_grow cells h
 | .u, h | .b _, h | .i _ _, h | .s _, h | .p _, h | .e0, h | .sl _ _, h | .hs _ _ _ _, h | .ptr _ _, h | .box _ _, h | .mp _, h | .mapv _ _, h | .fn _ _ _, h => by simp only [mat]; exact .refl _
theorem matL_grow : ∀ (l : List AV) (h : List AObj), Grow h (matL l h).2
 | [], h => by simp only [matL]; exact .refl _
 | a :: l, h => by simp only [matL]; exact (mat_grow a h).trans (matL_grow l _)
end

theorem hAfter_grow (r : AV) (h : List AObj) (A : List AV) : Grow h (hAfter r h A) := by
 unfold hAfter; split
 · exact .refl _
 · exact .freeze _ _

section
variable {P : Program} {G : Glob}

theorem dop_alloc {T : TypeId} {env : List AV} {h h' : List AObj} {x : AV} (e : DOp P G (.alloc T) env h x h') : ∃ z, zeroOf P T = some z ∧ x = .ptr h.length 0 ∧ h' = h ++ [.box false z] := by
 unfold DOp at e
 simp only [awop, aop] at e
 cases hz : zeroOf P T with
 | none => rw [hz] at e; exact e.elim
 | some z => rw [hz] at e; exact ⟨z, rfl, e.1.symm, e.2.symm⟩

theorem w_grow {o : Oper} (hk : dkind o = some .w) {env : List AV} {h h' : List AObj} {x : AV} (e : DOp P G o.op env h x h') : Grow h h' := by
 unfold dkind at hk
 cases ho : o.op with
 | alloc T =>
   rw [ho] at e
   obtain ⟨z, _, _, rfl⟩ := dop_alloc e
   exact .app _ _
 | box T y =>
   rw [ho] at e
   unfold DOp at e
   simp only [awop, aop] at e
   cases hc : acells (aev G env y) with
   | none => rw [hc] at e; exact e.elim
   | some c => rw [hc] at e; rw [← e.2]; exact .app _ _
 | buildSlice T n ps =>
   rw [ho] at e
   unfold DOp at e
   simp only [awop, aop] at e
   split at e
   case h_2 => exact e.elim
   rename_i el _
   split at e
   case h_2 => exact e.elim
   rename_i z _
   split at e
   case isFalse => exact e.elim
   split at e
   case isTrue => rw [← e.2]; exact .refl _
   split at e
   case h_2 => exact e.elim
   rw [← e.2]; exact .app _ _
 | makeMap T r =>
   rw [ho] at e
   unfold DOp at e
   cases r with
   | none => simp only [awop, aop] at e; rw [← e.2]; exact .app _ _
   | some _ => exact e.elim
 | makeSlice T l c =>
   rw [ho] at e
   unfold DOp at e
   simp only [awop, aop] at e
   unfold amakeSlice at e
   split at e
   case h_2 => exact e.elim
   split at e
   case h_2 => exact e.elim
   split at e
   case isFalse => exact e.elim
   rw [← e.2]; exact .app _ _
 | call c =>
   rw [ho] at hk e
   simp only at hk
   unfold DOp at e
   simp only [awop, acall] at e
   cases hc : c.callee with
   | builtin b => rw [hc] at hk; cases b <;> simp at hk
   | value f =>
     rw [hc] at e
     simp only at e
     cases hf : aev G env f with
     | fn f' first capt =>
       rw [hf] at e
       simp only [kcall, if_true] at e
       obtain ⟨r, _, e1, e2⟩ := e
       rw [← e2]
       exact (hAfter_grow _ _ _).trans (mat_grow _ _)
     | _ => rw [hf] at e; exact e.elim
   | invoke _ _ => rw [hc] at hk; simp at hk
 | _ => rw [ho] at hk; simp at hk

theorem rv_refs {X : Ctx} {w : World} {h : List AObj} {a : AV} {v : Value} (r : RV X w h a v) {id : Nat} (e : a.refs = some id) : ∃ o, h[id]? = some o := by
 cases r with
 | dead hr hid hv => rw [hr] at e; cases e; exact ⟨_, hid⟩
 | _ => first | (simp [AV.refs] at e; done) | (simp only [AV.refs, Option.some.injEq] at e; subst e; exact ⟨_, by assumption⟩)

theorem kind_rop {o : Oper} (hk : dkind o = some .r) : rOp o.op = true := by
 unfold dkind at hk
 unfold rOp
 cases ho : o.op with
 | call c =>
   rw [ho] at hk
   simp only at hk ⊢
   cases hc : c.callee with
   | builtin b => rw [hc] at hk; cases b <;> simp at hk ⊢
   | value f => rw [hc] at hk; simp at hk
   | invoke _ _ => rw [hc] at hk; simp at hk
 | alloc T => rw [ho] at hk; simp only at hk; split at hk <;> simp at hk
 | buildSlice T n ps => rw [ho] at hk; simp only at hk; split at hk <;> simp at hk
 | _ => first | rfl | (rw [ho] at hk; simp at hk; done)

def pOp : Op → Bool
 | .move _ | .assign _ | .pick .. | .binOp .. | .unOp .. | .convert .. | .makeFunc .. | .field .. | .index .. | .extract .. | .build .. => true
 | _ => false
theorem kind_c {o : Oper} (hk : dkind o = some .c) : pOp o.op = true ∨ ∃ T ps, o.op = .buildSlice T 0 ps ∧ ps.toList = [] := by
 unfold dkind at hk
 cases ho : o.op with
 | buildSlice T n ps =>
   right
   rw [ho] at hk
   simp only at hk
   split at hk
   · rename_i h
     simp only [Bool.and_eq_true, beq_iff_eq, List.isEmpty_iff] at h
     obtain ⟨⟨rfl, h2⟩, _⟩ := h
     exact ⟨T, ps, rfl, h2⟩
   · simp at hk
 | call c =>
   rw [ho] at hk
   simp only at hk
   cases hc : c.callee with
   | builtin b => rw [hc] at hk; cases b <;> simp at hk
   | value f => rw [hc] at hk; simp at hk
   | invoke _ _ => rw [hc] at hk; simp at hk
 | alloc T => rw [ho] at hk; simp only at hk; split at hk <;> simp at hk
 | _ => first | exact .inl rfl | (rw [ho] at hk; simp at hk; done)
theorem optK_pure {A : Option AV} {h hh : List AObj} {x : AV} (e : optK (match A with | some v => some (v, h) | Option.none => Option.none) (fun x1 h1 => x1 = x ∧ h1 = hh)) : hh = h ∧ ∀ h', optK (match A with | some v => some (v, h') | Option.none => Option.none) (fun x1 h1 => x1 = x ∧ h1 = h') := by
 cases A with
 | none => exact e.elim
 | some v => exact ⟨e.2.symm, fun h' => ⟨e.1, rfl⟩⟩

theorem pure_ok {o : Oper} (hk : dkind o = some .c) {env : List AV} {h hh : List AObj} {x : AV} (e : DOp P G o.op env h x hh) : hh = h ∧ ∀ h', DOp P G o.op env h' x h' := by
 rcases kind_c hk with hp | ⟨T, ps, ho, hps⟩
 · unfold DOp at e ⊢
   cases ho : o.op with
   | move y => rw [ho] at e; exact ⟨e.2.symm, fun h' => ⟨e.1, rfl⟩⟩
   | assign y => rw [ho] at e; exact ⟨e.2.symm, fun h' => ⟨e.1, rfl⟩⟩
   | pick c a b =>
     rw [ho] at e
     simp only [awop, aop] at e ⊢
     cases hc : aev G env c <;> rw [hc] at e <;> first | exact ⟨e.2.symm, fun h' => ⟨e.1, rfl⟩⟩ | exact e.elim
   | binOp op T y z U => rw [ho] at e; exact optK_pure e
   | unOp op T y => rw [ho] at e; exact optK_pure e
   | convert S T y => rw [ho] at e; exact optK_pure e
   | makeFunc t a b =>
     rw [ho] at e
     cases t with
     | func f => exact ⟨e.2.symm, fun h' => ⟨e.1, rfl⟩⟩
     | _ => exact e.elim
   | field T y f =>
     rw [ho] at e
     simp only [awop, aop] at e ⊢
     split at e
     · exact optK_pure e
     · exact e.elim
   | index T y z => rw [ho] at e; exact optK_pure e
   | extract y i =>
     rw [ho] at e
     simp only [awop, aop] at e ⊢
     split at e
     · exact optK_pure e
     · exact e.elim
   | build T ps =>
     rw [ho] at e
     simp only [awop, aop] at e ⊢
     cases h1 : placesOf P T with
     | none => rw [h1] at e; exact e.elim
     | some pl =>
     cases h2 : zeroOf P T with
     | none => rw [h1, h2] at e; exact e.elim
     | some z =>
       rw [h1, h2] at e
       simp only at e ⊢
       split at e
       · exact ⟨e.2.symm, fun h' => ⟨e.1, rfl⟩⟩
       · exact e.elim
   | _ => rw [ho] at hp; exact absurd hp (by simp [pOp])
 · rw [ho] at e ⊢
   unfold DOp at e ⊢
   simp only [awop, aop] at e ⊢
   cases h1 : elemOf? P T with
   | none => rw [h1] at e; exact e.elim
   | some el =>
     rw [h1] at e
     simp only at e ⊢
     cases h2 : zeroOf P el with
     | none => rw [h2] at e; exact e.elim
     | some z =>
       rw [h2] at e
       simp only at e ⊢
       split at e
       case isFalse => exact e.elim
       rename_i hc
       rw [if_pos ⟨trivial, hps⟩] at e
       refine ⟨e.2.symm, fun h' => ?_⟩
       rw [if_pos hc, if_pos ⟨trivial, hps⟩]
       exact ⟨e.1, rfl⟩
theorem kind_same {o : Oper} (hk : dkind o = some .r ∨ dkind o = some .c) {env : List AV} {h hh : List AObj} {x : AV} (e : DOp P G o.op env h x hh) : hh = h := by
 rcases hk with hk | hk
 · exact (reader_ok (kind_rop hk) e).1
 · exact (pure_ok hk e).1

theorem kind_a {o : Oper} : dkind o = some .a ↔ isFree o = true := by
 constructor
 · intro hk
   unfold dkind at hk
   split at hk <;> first | (exfalso; revert hk; simp; done) | skip
   all_goals (revert hk; split <;> simp [*])
 · intro hf
   have hf' := hf
   unfold isFree at hf'
   unfold dkind
   split at hf'
   · rename_i T ho
     simp only [ho, hf, if_true]
   · cases hf'

theorem free_info {o : Oper} (h : isFree o = true) : ∃ T, o.op = .alloc T ∧ o.guard = Option.none ∧ anyPre o = [] := by
 unfold isFree at h
 split at h
 · rename_i T ho
   simp only [Bool.and_eq_true, Option.isNone_iff_eq_none, List.isEmpty_iff] at h
   exact ⟨T, ho, h.1, h.2⟩
 · cases h
end

def freeAt (ops : Array Oper) (i : Nat) : Bool := match ops[i]? with | some o => isFree o | Option.none => false
def Fs (ops : Array Oper) : List Nat := (List.range ops.size).filter (freeAt ops)
def Rs (ops : Array Oper) : List Nat := (List.range ops.size).filter fun i => !freeAt ops i
def InR (ops : Array Oper) (p i : Nat) : Prop := ∃ m, m < p ∧ (Rs ops)[m]? = some i
def Chg (o : Oper) : Prop := dkind o = some .w ∨ dkind o = some .l

theorem toList_range {α : Type} (ops : Array α) : ops.toList = (List.range ops.size).filterMap (ops[·]?) := by
 apply List.ext_getElem?
 intro i
 have key : ∀ n, n ≤ ops.size → (List.range n).filterMap (ops[·]?) = ops.toList.take n := by
   intro n
   induction n with
   | zero => intro _; simp
   | succ n ih =>
     intro hn
     have hlt : n < ops.size := by omega
     rw [List.range_succ, List.filterMap_append, ih (by omega)]
     simp [hlt, List.take_add_one]
 rw [key ops.size (Nat.le_refl _)]
 simp [← Array.length_toList]

theorem hoist_eq (ops : Array Oper) : hoist ops = (Fs ops ++ Rs ops).filterMap (ops[·]?) := by
 have h1 : ∀ (q : Oper → Bool) (q' : Nat → Bool), (∀ i o, ops[i]? = some o → q' i = q o) → ops.toList.filter q = ((List.range ops.size).filter q').filterMap (ops[·]?) := by
   intro q q' hq
   rw [toList_range]
   generalize List.range ops.size = l
   induction l with
   | nil => rfl
   | cons i l ih =>
     cases ho : ops[i]? with
     | none =>
       rw [List.filterMap_cons, ho]
       simp only
       rw [ih, List.filter_cons]
       split
       · rw [List.filterMap_cons, ho]
       · rfl
     | some o =>
       rw [List.filterMap_cons, ho]
       simp only
       rw [List.filter_cons, List.filter_cons, hq i o ho]
       split
       · rw [List.filterMap_cons, ho, ih]
       · exact ih
 unfold hoist Fs Rs
 rw [List.filterMap_append, h1 isFree (freeAt ops) (fun i o ho => by simp [freeAt, ho]), h1 (fun o => !isFree o) (fun i => !freeAt ops i) (fun i o ho => by simp [freeAt, ho])]

section
variable {ops : Array Oper}
theorem mem_Fs {i : Nat} : i ∈ Fs ops ↔ i < ops.size ∧ freeAt ops i = true := by simp [Fs]
theorem mem_Rs {i : Nat} : i ∈ Rs ops ↔ i < ops.size ∧ freeAt ops i = false := by simp [Rs]
theorem sorted_range_filter (n : Nat) (q : Nat → Bool) {m m' k k' : Nat} (h1 : ((List.range n).filter q)[m]? = some k) (h2 : ((List.range n).filter q)[m']? = some k') (hl : m < m') : k < k' := by
 have hp : ((List.range n).filter q).Pairwise (· < ·) := List.Pairwise.filter _ (List.pairwise_lt_range (n := n))
 rw [List.pairwise_iff_getElem] at hp
 obtain ⟨a1, b1⟩ := List.getElem?_eq_some_iff.1 h1
 obtain ⟨a2, b2⟩ := List.getElem?_eq_some_iff.1 h2
 have := hp m m' a1 a2 hl
 rw [b1, b2] at this
 exact this
theorem Rs_sorted {m m' k k' : Nat} (h1 : (Rs ops)[m]? = some k) (h2 : (Rs ops)[m']? = some k') (hl : m < m') : k < k' := sorted_range_filter _ _ h1 h2 hl
theorem Rs_inj {m m' k : Nat} (h1 : (Rs ops)[m]? = some k) (h2 : (Rs ops)[m']? = some k) : m = m' := by
 rcases Nat.lt_trichotomy m m' with h | h | h
 · have := Rs_sorted h1 h2 h; omega
 · exact h
 · have := Rs_sorted h2 h1 h; omega
theorem nodup_FR : (Fs ops ++ Rs ops).Nodup := by
 rw [List.nodup_append]
 refine ⟨List.Pairwise.filter _ List.nodup_range, List.Pairwise.filter _ List.nodup_range, ?_⟩
 intro a ha b hb hab
 subst hab
 have := (mem_Fs.1 ha).2
 rw [(mem_Rs.1 hb).2] at this; cases this
end

structure Told (P : Program) (G : Glob) (N : Nat) (rx : Bool) (ops : Array Oper) (h0 : List AObj) (env0 : List AV) (x : Nat → AV) (hr : Nat → List AObj) (zz : Nat → List AV) : Prop where
 free : ∀ (q i : Nat), (Fs ops)[q]? = some i → ∃ (o : Oper) (T : TypeId), ops[i]? = some o ∧ o.op = .alloc T ∧ zeroOf P T = some (zz i) ∧ x i = .ptr (h0.length + q) 0 ∧ (hr 0)[h0.length + q]? = some (.box false (zz i))
 start : ∃ obs, hr 0 = h0 ++ obs
 rest : ∀ (q i : Nat) (o : Oper), (Rs ops)[q]? = some i → ops[i]? = some o → ∃ e, EnvIs ops x env0 (fun k => k ∈ Fs ops ∨ InR ops q k) e ∧ OpAt P G N rx ops o e (hr q) (x i) (hr (q + 1))

section
variable {P : Program} {G : Glob} {N : Nat} {rx : Bool} {ops : Array Oper} {B : Nat → Nat → Prop} {h0 : List AObj} {env0 : List AV}

theorem mem_take {α : Type} (l : List α) (q : Nat) (k : α) : k ∈ l.take q ↔ ∃ m, m < q ∧ l[m]? = some k := by
 rw [List.mem_iff_getElem?]
 constructor
 · rintro ⟨m, hm⟩
   rw [List.getElem?_take] at hm
   split at hm
   · exact ⟨m, ‹_›, hm⟩
   · cases hm
 · rintro ⟨m, h1, h2⟩
   exact ⟨m, by rw [List.getElem?_take, if_pos h1]; exact h2⟩

theorem told_of (D : DOK rx ops B) {K : List AV → List AObj → Prop} {al : List AOper} (hs : stripOps rx ops (hoist ops) = some al) (e : awops P G (some N) al K env0 h0) :
   ∃ x hr zz, Told P G N rx ops h0 env0 x hr zz ∧ ∀ e, EnvIs ops x env0 (fun i => i < ops.size) e → K e (hr (Rs ops).length) := by
 rw [hoist_eq] at hs
 obtain ⟨x, hh, e0, hK, htr⟩ := trace (Fs ops ++ Rs ops) al env0 h0 (fun i hi => by
   rcases List.mem_append.1 hi with h | h
   · exact (mem_Fs.1 h).1
   · exact (mem_Rs.1 h).1) nodup_FR hs e
 have hfr : ∀ q i, (Fs ops)[q]? = some i → ∃ (o : Oper) (T : TypeId) (z : List AV), ops[i]? = some o ∧ o.op = .alloc T ∧ zeroOf P T = some z ∧ x i = .ptr (hh q).length 0 ∧ hh (q + 1) = hh q ++ [.box false z] := by
   intro q i hq
   have hm := mem_Fs.1 (List.mem_of_getElem? hq)
   have ho : ops[i]? = some ops[i] := by simp [hm.1]
   have hf : isFree ops[i] = true := by have := hm.2; simp only [freeAt, ho] at this; exact this
   obtain ⟨T, hop, hg, _⟩ := free_info hf
   have hat := htr q i ops[i] (by rw [List.getElem?_append_left (lt_of_some hq)]; exact hq) ho
   unfold OpAt at hat
   rw [hg] at hat
   obtain ⟨z, hz, hx, hh'⟩ := dop_alloc (hop ▸ hat.2)
   exact ⟨ops[i], T, z, ho, hop, hz, hx, hh'⟩
 have hzz : ∃ zz : Nat → List AV, ∀ q i, (Fs ops)[q]? = some i → ∃ (o : Oper) (T : TypeId), ops[i]? = some o ∧ o.op = .alloc T ∧ zeroOf P T = some (zz i) ∧ x i = .ptr (hh q).length 0 ∧ hh (q + 1) = hh q ++ [.box false (zz i)] := by
   refine ⟨fun i => match ops[i]? with | some o => (match o.op with | .alloc T => (zeroOf P T).getD [] | _ => []) | Option.none => [], ?_⟩
   intro q i hq
   obtain ⟨o, T, z, ho, hop, hz, hx, hh'⟩ := hfr q i hq
   exact ⟨o, T, ho, hop, by simp [ho, hop, hz], hx, by simp [ho, hop, hz, hh']⟩
 obtain ⟨zz, hzz⟩ := hzz
 have hlen : ∀ q, q ≤ (Fs ops).length → (hh q).length = h0.length + q ∧ (∃ obs, hh q = h0 ++ obs) ∧ ∀ m i, m < q → (Fs ops)[m]? = some i → (hh q)[h0.length + m]? = some (.box false (zz i)) := by
   intro q
   induction q with
   | zero => intro _; exact ⟨by rw [e0]; rfl, ⟨[], by rw [e0]; simp⟩, fun m i h => by omega⟩
   | succ q ih =>
     intro hq
     obtain ⟨i1, ⟨obs, i2⟩, i3⟩ := ih (by omega)
     have hqi : (Fs ops)[q]? = some (Fs ops)[q] := by simp [show q < (Fs ops).length by omega]
     obtain ⟨o, T, ho, hop, hz, hx, hh'⟩ := hzz q _ hqi
     refine ⟨by rw [hh']; simp [i1]; omega, ⟨obs ++ [.box false (zz (Fs ops)[q])], by rw [hh', i2]; simp⟩, ?_⟩
     intro m i hm hmi
     rw [hh']
     by_cases hmq : m = q
     · subst hmq
       rw [hqi] at hmi; cases hmi
       rw [List.getElem?_append_right (by omega)]
       simp [i1]
     · rw [List.getElem?_append_left (by omega)]
       exact i3 m i (by omega) hmi
 obtain ⟨l1, l2, l3⟩ := hlen (Fs ops).length (Nat.le_refl _)
 refine ⟨x, fun q => hh ((Fs ops).length + q), zz, ⟨?_, l2, ?_⟩, ?_⟩
 · intro q i hq
   obtain ⟨o, T, ho, hop, hz, hx, hh'⟩ := hzz q i hq
   refine ⟨o, T, ho, hop, hz, ?_, l3 q i (lt_of_some hq) hq⟩
   rw [hx, (hlen q (Nat.le_of_lt (lt_of_some hq))).1]
 · intro q i o hq ho
   refine ⟨_, ?_, htr ((Fs ops).length + q) i o (by rw [List.getElem?_append_right (by omega)]; simpa using hq) ho⟩
   refine (envIs_of D _).congr (fun k => ?_)
   rw [List.take_append, List.take_of_length_le (by omega), Nat.add_sub_cancel_left, List.mem_append, mem_take (Rs ops)]
   rfl
 · intro e he
   have : e = envOf ops x (Fs ops ++ Rs ops) env0 := he.unique D ((envIs_of D _).congr (fun k => by
     rw [List.mem_append, mem_Fs, mem_Rs]
     cases freeAt ops k <;> simp))
   rw [this]
   have := hK
   rw [List.length_append] at this
   exact this

structure Inv (P : Program) (G : Glob) (ops : Array Oper) (h0 : List AObj) (env0 : List AV) (x : Nat → AV) (hr : Nat → List AObj) (zz : Nat → List AV) (X0 : Ctx) (w0 : World) (S : Nat → Prop) (X : Ctx) (w : World) (a : Act) (p : Nat) (e : List AV) : Prop where
 hp : p ≤ (Rs ops).length
 g : GH G X w (hr p)
 ei : EnvIs ops x env0 S e
 eo : EnvOK X w (hr p) e a
 tr : Tr X0 w0 h0 X w (hr p)
 ch : ∀ (i : Nat) (o : Oper), ops[i]? = some o → Chg o → (S i ↔ InR ops p i)
 pend : ∀ (q i : Nat), (Fs ops)[q]? = some i → ¬ S i → (hr p)[h0.length + q]? = some (.box false (zz i)) ∧ X.ι (h0.length + q) = Option.none
 cl : Closed ops S
 lt : ∀ i, S i → i < ops.size

variable {x : Nat → AV} {hr : Nat → List AObj} {zz : Nat → List AV} {X0 : Ctx} {w0 : World} {S : Nat → Prop} {X : Ctx} {w : World} {a : Act} {p : Nat} {e : List AV}

theorem closed_step {i : Nat} {o : Oper} (cl : Closed ops S) (hi : ops[i]? = some o) (hpre : ∀ e, e ∈ anyPre o → S e) : Closed ops (fun k => S k ∨ k = i) := by
 rintro k ok (s | rfl) hk e he
 · exact .inl (cl k ok s hk e he)
 · rw [hi] at hk; cases hk; exact .inl (hpre e he)

theorem not_chg (D : DOK rx ops B) (T : Told P G N rx ops h0 env0 x hr zz) {m k : Nat} {ok : Oper} (hm : (Rs ops)[m]? = some k) (hk : ops[k]? = some ok) (hc : ¬ Chg ok) : (dkind ok = some .r ∨ dkind ok = some .c) ∧ hr (m + 1) = hr m := by
 have hnf : isFree ok = false := by
   have := (mem_Rs.1 (List.mem_of_getElem? hm)).2
   simp only [freeAt, hk] at this; exact this
 have hkind : dkind ok = some .r ∨ dkind ok = some .c := by
   have := D.kind k ok hk
   cases hd : dkind ok with
   | none => rw [hd] at this; cases this
   | some d =>
     cases d with
     | c => exact .inr rfl
     | a => rw [kind_a.1 hd] at hnf; cases hnf
     | r => exact .inl rfl
     | w => exact absurd (.inl hd) hc
     | l => exact absurd (.inr hd) hc
 refine ⟨hkind, ?_⟩
 obtain ⟨eT, _, hat⟩ := T.rest m k ok hm hk
 unfold OpAt at hat
 cases hg : ok.guard with
 | none => rw [hg] at hat; exact kind_same hkind hat.2
 | some q =>
   obtain ⟨j, want⟩ := q
   rw [hg] at hat
   obtain ⟨d, b, _, _, h1, h2⟩ := hat
   cases b with
   | true => exact kind_same hkind (h1 rfl).2
   | false => exact (h2 rfl).2

theorem w_grow_at (D : DOK rx ops B) (T : Told P G N rx ops h0 env0 x hr zz) {m k : Nat} {ok : Oper} (hm : (Rs ops)[m]? = some k) (hk : ops[k]? = some ok) (hc : dkind ok ≠ some .l) : Grow (hr m) (hr (m + 1)) := by
 by_cases hc2 : Chg ok
 · have hw : dkind ok = some .w := hc2.resolve_right hc
   obtain ⟨eT, _, hat⟩ := T.rest m k ok hm hk
   unfold OpAt at hat
   cases hg : ok.guard with
   | none => rw [hg] at hat; exact w_grow hw hat.2
   | some q =>
     obtain ⟨j, want⟩ := q
     rw [hg] at hat
     obtain ⟨d, b, _, _, h1, h2⟩ := hat
     cases b with
     | true => exact w_grow hw (h1 rfl).2
     | false => rw [(h2 rfl).2]; exact .refl _
 · rw [(not_chg D T hm hk hc2).2]; exact .refl _

theorem eq_range {a : Nat} : ∀ (b : Nat), a ≤ b → (∀ m, a ≤ m → m < b → hr (m + 1) = hr m) → hr b = hr a
 | 0, h, _ => by have : a = 0 := by omega
                 rw [this]
 | b + 1, h, hs => by
   by_cases hab : a = b + 1
   · rw [hab]
   · rw [hs b (by omega) (by omega)]
     exact eq_range b (by omega) (fun m h1 h2 => hs m h1 (by omega))
theorem grow_range {a : Nat} : ∀ (b : Nat), a ≤ b → (∀ m, a ≤ m → m < b → Grow (hr m) (hr (m + 1))) → Grow (hr a) (hr b)
 | 0, h, _ => by have : a = 0 := by omega
                 rw [this]; exact .refl _
 | b + 1, h, hs => by
   by_cases hab : a = b + 1
   · rw [hab]; exact .refl _
   · exact (grow_range b (by omega) (fun m h1 h2 => hs m h1 (by omega))).trans (hs b (by omega) (by omega))

def GrowN (N : Nat) (h h' : List AObj) : Prop := ∀ (id : Nat) (o : AObj), id < N → h[id]? = some o → ∃ o', h'[id]? = some o' ∧ o'.strip = o.strip
theorem GrowN.refl (N : Nat) (h : List AObj) : GrowN N h h := fun id o _ ho => ⟨o, ho, rfl⟩
theorem GrowN.trans {N : Nat} {a b c : List AObj} (x : GrowN N a b) (y : GrowN N b c) : GrowN N a c := fun id o hn ho => by
 obtain ⟨o1, h1, e1⟩ := x id o hn ho
 obtain ⟨o2, h2, e2⟩ := y id o1 hn h1
 exact ⟨o2, h2, e2.trans e1⟩
theorem Grow.toN {N : Nat} {h h' : List AObj} (g : Grow h h') : GrowN N h h' := fun id o _ ho => g id o ho
theorem growN_range {N a : Nat} : ∀ (b : Nat), a ≤ b → (∀ m, a ≤ m → m < b → GrowN N (hr m) (hr (m + 1))) → GrowN N (hr a) (hr b)
 | 0, h, _ => by have : a = 0 := by omega
                 rw [this]; exact .refl _ _
 | b + 1, h, hs => by
   by_cases hab : a = b + 1
   · rw [hab]; exact .refl _ _
   · exact (growN_range b (by omega) (fun m h1 h2 => hs m h1 (by omega))).trans (hs b (by omega) (by omega))
theorem GrowN.app {N : Nat} (h obs : List AObj) : GrowN N h (h ++ obs) := (Grow.app h obs).toN
theorem GrowN.set {N id : Nat} {h : List AObj} {ob : AObj} (hn : N ≤ id) : GrowN N h (h.set id ob) := fun i o hi ho => ⟨o, by rw [List.getElem?_set_ne (by omega)]; exact ho, rfl⟩

theorem append_growN {N : Nat} {h h' : List AObj} {T : TypeId} {s x y : AV} (hs : newRef N s) (e : aappend P h T s x = some (y, h')) : GrowN N h h' := by
 unfold aappend at e
 split at e
 case h_2 => cases e
 split at e
 case h_2 => cases e
 split at e
 case isFalse => cases e
 split at e
 case h_2 => cases e
 split at e
 · split at e
   · cases e; exact .app _ _
   · cases e
 · rename_i id off n t
   have hn : N ≤ id := hs
   split at e
   case h_2 => cases e
   split at e
   case isFalse => cases e
   split at e
   · split at e
     · cases e; exact .app _ _
     · cases e
   split at e
   · cases e
   split at e
   · cases e; exact (GrowN.set hn).trans (.app _ _)
   split at e
   · cases e; exact .set hn
   · cases e; exact (GrowN.set hn).trans (.app _ _)
 · cases e

theorem lax_symm {p q : Oper} (h : laxOK rx ops p q = true) : laxOK rx ops q p = true := by
 unfold laxOK at h ⊢
 simp only [Bool.and_eq_true, Bool.or_eq_true] at h ⊢
 exact ⟨⟨⟨h.1.1.1, h.1.2⟩, h.1.1.2⟩, h.2.symm⟩

theorem oldAll_mem {N : Nat} : ∀ {l : List AV}, oldAll N l → ∀ a ∈ l, oldRef N a
 | [], _, a, h => by cases h
 | x :: l, h, a, ha => by
   rcases List.mem_cons.1 ha with rfl | ha
   · exact h.1
   · exact oldAll_mem h.2 a ha

theorem ck_old {N : Nat} {o : Oper} (hk : dkind o = some .r) {env : List AV} (hck : ckOK G (some N) true o.op env) : ∀ y ∈ o.op.operands.toList, ∀ {id : Nat}, (aev G env y).refs = some id → id < N := by
 intro y hy id hid
 have hall : oldAll N (o.op.operands.toList.map (aev G env)) := by
   simp only [ckOK] at hck
   unfold ckOp at hck
   unfold dkind at hk
   cases ho : o.op with
   | call c =>
     rw [ho] at hck hk
     simp only at hck hk
     cases hc : c.callee with
     | builtin b => rw [hc] at hck hk; cases b <;> first | exact hck | simp at hk
     | value f => rw [hc] at hk; simp at hk
     | invoke _ _ => rw [hc] at hk; simp at hk
   | store T a x => rw [ho] at hk; simp at hk
   | _ => rw [ho] at hck; exact hck
 have := oldAll_mem hall _ (List.mem_map.2 ⟨y, hy, rfl⟩)
 unfold oldRef at this
 rw [hid] at this
 exact this

theorem lax_grow (T : Told P G N rx ops h0 env0 x hr zz) {m k : Nat} {ok o : Oper} (hm : (Rs ops)[m]? = some k) (hk : ops[k]? = some ok) (hl : laxOK rx ops o ok = true) (hr' : dkind o = some .r) : GrowN N (hr m) (hr (m + 1)) := by
 obtain ⟨eT, _, hat⟩ := T.rest m k ok hm hk
 have happ : isMut ok = true ∧ (rx && ckOf ops ok) = true := by
   unfold laxOK at hl
   simp only [Bool.and_eq_true, Bool.or_eq_true] at hl
   refine ⟨?_, by simp [hl.1.1.1, hl.1.2]⟩
   rcases hl.2 with h | h
   · exact h.2
   · exfalso
     have h2 := h.2
     unfold isMut isApp isStore at h2
     unfold dkind at hr'
     cases ho : o.op with
     | call c =>
       rw [ho] at hr' h2
       obtain ⟨ce, as, ts⟩ := c
       cases ce with
       | builtin b => cases b <;> simp at hr' h2
       | _ => simp at h2
     | store T a x => rw [ho] at hr'; simp at hr'
     | _ => rw [ho] at h2; simp at h2
 have go : OpD P G N rx ops ok eT (hr m) (x k) (hr (m + 1)) → GrowN N (hr m) (hr (m + 1)) := by
   rintro ⟨hc, hd⟩
   rw [happ.2] at hc
   have h2 := happ.1
   unfold isMut at h2
   rcases Bool.or_eq_true _ _ ▸ h2 with h2 | h2
   case inr =>
     unfold isStore at h2
     split at h2
     case h_2 => cases h2
     rename_i T y z ho
     rw [ho] at hc hd
     simp only [ckOK, ckOp] at hc
     unfold DOp at hd
     simp only [awop, aop] at hd
     cases hst : astore P (hr m) T (aev G eT y) (aev G eT z) with
     | none => rw [hst] at hd; exact hd.elim
     | some h' =>
       rw [hst] at hd
       obtain ⟨_, rfl⟩ := hd
       unfold astore at hst
       split at hst
       case h_2 => cases hst
       rename_i id off cs n hy _ _
       rw [hy] at hc
       have hn : N ≤ id := hc
       split at hst
       · split at hst
         · rw [← Option.some.inj hst]; exact .set hn
         · cases hst
       · split at hst
         · rw [← Option.some.inj hst]; exact .set hn
         · cases hst
       · cases hst
   unfold isApp at h2
   split at h2
   case h_2 => cases h2
   rename_i args tys ho
   rw [ho] at hc hd
   simp only [ckOK, ckOp] at hc
   unfold DOp at hd
   simp only [awop, acall] at hd
   split at hc
   case h_2 => exact hc.elim
   rename_i s z hargs
   rw [hargs] at hd
   split at hd
   case h_2 => exact hd.elim
   rename_i A B s' z' _ hz
   simp only [List.cons.injEq, and_true] at hz
   obtain ⟨rfl, rfl⟩ := hz
   split at hd
   case isFalse =>
     split at hd
     case h_2 => exact hd.elim
     cases ha : azeros P (hr m) A s z with
     | none => rw [ha] at hd; exact hd.elim
     | some q =>
       rw [ha] at hd
       obtain ⟨y, h'⟩ := q
       obtain ⟨_, rfl⟩ := hd
       unfold azeros at ha
       split at ha
       case h_2 => cases ha
       split at ha
       case h_2 => cases ha
       split at ha
       case isFalse => cases ha
       split at ha
       · simp only [Option.some.injEq, Prod.mk.injEq] at ha; rw [← ha.2]; exact .refl _ _
       · simp only [Option.some.injEq, Prod.mk.injEq] at ha; rw [← ha.2]; exact .app _ _
   split at hd
   · cases ha : aappend P (hr m) A s z with
     | none => rw [ha] at hd; exact hd.elim
     | some q =>
       rw [ha] at hd
       obtain ⟨y, h'⟩ := q
       obtain ⟨_, rfl⟩ := hd
       exact append_growN hc ha
   · cases ha : aappend P (freeze (reach dep (hr m) z) (hr m)) A s (snap dep (hr m) z) with
     | none => rw [ha] at hd; exact hd.elim
     | some q =>
       rw [ha] at hd
       obtain ⟨y, h'⟩ := q
       obtain ⟨_, rfl⟩ := hd
       exact (Grow.freeze _ _).toN.trans (append_growN hc ha)
 unfold OpAt at hat
 cases hg : ok.guard with
 | none => rw [hg] at hat; exact go hat
 | some gq =>
   obtain ⟨j, want⟩ := gq
   rw [hg] at hat
   obtain ⟨d, b, _, _, h1, h2⟩ := hat
   cases b with
   | true => exact go (h1 rfl)
   | false => rw [(h2 rfl).2]; exact .refl _ _

structure Here (P : Program) (G : Glob) (N : Nat) (rx : Bool) (ops : Array Oper) (hr : Nat → List AObj) (S : Nat → Prop) (i p : Nat) (o : Oper) (e eT : List AV) (q : Nat) (x : AV) : Prop where
 agree : ∀ t, t ∈ ouses ops o → e.getD t .u = eT.getD t .u
 at_ : OpAt P G N rx ops o eT (hr q) x (hr (q + 1))
 run : OpD P G N rx ops o eT (hr q) x (hr (q + 1)) → ∃ p', p' ≤ (Rs ops).length ∧ DOp P G o.op e (hr p) x (hr p') ∧ ∀ (k : Nat) (ok : Oper), ops[k]? = some ok → Chg ok → ((S k ∨ k = i) ↔ InR ops p' k)
 drop : hr (q + 1) = hr q → ∃ p', p' ≤ (Rs ops).length ∧ hr p' = hr p ∧ ∀ (k : Nat) (ok : Oper), ops[k]? = some ok → Chg ok → ((S k ∨ k = i) ↔ InR ops p' k)

theorem here (D : DOK rx ops B) (T : Told P G N rx ops h0 env0 x hr zz) (I : Inv P G ops h0 env0 x hr zz X0 w0 S X w a p e) {i : Nat} {o : Oper} (hi : ops[i]? = some o) (hS : ¬ S i) (hpre : ∀ e, e ∈ anyPre o → S e) (hf : isFree o = false) :
   ∃ eT q, Here P G N rx ops hr S i p o e eT q (x i) := by
 have hlt : i < ops.size := (Array.getElem?_eq_some_iff.1 hi).1
 have hiR : i ∈ Rs ops := mem_Rs.2 ⟨hlt, by simp only [freeAt, hi]; exact hf⟩
 obtain ⟨q, hq⟩ := List.mem_iff_getElem?.1 hiR
 obtain ⟨eT, hT, hat⟩ := T.rest q i o hq hi
 have notF : i ∉ Fs ops := fun h => by have := (mem_Fs.1 h).2; simp only [freeAt, hi] at this; rw [hf] at this; cases this
 have bef1 : ∀ k, B k i → S k := D.before I.cl i o hi hpre
 have bef2 : ∀ k ok, ops[k]? = some ok → S k → ¬ B i k := fun k ok hk s hb => hS (D.before I.cl k ok hk (I.cl k ok s hk) i hb)
 have agree : ∀ t, t ∈ ouses ops o → e.getD t .u = eT.getD t .u := by
   intro t ht
   refine I.ei.agree D hT t (fun k hk => ?_)
   obtain ⟨ok, hok, hdk⟩ : ∃ ok, ops[k]? = some ok ∧ ok.dst = some t := by
     unfold dstOf at hk
     cases hok : ops[k]? with
     | none => rw [hok] at hk; cases hk
     | some ok => rw [hok] at hk; exact ⟨ok, rfl, hk⟩
   have hkl : k < ops.size := (Array.getElem?_eq_some_iff.1 hok).1
   constructor
   · intro s
     cases hfk : freeAt ops k with
     | true => exact .inl (mem_Fs.2 ⟨hkl, hfk⟩)
     | false =>
       right
       obtain ⟨m, hm⟩ := List.mem_iff_getElem?.1 (mem_Rs.2 ⟨hkl, hfk⟩)
       by_cases hmq : m < q
       · exact ⟨m, hmq, hm⟩
       · exfalso
         have hne : m ≠ q := fun h => by subst h; rw [hq] at hm; cases hm; exact hS s
         have hik := Rs_sorted hq hm (by omega)
         rcases D.ind k i ok o hok hi (by omega) with h | h | h
         · have := D.blt i o hi k h; omega
         · exact bef2 k ok hok s h
         · exact (indep_spec h).1 t hdk ht
   · intro hkk
     by_cases s : S k
     · exact s
     · exfalso
       have hne : k ≠ i := by
         rintro rfl
         rcases hkk with h | ⟨m, hm, hmk⟩
         · exact notF h
         · have := Rs_inj hmk hq; omega
       rcases D.ind k i ok o hok hi hne with h | h | h
       · exact s (bef1 k h)
       · rcases hkk with hF | ⟨m, hm, hmk⟩
         · have hfr : isFree ok = true := by have := (mem_Fs.1 hF).2; simp only [freeAt, hok] at this; exact this
           obtain ⟨_, _, _, hp0⟩ := free_info hfr
           rcases D.clo k ok hok i h with h | ⟨e, he, _⟩
           · rw [hp0] at h; cases h
           · rw [hp0] at he; cases he
         · have := D.blt k ok hok i h
           have := Rs_sorted hmk hq hm
           omega
       · exact (indep_spec h).1 t hdk ht
 have opd : ∀ y ∈ o.op.operands.toList, aev G eT y = aev G e y := by
   intro y hy
   cases y with
   | tmp t =>
     simp only [aev]
     exact (agree t (by
       unfold ouses
       refine List.mem_append_right _ (List.mem_append_left _ ?_)
       unfold otmps
       exact List.mem_filterMap.2 ⟨.tmp t, hy, rfl⟩)).symm
   | _ => rfl
 have pend : ∀ m k ok, (Rs ops)[m]? = some k → ops[k]? = some ok → p ≤ m → m < q → Chg ok → ¬ S k := by
   intro m k ok hm hk h1 h2 hc s
   obtain ⟨m', hm', hmk⟩ := (I.ch k ok hk hc).1 s
   have := Rs_inj hmk hm; omega
 have at_m : ∀ m, m < (Rs ops).length → ∃ k ok, (Rs ops)[m]? = some k ∧ ops[k]? = some ok := by
   intro m hm
   have h1 : (Rs ops)[m]? = some (Rs ops)[m] := by simp [hm]
   have h2 := (mem_Rs.1 (List.mem_of_getElem? h1)).1
   exact ⟨_, ops[(Rs ops)[m]], h1, by simp [h2]⟩
 have hql : q < (Rs ops).length := lt_of_some hq
 by_cases hc : Chg o
 · have hpq : p ≤ q := by
     rcases Nat.lt_or_ge q p with h | h
     · exact absurd ((I.ch i o hi hc).2 ⟨q, h, hq⟩) hS
     · exact h
   have none : ∀ m k ok, (Rs ops)[m]? = some k → ops[k]? = some ok → p ≤ m → m < q → ¬ Chg ok := by
     intro m k ok hm hk h1 h2 hck
     have s := pend m k ok hm hk h1 h2 hck
     have hki := Rs_sorted hm hq h2
     rcases D.ind k i ok o hk hi (by omega) with h | h | h
     · exact s (bef1 k h)
     · have := D.blt k ok hk i h; omega
     · obtain ⟨_, _, a, b, ha, hb, hab⟩ := indep_spec h
       rcases hab with hab | hab
       · rcases hck with c1 | c1 <;> rcases hc with c2 | c2 <;> (rw [c1] at ha; rw [c2] at hb; cases ha; cases hb; simp [kindsOK] at hab)
       · unfold laxOK at hab
         rcases hck with c1 | c1 <;> rcases hc with c2 | c2 <;> simp [c1, c2] at hab
   have heq : hr q = hr p := eq_range q hpq (fun m h1 h2 => by
     obtain ⟨k, ok, hk, hok⟩ := at_m m (by omega)
     exact (not_chg D T hk hok (none m k ok hk hok h1 h2)).2)
   have chq : ∀ (k : Nat) (ok : Oper), ops[k]? = some ok → Chg ok → ((S k ∨ k = i) ↔ InR ops (q + 1) k) := by
     intro k ok hok hck
     constructor
     · rintro (s | rfl)
       · obtain ⟨m, hm, hmk⟩ := (I.ch k ok hok hck).1 s
         exact ⟨m, by omega, hmk⟩
       · exact ⟨q, by omega, hq⟩
     · rintro ⟨m, hm, hmk⟩
       by_cases h1 : m < p
       · exact .inl ((I.ch k ok hok hck).2 ⟨m, h1, hmk⟩)
       · by_cases h2 : m = q
         · subst h2; rw [hq] at hmk; cases hmk; exact .inr rfl
         · exact absurd hck (none m k ok hmk hok (by omega) (by omega))
   refine ⟨eT, q, agree, hat, fun d => ⟨q + 1, hql, ?_, chq⟩, fun hd => ⟨q + 1, hql, by rw [hd, heq], chq⟩⟩
   rw [← heq]; exact awop_congr opd d.2
 · obtain ⟨hkind, hsame⟩ := not_chg D T hq hi hc
   have chp : ∀ (k : Nat) (ok : Oper), ops[k]? = some ok → Chg ok → ((S k ∨ k = i) ↔ InR ops p k) := by
     intro k ok hok hck
     constructor
     · rintro (s | rfl)
       · exact (I.ch k ok hok hck).1 s
       · rw [hi] at hok; cases hok; exact absurd hck hc
     · intro h; exact .inl ((I.ch k ok hok hck).2 h)
   refine ⟨eT, q, agree, hat, fun d => ⟨p, I.hp, ?_, chp⟩, fun _ => ⟨p, I.hp, rfl, chp⟩⟩
   rcases hkind with hk | hk
   · refine awop_congr opd ((reader_ok (kind_rop hk) d.2).2 (hr p) ?_)
     intro y hy
     intro id hid
     have notL : ∀ m k ok, (Rs ops)[m]? = some k → ops[k]? = some ok → ((p ≤ m ∧ m < q) ∨ (q ≤ m ∧ m < p)) → dkind ok ≠ some .l ∨ laxOK rx ops o ok = true := by
       intro m k ok hm hok hpm
       by_cases hl : dkind ok = some .l
       case neg => exact .inl hl
       right
       have hck : Chg ok := .inr hl
       rcases hpm with ⟨h1, h2⟩ | ⟨h1, h2⟩
       · have s := pend m k ok hm hok h1 h2 hck
         have hki := Rs_sorted hm hq h2
         rcases D.ind k i ok o hok hi (by omega) with h | h | h
         · exact absurd (bef1 k h) s
         · have := D.blt k ok hok i h; omega
         · obtain ⟨_, _, a, b, ha, hb, hab⟩ := indep_spec h
           rcases hab with hab | hab
           · rw [hl] at ha; rw [hk] at hb; cases ha; cases hb; simp [kindsOK] at hab
           · exact lax_symm hab
       · have s : S k := (I.ch k ok hok hck).2 ⟨m, h2, hm⟩
         have hne : m ≠ q := fun h => by subst h; rw [hq] at hm; cases hm; exact hS s
         have hik := Rs_sorted hq hm (by omega)
         rcases D.ind k i ok o hok hi (by omega) with h | h | h
         · have := D.blt i o hi k h; omega
         · exact absurd h (bef2 k ok hok s)
         · obtain ⟨_, _, a, b, ha, hb, hab⟩ := indep_spec h
           rcases hab with hab | hab
           · rw [hl] at ha; rw [hk] at hb; cases ha; cases hb; simp [kindsOK] at hab
           · exact lax_symm hab
     have hpl := I.hp
     by_cases hflag : (rx && ckOf ops o) = true
     · -- what it reads was there before
       have hold : id < N := by
         have hck := d.1
         rw [hflag] at hck
         exact ck_old (by rw [hk]) hck y hy hid
       have step : ∀ m, m < (Rs ops).length → ((p ≤ m ∧ m < q) ∨ (q ≤ m ∧ m < p)) → GrowN N (hr m) (hr (m + 1)) := by
         intro m hml hpm
         obtain ⟨k, ok, hk', hok⟩ := at_m m hml
         rcases notL m k ok hk' hok hpm with h | h
         · exact (w_grow_at D T hk' hok h).toN
         · exact lax_grow T hk' hok h (by rw [hk])
       rcases Nat.le_total p q with h | h
       · have gr : GrowN N (hr p) (hr q) := growN_range q h (fun m h1 h2 => step m (by omega) (.inl ⟨h1, h2⟩))
         have rv := aev_ok I.g I.eo y
         rw [← opd y hy] at rv
         obtain ⟨ob, hob⟩ := rv_refs rv hid
         obtain ⟨ob', h1, h2⟩ := gr id ob hold hob
         right; rw [hob, h1]; simp [h2]
       · have gr : GrowN N (hr q) (hr p) := growN_range p h (fun m h1 h2 => step m (by omega) (.inr ⟨h1, h2⟩))
         cases hx : (hr q)[id]? with
         | none => left; rfl
         | some ob => obtain ⟨ob', h1, h2⟩ := gr id ob hold hx; right; rw [h1]; simp [h2]
     · have notL2 : ∀ m k ok, (Rs ops)[m]? = some k → ops[k]? = some ok → ((p ≤ m ∧ m < q) ∨ (q ≤ m ∧ m < p)) → dkind ok ≠ some .l := by
         intro m k ok hm hok hpm
         rcases notL m k ok hm hok hpm with h | h
         · exact h
         · unfold laxOK at h
           simp only [Bool.and_eq_true] at h
           exact absurd (by simp [h.1.1.1, h.1.1.2]) hflag
       rcases Nat.le_total p q with h | h
       · have gr : Grow (hr p) (hr q) := grow_range q h (fun m h1 h2 => by
           obtain ⟨k, ok, hk, hok⟩ := at_m m (by omega)
           exact w_grow_at D T hk hok (notL2 m k ok hk hok (.inl ⟨h1, h2⟩)))
         have rv := aev_ok I.g I.eo y
         rw [← opd y hy] at rv
         obtain ⟨ob, hob⟩ := rv_refs rv hid
         obtain ⟨ob', h1, h2⟩ := gr id ob hob
         right; rw [hob, h1]; simp [h2]
       · have gr : Grow (hr q) (hr p) := grow_range p h (fun m h1 h2 => by
           obtain ⟨k, ok, hk, hok⟩ := at_m m (by omega)
           exact w_grow_at D T hk hok (notL2 m k ok hk hok (.inr ⟨h1, h2⟩)))
         cases hx : (hr q)[id]? with
         | none => left; rfl
         | some ob => obtain ⟨ob', h1, h2⟩ := gr id ob hx; right; rw [h1]; simp [h2]
   · exact awop_congr opd ((pure_ok hk d.2).2 (hr p))

theorem next_inv (D : DOK rx ops B) (I : Inv P G ops h0 env0 x hr zz X0 w0 S X w a p e) {i : Nat} {o : Oper} (hi : ops[i]? = some o) (hpre : ∀ e, e ∈ anyPre o → S e) {p' : Nat} (hp : p' ≤ (Rs ops).length)
   (ch : ∀ (k : Nat) (ok : Oper), ops[k]? = some ok → Chg ok → ((S k ∨ k = i) ↔ InR ops p' k)) {X' : Ctx} {w' : World} {a' : Act} (g : GH G X' w' (hr p')) (eo : EnvOK X' w' (hr p') (aput e o.dst (x i)) a') (t : Tr X w (hr p) X' w' (hr p')) :
   Inv P G ops h0 env0 x hr zz X0 w0 (fun k => S k ∨ k = i) X' w' a' p' (aput e o.dst (x i)) := by
 have hd : dstOf ops i = o.dst := by simp [dstOf, hi]
 refine ⟨hp, g, hd ▸ I.ei.step D i, eo, I.tr.trans t, ch, ?_, closed_step I.cl hi hpre, ?_⟩
 · intro q k hq hk
   obtain ⟨h1, h2⟩ := I.pend q k hq (fun s => hk (.inl s))
   refine ⟨t.abs _ _ h1 h2, ?_⟩
   obtain ⟨o', ho', c⟩ := t.ext.obj _ _ h1
   rw [t.abs _ _ h1 h2] at ho'
   cases ho'
   rcases c with c | ⟨_, c⟩
   · cases c
   · exact c.trans h2
 · rintro k (s | rfl)
   · exact I.lt k s
   · exact (Array.getElem?_eq_some_iff.1 hi).1

theorem inv_step (D : DOK rx ops B) (T : Told P G N rx ops h0 env0 x hr zz) (I : Inv P G ops h0 env0 x hr zz X0 w0 S X w a p e) {i : Nat} {o : Oper} (hi : ops[i]? = some o) (hS : ¬ S i) (hpre : ∀ e, e ∈ anyPre o → S e)
   {Q : Exit → Act → World → Prop} {K : Act → World → Prop} (hK : ∀ X' w' a' p' e', Inv P G ops h0 env0 x hr zz X0 w0 (fun k => S k ∨ k = i) X' w' a' p' e' → K a' w') : wpOp P ops Q i K a w := by
 unfold wpOp
 simp only [hi]
 have hd : dstOf ops i = o.dst := by simp [dstOf, hi]
 cases hf : isFree o with
 | true =>
   obtain ⟨_, _, hg, _⟩ := free_info hf
   have hiF : i ∈ Fs ops := mem_Fs.2 ⟨(Array.getElem?_eq_some_iff.1 hi).1, by simp only [freeAt, hi]; exact hf⟩
   obtain ⟨q, hq⟩ := List.mem_iff_getElem?.1 hiF
   obtain ⟨o', Ty, ho', hop, hz, hx, hbox⟩ := T.free q i hq
   rw [hi] at ho'; cases ho'
   have hw : Region.wanted o (yielded ops a.tmps) = true := by simp [Region.wanted, hg]
   rw [if_pos hw]
   refine .inl ?_
   obtain ⟨hid, hι⟩ := I.pend q i hq hS
   obtain ⟨iz, zv, hiz, hizv, hzc⟩ := zeroOf_info hz
   obtain ⟨h1, h2, h3⟩ := aval_cells (X := X) (w := w) (h := hr p) hzc
   have pp := Pushed.alloc w (.cells zv.cells Ty (0, 0))
   obtain ⟨ex, g', st⟩ := gh_fill I.g pp hid hι h1 h2 h3
   have hrun : (execOp a.eval o).run P w = .ok (.value (.pointer (some ⟨w.heap.size, 0, Option.none⟩))) (w.alloc (.cells zv.cells Ty (0, 0))) := by
     have hnr : (newRow Ty zv.cells).run P w = .ok ⟨w.heap.size, 0, Option.none⟩ (w.alloc (.cells zv.cells Ty (0, 0))) := rfl
     unfold execOp
     simp only [hop]
     simp [Instr.alloc, run_zero hiz hizv, newVar, hnr]
   unfold Oper.wp
   rw [hrun]
   simp only [Oper.upon]
   have rp : RV (X.upd (h0.length + q) (some (w.heap.size, 0))) (w.alloc (.cells zv.cells Ty (0, 0))) (hr p) (x i) (.pointer (some ⟨w.heap.size, 0, Option.none⟩)) := by
     rw [hx]
     have := RV.ptr (X := X.upd (h0.length + q) (some (w.heap.size, 0))) (w := w.alloc (.cells zv.cells Ty (0, 0))) (h := hr p) (id := h0.length + q) (off := 0) (ob := .box false (zz i)) (b := w.heap.size) (o := 0) hid (by simp) (Ctx.upd_same _ _ _)
     simpa using this
   refine hK _ _ _ p (aput e o.dst (x i)) ⟨I.hp, g', hd ▸ I.ei.step D i, ?_, ⟨I.tr.step.trans st, ?_, I.tr.abs⟩, ?_, ?_, closed_step I.cl hi hpre, ?_⟩
   · exact EnvOK.put ⟨I.eo.defers, I.eo.size, fun j y v hy hv => (I.eo.rel j y v hy hv).monoW ex⟩ _ rp
   · refine ⟨fun b hb => I.tr.ext.fr b hb, fun b hb => (ex.keep b (I.tr.ext.fr b hb)).trans (I.tr.ext.keep b hb), fun b s hs => ex.shp b s (I.tr.ext.shp b s hs), fun k ob hk => ?_⟩
     obtain ⟨ob', ho', c⟩ := I.tr.ext.obj k ob hk
     refine ⟨ob', ho', c.imp id (fun c => ⟨c.1, ?_⟩)⟩
     rw [Ctx.upd_other _ _ (by have := lt_of_some hk; omega)]
     exact c.2
   · intro k ok hok hck
     rw [← I.ch k ok hok hck]
     constructor
     · rintro (s | rfl)
       · exact s
       · rw [hi] at hok; cases hok
         rcases hck with c | c <;> (rw [kind_a.2 hf] at c; cases c)
     · exact .inl
   · intro q' k hq' hk
     obtain ⟨p1, p2⟩ := I.pend q' k hq' (fun s => hk (.inl s))
     refine ⟨p1, ?_⟩
     have hne : q' ≠ q := fun h => by subst h; rw [hq] at hq'; cases hq'; exact hk (.inr rfl)
     rw [Ctx.upd_other _ _ (by omega)]
     exact p2
   · rintro k (s | rfl)
     · exact I.lt k s
     · exact (Array.getElem?_eq_some_iff.1 hi).1
 | false =>
   obtain ⟨eT, q, H⟩ := here D T I hi hS hpre hf
   have go : OpD P G N rx ops o eT (hr q) (x i) (hr (q + 1)) → o.wp P a w K Q := by
     intro d
     obtain ⟨p', hp', d', ch⟩ := H.run d
     refine awop_ok (K := fun x1 h1 => x1 = x i ∧ h1 = hr p') o I.g I.eo d' ?_
     rintro x' h' a' w' X' ⟨rfl, rfl⟩ g' r' t
     exact hK _ _ _ _ _ (next_inv D I hi hpre hp' ch g' r' t)
   have stop : hr (q + 1) = hr q → x i = .tup [] → K (a.put o.dst undef) w := by
     intro d hx
     obtain ⟨p', hp', hh, ch⟩ := H.drop d
     refine hK X w (a.put o.dst undef) p' _ (next_inv D I hi hpre hp' ch (by rw [hh]; exact I.g) (by rw [hh, hx]; exact I.eo.put _ (.tup (vs := #[]) rfl (by simp))) (by rw [hh]; exact .refl _ _ _))
   have hat := H.at_
   unfold OpAt at hat
   cases hg : o.guard with
   | none =>
     rw [hg] at hat
     have hw : Region.wanted o (yielded ops a.tmps) = true := by simp [Region.wanted, hg]
     rw [if_pos hw]
     exact .inl (go hat)
   | some gq =>
     obtain ⟨j, want⟩ := gq
     rw [hg] at hat
     obtain ⟨d, b, hdj, hb, h1, h2⟩ := hat
     have hx : gval (e.getD d .u) want = .b b := by
       rw [H.agree d (by
         unfold ouses gtmp
         rw [hg]
         refine List.mem_append_right _ (List.mem_append_right _ ?_)
         have : ((ops[j]?).bind fun x => x.dst) = some d := hdj
         simp [this])]
       exact hb
     rw [wanted_of I.eo hg hdj hx]
     cases b with
     | true =>
       simp only [if_true]
       exact .inl (go (h1 rfl))
     | false =>
       simp only [Bool.false_eq_true, if_false]
       obtain ⟨e1, e2⟩ := h2 rfl
       exact stop e2 e1

theorem countP_lt {α : Type} {p q : α → Bool} : ∀ (l : List α), (∀ y ∈ l, q y = true → p y = true) → (∃ y ∈ l, p y = true ∧ q y = false) → l.countP q < l.countP p
 | [], _, h => by obtain ⟨y, hy, _⟩ := h; cases hy
 | y :: l, hs, h => by
   have hle : l.countP q ≤ l.countP p := List.countP_mono_left (fun z hz => hs z (by simp [hz]))
   rw [List.countP_cons, List.countP_cons]
   by_cases hy : p y = true ∧ q y = false
   · rw [hy.1, hy.2]; simp; omega
   · have h' : ∃ z ∈ l, p z = true ∧ q z = false := by
       obtain ⟨z, hz, hpz⟩ := h
       rcases List.mem_cons.1 hz with rfl | hz
       · exact absurd hpz hy
       · exact ⟨z, hz, hpz⟩
     have := countP_lt l (fun z hz => hs z (by simp [hz])) h'
     have h1 := hs y (by simp)
     cases hq : q y with
     | true => rw [h1 hq]; omega
     | false => simp; omega

theorem anyPre_mem {o : Oper} {e : Nat} : e ∈ anyPre o ↔ ∃ d ∈ o.after, Region.binds .any d = true ∧ d.on = e := by
 unfold anyPre
 simp only [List.mem_map, List.mem_filter, Array.mem_toList_iff]
 constructor
 · rintro ⟨d, ⟨h1, h2⟩, h3⟩; exact ⟨d, h1, h2, h3⟩
 · rintro ⟨d, h1, h2, h3⟩; exact ⟨d, ⟨h1, h2⟩, h3⟩

def Listed (l : Array Bool) (i : Nat) : Prop := l.getD i false = true

theorem any_ok (D : DOK rx ops B) (T : Told P G N rx ops h0 env0 x hr zz) {Q : Exit → Act → World → Prop} (hQ : ∀ X w a p e, Inv P G ops h0 env0 x hr zz X0 w0 (fun i => i < ops.size) X w a p e → Q .normal a w) :
   ∀ (fuel : Nat) (l : Array Bool), l.size = ops.size → (List.range ops.size).countP (fun i => !l.getD i true) ≤ fuel → ∀ (X : Ctx) (w : World) (a : Act) (p : Nat) (e : List AV), Inv P G ops h0 env0 x hr zz X0 w0 (Listed l) X w a p e →
     wpAny P .any ops Q fuel l a w := by
 have all : ∀ (l : Array Bool), l.size = ops.size → Region.ready .any ops l = [] → ∀ i, i < ops.size → Listed l i := by
   intro l hl hr i
   induction i using Nat.strongRecOn with
   | ind i ih =>
     intro hi
     have ho : ops[i]? = some ops[i] := by simp [hi]
     have hn : i ∉ Region.ready .any ops l := by rw [hr]; simp
     rw [mem_ready] at hn
     have hpre : ∀ d ∈ ops[i].after, Region.binds .any d = true → l.getD d.on false = true := by
       intro d hd hb
       have hlt := D.lt i ops[i] ho d.on (anyPre_mem.2 ⟨d, hd, hb, rfl⟩)
       exact ih d.on hlt (by omega)
     unfold Listed
     have hli : i < l.size := by omega
     cases hc : l[i] with
     | true => simp [Array.getD, hli, hc]
     | false => exact absurd ⟨by simp [Array.getD, hli, hc], ops[i], ho, hpre⟩ hn
 have fin : ∀ (l : Array Bool), l.size = ops.size → Region.ready .any ops l = [] → ∀ X w a p e, Inv P G ops h0 env0 x hr zz X0 w0 (Listed l) X w a p e → Q .normal a w := by
   intro l hl hr X w a p e I
   have hs : (Listed l) = (fun i => i < ops.size) := funext fun i => propext ⟨I.lt i, all l hl hr i⟩
   exact hQ X w a p e (hs ▸ I)
 intro fuel
 induction fuel with
 | zero =>
   intro l hl hc X w a p e I
   have hr : Region.ready .any ops l = [] := by
     rw [List.eq_nil_iff_forall_not_mem]
     intro i hi
     obtain ⟨h1, o, ho, _⟩ := mem_ready.1 hi
     have hlt : i < ops.size := (Array.getElem?_eq_some_iff.1 ho).1
     have hz : (List.range ops.size).countP (fun i => !l.getD i true) = 0 := by omega
     rw [List.countP_eq_zero] at hz
     have := hz i (List.mem_range.2 hlt)
     rw [h1] at this
     exact this rfl
   exact ⟨hr, fin l hl hr X w a p e I⟩
 | succ fuel ih =>
   intro l hl hc X w a p e I
   refine ⟨fun hr => fin l hl hr X w a p e I, fun i hi => ?_⟩
   obtain ⟨h1, o, ho, hall⟩ := mem_ready.1 hi
   have hlt : i < ops.size := (Array.getElem?_eq_some_iff.1 ho).1
   have hli : i < l.size := by omega
   have hf : l[i] = false := by simpa [Array.getD, hli] using h1
   refine inv_step D T I ho ?_ ?_ (fun X' w' a' p' e' I' => ih (l.setIfInBounds i true) (by simp [hl]) ?_ X' w' a' p' e' ?_)
   · intro s
     unfold Listed at s
     simp [Array.getD, hli, hf] at s
   · intro d hd
     obtain ⟨d', h1, h2, rfl⟩ := anyPre_mem.1 hd
     exact hall d' h1 h2
   · have : (List.range ops.size).countP (fun k => !(l.setIfInBounds i true).getD k true) < (List.range ops.size).countP (fun k => !l.getD k true) := by
       refine countP_lt _ ?_ ⟨i, List.mem_range.2 hlt, by rw [h1]; rfl, by simp [Array.getD, hli]⟩
       intro k hk hk'
       by_cases hik : i = k
       · subst hik; rw [h1]; rfl
       · rw [getD_set_ne true hik] at hk'; exact hk'
     omega
   · have hs : (Listed (l.setIfInBounds i true)) = (fun k => Listed l k ∨ k = i) := funext fun k => propext (by
       unfold Listed
       by_cases hik : i = k
       · subst hik; simp [Array.getD, hli]
       · rw [getD_set_ne false hik]
         constructor
         · exact .inl
         · rintro (s | rfl)
           · exact s
           · exact absurd rfl hik)
     rw [hs]; exact I'

theorem draw_ok (hm : P.follows .mixedOrders = true) {id : Nat} (hd : drawOk rx ops = true) {al : List AOper} (hl : stripOps rx ops (hoist ops) = some al) {K : List AV → List AObj → Prop} {env : List AV} {h : List AObj} {X : Ctx} {w : World} {a : Act} {Q : Exit → Act → World → Prop}
   (e : awops P G (some N) al K env h) (g : GH G X w h) (r : EnvOK X w h env a) (hQ : ∀ a' w', Holds G X w h K a' w' → Q .normal a' w') : (Code.region id ops true).wp P Q a w := by
 have D := dok_of hd
 obtain ⟨x, hr, zz, T, hK⟩ := told_of (P := P) (G := G) D hl e
 obtain ⟨g1, t1⟩ := gh_same (w' := { w with drawn := w.drawn + 1 }) g rfl rfl rfl rfl
 obtain ⟨obs, hobs⟩ := T.start
 obtain ⟨g2, t2⟩ := gh_more g1 obs
 have t12 := t1.trans t2
 refine wp_region_any hm ?_
 refine any_ok (x := x) (hr := hr) (zz := zz) (h0 := h) (env0 := env) (X0 := X) (w0 := w) D T ?_ ops.size (Array.replicate ops.size false) (by simp) (by
   have := List.countP_le_length (p := fun i => !(Array.replicate ops.size false).getD i true) (l := List.range ops.size)
   simpa using this) X _ a 0 env ?_
 · intro X' w' a' p' e' I
   refine hQ a' w' ⟨e', hr (Rs ops).length, X', hK e' I.ei, ?_⟩
   have heq : hr (Rs ops).length = hr p' := eq_range _ I.hp (fun m h1 h2 => by
     have hm' : (Rs ops)[m]? = some (Rs ops)[m] := by simp [h2]
     have hlt := (mem_Rs.1 (List.mem_of_getElem? hm')).1
     refine (not_chg D T hm' (ok := ops[(Rs ops)[m]]) (by simp [hlt]) (fun hc => ?_)).2
     obtain ⟨m', hm1, hm2⟩ := (I.ch (Rs ops)[m] ops[(Rs ops)[m]] (by simp [hlt]) hc).1 hlt
     have := Rs_inj hm2 hm'
     omega)
   rw [heq]
   exact ⟨I.g, I.eo, I.tr⟩
 · have nol : ∀ i, ¬ Listed (Array.replicate ops.size false) i := by
     intro i s
     unfold Listed at s
     by_cases hi : i < ops.size <;> simp [Array.getD, hi] at s
   have hs : Listed (Array.replicate ops.size false) = fun _ => False := funext fun i => propext ⟨nol i, False.elim⟩
   refine ⟨Nat.zero_le _, hobs ▸ g2, hs ▸ EnvIs.start, hobs ▸ r.mono t12.ext, hobs ▸ t12, ?_, ?_, ?_, ?_⟩
   · intro i o _ _
     exact ⟨fun s => absurd s (nol i), fun ⟨m, hm, _⟩ => by omega⟩
   · intro q i hq _
     obtain ⟨o, Ty, _, _, _, _, hb⟩ := T.free q i hq
     refine ⟨hb, ?_⟩
     cases hi : X.ι (h.length + q) with
     | none => rfl
     | some bo =>
       obtain ⟨ob, hob⟩ := g.dom _ _ hi
       have := lt_of_some hob
       omega
   · intro i o s; exact absurd s (nol i)
   · intro i s; exact absurd s (nol i)
end

def strip (rx : Bool) (th : Nat → Option Nat) : Code → Option ACode
 | .skip => some .skip
 | .region id ops true => match stripOps rx ops (hoist ops) with
   | some l => some (.draw (th id) l)
   | Option.none => Option.none
 | .region _ ops false => match stripOps false ops ops.toList with
   | some l => some (.region l)
   | Option.none => Option.none
 | .seq a b => match strip rx th a, strip rx th b with
   | some x, some y => some (.seq x y)
   | _, _ => Option.none
 | .cond c a b => match strip rx th a, strip rx th b with
   | some x, some y => some (.cond c x y)
   | _, _ => Option.none
 | .block id c => match strip rx th c with
   | some x => some (.block id x)
   | Option.none => Option.none
 | .loop c => match strip rx th c with
   | some x => some (.loop x)
   | Option.none => Option.none
 | .exit id => some (.exit id)
 | .ret => some .ret
 | _ => Option.none

def drawsOk (rx : Bool) : Code → Bool
 | .region _ ops true => drawOk rx ops
 | .seq a b | .cond _ a b => drawsOk rx a && drawsOk rx b
 | .block _ c | .loop c => drawsOk rx c
 | _ => true

section
variable {P : Program} {G : Glob} {rx : Bool} {th : Nat → Option Nat}

theorem wp_loop_st {c : Code} {S : Type} (I : S → Act → World → Prop) (μ : S → Nat) {Q : Exit → Act → World → Prop} (s0 : S) {a : Act} {w : World} (h₀ : I s0 a w)
   (round : ∀ s a w, I s a w → c.wp P (Exit.then (fun a' w' => ∃ s', I s' a' w' ∧ μ s' < μ s) Q) a w) : (Code.loop c).wp P Q a w := by
 intro b k cs
 have key : ∀ n s a w, μ s = n → I s a w →
     ∃ e a' w', Q e a' w' ∧ Arrives P (lone (b.at a (.code c :: .inLoop c :: k)) cs w) b k cs e a' w' := by
   intro n
   induction n using Nat.strongRecOn with
   | _ n ih =>
     intro s a w hn hI
     obtain ⟨e, a₁, w₁, hq, harr⟩ := round s a w hI b (.inLoop c :: k) cs
     cases e with
     | normal =>
       obtain ⟨s', hI₁, hlt⟩ := hq
       obtain ⟨e₂, a₂, w₂, hq₂, harr₂⟩ := ih (μ s') (hn ▸ hlt) s' a₁ w₁ rfl hI₁
       exact ⟨e₂, a₂, w₂, hq₂, .of_steps (Steps.trans harr (.one step_inLoop)) harr₂⟩
     | exit id => exact ⟨_, a₁, w₁, hq, .pass (x := .inLoop c) rfl (fun _ _ => .inl (by simp)) harr⟩
     | goto l => exact ⟨_, a₁, w₁, hq, .pass (x := .inLoop c) rfl (fun _ _ => .inl (by simp)) harr⟩
     | ret => exact ⟨_, a₁, w₁, hq, .pass (x := .inLoop c) rfl (fun _ _ => .inl (by simp)) harr⟩
     | panic ch => exact ⟨_, a₁, w₁, hq, .pass (x := .inLoop c) rfl (fun _ _ => .inl (by simp)) harr⟩
     | outgrown => exact ⟨_, a₁, w₁, hq, .pass (x := .inLoop c) rfl (fun _ _ => .inl (by simp)) harr⟩
 obtain ⟨e, a', w', hq, harr⟩ := key _ s0 a w rfl h₀
 exact ⟨e, a', w', hq, .of_steps (.one step_loop) harr⟩

theorem Holds.trans {X X1 : Ctx} {w w1 : World} {h h1 : List AObj} {K : List AV → List AObj → Prop} {a' : Act} {w' : World} (t : Tr X w h X1 w1 h1) (k : Holds G X1 w1 h1 K a' w') : Holds G X w h K a' w' := by
 obtain ⟨env', h', X', k1, k2, k3, k4⟩ := k
 exact ⟨env', h', X', k1, k2, k3, t.trans k4⟩

theorem awx_ok (hm : P.follows .mixedOrders = true) : ∀ (c : Code) (ac : ACode), drawsOk rx c = true → strip rx th c = some ac → ∀ (Q : Exit → List AV → List AObj → Prop) (env : List AV) (h : List AObj), awx P G ac Q env h → AW P G c Q env h
 | .skip, ac, hd, hs, Q, env, h, e => by
   simp only [strip, Option.some.injEq] at hs; subst hs
   intro X w a g r
   exact wp_skip ⟨env, h, X, e, g, r, .refl _ _ _⟩
 | .region id ops false, ac, hd, hs, Q, env, h, e => by
   simp only [strip] at hs
   cases hl : stripOps false ops ops.toList with
   | none => simp [hl] at hs
   | some al =>
     simp only [hl, Option.some.injEq] at hs
     subst hs
     intro X w a g r
     exact wp_region_list (awops_ok ops.toList al hl env h X w a e g r (fun a' w' k => k))
 | .region id ops true, ac, hd, hs, Q, env, h, e => by
   simp only [strip] at hs
   simp only [drawsOk] at hd
   cases hl : stripOps rx ops (hoist ops) with
   | none => simp [hl] at hs
   | some al =>
     simp only [hl, Option.some.injEq] at hs
     subst hs
     intro X w a g r
     exact draw_ok hm hd hl e g r (fun a' w' k => k)
 | .seq x y, ac, hd, hs, Q, env, h, e => by
   simp only [drawsOk, Bool.and_eq_true] at hd
   simp only [strip] at hs
   cases hx : strip rx th x with
   | none => simp [hx] at hs
   | some ax =>
   cases hy : strip rx th y with
   | none => simp [hx, hy] at hs
   | some ay =>
     simp only [hx, hy, Option.some.injEq] at hs
     subst hs
     intro X w a g r
     refine wp_seq (wp_mono (awx_ok hm x ax hd.1 hx _ env h e X w a g r) ?_)
     intro e' a' w' k
     cases e' with
     | normal =>
       obtain ⟨env', h', X', k1, k2, k3, k4⟩ := k
       exact wp_mono (awx_ok hm y ay hd.2 hy _ env' h' k1 X' w' a' k2 k3) (fun e2 a2 w2 k5 => k5.trans k4)
     | _ => exact k
 | .cond c x y, ac, hd, hs, Q, env, h, e => by
   simp only [drawsOk, Bool.and_eq_true] at hd
   simp only [strip] at hs
   cases hx : strip rx th x with
   | none => simp [hx] at hs
   | some ax =>
   cases hy : strip rx th y with
   | none => simp [hx, hy] at hs
   | some ay =>
     simp only [hx, hy, Option.some.injEq] at hs
     subst hs
     intro X w a g r
     have rc := aev_ok g r c
     simp only [awx] at e
     cases hc : aev G env c with
     | b t =>
       rw [hc] at e rc
       have hv := bool_ok rc
       cases t with
       | true => exact wp_cond_true hv (awx_ok hm x ax hd.1 hx _ env h (e.1 rfl) X w a g r)
       | false => exact wp_cond_false hv (awx_ok hm y ay hd.2 hy _ env h (e.2 rfl) X w a g r)
     | _ => rw [hc] at e; exact e.elim
 | .block id c, ac, hd, hs, Q, env, h, e => by
   simp only [drawsOk] at hd
   simp only [strip] at hs
   cases hx : strip rx th c with
   | none => simp [hx] at hs
   | some ax =>
     simp only [hx, Option.some.injEq] at hs
     subst hs
     intro X w a g r
     refine wp_block (wp_mono (awx_ok hm c ax hd hx _ env h e X w a g r) ?_)
     intro e' a' w' k
     cases e' with
     | exit i =>
       simp only [Exit.inBlock]
       obtain ⟨env', h', X', k1, k2, k3, k4⟩ := k
       simp only [blockX] at k1
       split
       · rename_i hi; rw [if_pos hi] at k1; exact ⟨env', h', X', k1, k2, k3, k4⟩
       · rename_i hi; rw [if_neg hi] at k1; exact ⟨env', h', X', k1, k2, k3, k4⟩
     | _ => exact k
 | .loop c, ac, hd, hs, Q, env, h, e => by
   simp only [drawsOk] at hd
   simp only [strip] at hs
   cases hx : strip rx th c with
   | none => simp [hx] at hs
   | some ax =>
     simp only [hx, Option.some.injEq] at hs
     subst hs
     intro X w a g r
     simp only [awx, Loop] at e
     obtain ⟨S, I, μ, s0, h0, hround⟩ := e
     refine wp_loop_st (S := S × List AV × List AObj × Ctx) (fun s a' w' => I s.1 s.2.1 s.2.2.1 ∧ GH G s.2.2.2 w' s.2.2.1 ∧ EnvOK s.2.2.2 w' s.2.2.1 s.2.1 a' ∧ Tr X w h s.2.2.2 w' s.2.2.1) (fun s => μ s.1) (s0, env, h, X) ⟨h0, g, r, .refl _ _ _⟩ ?_
     rintro ⟨s1, env1, h1, X1⟩ a1 w1 ⟨i1, g1, r1, t1⟩
     refine wp_mono (awx_ok hm c ax hd hx _ env1 h1 (hround s1 env1 h1 i1) X1 w1 a1 g1 r1) ?_
     intro e' a' w' k
     cases e' with
     | normal =>
       obtain ⟨env', h', X', ⟨s', k1, k1'⟩, k2, k3, k4⟩ := k
       exact ⟨(s', env', h', X'), ⟨k1, k2, k3, t1.trans k4⟩, k1'⟩
     | _ => exact k.trans t1
 | .exit id, ac, hd, hs, Q, env, h, e => by
   simp only [strip, Option.some.injEq] at hs; subst hs
   intro X w a g r
   exact wp_exit ⟨env, h, X, e, g, r, .refl _ _ _⟩
 | .ret, ac, hd, hs, Q, env, h, e => by
   simp only [strip, Option.some.injEq] at hs; subst hs
   intro X w a g r
   exact wp_ret ⟨env, h, X, e, g, r, .refl _ _ _⟩
 | .rangeFunc _ _ _ _, ac, hd, hs, Q, env, h, e => by simp [strip] at hs
 | .scope _, ac, hd, hs, Q, env, h, e => by simp [strip] at hs
 | .label _, ac, hd, hs, Q, env, h, e => by simp [strip] at hs
 | .goto _, ac, hd, hs, Q, env, h, e => by simp [strip] at hs
 | .refuse _, ac, hd, hs, Q, env, h, e => by simp [strip] at hs
end

mutual
def finIds : AV → AV → List Nat
 | .hs id _ _ _, .own .. => [id]
 | .agg xs, .agg rs => finIdsL xs rs
 | .tup xs, .tup rs => finIdsL xs rs
 | _, _ => []
def finIdsL : List AV → List AV → List Nat
 | x :: xs, r :: rs => finIds x r ++ finIdsL xs rs
 | _, _ => []
end
mutual
def finRch (h : List AObj) : AV → AV → List Nat
 | .hs _ _ _ _, .own .. => []
 | .e0, .own .. => []
 | .agg xs, .agg rs => finRchL h xs rs
 | .tup xs, .tup rs => finRchL h xs rs
 | x, _ => reach dep h x
def finRchL (h : List AObj) : List AV → List AV → List Nat
 | x :: xs, r :: rs => finRch h x r ++ finRchL h xs rs
 | _, _ => []
end
mutual
def finOK (h : List AObj) : AV → AV → Prop
 | .hs id off n t, .own sz cells m => t = false ∧ m = n ∧ ∃ cs, h[id]? = some (.arr false sz cs) ∧ off + n * sz ≤ cs.length ∧ cells = (cs.drop off).take (n * sz) ∧ persL cells = true
 | .e0, .own sz cells m => cells = [] ∧ m = 0
 | .agg xs, .agg rs => finOKL h xs rs
 | .tup xs, .tup rs => finOKL h xs rs
 | x, r => r = snap dep h x
def finOKL (h : List AObj) : List AV → List AV → Prop
 | [], [] => True
 | x :: xs, r :: rs => finOK h x r ∧ finOKL h xs rs
 | _, _ => False
end

def Fin (h : List AObj) (x r : AV) : Prop := (r = x ∧ pers x = true) ∨ (finOK h x r ∧ (finIds x r).Nodup ∧ ∀ i ∈ finIds x r, i ∉ finRch h x r)

def FB (X : Ctx) (ids : List Nat) (b : Nat) : Prop := X.F b ∨ ∃ id o, id ∉ ids ∧ X.ι id = some (b, o)

section
variable {P : Program} {G : Glob} {X : Ctx} {w : World} {h : List AObj}

def blks (X : Ctx) (ids : List Nat) : List Nat := ids.filterMap fun i => (X.ι i).map (·.1)
theorem blks_append (X : Ctx) (a b : List Nat) : blks X (a ++ b) = blks X a ++ blks X b := by simp [blks]
theorem blks_mem {X : Ctx} {ids : List Nat} {b : Nat} (hb : b ∈ blks X ids) : ∃ id ∈ ids, ∃ o, X.ι id = some (b, o) := by
 simp only [blks, List.mem_filterMap, Option.map_eq_some_iff] at hb
 obtain ⟨id, hi, ⟨c, o⟩, hc, rfl⟩ := hb
 exact ⟨id, hi, o, hc⟩
theorem blks_nodup (g : GH G X w h) : ∀ {ids : List Nat}, ids.Nodup → (blks X ids).Nodup
 | [], _ => by simp [blks]
 | id :: ids, hn => by
   rw [List.nodup_cons] at hn
   have ih := blks_nodup g hn.2
   simp only [blks, List.filterMap_cons]
   cases hb : X.ι id with
   | none => simp only [Option.map_none]; exact ih
   | some bo =>
     obtain ⟨b, o⟩ := bo
     simp only [hb, Option.map_some]
     rw [List.nodup_cons]
     refine ⟨fun hm => ?_, ih⟩
     obtain ⟨id', hi', o', ho'⟩ := blks_mem (X := X) (ids := ids) hm
     exact hn.1 (g.inj _ _ _ _ _ hb ho' ▸ hi')

theorem fin_snap (g : GH G X w h) (ids : List Nat) {x : AV} {v : Value} (r : RV X w h x v) (hd : ∀ i ∈ ids, i ∉ reach dep h x) : RR (FB X ids) w (snap dep h x) v [] := by
 refine RR.val ((snap_ok g dep x v r).monoF ?_)
 rintro b (hb | ⟨id, hi, o, ho⟩)
 · exact .inl hb
 · exact .inr ⟨id, o, fun hm => hd id hm hi, ho⟩

mutual
theorem fin_ok (g : GH G X w h) (ids : List Nat) : ∀ (x r : AV) (v : Value), finOK h x r → RV X w h x v → (∀ i ∈ ids, i ∉ finRch h x r) → RR (FB X ids) w r v (blks X (finIds x r))
 | .hs id off n t, r, v, e, rv, hd => by
   have gen : finOK h (.hs id off n t) r = (r = snap dep h (.hs id off n t)) → finIds (.hs id off n t) r = [] → finRch h (.hs id off n t) r = reach dep h (.hs id off n t) → RR (FB X ids) w r v (blks X (finIds (.hs id off n t) r)) := by
     intro e1 e2 e3
     rw [e1] at e
     rw [e2, e]
     rw [e3] at hd
     exact fin_snap g ids rv hd
   cases r with
   | own sz cells m =>
     clear gen
     simp only [finOK] at e
     obtain ⟨rfl, rfl, cs, hid, hle, rfl, hp⟩ := e
     simp only [finIds, RR]
     cases rv with
     | dead hr hd' _ => simp [AV.refs] at hr; subst hr; rw [hid] at hd'; cases hd'
     | hs0 hid' hf ho => exact .inr ⟨by simp, rfl, _, rfl⟩
     | @hs _ _ _ _ fz' s' cells' b o cap T N hid' hι hsh hn hcc hN htt hff =>
       rw [hid] at hid'; cases hid'
       have ok := g.objs _ _ hid
       cases ok with
       | absent h0 => rw [h0] at hι; cases hι
       | @arr _ _ _ b' o' cur T' fr h0 hb hf1 hf2 hl h1 hr =>
       rw [h0] at hι; cases hι
       obtain ⟨hF, rfl⟩ := hf2 rfl
       have hNs : N = cur.size := by simp [World.shape?, hb] at hsh; exact hsh.2.symm
       subst hNs
       refine .inl ⟨b, o + off, cur, T', cap, by simp [blks, h0], rfl, hb, by simp; omega, hcc, hN, ?_, ?_⟩
       · intro j u hj hu
         simp at hj
         exact h1 (off + j) u (by omega) (by rw [← Nat.add_assoc]; exact hu)
       · intro j y u hy hu
         have hy' := hy
         rw [List.getElem?_take] at hy
         split at hy
         · rw [List.getElem?_drop] at hy
           exact (hr (off + j) y u hy (by rw [← Nat.add_assoc]; exact hu)).pers (persL_mem hp j y hy') (fun b hb => .inl hb) (fun _ _ => rfl)
         · cases hy
   | _ => exact gen rfl rfl rfl
 | .e0, r, v, e, rv, hd => by
   have gen : finOK h .e0 r = (r = snap dep h .e0) → finIds .e0 r = [] → finRch h .e0 r = reach dep h .e0 → RR (FB X ids) w r v (blks X (finIds .e0 r)) := by
     intro e1 e2 e3
     rw [e1] at e
     rw [e2, e]
     rw [e3] at hd
     exact fin_snap g ids rv hd
   cases r with
   | own sz cells m =>
     clear gen
     simp only [finOK] at e
     obtain ⟨rfl, rfl⟩ := e
     simp only [finIds, RR]
     cases rv with
     | e0 a => exact .inr ⟨trivial, trivial, a, rfl⟩
     | dead hr _ _ => simp [AV.refs] at hr
   | _ => exact gen rfl rfl rfl
 | .agg xs, r, v, e, rv, hd => by
   have gen : finOK h (.agg xs) r = (r = snap dep h (.agg xs)) → finIds (.agg xs) r = [] → finRch h (.agg xs) r = reach dep h (.agg xs) → RR (FB X ids) w r v (blks X (finIds (.agg xs) r)) := by
     intro e1 e2 e3
     rw [e1] at e
     rw [e2, e]
     rw [e3] at hd
     exact fin_snap g ids rv hd
   cases r with
   | agg rs =>
     clear gen
     simp only [finOK] at e
     simp only [finIds]
     cases rv with
     | @agg _ vs hl h1 hr => exact ⟨vs, rfl, h1, finL_ok g ids xs rs vs.toList e (by simpa using hl) (fun j a v ha hv => hr j a v ha (by simpa using hv)) hd⟩
     | dead hr _ _ => simp [AV.refs] at hr
   | _ => exact gen rfl rfl rfl
 | .tup xs, r, v, e, rv, hd => by
   have gen : finOK h (.tup xs) r = (r = snap dep h (.tup xs)) → finIds (.tup xs) r = [] → finRch h (.tup xs) r = reach dep h (.tup xs) → RR (FB X ids) w r v (blks X (finIds (.tup xs) r)) := by
     intro e1 e2 e3
     rw [e1] at e
     rw [e2, e]
     rw [e3] at hd
     exact fin_snap g ids rv hd
   cases r with
   | tup rs =>
     clear gen
     simp only [finOK] at e
     simp only [finIds]
     cases rv with
     | @tup _ vs hl hr => exact ⟨vs, rfl, finL_ok g ids xs rs vs.toList e (by simpa using hl) (fun j a v ha hv => hr j a v ha (by simpa using hv)) hd⟩
     | dead hr _ _ => simp [AV.refs] at hr
   | _ => exact gen rfl rfl rfl
 | .u, r, v, e, rv, hd => by
   have e' : r = snap dep h (.u) := by cases r <;> exact e
   have e2 : finIds (.u) r = [] := by cases r <;> rfl
   have e3 : finRch h (.u) r = reach dep h (.u) := by cases r <;> rfl
   rw [e2, e']
   rw [e3] at hd
   exact fin_snap g ids rv hd
 | .b x, r, v, e, rv, hd => by
   have e' : r = snap dep h (.b x) := by cases r <;> exact e
   have e2 : finIds (.b x) r = [] := by cases r <;> rfl
   have e3 : finRch h (.b x) r = reach dep h (.b x) := by cases r <;> rfl
   rw [e2, e']
   rw [e3] at hd
   exact fin_snap g ids rv hd
 | .i k n, r, v, e, rv, hd => by
   have e' : r = snap dep h (.i k n) := by cases r <;> exact e
   have e2 : finIds (.i k n) r = [] := by cases r <;> rfl
   have e3 : finRch h (.i k n) r = reach dep h (.i k n) := by cases r <;> rfl
   rw [e2, e']
   rw [e3] at hd
   exact fin_snap g ids rv hd
 | .s l, r, v, e, rv, hd => by
   have e' : r = snap dep h (.s l) := by cases r <;> exact e
   have e2 : finIds (.s l) r = [] := by cases r <;> rfl
   have e3 : finRch h (.s l) r = reach dep h (.s l) := by cases r <;> rfl
   rw [e2, e']
   rw [e3] at hd
   exact fin_snap g ids rv hd
 | .p v', r, v, e, rv, hd => by
   have e' : r = snap dep h (.p v') := by cases r <;> exact e
   have e2 : finIds (.p v') r = [] := by cases r <;> rfl
   have e3 : finRch h (.p v') r = reach dep h (.p v') := by cases r <;> rfl
   rw [e2, e']
   rw [e3] at hd
   exact fin_snap g ids rv hd
 | .sl cells n, r, v, e, rv, hd => by
   have e' : r = snap dep h (.sl cells n) := by cases r <;> exact e
   have e2 : finIds (.sl cells n) r = [] := by cases r <;> rfl
   have e3 : finRch h (.sl cells n) r = reach dep h (.sl cells n) := by cases r <;> rfl
   rw [e2, e']
   rw [e3] at hd
   exact fin_snap g ids rv hd
 | .own sz cells n, r, v, e, rv, hd => by
   have e' : r = snap dep h (.own sz cells n) := by cases r <;> exact e
   have e2 : finIds (.own sz cells n) r = [] := by cases r <;> rfl
   have e3 : finRch h (.own sz cells n) r = reach dep h (.own sz cells n) := by cases r <;> rfl
   rw [e2, e']
   rw [e3] at hd
   exact fin_snap g ids rv hd
 | .ptr id off, r, v, e, rv, hd => by
   have e' : r = snap dep h (.ptr id off) := by cases r <;> exact e
   have e2 : finIds (.ptr id off) r = [] := by cases r <;> rfl
   have e3 : finRch h (.ptr id off) r = reach dep h (.ptr id off) := by cases r <;> rfl
   rw [e2, e']
   rw [e3] at hd
   exact fin_snap g ids rv hd
 | .box cells off, r, v, e, rv, hd => by
   have e' : r = snap dep h (.box cells off) := by cases r <;> exact e
   have e2 : finIds (.box cells off) r = [] := by cases r <;> rfl
   have e3 : finRch h (.box cells off) r = reach dep h (.box cells off) := by cases r <;> rfl
   rw [e2, e']
   rw [e3] at hd
   exact fin_snap g ids rv hd
 | .mp id, r, v, e, rv, hd => by
   have e' : r = snap dep h (.mp id) := by cases r <;> exact e
   have e2 : finIds (.mp id) r = [] := by cases r <;> rfl
   have e3 : finRch h (.mp id) r = reach dep h (.mp id) := by cases r <;> rfl
   rw [e2, e']
   rw [e3] at hd
   exact fin_snap g ids rv hd
 | .mapv ks vs, r, v, e, rv, hd => by
   have e' : r = snap dep h (.mapv ks vs) := by cases r <;> exact e
   have e2 : finIds (.mapv ks vs) r = [] := by cases r <;> rfl
   have e3 : finRch h (.mapv ks vs) r = reach dep h (.mapv ks vs) := by cases r <;> rfl
   rw [e2, e']
   rw [e3] at hd
   exact fin_snap g ids rv hd
 | .fn f first capt, r, v, e, rv, hd => by
   have e' : r = snap dep h (.fn f first capt) := by cases r <;> exact e
   have e2 : finIds (.fn f first capt) r = [] := by cases r <;> rfl
   have e3 : finRch h (.fn f first capt) r = reach dep h (.fn f first capt) := by cases r <;> rfl
   rw [e2, e']
   rw [e3] at hd
   exact fin_snap g ids rv hd
theorem finL_ok (g : GH G X w h) (ids : List Nat) : ∀ (xs rs : List AV) (vs : List Value), finOKL h xs rs → xs.length = vs.length → (∀ (j : Nat) (a : AV) (v : Value), xs[j]? = some a → vs[j]? = some v → RV X w h a v) → (∀ i ∈ ids, i ∉ finRchL h xs rs) →
   RRs (FB X ids) w rs vs (blks X (finIdsL xs rs))
 | [], [], [], e, hl, hr, hd => by simp [finIdsL, blks, RRs]
 | x :: xs, r :: rs, v :: vs, e, hl, hr, hd => by
   simp only [finOKL] at e
   simp only [finRchL] at hd
   simp only [finIdsL, blks_append]
   exact ⟨_, _, rfl, fin_ok g ids x r v e.1 (hr 0 x v rfl rfl) (fun i hi hm => hd i hi (List.mem_append_left _ hm)),
     finL_ok g ids xs rs vs e.2 (by simpa using hl) (fun j a v ha hv => hr (j + 1) a v (by simpa using ha) (by simpa using hv)) (fun i hi hm => hd i hi (List.mem_append_right _ hm))⟩
 | [], r :: rs, vs, e, hl, hr, hd => by simp [finOKL] at e
 | x :: xs, [], vs, e, hl, hr, hd => by simp [finOKL] at e
 | [], [], _ :: _, e, hl, hr, hd => by simp at hl
 | _ :: _, _ :: _, [], e, hl, hr, hd => by simp at hl
end

mutual
theorem fin_live : ∀ (x r : AV), finOK h x r → ∀ i ∈ finIds x r, ∃ sz cs, h[i]? = some (.arr false sz cs)
 | .hs id off n t, r, e, i, hi => by
   cases r with
   | own sz cells m =>
     simp only [finOK] at e
     obtain ⟨rfl, rfl, cs, hid, _⟩ := e
     simp only [finIds, List.mem_singleton] at hi
     subst hi
     exact ⟨_, _, hid⟩
   | _ => simp [finIds] at hi
 | .agg xs, r, e, i, hi => by
   cases r with
   | agg rs => simp only [finOK] at e; simp only [finIds] at hi; exact finL_live xs rs e i hi
   | _ => simp [finIds] at hi
 | .tup xs, r, e, i, hi => by
   cases r with
   | tup rs => simp only [finOK] at e; simp only [finIds] at hi; exact finL_live xs rs e i hi
   | _ => simp [finIds] at hi
 | .e0, r, e, i, hi => by cases r <;> simp [finIds] at hi
 | .u, r, e, i, hi => by cases r <;> simp [finIds] at hi
 | .b x, r, e, i, hi => by cases r <;> simp [finIds] at hi
 | .i k n, r, e, i, hi => by cases r <;> simp [finIds] at hi
 | .s l, r, e, i, hi => by cases r <;> simp [finIds] at hi
 | .p v', r, e, i, hi => by cases r <;> simp [finIds] at hi
 | .sl cells n, r, e, i, hi => by cases r <;> simp [finIds] at hi
 | .own sz cells n, r, e, i, hi => by cases r <;> simp [finIds] at hi
 | .ptr id off, r, e, i, hi => by cases r <;> simp [finIds] at hi
 | .box cells off, r, e, i, hi => by cases r <;> simp [finIds] at hi
 | .mp id, r, e, i, hi => by cases r <;> simp [finIds] at hi
 | .mapv ks vs, r, e, i, hi => by cases r <;> simp [finIds] at hi
 | .fn f first capt, r, e, i, hi => by cases r <;> simp [finIds] at hi
theorem finL_live : ∀ (xs rs : List AV), finOKL h xs rs → ∀ i ∈ finIdsL xs rs, ∃ sz cs, h[i]? = some (.arr false sz cs)
 | [], [], e, i, hi => by simp [finIdsL] at hi
 | x :: xs, r :: rs, e, i, hi => by
   simp only [finOKL] at e
   simp only [finIdsL, List.mem_append] at hi
   rcases hi with hi | hi
   · exact fin_live x r e.1 i hi
   · exact finL_live xs rs e.2 i hi
 | [], _ :: _, e, i, hi => by simp [finOKL] at e
 | _ :: _, [], e, i, hi => by simp [finOKL] at e
end

def ares1 (P : Program) (env : List AV) (h : List AObj) : ResultVar → Option AV
 | .tmp t => some (env.getD t .u)
 | .cell a T => aload P T h (env.getD a .u)
def aresL (P : Program) (env : List AV) (h : List AObj) : List ResultVar → Option (List AV)
 | [] => some []
 | r :: rs => match ares1 P env h r, aresL P env h rs with
   | some x, some l => some (x :: l)
   | _, _ => Option.none
def ares (P : Program) (rs : List ResultVar) (env : List AV) (h : List AObj) : Option AV :=
 match aresL P env h rs with
 | some [x] => some x
 | some l => some (.tup l)
 | Option.none => Option.none

def resSem (tmps : Array Value) : ResultVar → Go.Sem Value
 | .tmp t => pure (tmps.getD t undef)
 | .cell b t => do loadVar t (← asAddr (tmps.getD b undef))
theorem results_eq (fn : Func) (tmps : Array Value) : results fn tmps = (do
   let vs ← fn.results.mapM (resSem tmps)
   pure (if h : vs.size = 1 then vs[0] else .tuple vs)) := rfl

theorem ares1_ok {env : List AV} {a : Act} (g : GH G X w h) (r : EnvOK X w h env a) (rv : ResultVar) {x : AV} (e : ares1 P env h rv = some x) :
   ∃ v, (resSem a.tmps rv).run P w = .ok v w ∧ RV X w h x v := by
 cases rv with
 | tmp t =>
   simp only [ares1, Option.some.injEq] at e
   subst e
   exact ⟨_, rfl, aev_ok g r (.tmp t)⟩
 | cell b T =>
   simp only [ares1] at e
   have rb := aev_ok g r (.tmp b)
   simp only [aev, Act.eval] at rb
   obtain ⟨u, hu, ru⟩ := load_ok g rb e
   refine ⟨u, ?_, ru⟩
   have : ∃ ad, a.tmps.getD b undef = .pointer (some ad) := by
     unfold aload at e
     cases ho : aobj h (env.getD b .u) with
     | none => rw [ho] at e; cases e
     | some q =>
       obtain ⟨cells, off⟩ := q
       obtain ⟨b', o, cs, T', fr, hv, _⟩ := aobj_ok g rb ho
       exact ⟨_, hv⟩
   obtain ⟨ad, had⟩ := this
   simp only [resSem]
   rw [had] at hu ⊢
   simpa [Instr.loadAt, Instr.sureAddr, asAddr] using hu

theorem aresL_ok {env : List AV} {a : Act} (g : GH G X w h) (r : EnvOK X w h env a) : ∀ (rs : List ResultVar) (l : List AV), aresL P env h rs = some l →
   ∃ vs : List Value, (rs.mapM (resSem a.tmps)).run P w = .ok vs w ∧ l.length = vs.length ∧ ∀ (j : Nat) (x : AV) (v : Value), l[j]? = some x → vs[j]? = some v → RV X w h x v
 | [], l, e => by
   simp only [aresL, Option.some.injEq] at e
   subst e
   exact ⟨[], by simp, rfl, by simp⟩
 | rv :: rs, l, e => by
   simp only [aresL] at e
   cases h1 : ares1 P env h rv with
   | none => simp [h1] at e
   | some x =>
   cases h2 : aresL P env h rs with
   | none => simp [h1, h2] at e
   | some l' =>
     simp only [h1, h2, Option.some.injEq] at e
     subst e
     obtain ⟨v, hv, rx⟩ := ares1_ok g r rv h1
     obtain ⟨vs, hvs, hl, hr⟩ := aresL_ok g r rs l' h2
     refine ⟨v :: vs, ?_, by simp [hl], ?_⟩
     · rw [List.mapM_cons, Sem.run_bind, hv, Result.andThen_ok, Sem.run_bind, hvs]; rfl
     · intro j y u hy hu
       cases j with
       | zero => simp at hy hu; exact hy ▸ hu ▸ rx
       | succ j => exact hr j y u (by simpa using hy) (by simpa using hu)

theorem ares_ok {env : List AV} {a : Act} {fn : Func} (g : GH G X w h) (r : EnvOK X w h env a) {x : AV} (e : ares P fn.results.toList env h = some x) : ∃ v, (results fn a.tmps).run P w = .ok v w ∧ RV X w h x v := by
 unfold ares at e
 cases hl : aresL P env h fn.results.toList with
 | none => simp [hl] at e
 | some l =>
   obtain ⟨vs, hvs, hlen, hr⟩ := aresL_ok g r _ l hl
   have hrun : (results fn a.tmps).run P w = .ok (if h : vs.toArray.size = 1 then vs.toArray[0] else .tuple vs.toArray) w := by
     rw [results_eq, Sem.run_bind, Array.mapM_eq_mapM_toList, Sem.run_map, hvs]
     rfl
   rw [hrun]
   rw [hl] at e
   clear hl hvs hrun
   cases l with
   | nil =>
     cases vs with
     | cons => simp at hlen
     | nil =>
       simp only [Option.some.injEq] at e
       subst e
       exact ⟨_, rfl, by simpa using .tup (vs := #[]) rfl (by simp)⟩
   | cons y l =>
     cases vs with
     | nil => simp at hlen
     | cons v vs =>
       cases l with
       | nil =>
         have hvs0 : vs = [] := List.eq_nil_of_length_eq_zero (by simpa using hlen.symm)
         subst hvs0
         simp only [Option.some.injEq] at e
         subst e
         exact ⟨v, by simp, hr 0 y v rfl rfl⟩
       | cons z l =>
         simp only [Option.some.injEq] at e
         subst e
         refine ⟨_, rfl, ?_⟩
         have : (v :: vs).toArray.size ≠ 1 := by simp at hlen ⊢; intro h0; rw [h0] at hlen; simp at hlen
         rw [dif_neg this]
         exact .tup (by simpa using hlen) (fun j a v ha hv => hr j a v ha (by simpa using hv))
end

theorem sem_intro {rx : Bool} {th : Nat → Option Nat} {P : Program} (hm : P.follows .mixedOrders = true) {G : Glob} {f : FuncId} {fn : Func} {c : Code} {ac : ACode} {args : List AV} {r : AV} (hf : P.funcs[f]? = some fn) (hb : fn.body = some c) (hcal : callable P f = true) (hd : drawsOk rx c = true) (hs : strip rx th c = some ac) (hG : GPers G)
   (h : awx P G ac (fun e env h => (e = .normal ∨ e = .ret) ∧ ∃ x, ares P fn.results.toList env h = some x ∧ Fin h x r) (args ++ List.replicate (fn.ntmps - args.length) .u) []) : Ctr P G f args r := by
 refine ⟨hcal, hG, ?_⟩
 intro F w vs hF hgl hl hr
 have g0 : GH G (.none F) w [] := ⟨fun id ob h => by simp at h, fun id bo h => by simp [Ctx.none] at h, fun id id' b o o' h => by simp [Ctx.none] at h, fun id b o h => by simp [Ctx.none] at h, hF, hgl⟩
 have r0 : EnvOK (.none F) w [] (args ++ List.replicate (fn.ntmps - args.length) .u) { tmps := vs ++ Array.replicate (fn.ntmps - vs.size) undef, defers := [] } := by
   refine ⟨rfl, by simp [hl], ?_⟩
   intro j x v hx hv
   by_cases hj : j < args.length
   · rw [List.getElem?_append_left hj] at hx
     rw [Array.getElem?_append_left (by omega)] at hv
     exact hr j x v hx hv
   · rw [List.getElem?_append_right (by omega), List.getElem?_replicate] at hx
     split at hx
     · cases hx; exact .u _
     · cases hx
 refine calls_of_wp hf hb (wp_mono (awx_ok hm c ac hd hs _ _ _ h (.none F) w _ g0 r0) ?_)
 rintro e a' w' ⟨env', h', X', ⟨he, x, hres, hfin⟩, g', r', t⟩
 obtain ⟨v, hrun, rx⟩ := ares_ok g' r' hres
 have hgr : Grew w w' := ⟨fun b hb => t.step.frame b hb (fun id o e => by simp [Ctx.none] at e), t.step.size, t.step.os, t.step.tape, t.step.output⟩
 have hι : ∀ id b o, X'.ι id = some (b, o) → w.heap.size ≤ b := by
   intro id b o hb
   rcases t.step.new id b o hb with h | ⟨_, _, h⟩
   · exact h
   · simp [Ctx.none] at h
 have hXF : ∀ b, X'.F b → F b ∨ w.heap.size ≤ b := by
   intro b hb
   rcases t.step.fnew b hb with h | h | ⟨_, _, h⟩
   · exact .inl h
   · exact .inr h
   · simp [Ctx.none] at h
 have hFB : ∀ (ids : List Nat), (∀ b, F b → FB X' ids b) ∧ (∀ b, FB X' ids b → F b ∨ w.heap.size ≤ b) ∧ (∀ b, FB X' ids b → b < w'.heap.size) := by
   intro ids
   refine ⟨fun b hb => .inl (t.ext.fr b hb), ?_, ?_⟩
   · rintro b (hb | ⟨id, o, _, ho⟩)
     · exact hXF b hb
     · exact .inr (hι _ _ _ ho)
   · rintro b (hb | ⟨id, o, _, ho⟩)
     · exact g'.fbnd b hb
     · exact g'.bnd _ _ _ ho
 have hR : ∃ v' F' bs, Ending.returned v = .returned v' ∧ Grew w w' ∧ (∀ b, F b → F' b) ∧ (∀ b, F' b → F b ∨ w.heap.size ≤ b) ∧ (∀ b, F' b → b < w'.heap.size) ∧ RR F' w' r v' bs ∧ bs.Nodup ∧ ∀ b ∈ bs, ¬ F' b ∧ w.heap.size ≤ b := by
   rcases hfin with ⟨rfl, hp⟩ | ⟨hok, hnd, hdis⟩
   · exact ⟨v, FB X' [], [], rfl, hgr, (hFB []).1, (hFB []).2.1, (hFB []).2.2, RR.val (rx.pers hp (fun b hb => .inl hb) (fun _ _ => rfl)), List.nodup_nil, by simp⟩
   · refine ⟨v, FB X' (finIds x r), blks X' (finIds x r), rfl, hgr, (hFB _).1, (hFB _).2.1, (hFB _).2.2, fin_ok g' _ x r v hok rx hdis, blks_nodup g' hnd, ?_⟩
     intro b hb
     obtain ⟨id, hi, o, ho⟩ := blks_mem hb
     refine ⟨?_, hι _ _ _ ho⟩
     rintro (hF' | ⟨id', o', hn, ho'⟩)
     · obtain ⟨sz, cs, hid⟩ := fin_live x r hok id hi
       have ok := g'.objs _ _ hid
       cases ok with
       | arr h0 h1 h2 h3 => rw [h0] at ho; cases ho; exact (h3 rfl).1 hF'
       | absent h0 => rw [h0] at ho; cases ho
     · exact hn (g'.inj _ _ _ _ _ ho ho' ▸ hi)
 rcases he with rfl | rfl
 · exact ⟨r'.defers, v, hrun, hR⟩
 · exact ⟨r'.defers, v, hrun, hR⟩

section
variable (P : Program) (G : Glob) (dr : Option Nat)

def runOp (op : Op) (d : Option Nat) (os : List AOper) (K : List AV → List AObj → Prop) (env : List AV) (h : List AObj) : Prop :=
 runO P G dr op (fun r h' => awops P G dr os K (aput env d r) h') env h
def contV (x : Option AV) (d : Option Nat) (os : List AOper) (K : List AV → List AObj → Prop) (env : List AV) (h : List AObj) : Prop :=
 match x with
 | some v => awops P G dr os K (aput env d v) h
 | Option.none => False
def contH (x : Option (List AObj)) (d : Option Nat) (os : List AOper) (K : List AV → List AObj → Prop) (env : List AV) : Prop :=
 match x with
 | some h' => awops P G dr os K (aput env d .u) h'
 | Option.none => False
def contVH (x : Option (AV × List AObj)) (d : Option Nat) (os : List AOper) (K : List AV → List AObj → Prop) (env : List AV) : Prop :=
 match x with
 | some (v, h') => awops P G dr os K (aput env d v) h'
 | Option.none => False
def callC (fv : AV) (args : List AV) (d : Option Nat) (os : List AOper) (K : List AV → List AObj → Prop) (env : List AV) (h : List AObj) : Prop :=
 match fv with
 | .fn f first capt => kcall P G dr.isSome f (first ++ args ++ capt) h (fun r h' => awops P G dr os K (aput env d r) h')
 | _ => False
def callF (f : FuncId) (A : List AV) (d : Option Nat) (os : List AOper) (K : List AV → List AObj → Prop) (env : List AV) (h : List AObj) : Prop :=
 kcall P G dr.isSome f A h (fun r h' => awops P G dr os K (aput env d r) h')
def guardC (c : AV) (want : Bool) (op : Op) (d : Option Nat) (os : List AOper) (K : List AV → List AObj → Prop) (env : List AV) (h : List AObj) : Prop :=
 condK (gval c want) (runOp P G dr op d os K env h) (awops P G dr os K (aput env d (.tup [])) h)
def condC (c : AV) (a b : ACode) (Q : Exit → List AV → List AObj → Prop) (env : List AV) (h : List AObj) : Prop :=
 condK c (awx P G a Q env h) (awx P G b Q env h)
end

section
variable {P : Program} {G : Glob} {dr : Option Nat} {d : Option Nat} {os : List AOper} {K : List AV → List AObj → Prop} {env : List AV} {h : List AObj} {Q : Exit → List AV → List AObj → Prop}

theorem ops_nil : awops P G dr [] K env h = K env h := rfl
theorem ops_cons {op : Op} : awops P G dr (⟨d, op, none, false⟩ :: os) K env h = runOp P G dr op d os K env h := by simp only [awops, ckOK, true_and]; rfl
theorem ops_guard {op : Op} {t : Nat} {want : Bool} : awops P G dr (⟨d, op, some (t, want), false⟩ :: os) K env h = guardC P G dr (env.getD t .u) want op d os K env h := by simp only [awops, ckOK, true_and]; rfl
theorem ops_ck {op : Op} {N : Nat} : awops P G (some N) (⟨d, op, none, true⟩ :: os) K env h = (ckOp G N op env ∧ runOp P G (some N) op d os K env h) := rfl
theorem guard_tt {op : Op} : guardC P G dr (.b true) true op d os K env h = runOp P G dr op d os K env h := by simp [guardC, gval, condK]
theorem guard_ff {op : Op} : guardC P G dr (.b false) false op d os K env h = runOp P G dr op d os K env h := by simp [guardC, gval, condK]
theorem guard_tf {op : Op} : guardC P G dr (.b true) false op d os K env h = awops P G dr os K (aput env d (.tup [])) h := by simp [guardC, gval, condK]
theorem guard_ft {op : Op} : guardC P G dr (.b false) true op d os K env h = awops P G dr os K (aput env d (.tup [])) h := by simp [guardC, gval, condK]
theorem guard_no {op : Op} {want : Bool} : guardC P G dr (.tup []) want op d os K env h = awops P G dr os K (aput env d (.tup [])) h := by simp [guardC, gval, condK]
theorem guard_intro {op : Op} {x want : Bool} (h1 : x = want → runOp P G dr op d os K env h) (h2 : x = (!want) → awops P G dr os K (aput env d (.tup [])) h) : guardC P G dr (.b x) want op d os K env h := by
 cases x <;> cases want <;> simp_all [guardC, gval, condK]

theorem x_skip : awx P G .skip Q env h = Q .normal env h := rfl
theorem x_region {ops : List AOper} : awx P G (.region ops) Q env h = awops P G none ops (Q .normal) env h := rfl
theorem x_draw {ops : List AOper} : awx P G (.draw Option.none ops) Q env h = awops P G (some h.length) ops (Q .normal) env h := rfl
theorem x_drawN {N : Nat} {ops : List AOper} : awx P G (.draw (some N) ops) Q env h = awops P G (some N) ops (Q .normal) env h := rfl
theorem x_seq {a b : ACode} : awx P G (.seq a b) Q env h = awx P G a (thenX (awx P G b Q) Q) env h := rfl
theorem x_cond {c : Operand} {a b : ACode} : awx P G (.cond c a b) Q env h = condC P G (aev G env c) a b Q env h := rfl
theorem x_block {i : Nat} {c : ACode} : awx P G (.block i c) Q env h = awx P G c (blockX i Q) env h := rfl
theorem x_exit {i : Nat} : awx P G (.exit i) Q env h = Q (.exit i) env h := rfl
theorem x_ret : awx P G .ret Q env h = Q .ret env h := rfl
theorem then_normal {K : List AV → List AObj → Prop} : thenX K Q .normal env h = K env h := rfl
theorem then_exit {K : List AV → List AObj → Prop} {i : Nat} : thenX K Q (.exit i) env h = Q (.exit i) env h := rfl
theorem then_ret {K : List AV → List AObj → Prop} : thenX K Q .ret env h = Q .ret env h := rfl
theorem block_normal {i : Nat} : blockX i Q .normal env h = Q .normal env h := rfl
theorem block_ret {i : Nat} : blockX i Q .ret env h = Q .ret env h := rfl
theorem block_exit {i j : Nat} : blockX i Q (.exit j) env h = if j = i then Q .normal env h else Q (.exit j) env h := rfl
theorem cond_t {a b : ACode} : condC P G (.b true) a b Q env h = awx P G a Q env h := by simp [condC, condK]
theorem cond_f {a b : ACode} : condC P G (.b false) a b Q env h = awx P G b Q env h := by simp [condC, condK]
theorem cond_intro {a b : ACode} {x : Bool} (h1 : x = true → awx P G a Q env h) (h2 : x = false → awx P G b Q env h) : condC P G (.b x) a b Q env h := ⟨h1, h2⟩

theorem x_loopS {c : ACode} {S : Type} (I : S → List AV → List AObj → Prop) (μ : S → Nat) (s0 : S) (h0 : I s0 env h) (round : ∀ s env h, I s env h → awx P G c (thenX (fun e' h' => ∃ s', I s' e' h' ∧ μ s' < μ s) Q) env h) : awx P G (.loop c) Q env h :=
 ⟨S, I, μ, s0, h0, round⟩

theorem r_move {x : Operand} : runOp P G dr (.move x) d os K env h = awops P G dr os K (aput env d (aev G env x)) h := rfl
theorem r_assign {x : Operand} : runOp P G dr (.assign x) d os K env h = awops P G dr os K (aput env d (aev G env x)) h := rfl
def apick : AV → AV → AV → Option AV
 | .b t, a, b => some (if t then a else b)
 | _, _, _ => Option.none
theorem optK_map {x : Option AV} : optK (match x with | some v => some (v, h) | Option.none => Option.none) (fun r h' => awops P G dr os K (aput env d r) h') = contV P G dr x d os K env h := by cases x <;> rfl
theorem r_pick {c a b : Operand} : runOp P G dr (.pick c a b) d os K env h = contV P G dr (apick (aev G env c) (aev G env a) (aev G env b)) d os K env h := by
 simp only [runOp, runO, nilTest, arrV, awop, aop]
 cases aev G env c <;> rfl
def allocV : Bool → Option Nat → Option (List AV) → List AObj → Option (AV × List AObj)
 | true, some sz, some cells, h => some (.ptr h.length 0, h ++ [.arr false sz cells])
 | true, Option.none, some cells, h => some (.ptr h.length 0, h ++ [.box false cells])
 | false, _, some cells, h => some (.ptr h.length 0, h ++ [.box false cells])
 | _, _, Option.none, _ => Option.none
theorem alloc_arr {sz : Nat} {c : List AV} {h : List AObj} : allocV true (some sz) (some c) h = some (.ptr h.length 0, h ++ [.arr false sz c]) := rfl
theorem alloc_box {c : List AV} {h : List AObj} : allocV true Option.none (some c) h = some (.ptr h.length 0, h ++ [.box false c]) := rfl
theorem alloc_dr {q : Option Nat} {c : List AV} {h : List AObj} : allocV false q (some c) h = some (.ptr h.length 0, h ++ [.box false c]) := rfl
theorem r_alloc {T : TypeId} : runOp P G dr (.alloc T) d os K env h = contVH P G dr (allocV dr.isNone (arrSz P T) (zeroOf P T) h) d os K env := by
 simp only [runOp, runO, nilTest, arrV, awop, aop]
 cases arrSz P T <;> cases zeroOf P T <;> cases dr <;> rfl
theorem r_box {T : TypeId} {x : Operand} : runOp P G dr (.box T x) d os K env h = contVH P G dr (allocV dr.isNone (arrSz P T) (acells (aev G env x)) h) d os K env := by
 simp only [runOp, runO, nilTest, arrV, awop, aop]
 cases arrSz P T <;> cases acells (aev G env x) <;> cases dr <;> rfl
def abuild (pl : Option (List (Nat × Nat))) (z : Option (List AV)) (parts : List (Nat × AV)) : Option AV :=
 match pl, z with
 | some pl, some z => (afill (fun i => pl[i]?) z parts).map .agg
 | _, _ => Option.none
theorem r_build {T : TypeId} {parts : Array (Nat × Operand)} : runOp P G dr (.build T parts) d os K env h = contV P G dr (abuild (placesOf P T) (zeroOf P T) (parts.toList.map fun (i, x) => (i, aev G env x))) d os K env h := by
 simp only [runOp, runO, nilTest, arrV, awop, aop]
 cases placesOf P T with
 | none => rfl
 | some pl =>
   cases zeroOf P T with
   | none => rfl
   | some z =>
     simp only [abuild]
     cases afill (fun i => pl[i]?) z (parts.toList.map fun (i, x) => (i, aev G env x)) <;> rfl
def abuildSlice (h : List AObj) (el : Option TypeId) (len : Nat) (parts : List (Nat × AV)) : Option (AV × List AObj) :=
 match el with
 | some e => match zeroOf P e with
   | some z => if szOf P e = some z.length ∧ 0 < z.length ∧ len * z.length ≤ 65536 then
       (if len = 0 ∧ parts = [] then some (.e0, h) else (afill (fun i => some (i * z.length, z.length)) (List.replicate len z).flatten parts).map fun cells => (.hs h.length 0 len false, h ++ [.arr false z.length cells])) else Option.none
   | Option.none => Option.none
 | Option.none => Option.none
theorem r_buildSlice {T : TypeId} {len : Nat} {parts : Array (Nat × Operand)} : runOp P G dr (.buildSlice T len parts) d os K env h = contVH P G dr (abuildSlice (P := P) h (elemOf? P T) len (parts.toList.map fun (i, x) => (i, aev G env x))) d os K env := by
 simp only [runOp, runO, nilTest, arrV, awop, aop, abuildSlice]
 cases elemOf? P T with
 | none => rfl
 | some e =>
   simp only
   cases zeroOf P e with
   | none => rfl
   | some z =>
     simp only
     have hm : (parts.toList = []) ↔ ((parts.toList.map fun (i, x) => (i, aev G env x)) = []) := by simp
     simp only [hm]
     split
     · split
       · rfl
       · cases afill (fun i => some (i * z.length, z.length)) (List.replicate len z).flatten (parts.toList.map fun (i, x) => (i, aev G env x)) <;> rfl
     · rfl
def afill1 : Nat → List (Nat × AV) → Option (List AV)
 | _, [] => some []
 | i, (j, a) :: rest => if j = i then (match acells a with
   | some [c] => (afill1 (i + 1) rest).map (c :: ·)
   | _ => Option.none) else Option.none
theorem afill1_ok : ∀ (parts : List (Nat × AV)) (i : Nat) (cells pre : List AV) (z : AV), afill1 i parts = some cells → pre.length = i →
   afill (fun i => some (i * 1, 1)) (pre ++ List.replicate cells.length z) parts = some (pre ++ cells)
 | [], i, cells, pre, z, h, hp => by
   simp only [afill1, Option.some.injEq] at h
   subst h
   simp [afill]
 | (j, a) :: rest, i, cells, pre, z, h, hp => by
   simp only [afill1] at h
   split at h
   case isFalse => cases h
   rename_i hj
   subst hj
   split at h
   case h_2 => cases h
   rename_i c hc
   cases hr : afill1 (j + 1) rest with
   | none => simp [hr] at h
   | some cs =>
     simp only [hr, Option.map_some, Option.some.injEq] at h
     subst h
     have ih := afill1_ok rest (j + 1) cs (pre ++ [c]) z hr (by simp [hp])
     simp only [afill, hc, List.length_cons, List.length_nil, List.length_append, List.length_replicate, Nat.mul_one, Nat.zero_add]
     rw [if_pos ⟨trivial, by omega⟩]
     have hs : splice (pre ++ List.replicate (cs.length + 1) z) j [c] = (pre ++ [c]) ++ List.replicate cs.length z := by
       unfold splice
       rw [List.take_left' hp, List.length_singleton, List.drop_append, List.drop_of_length_le (by omega), hp]
       have : j + 1 - j = 1 := by omega
       rw [this, List.nil_append, List.replicate_succ, List.drop_succ_cons, List.drop_zero]
     have e1 : (fun i => some (i * 1, 1)) = (fun i : Nat => some (i, 1)) := by funext i; rw [Nat.mul_one]
     rw [e1] at ih
     rw [hs, ih, List.append_assoc]; rfl
theorem fill_nil {i : Nat} : afill1 i [] = some [] := rfl
theorem fill_s {i : Nat} {rest : List (Nat × AV)} {l : List UInt8} : afill1 i ((i, .s l) :: rest) = (afill1 (i + 1) rest).map (.s l :: ·) := by simp [afill1, acells, AV.one]
theorem fill_i {i : Nat} {rest : List (Nat × AV)} {k : IntKind} {n : Int} : afill1 i ((i, .i k n) :: rest) = (afill1 (i + 1) rest).map (.i k n :: ·) := by simp [afill1, acells, AV.one]
theorem fill_b {i : Nat} {rest : List (Nat × AV)} {b : Bool} : afill1 i ((i, .b b) :: rest) = (afill1 (i + 1) rest).map (.b b :: ·) := by simp [afill1, acells, AV.one]
theorem fill_e0 {i : Nat} {rest : List (Nat × AV)}  : afill1 i ((i, .e0) :: rest) = (afill1 (i + 1) rest).map (.e0 :: ·) := by simp [afill1, acells, AV.one]
theorem fill_sl {i : Nat} {rest : List (Nat × AV)} {c : List AV} {n : Nat} : afill1 i ((i, .sl c n) :: rest) = (afill1 (i + 1) rest).map (.sl c n :: ·) := by simp [afill1, acells, AV.one]
theorem fill_hs {i : Nat} {rest : List (Nat × AV)} {id o n : Nat} {t : Bool} : afill1 i ((i, .hs id o n t) :: rest) = (afill1 (i + 1) rest).map (.hs id o n t :: ·) := by simp [afill1, acells, AV.one]
theorem fill_ptr {i : Nat} {rest : List (Nat × AV)} {id o : Nat} : afill1 i ((i, .ptr id o) :: rest) = (afill1 (i + 1) rest).map (.ptr id o :: ·) := by simp [afill1, acells, AV.one]
theorem fill_p {i : Nat} {rest : List (Nat × AV)} {v : Value} : afill1 i ((i, .p v) :: rest) = (afill1 (i + 1) rest).map (.p v :: ·) := by simp [afill1, acells, AV.one]
theorem fill_mp {i : Nat} {rest : List (Nat × AV)} {id : Nat} : afill1 i ((i, .mp id) :: rest) = (afill1 (i + 1) rest).map (.mp id :: ·) := by simp [afill1, acells, AV.one]
theorem fill_fn {i : Nat} {rest : List (Nat × AV)} {f : FuncId} {a b : List AV} : afill1 i ((i, .fn f a b) :: rest) = (afill1 (i + 1) rest).map (.fn f a b :: ·) := by simp [afill1, acells, AV.one]
theorem fill_box {i : Nat} {rest : List (Nat × AV)} {c : List AV} {n : Nat} : afill1 i ((i, .box c n) :: rest) = (afill1 (i + 1) rest).map (.box c n :: ·) := by simp [afill1, acells, AV.one]
def abuildSlice1 (h : List AObj) (el : Option TypeId) (len : Nat) (parts : List (Nat × AV)) : Option (AV × List AObj) :=
 match el with
 | some e => match zeroOf P e, szOf P e, afill1 0 parts with
   | some [_], some 1, some cells => if cells.length = len ∧ 0 < len ∧ len ≤ 65536 then some (.hs h.length 0 len false, h ++ [.arr false 1 cells]) else abuildSlice (P := P) h (some e) len parts
   | _, _, _ => abuildSlice (P := P) h (some e) len parts
 | Option.none => Option.none
theorem abuildSlice1_eq {el : Option TypeId} {len : Nat} {parts : List (Nat × AV)} : abuildSlice (P := P) h el len parts = abuildSlice1 (P := P) h el len parts := by
 unfold abuildSlice1
 cases el with
 | none => rfl
 | some e =>
   simp only
   split
   · rename_i z cells hz hs hf
     split
     · rename_i hc
       obtain ⟨hc1, hc0, hc2⟩ := hc
       have := afill1_ok parts 0 cells [] z hf rfl
       simp only [abuildSlice, hz, hs, List.length_singleton]
       rw [if_pos ⟨trivial, by omega, by omega⟩, if_neg (by omega)]
       have e2 : (List.replicate len [z]).flatten = [] ++ List.replicate cells.length z := by
         rw [hc1, List.nil_append]
         clear this hc1 hc0 hc2 hf
         induction len with
         | zero => rfl
         | succ n ih => rw [List.replicate_succ, List.flatten_cons, ih, List.replicate_succ]; rfl
       rw [e2, this]; rfl
     · rfl
   · rfl
theorem r_buildSlice' {T : TypeId} {len : Nat} {parts : Array (Nat × Operand)} : runOp P G dr (.buildSlice T len parts) d os K env h = contVH P G dr (abuildSlice1 (P := P) h (elemOf? P T) len (parts.toList.map fun (i, x) => (i, aev G env x))) d os K env := by
 rw [r_buildSlice, abuildSlice1_eq]
theorem r_load {T : TypeId} {x : Operand} : runOp P G dr (.load T x) d os K env h = contV P G dr (aload P T h (aev G env x)) d os K env h := by
 simp only [runOp, runO, nilTest, arrV, awop, aop]; exact optK_map
theorem r_store {T : TypeId} {x y : Operand} : runOp P G dr (.store T x y) d os K env h = contH P G dr (astore P h T (aev G env x) (aev G env y)) d os K env := by
 simp only [runOp, runO, nilTest, arrV, awop, aop]
 cases astore P h T (aev G env x) (aev G env y) <;> rfl
def anil (h : List AObj) : AV → Option AV
 | .ptr id off => match h[id]? with | some (.box ..) | some (.arr ..) => some (.ptr id off) | _ => Option.none
 | .box cells off => some (.box cells off)
 | .fn f a b => some (.fn f a b)
 | _ => Option.none
theorem r_nilCheck {x : Operand} : runOp P G dr (.nilCheck x) d os K env h = contV P G dr (anil h (aev G env x)) d os K env h := by
 simp only [runOp, runO, nilTest, arrV, awop, aop, anil]
 cases aev G env x with
 | ptr id off =>
   simp only
   cases h[id]? with
   | none => rfl
   | some ob => cases ob <;> rfl
 | _ => rfl
theorem r_bin {op : BinOp} {T U : TypeId} {x : Operand} {t : Nat} : runOp P G dr (.binOp op T x (.tmp t) U) d os K env h = contV P G dr (aBin P op T (aev G env x) (aev G env (.tmp t))) d os K env h := by
 simp only [runOp, runO, nilTest, arrV, nilB, awop, aop]; exact optK_map
theorem r_bin_i {op : BinOp} {T U : TypeId} {x : Operand} {k : IntKind} {n : Int} : runOp P G dr (.binOp op T x (.const (.int k n)) U) d os K env h = contV P G dr (aBin P op T (aev G env x) (.i k n)) d os K env h := by
 simp only [runOp, runO, nilTest, arrV, nilB, awop, aop]; exact optK_map
theorem r_bin_s {op : BinOp} {T U : TypeId} {x : Operand} {b : ByteArray} : runOp P G dr (.binOp op T x (.const (.string b)) U) d os K env h = contV P G dr (aBin P op T (aev G env x) (aev G env (.const (.string b)))) d os K env h := by
 simp only [runOp, runO, nilTest, arrV, nilB, awop, aop]; exact optK_map
theorem r_bin_b {op : BinOp} {T U : TypeId} {x : Operand} {b : Bool} : runOp P G dr (.binOp op T x (.const (.bool b)) U) d os K env h = contV P G dr (aBin P op T (aev G env x) (.b b)) d os K env h := by
 simp only [runOp, runO, nilTest, arrV, nilB, awop, aop]; exact optK_map
def nilC (P : Program) (G : Glob) (A : Option TypeDesc) (v : AV) (d : Option Nat) (os : List AOper) (K : List AV → List AObj → Prop) (env : List AV) (h : List AObj) : Prop :=
 match A with
 | some (.slice _) => (match v with
   | .e0 => awops P G none os K (aput env d (.b true)) h ∧ awops P G none os K (aput env d (.b false)) h
   | .sl _ n => (n = 0 → awops P G none os K (aput env d (.b true)) h) ∧ awops P G none os K (aput env d (.b false)) h
   | _ => False)
 | _ => False
theorem r_nil {T U : TypeId} {x : Operand} : runOp P G none (.binOp .eql T x (.const (.slice none 0 0)) U) d os K env h = nilC P G (P.underlying T) (aev G env x) d os K env h := by
 simp only [runOp, runO, nilTest, arrV, nilB, nilK, nilC]
 cases P.underlying T with
 | none => rfl
 | some t => cases t <;> first | rfl | (cases aev G env x <;> rfl)
theorem r_un {op : UnOp} {T : TypeId} {x : Operand} : runOp P G dr (.unOp op T x) d os K env h = contV P G dr (aUn op (aev G env x)) d os K env h := by
 simp only [runOp, runO, nilTest, arrV, awop, aop]; exact optK_map
theorem r_conv {S T : TypeId} {x : Operand} : runOp P G dr (.convert S T x) d os K env h = contV P G dr (aConv P S T (aev G env x)) d os K env h := by
 simp only [runOp, runO, nilTest, arrV, awop, aop]; exact optK_map
theorem r_makeFunc {f : FuncId} {a b : Array Operand} : runOp P G dr (.makeFunc (.func f) a b) d os K env h = awops P G dr os K (aput env d (.fn f (a.toList.map (aev G env)) (b.toList.map (aev G env)))) h := rfl
theorem r_makeMap {T : TypeId} : runOp P G dr (.makeMap T none) d os K env h = awops P G dr os K (aput env d (.mp h.length)) (h ++ [.map false [] []]) := rfl
theorem r_makeSlice {T : TypeId} {l c : Operand} : runOp P G dr (.makeSlice T l c) d os K env h = contVH P G dr (amakeSlice P h T (aev G env l) (aev G env c)) d os K env := by
 simp only [runOp, runO, nilTest, arrV, awop, aop]
 cases amakeSlice P h T (aev G env l) (aev G env c) <;> rfl
theorem r_slice {T : TypeId} {x : Operand} {l hi m : Option Operand} : runOp P G dr (.slice T x l hi m) d os K env h = contV P G dr (aslice P h T (aev G env x) (l.map (aev G env)) (hi.map (aev G env)) (m.map (aev G env))) d os K env h := by
 simp only [runOp, runO, nilTest, arrV, awop, aop]; exact optK_map
def afieldAddr (h : List AObj) (q : Option (Nat × Option Nat)) (x : AV) : Option AV :=
 match q with
 | some (fo, some (_ + 1)) => match x with
   | .ptr id off => match h[id]? with | some (.box ..) | some (.arr ..) => some (.ptr id (off + fo)) | _ => Option.none
   | .box cells off => some (.box cells (off + fo))
   | _ => Option.none
 | _ => Option.none
def fieldAt? (P : Program) (S : TypeId) (f : Nat) : Option (Nat × Option Nat) := (fieldOf? P S f).map fun q => (q.1, szOf P q.2)
theorem r_fieldAddr {S : TypeId} {x : Operand} {f : Nat} : runOp P G dr (.fieldAddr S x f) d os K env h = contV P G dr (afieldAddr h (fieldAt? P S f) (aev G env x)) d os K env h := by
 simp only [runOp, runO, nilTest, arrV, awop, aop, afieldAddr, fieldAt?]
 cases fieldOf? P S f with
 | none => rfl
 | some q =>
   obtain ⟨fo, ft⟩ := q
   simp only [Option.map_some]
   cases szOf P ft with
   | none => rfl
   | some n =>
     cases n with
     | zero => rfl
     | succ n =>
       cases aev G env x with
       | ptr id off =>
         simp only
         cases h[id]? with
         | none => rfl
         | some ob => cases ob <;> rfl
       | _ => rfl
def afield (P : Program) (x : AV) (q : Option (Nat × TypeId)) : Option AV :=
 match x, q with
 | .agg cs, some (fo, ft) => apart P ft cs fo
 | _, _ => Option.none
theorem r_field {T : TypeId} {x : Operand} {f : Nat} : runOp P G dr (.field T x f) d os K env h = contV P G dr (afield P (aev G env x) (fieldOf? P T f)) d os K env h := by
 simp only [runOp, runO, nilTest, arrV, awop, aop, afield]
 cases aev G env x with
 | agg cs =>
   cases fieldOf? P T f with
   | none => rfl
   | some q => exact optK_map
 | _ => rfl
theorem r_indexAddr {T : TypeId} {x i : Operand} : runOp P G dr (.indexAddr T x i) d os K env h = contV P G dr (aindexAddr P h T (aev G env x) (aev G env i)) d os K env h := by
 simp only [runOp, runO, nilTest, arrV, awop, aop]; exact optK_map
theorem r_index {T : TypeId} {x i : Operand} : runOp P G dr (.index T x i) d os K env h = contV P G dr (aindex P T (aev G env x) (aev G env i)) d os K env h := by
 simp only [runOp, runO, nilTest, arrV, awop, aop]; exact optK_map
theorem r_lookup {T : TypeId} {m k : Operand} {ok : Bool} : runOp P G dr (.lookup T m k ok) d os K env h = contV P G dr (alookup P h T (aev G env m) (aev G env k) ok) d os K env h := by
 simp only [runOp, runO, nilTest, arrV, awop, aop]; exact optK_map
def aupdS (P : Program) (h : List AObj) (T : TypeId) (m k x : AV) : Option (List AObj) :=
 if pers x then amapUpdate P h T m k x else amapUpdate P (freeze (reach dep h x) h) T m k (snap dep h x)
theorem r_mapUpdate {T : TypeId} {m k x : Operand} : runOp P G dr (.mapUpdate T m k x) d os K env h = contH P G dr (aupdS P h T (aev G env m) (aev G env k) (aev G env x)) d os K env := by
 simp only [runOp, runO, nilTest, arrV, awop, aupdS]
 split
 · cases amapUpdate P h T (aev G env m) (aev G env k) (aev G env x) <;> rfl
 · cases amapUpdate P (freeze (reach dep h (aev G env x)) h) T (aev G env m) (aev G env k) (snap dep h (aev G env x)) <;> rfl
def atup : AV → Nat → Option AV
 | .tup vs, i => vs[i]?
 | _, _ => Option.none
theorem r_extract {x : Operand} {i : Nat} : runOp P G dr (.extract x i) d os K env h = contV P G dr (atup (aev G env x) i) d os K env h := by
 simp only [runOp, runO, nilTest, arrV, awop, aop, atup]
 cases aev G env x with
 | tup vs => exact optK_map
 | _ => rfl
theorem r_len {T : TypeId} {x : Operand} : runOp P G dr (.call ⟨.builtin .len, #[x], #[T]⟩) d os K env h = contV P G dr ((alen P h T (aev G env x)).map fun n => .i .i64 (Int.ofNat n)) d os K env h := by
 simp only [runOp, runO, nilTest, arrV, awop, acall, abuiltin, List.map_cons, List.map_nil]
 cases alen P h T (aev G env x) <;> rfl
def aappS (P : Program) (h : List AObj) (T : TypeId) (s x : AV) : Option (AV × List AObj) :=
 if winPers h x then aappend P h T s x else aappend P (freeze (reach dep h x) h) T s (snap dep h x)
theorem r_append {T : TypeId} {s x : Operand} : runOp P G dr (.call ⟨.builtin .append, #[s, x], #[T, T]⟩) d os K env h = contVH P G dr (aappS P h T (aev G env s) (aev G env x)) d os K env := by
 simp only [runOp, runO, nilTest, arrV, awop, acall, List.map_cons, List.map_nil, if_true, aappS]
 split
 · cases aappend P h T (aev G env s) (aev G env x) <;> rfl
 · cases aappend P (freeze (reach dep h (aev G env x)) h) T (aev G env s) (snap dep h (aev G env x)) <;> rfl
def zerosC (P : Program) (G : Glob) (dr : Option Nat) (A : Option TypeDesc) (q : Option (AV × List AObj)) (d : Option Nat) (os : List AOper) (K : List AV → List AObj → Prop) (env : List AV) : Prop :=
 match A with
 | some (.int _) => contVH P G dr q d os K env
 | _ => False
theorem zeros_int {k : IntKind} {q : Option (AV × List AObj)} : zerosC P G dr (some (.int k)) q d os K env = contVH P G dr q d os K env := rfl
theorem r_appendZ {T U : TypeId} (hTU : T ≠ U) {s x : Operand} : runOp P G dr (.call ⟨.builtin .append, #[s, x], #[T, U]⟩) d os K env h = zerosC P G dr (P.underlying U) (azeros P h T (aev G env s) (aev G env x)) d os K env := by
 simp only [runOp, runO, nilTest, arrV, awop, acall, List.map_cons, List.map_nil, if_neg hTU]
 generalize azeros P h T (aev G env s) (aev G env x) = q
 cases P.underlying U with
 | none => rfl
 | some t => cases t <;> first | rfl | (cases q <;> rfl)
theorem r_cap {T : TypeId} {x : Operand} : runOp P G dr (.call ⟨.builtin .cap, #[x], #[T]⟩) d os K env h = contVH P G dr (abuiltin P h .cap #[T] [aev G env x]) d os K env := by
 simp only [runOp, runO, nilTest, arrV, awop, acall, List.map_cons, List.map_nil]
 cases abuiltin P h .cap #[T] [aev G env x] <;> rfl
theorem r_max {T U : TypeId} {x y : Operand} : runOp P G dr (.call ⟨.builtin .max, #[x, y], #[T, U]⟩) d os K env h = contVH P G dr (abuiltin P h .max #[T, U] [aev G env x, aev G env y]) d os K env := by
 simp only [runOp, runO, nilTest, arrV, awop, acall, List.map_cons, List.map_nil]
 cases abuiltin P h .max #[T, U] [aev G env x, aev G env y] <;> rfl
theorem max_ii {t : Array TypeId} {h : List AObj} {k : IntKind} {x y : Int} : abuiltin P h .max t [.i k x, .i k y] = some (.i k (if y > x then y else x), h) := by simp [abuiltin]
theorem cap_e0 {T e : TypeId} {h : List AObj} (hT : P.underlying T = some (.slice e)) : abuiltin P h .cap #[T] [.e0] = some (.i .i64 0, h) := by simp [abuiltin, hT]
theorem aappS_e0 {T : TypeId} {x : AV} {h : List AObj} : aappS P h T .e0 x = if winPers h x then aappend P h T .e0 x else aappend P (freeze (reach dep h x) h) T .e0 (snap dep h x) := rfl
theorem aappS_hs {T : TypeId} {x : AV} {h : List AObj} {id o n : Nat} {t : Bool} : aappS P h T (.hs id o n t) x = if winPers h x then aappend P h T (.hs id o n t) x else aappend P (freeze (reach dep h x) h) T (.hs id o n t) (snap dep h x) := rfl
theorem r_call {fx : Operand} {args : Array Operand} {tys : Array TypeId} : runOp P G dr (.call ⟨.value fx, args, tys⟩) d os K env h = callC P G dr (aev G env fx) (args.toList.map (aev G env)) d os K env h := by
 simp only [runOp, runO, nilTest, arrV, awop, acall, callC]
 cases aev G env fx <;> rfl
def rangeC (P : Program) (G : Glob) (T : Option TypeDesc) (x : AV) (h1 : List AObj) (d : Option Nat) (os : List AOper) (K : List AV → List AObj → Prop) (env : List AV) : Prop :=
 match T, x with
 | some (.map _ _), .mapv ks vs => awops P G none os K (aput env d (.ptr h1.length 0)) (h1 ++ [.mit none ks vs])
 | some .string, .s l => awops P G none os K (aput env d (.ptr h1.length 0)) (h1 ++ [.sit l 0])
 | _, _ => False
theorem r_range {T : TypeId} {x : Operand} : runOp P G none (.range T x) d os K env h = rangeC P G (P.underlying T) (snap dep h (aev G env x)) (freeze (reach dep h (aev G env x)) h) d os K env := by
 simp only [runOp, runO, nilTest, arrV, awop, Option.isSome_none, Bool.false_eq_true, if_false, rangeC]
 cases P.underlying T with
 | none => rfl
 | some t => cases t <;> first | rfl | (cases snap dep h (aev G env x) <;> rfl)
theorem range_map {A B : TypeId} {ks vs : List AV} {h1 : List AObj} : rangeC P G (some (.map A B)) (.mapv ks vs) h1 d os K env = awops P G none os K (aput env d (.ptr h1.length 0)) (h1 ++ [.mit none ks vs]) := rfl
def nextC (P : Program) (G : Glob) (x : AV) (d : Option Nat) (os : List AOper) (K : List AV → List AObj → Prop) (env : List AV) (h : List AObj) : Prop :=
 match x with
 | .ptr id 0 => match h[id]? with
   | some (.mit _ ks vs) => (ks = [] → awops P G none os K (aput env d (.tup [.b false])) h) ∧ ∀ (j : Nat) (k v : AV), ks[j]? = some k → vs[j]? = some v → awops P G none os K (aput env d (.tup [.b true, k, v])) (h.set id (.mit (some (k, v)) (ks.eraseIdx j) (vs.eraseIdx j)))
   | _ => False
 | _ => False
theorem r_next {x : Operand} : runOp P G none (.next x false) d os K env h = nextC P G (aev G env x) d os K env h := by
 simp only [runOp, runO, nilTest, arrV, awop, Option.isSome_none, Bool.false_eq_true, if_false, nextC]
 cases aev G env x with
 | ptr id o => cases o with
   | zero => simp only; cases h[id]? with
     | none => rfl
     | some ob => cases ob <;> rfl
   | succ o => rfl
 | _ => rfl
theorem range_str {l : List UInt8} {h1 : List AObj} : rangeC P G (some .string) (.s l) h1 d os K env = awops P G none os K (aput env d (.ptr h1.length 0)) (h1 ++ [.sit l 0]) := rfl
def nextSC (P : Program) (G : Glob) (x : AV) (d : Option Nat) (os : List AOper) (K : List AV → List AObj → Prop) (env : List AV) (h : List AObj) : Prop :=
 match x with
 | .ptr id 0 => match h[id]? with
   | some (.sit l pos) => (l.length ≤ pos → awops P G none os K (aput env d (.tup [.b false])) h) ∧ ∀ (c : UInt8), l[pos]? = some c → (c.toNat < 128 → awops P G none os K (aput env d (.tup [.b true, .i .i64 pos, .i .i32 c.toNat])) (h.set id (.sit l (pos + 1)))) ∧
       ∀ (rn k : Nat), 128 ≤ c.toNat → 128 ≤ rn → rn ≤ 2147483647 → 1 ≤ k → awops P G none os K (aput env d (.tup [.b true, .i .i64 pos, .i .i32 rn])) (h.set id (.sit l (pos + k)))
   | _ => False
 | _ => False
theorem r_nextS {x : Operand} : runOp P G none (.next x true) d os K env h = nextSC P G (aev G env x) d os K env h := by
 simp only [runOp, runO, nilTest, arrV, awop, Option.isSome_none, Bool.false_eq_true, if_false, nextSC]
 cases aev G env x with
 | ptr id o => cases o with
   | zero => simp only; cases h[id]? with
     | none => rfl
     | some ob => cases ob <;> rfl
   | succ o => rfl
 | _ => rfl
theorem nextS_intro {id : Nat} {l : List UInt8} {pos : Nat} (hid : h[id]? = some (.sit l pos)) (h0 : l.length ≤ pos → awops P G none os K (aput env d (.tup [.b false])) h)
   (h1 : ∀ (c : UInt8), l[pos]? = some c → c.toNat < 128 → awops P G none os K (aput env d (.tup [.b true, .i .i64 pos, .i .i32 c.toNat])) (h.set id (.sit l (pos + 1))))
   (h2 : ∀ (c : UInt8) (rn k : Nat), l[pos]? = some c → 128 ≤ c.toNat → 128 ≤ rn → rn ≤ 2147483647 → 1 ≤ k → awops P G none os K (aput env d (.tup [.b true, .i .i64 pos, .i .i32 rn])) (h.set id (.sit l (pos + k)))) : nextSC P G (.ptr id 0) d os K env h := by
 unfold nextSC
 simp only [hid]
 exact ⟨h0, fun c hc => ⟨h1 c hc, fun rn k => h2 c rn k hc⟩⟩
def entryC (P : Program) (G : Glob) (x : AV) (d : Option Nat) (os : List AOper) (K : List AV → List AObj → Prop) (env : List AV) (h : List AObj) : Prop :=
 match x with
 | .ptr id 0 => match h[id]? with
   | some (.mit (some (k, v)) _ _) => awops P G none os K (aput env d (.tup [k, v])) h
   | _ => False
 | _ => False
theorem r_entry {x : Operand} : runOp P G none (.entry x) d os K env h = entryC P G (aev G env x) d os K env h := by
 simp only [runOp, runO, nilTest, arrV, awop, Option.isSome_none, Bool.false_eq_true, if_false, entryC]
 cases aev G env x with
 | ptr id o => cases o with
   | zero => simp only; cases h[id]? with
     | none => rfl
     | some ob => cases ob with
       | mit c _ _ => cases c <;> rfl
       | _ => rfl
   | succ o => rfl
 | _ => rfl
theorem c_fn {f : FuncId} {a b args : List AV} : callC P G dr (.fn f a b) args d os K env h = callF P G dr f (a ++ args ++ b) d os K env h := rfl
theorem c_ctr {f : FuncId} {A : List AV} {r : AV} (s : Ctr P G f (A.map (snap dep h)) r) (k : awops P G dr os K (aput env d (mat r (hAfter r h A)).1) (mat r (hAfter r h A)).2) : callF P G dr f A d os K env h := by
 cases dr
 · exact ACalls.sem s k
 · exact ⟨r, s, k⟩

def snap0 (h : List AObj) : AV → AV
 | .e0 => .e0
 | a => snap dep h a
theorem c_ctr0 {f : FuncId} {A A' : List AV} {r : AV} (s : Ctr P G f A' r) (hA : A.map (snap0 h) = A') (k : awops P G none os K (aput env d (mat r (hAfter r h A)).1) (mat r (hAfter r h A)).2) : callF P G none f A d os K env h := by
 subst hA
 refine ACalls.sem0 s (by simp) (fun j a a' h1 h2 => ?_) k
 rw [List.getElem?_map, h1] at h2
 simp only [Option.map_some, Option.some.injEq] at h2
 subst h2
 cases a <;> first | exact .inr ⟨rfl, rfl⟩ | exact .inl rfl

theorem v_some {v : AV} : contV P G dr (some v) d os K env h = awops P G dr os K (aput env d v) h := rfl
theorem v_ite {c : Prop} [Decidable c] {v : AV} : contV P G dr (if c then some v else Option.none) d os K env h = (c ∧ awops P G dr os K (aput env d v) h) := by
 by_cases hc : c <;> simp [hc, contV]
theorem h_some {h' : List AObj} : contH P G dr (some h') d os K env = awops P G dr os K (aput env d .u) h' := rfl
theorem h_ite {c : Prop} [Decidable c] {h' : List AObj} : contH P G dr (if c then some h' else Option.none) d os K env = (c ∧ awops P G dr os K (aput env d .u) h') := by
 by_cases hc : c <;> simp [hc, contH]
theorem vh_some {v : AV} {h' : List AObj} : contVH P G dr (some (v, h')) d os K env = awops P G dr os K (aput env d v) h' := rfl
theorem vh_ite {c : Prop} [Decidable c] {v : AV} {h' : List AObj} : contVH P G dr (if c then some (v, h') else Option.none) d os K env = (c ∧ awops P G dr os K (aput env d v) h') := by
 by_cases hc : c <;> simp [hc, contVH]
theorem put_some {n : Nat} {x : AV} : aput env (some n) x = env.set n x := rfl
theorem put_none {x : AV} : aput env Option.none x = env := rfl
theorem ev_tmp {t : Nat} : aev G env (.tmp t) = env.getD t .u := rfl
theorem ev_const {v : Value} : aev G env (.const v) = aval v := rfl
theorem ev_func {f : FuncId} : aev G env (.func f) = .fn f [] [] := rfl
end

attribute [go_sem] fill_nil fill_s fill_i fill_b fill_e0 fill_sl fill_hs fill_ptr fill_p fill_mp fill_fn fill_box
attribute [go_sem ↓] x_skip x_region x_draw x_drawN x_seq x_cond x_block ops_nil ops_cons ops_guard ops_ck r_move r_assign r_pick r_alloc r_box r_build r_buildSlice' r_load r_store r_nilCheck r_bin r_bin_i r_bin_s r_bin_b r_nil r_un r_conv r_makeFunc r_makeMap r_makeSlice r_slice r_fieldAddr r_field r_indexAddr r_index r_lookup r_mapUpdate r_extract r_len r_append r_appendZ r_cap r_max r_call r_range r_next r_nextS r_entry
attribute [go_sem] Int.toNat_one zeros_int x_exit x_ret then_normal then_exit then_ret block_normal block_ret block_exit cond_t cond_f guard_tt guard_ff guard_tf guard_ft guard_no c_fn v_some v_ite h_some h_ite vh_some vh_ite put_some put_none ev_tmp ev_const ev_func
attribute [go_sem] alloc_arr alloc_box alloc_dr max_ii
attribute [go_sem] aval aval1 alen aindexAddr aindex aload aobj apart astore splice acells AV.one aBin aBinI cmpI aBinS aEq leafEqT aUn aConv aslice awin winPers alookup amapOf aupdS amapUpdate aappS_e0 aappS_hs azeros aappend amakeSlice range_map range_str apick afieldAddr afield atup anil abuild abuildSlice1 abuildSlice afill
attribute [go_sem] List.set_cons_succ List.set_cons_zero List.getD_cons_succ List.getD_cons_zero List.map_cons List.map_nil Option.map_some Int.ofNat_eq_natCast Int.toNat_natCast Nat.mul_one Nat.zero_mul Nat.zero_add Nat.add_zero List.getElem?_cons_zero List.getElem?_cons_succ List.length_cons List.length_nil List.nil_append List.cons_append List.append_nil List.take_succ_cons List.take_zero List.drop_succ_cons List.drop_zero
attribute [go_sem] reach pers persL flat flatL mat matL hAfter ares aresL ares1

inductive Slot where
 | k
 | j
 | v (x : AV)

def mkEnv (F : Nat → AV) : Nat → List Slot → List AV → List AV
 | i, .k :: ps, v :: vs => v :: mkEnv F (i + 1) ps vs
 | i, .j :: ps, _ :: vs => F i :: mkEnv F (i + 1) ps vs
 | i, .v x :: ps, _ :: vs => x :: mkEnv F (i + 1) ps vs
 | _, _, _ => []
def Fits : List Slot → List AV → List AV → Prop
 | .k :: ps, v :: vs, w :: ws => w = v ∧ Fits ps vs ws
 | .j :: ps, _ :: vs, _ :: ws => Fits ps vs ws
 | .v x :: ps, _ :: vs, w :: ws => w = x ∧ Fits ps vs ws
 | [], [], [] => True
 | _, _, _ => False

theorem mk_fits : ∀ (ps : List Slot) (E e : List AV) (i : Nat) (F : Nat → AV), (∀ m v, e[m]? = some v → F (i + m) = v) → Fits ps E e → mkEnv F i ps E = e := by
 intro ps
 induction ps with
 | nil => intro E e i F _ h; cases E <;> cases e <;> simp [Fits] at h; simp [mkEnv]
 | cons p ps ih =>
   intro E e i F hF h
   cases E with
   | nil => cases e <;> cases p <;> simp [Fits] at h
   | cons v vs =>
     cases e with
     | nil => cases p <;> simp [Fits] at h
     | cons w ws =>
       have hF' : ∀ m v, ws[m]? = some v → F (i + 1 + m) = v := fun m u hm => by have := hF (m + 1) u (by simpa using hm); rw [← this]; congr 1; omega
       cases p with
       | k => obtain ⟨h1, h2⟩ := h; simp only [mkEnv]; rw [ih vs ws _ F hF' h2, h1]
       | j => simp only [mkEnv]; rw [ih vs ws _ F hF' h]; have := hF 0 w rfl; simpa using this
       | v x => obtain ⟨h1, h2⟩ := h; simp only [mkEnv]; rw [ih vs ws _ F hF' h2, h1]

section
variable {P : Program} {G : Glob} {env : List AV} {h : List AObj} {Q : Exit → List AV → List AObj → Prop}

theorem x_loopJ {c : ACode} {S : Type} (ps : S → List Slot) (hp : S → List AObj) (I : S → Prop) (μ : S → Nat) (s0 : S) (h0 : I s0) (hh : h = hp s0) (k0 : Fits (ps s0) env env)
   (round : ∀ (s : S) (j : Nat → AV), I s → awx P G c (thenX (fun e' h' => ∃ s', I s' ∧ μ s' < μ s ∧ h' = hp s' ∧ Fits (ps s') env e') Q) (mkEnv j 0 (ps s) env) (hp s)) : awx P G (.loop c) Q env h := by
 refine x_loopS (fun s e h' => I s ∧ h' = hp s ∧ Fits (ps s) env e) μ s0 ⟨h0, hh, k0⟩ ?_
 rintro s e h' ⟨hI, rfl, hf⟩
 have he : mkEnv (fun n => e.getD n .u) 0 (ps s) env = e := mk_fits _ env e 0 _ (fun m v hv => by simp [List.getD, hv]) hf
 have r := round s (fun n => e.getD n .u) hI
 rw [he] at r
 have mono : (fun e2 h2 => ∃ s', I s' ∧ μ s' < μ s ∧ h2 = hp s' ∧ Fits (ps s') env e2) = fun e2 h2 => ∃ s', (I s' ∧ h2 = hp s' ∧ Fits (ps s') env e2) ∧ μ s' < μ s := by
   funext e2 h2
   exact propext ⟨fun ⟨s', a, b, c, d⟩ => ⟨s', ⟨a, c, d⟩, b⟩, fun ⟨s', ⟨a, c, d⟩, b⟩ => ⟨s', a, b, c, d⟩⟩
 rw [mono] at r
 exact r

end

section
variable {P : Program} {G : Glob} {env : List AV} {h : List AObj} {Q : Exit → List AV → List AObj → Prop}
theorem x_loopG {c : ACode} {S : Type} (ps : S → List Slot) (hp : S → List AObj) (I : S → Prop) (μ : S → Nat) (s0 : S) (g0 : List AObj) (h0 : I s0) (hh : h = hp s0 ++ g0) (k0 : Fits (ps s0) env env)
   (round : ∀ (s : S) (g : List AObj) (j : Nat → AV), I s → awx P G c (thenX (fun e' h' => ∃ s' g', I s' ∧ μ s' < μ s ∧ h' = hp s' ++ g' ∧ Fits (ps s') env e') Q) (mkEnv j 0 (ps s) env) (hp s ++ g)) : awx P G (.loop c) Q env h := by
 refine x_loopJ (S := S × List AObj) (fun s => ps s.1) (fun s => hp s.1 ++ s.2) (fun s => I s.1) (fun s => μ s.1) (s0, g0) h0 hh k0 ?_
 rintro ⟨s, g⟩ j hI
 have r := round s g j hI
 have mono : (fun (e2 : List AV) (h2 : List AObj) => ∃ s' g', I s' ∧ μ s' < μ s ∧ h2 = hp s' ++ g' ∧ Fits (ps s') env e2) = fun e2 h2 => ∃ s' : S × List AObj, I s'.1 ∧ μ s'.1 < μ s ∧ h2 = hp s'.1 ++ s'.2 ∧ Fits (ps s'.1) env e2 := by
   funext e2 h2
   exact propext ⟨fun ⟨s', g', a, b, c, d⟩ => ⟨(s', g'), a, b, c, d⟩, fun ⟨s', a, b, c, d⟩ => ⟨s'.1, s'.2, a, b, c, d⟩⟩
 rw [mono] at r
 exact r
end

section
variable {α : Type} {f : α → List AV} {m : Nat}
theorem flat_len (hf : ∀ x, (f x).length = m) : ∀ (l : List α), (l.flatMap f).length = l.length * m
 | [] => by simp
 | x :: l => by rw [List.flatMap_cons, List.length_append, hf, flat_len hf l, List.length_cons, Nat.succ_mul, Nat.add_comm]
theorem flat_drop (hf : ∀ x, (f x).length = m) : ∀ (l : List α) (k : Nat), (l.flatMap f).drop (k * m) = (l.drop k).flatMap f
 | l, 0 => by simp
 | [], k + 1 => by simp
 | x :: l, k + 1 => by
   rw [List.flatMap_cons, Nat.succ_mul, Nat.add_comm, ← List.drop_drop, List.drop_left' (hf x), flat_drop hf l k, List.drop_succ_cons]
theorem flat_take (hf : ∀ x, (f x).length = m) : ∀ (l : List α) (k : Nat), (l.flatMap f).take (k * m) = (l.take k).flatMap f
 | l, 0 => by simp
 | [], k + 1 => by simp
 | x :: l, k + 1 => by
   rw [List.flatMap_cons, Nat.succ_mul, Nat.add_comm, List.take_append, hf, Nat.add_sub_cancel_left, flat_take hf l k, List.take_succ_cons, List.flatMap_cons, List.take_of_length_le (by rw [hf]; omega)]
theorem flat_win (hf : ∀ x, (f x).length = m) (l : List α) (k : Nat) : ((l.flatMap f).drop (k * m)).take m = ((l[k]?).map f).getD [] := by
 rw [flat_drop hf]
 have : (l.drop k).flatMap f = ((l[k]?).map f).getD [] ++ (l.drop (k + 1)).flatMap f := by
   cases hk : l[k]? with
   | none =>
     have hle := List.getElem?_eq_none_iff.1 hk
     rw [List.drop_of_length_le hle, List.drop_of_length_le (by omega)]; simp
   | some x =>
     obtain ⟨hlt, hx⟩ := List.getElem?_eq_some_iff.1 hk
     rw [List.drop_eq_getElem_cons hlt, List.flatMap_cons, hx]; simp
 rw [this]
 cases hk : l[k]? with
 | none =>
   have hle := List.getElem?_eq_none_iff.1 hk
   rw [List.drop_of_length_le (by omega)]; simp
 | some x => simp [List.take_left' (hf x)]
theorem flat_get (hf : ∀ x, (f x).length = m) (l : List α) (k : Nat) {j : Nat} (hj : j < m) : (l.flatMap f)[k * m + j]? = (l[k]?).bind fun x => (f x)[j]? := by
 have h1 : (l.flatMap f)[k * m + j]? = ((((l.flatMap f).drop (k * m)).take m))[j]? := by
   rw [List.getElem?_take_of_lt hj, List.getElem?_drop]
 rw [h1, flat_win hf]
 cases hk : l[k]? with
 | none => simp
 | some x => simp
end
end Go.Vo

namespace Go.Vo
section
variable {P : Program} {G : Glob} {dr : Option Nat} {d : Option Nat} {os : List AOper} {K : List AV → List AObj → Prop} {env : List AV} {h : List AObj} {Q : Exit → List AV → List AObj → Prop}
theorem g_true {op : Op} {x : Bool} (h1 : x = true → runOp P G dr op d os K env h) (h2 : x = false → awops P G dr os K (aput env d (.tup [])) h) : guardC P G dr (.b x) true op d os K env h := guard_intro h1 h2
theorem g_false {op : Op} {x : Bool} (h1 : x = false → runOp P G dr op d os K env h) (h2 : x = true → awops P G dr os K (aput env d (.tup [])) h) : guardC P G dr (.b x) false op d os K env h := guard_intro h1 h2
end
theorem fin_eq {h : List AObj} {x r : AV} (hr : r = x) (hp : pers x = true) : Fin h x r := .inl ⟨hr, hp⟩
attribute [go_sem] true_and and_true if_true if_false Bool.false_eq_true Option.some.injEq exists_eq_left' reduceCtorEq or_true false_or true_or or_false
attribute [go_sem] mkEnv Fits
theorem wrap64 {x : Int} (h1 : -9223372036854775808 ≤ x) (h2 : x ≤ 9223372036854775807) : IntKind.i64.wrap x = x := IntWalk.i64_in _ (by omega)
theorem str_nil {s : List UInt8} : decide (s = []) = decide (s.length = 0) := by cases s <;> simp
attribute [go_sem] wrap64 str_nil Int.toNat_zero Bool.not_true Bool.not_false
theorem anat_none {d : Nat} : anat Option.none d = some d := rfl
theorem anat_pos {k : IntKind} {n : Int} {d : Nat} (h : 0 ≤ n) : anat (some (.i k n)) d = some n.toNat := if_pos h
theorem toNat_sub1 {m : Nat} : ((m : Int) - 1).toNat = m - 1 := by omega
theorem toNat_sub2 {m : Nat} : ((m : Int) - 2).toNat = m - 2 := by omega
theorem toNat_add1 {m : Nat} : ((m : Int) + 1).toNat = m + 1 := by omega
theorem toNat_sub21 {m : Nat} (h : 2 ≤ m) : ((m : Int) - 2 + 1).toNat = m - 1 := by omega
attribute [go_sem] anat_none anat_pos toNat_sub1 toNat_sub2 toNat_add1 toNat_sub21 Option.map_none Option.isSome_none Option.isSome_some Option.isNone_none Option.isNone_some Bool.and_false Bool.false_and Bool.true_and Bool.and_true
theorem map_s_get {l : List (List UInt8)} {k : Nat} (h : k < l.length) : (l.map AV.s)[k]? = some (.s (l.getD k [])) := by simp [h]
theorem map_i_get {q : IntKind} {l : List Int} {k : Nat} (h : k < l.length) : (l.map (AV.i q))[k]? = some (.i q (l.getD k 0)) := by simp [h]
attribute [go_sem] map_s_get map_i_get
theorem fin_own {h : List AObj} {id sz n m : Nat} {cells cs : List AV} (hid : h[id]? = some (.arr false sz cs)) (hm : m = n) (hc : cells = cs) (hl : cs.length = n * sz) (hp : persL cs = true) : Fin h (.hs id 0 n false) (.own sz cells m) := by
 subst hm hc
 refine .inr ⟨⟨rfl, rfl, cells, hid, by omega, ?_, hp⟩, by simp [finIds], by simp [finIds, finRch]⟩
 rw [List.drop_zero, List.take_of_length_le (by omega)]
theorem take_all {α : Type} {l : List α} {n : Nat} (h : l.length ≤ n) : l.take n = l := List.take_of_length_le h
attribute [go_sem] List.length_map
def snapS (h : List AObj) (a : AV) : AV :=
 let L := fun l => if persL l then l else l.map (snap 8 h)
 match a with
 | .e0 => .sl [] 0
 | .hs id off n _ => match h[id]? with
   | some (.arr _ sz cells) => if off + n * sz ≤ cells.length then .sl (L ((cells.drop off).take (n * sz))) n else .u
   | _ => .u
 | .ptr id off => match h[id]? with
   | some (.box _ cells) => .box (L cells) off
   | some (.arr _ _ cells) => .box (L cells) off
   | _ => .u
 | .mp id => match h[id]? with
   | some (.map _ ks vs) => .mapv (L ks) (L vs)
   | _ => .u
 | .fn f a b => .fn f (L a) (L b)
 | .agg cs => .agg (L cs)
 | .tup vs => .tup (L vs)
 | _ => .u
theorem snap_dep {h : List AObj} {a : AV} : snap dep h a = if pers a then a else snapS h a := rfl
theorem persL_s {l : List (List UInt8)} : persL (l.map AV.s) = true := by
 induction l with
 | nil => rfl
 | cons x l ih => simp [persL, pers, ih]
theorem persL_i {k : IntKind} {l : List Int} : persL (l.map (AV.i k)) = true := by
 induction l with
 | nil => rfl
 | cons x l ih => simp [persL, pers, ih]
theorem c_ctrE {P : Program} {G : Glob} {dr : Option Nat} {d : Option Nat} {os : List AOper} {K : List AV → List AObj → Prop} {env : List AV} {h : List AObj} {f : FuncId} {A A' : List AV} {r : AV} (s : Ctr P G f A' r) (hA : A.map (snap dep h) = A')
   (k : awops P G dr os K (aput env d (mat r (hAfter r h A)).1) (mat r (hAfter r h A)).2) : callF P G dr f A d os K env h := c_ctr (hA ▸ s) k
theorem take_map {α β : Type} {f : α → β} {l : List α} {k : Nat} : (l.map f).take k = (l.take k).map f := List.map_take.symm
theorem drop_map {α β : Type} {f : α → β} {l : List α} {k : Nat} : (l.map f).drop k = (l.drop k).map f := List.map_drop.symm
theorem len_take {α : Type} {l : List α} {k : Nat} (h : k ≤ l.length) : (l.take k).length = k := by simp; omega
attribute [go_sem] snap_dep snapS persL_s persL_i take_map drop_map len_take List.length_drop Nat.sub_zero
attribute [go_sem] take_all
theorem flatL_s {l : List (List UInt8)} : flatL (l.map AV.s) = true := by
 induction l with
 | nil => rfl
 | cons x l ih => simp [flatL, flat, ih]
theorem flatL_i {k : IntKind} {l : List Int} : flatL (l.map (AV.i k)) = true := by
 induction l with
 | nil => rfl
 | cons x l ih => simp [flatL, flat, ih]
attribute [go_sem] Nat.le_refl flatL_s flatL_i List.take_length List.flatMap_nil List.flatMap_cons freeze AObj.fz
section
variable {P : Program} {G : Glob} {N : Nat} {env : List AV}
def oldOpt (N : Nat) (G : Glob) (env : List AV) : Option Operand → Prop
 | some x => oldRef N (aev G env x)
 | Option.none => True
theorem ck_load {T : TypeId} {x : Operand} : ckOp G N (.load T x) env = oldRef N (aev G env x) := by simp [ckOp, Op.operands, oldAll]
theorem ck_store {T : TypeId} {a x : Operand} : ckOp G N (.store T a x) env = newRef N (aev G env a) := rfl
theorem ck_nil {x : Operand} : ckOp G N (.nilCheck x) env = oldRef N (aev G env x) := by simp [ckOp, Op.operands, oldAll]
theorem ck_fieldAddr {T : TypeId} {x : Operand} {f : Nat} : ckOp G N (.fieldAddr T x f) env = oldRef N (aev G env x) := by simp [ckOp, Op.operands, oldAll]
theorem ck_indexAddr {T : TypeId} {x i : Operand} : ckOp G N (.indexAddr T x i) env = (oldRef N (aev G env x) ∧ oldRef N (aev G env i)) := by simp [ckOp, Op.operands, oldAll]
theorem ck_lookup {T : TypeId} {x i : Operand} {ok : Bool} : ckOp G N (.lookup T x i ok) env = (oldRef N (aev G env x) ∧ oldRef N (aev G env i)) := by simp [ckOp, Op.operands, oldAll]
theorem ck_slice {T : TypeId} {x : Operand} {l hi m : Option Operand} : ckOp G N (.slice T x l hi m) env = (oldRef N (aev G env x) ∧ oldOpt N G env l ∧ oldOpt N G env hi ∧ oldOpt N G env m) := by
 cases l <;> cases hi <;> cases m <;> simp [ckOp, Op.operands, oldAll, oldOpt]
theorem ck_len {T : TypeId} {x : Operand} : ckOp G N (.call ⟨.builtin .len, #[x], #[T]⟩) env = oldRef N (aev G env x) := by simp [ckOp, Op.operands, Call.operands, oldAll]
theorem ck_append {T : TypeId} {s x : Operand} : ckOp G N (.call ⟨.builtin .append, #[s, x], #[T, T]⟩) env = newRef N (aev G env s) := by simp [ckOp]
end
theorem get_off {α : Type} {l m : List α} {n : Nat} : (l ++ m)[l.length + n]? = m[n]? := by rw [List.getElem?_append_right (by omega)]; congr 1; omega
theorem get_off0 {α : Type} {l m : List α} : (l ++ m)[l.length]? = m[0]? := by rw [List.getElem?_append_right (by omega)]; congr 1; omega
theorem set_off {α : Type} {l m : List α} {n : Nat} {a : α} : (l ++ m).set (l.length + n) a = l ++ m.set n a := by rw [List.set_append_right _ _ (by omega)]; congr 2; omega
theorem set_off0 {α : Type} {l m : List α} {a : α} : (l ++ m).set l.length a = l ++ m.set 0 a := by rw [List.set_append_right _ _ (by omega)]; congr 2; omega
attribute [go_sem] get_off get_off0 set_off set_off0 List.append_assoc List.length_append
attribute [go_sem] ck_load ck_store ck_nil ck_fieldAddr ck_indexAddr ck_lookup ck_slice ck_len ck_append oldOpt oldRef newRef AV.refs

def OutIs (sz N : Nat) (g : List AObj) (out : AV) (cells : List AV) (n : Nat) : Prop :=
 (out = .e0 ∧ cells = [] ∧ n = 0) ∨ ∃ i, out = .hs (i + N) 0 n false ∧ g[i]? = some (.arr false sz cells) ∧ cells.length = n * sz
theorem outIs_e0 {sz N : Nat} {g : List AObj} : OutIs sz N g .e0 [] 0 := .inl ⟨rfl, rfl, rfl⟩
theorem OutIs.more {sz N : Nat} {g : List AObj} {out : AV} {cells : List AV} {n : Nat} (h : OutIs sz N g out cells n) (g' : List AObj) : OutIs sz N (g ++ g') out cells n := by
 rcases h with h | ⟨i, h1, h2, h3⟩
 · exact .inl h
 · exact .inr ⟨i, h1, by rw [List.getElem?_append_left (lt_of_some h2)]; exact h2, h3⟩
theorem OutIs.len {sz N : Nat} {g : List AObj} {out : AV} {cells : List AV} {n : Nat} (h : OutIs sz N g out cells n) : cells.length = n * sz := by
 rcases h with ⟨_, h2, h3⟩ | ⟨i, h1, h2, h3⟩
 · simp [h2, h3]
 · exact h3

section
variable {P : Program} {G : Glob} {dr : Option Nat} {d : Option Nat} {os : List AOper} {K : List AV → List AObj → Prop} {env : List AV}
theorem app_intro {pre g : List AObj} {T e by_ : Nat} {z : List AV} {out x : AV} {cells news : List AV} {n m : Nat} (ho : OutIs z.length pre.length g out cells n) (hT : elemOf? P T = some e) (hz : zeroOf P e = some z) (hs : szOf P e = some z.length) (hb : byOf P e = some by_)
   (hpos : 0 < z.length) (hp : winPers (pre ++ g) x = true) (hx : awin (pre ++ g) z.length x = some (news, m)) (hbd : (n + m) * by_ ≤ 140737488355328 ∧ n + m ≤ 140737488355328)
   (k : ∀ out' g', OutIs z.length pre.length g' out' (cells ++ news) (n + m) → (∀ (i : Nat) (o : AObj), g[i]? = some o → (∀ c : List AV, o ≠ .arr false z.length c) → g'[i]? = some o) → awops P G dr os K (aput env d out') (pre ++ g')) : contVH P G dr (aappS P (pre ++ g) T out x) d os K env := by
 have hm : news.length = m * z.length := by
   cases x with
   | e0 => simp only [awin, Option.some.injEq, Prod.mk.injEq] at hx; obtain ⟨rfl, rfl⟩ := hx; simp
   | sl c q =>
     simp only [awin] at hx
     split at hx
     · simp only [Option.some.injEq, Prod.mk.injEq] at hx; obtain ⟨rfl, rfl⟩ := hx; assumption
     · cases hx
   | hs id off q t =>
     simp only [awin] at hx
     split at hx
     · split at hx
       · rename_i hc
         simp only [Option.some.injEq, Prod.mk.injEq] at hx; obtain ⟨rfl, rfl⟩ := hx
         rw [List.length_take, List.length_drop]; omega
       · cases hx
     · cases hx
   | _ => simp [awin] at hx
 have e1 : aappS P (pre ++ g) T out x = aappend P (pre ++ g) T out x := by simp [aappS, hp]
 rw [e1]
 rcases ho with ⟨rfl, rfl, rfl⟩ | ⟨i, rfl, hi, hl⟩
 · have e2 : aappend P (pre ++ g) T .e0 x = some (.hs (pre ++ g).length 0 m false, (pre ++ g) ++ [.arr false z.length news]) := by
     simp only [aappend, hT, hz, hb, hpos, hs, hx, and_self, if_true, true_and]
     rw [if_pos (by simpa using hbd)]
   rw [e2]
   show awops P G dr os K _ _
   rw [List.append_assoc]
   refine k _ _ (.inr ⟨g.length, ?_, by simp, by simpa using hm⟩) (fun i o ho _ => by rw [List.getElem?_append_left (lt_of_some ho)]; exact ho)
   simp [Nat.add_comm]
 · have hlt := lt_of_some hi
   have hg : (pre ++ g)[i + pre.length]? = some (.arr false z.length cells) := by
     rw [List.getElem?_append_right (by omega)]; simpa using hi
   have e2 : aappend P (pre ++ g) T (.hs (i + pre.length) 0 n false) x = some (.hs (pre ++ g).length 0 (n + m) false, (pre ++ g).set (i + pre.length) .dead ++ [.arr false z.length (cells ++ news)]) := by
     simp only [aappend, hT, hz, hb, hpos, hs, hx, hg, and_self, if_true, true_and, hl, Nat.zero_add, Nat.le_refl, hbd, Bool.false_eq_true, if_false, List.drop_zero]
   rw [e2]
   show awops P G dr os K _ _
   rw [List.set_append_right _ _ (by omega), List.append_assoc, Nat.add_sub_cancel]
   refine k _ _ (.inr ⟨g.length, ?_, by simp, ?_⟩) (fun j o hj hn => ?_)
   · simp [Nat.add_comm]
   · rw [List.length_append, hl, hm, Nat.add_mul]
   · have hne : i ≠ j := by
       rintro rfl
       rw [hi] at hj; cases hj
       exact hn _ rfl
     rw [List.getElem?_append_left (by simpa using lt_of_some hj), List.getElem?_set_ne hne]
     exact hj
theorem app_intro' {h pre g more : List AObj} {T e by_ sz N : Nat} {z : List AV} {out x : AV} {cells news : List AV} {n m : Nat} (ho : OutIs sz N g out cells n) (hN : pre.length = N) (hh : h = pre ++ (g ++ more)) (hT : elemOf? P T = some e) (hz : zeroOf P e = some z) (hs : szOf P e = some sz) (hb : byOf P e = some by_)
   (hzl : z.length = sz) (hpos : 0 < sz) (hp : winPers h x = true) (hx : awin h sz x = some (news, m)) (hbd : (n + m) * by_ ≤ 140737488355328 ∧ n + m ≤ 140737488355328)
   (k : ∀ out' g', OutIs sz N g' out' (cells ++ news) (n + m) → (∀ (i : Nat) (o : AObj), g[i]? = some o → (∀ c : List AV, o ≠ .arr false sz c) → g'[i]? = some o) → awops P G dr os K (aput env d out') (pre ++ g')) : contVH P G dr (aappS P h T out x) d os K env := by
 subst hh hzl hN
 exact app_intro (ho.more more) hT hz hs hb hpos hp hx hbd (fun out' g' h1 h2 => k out' g' h1 (fun i o hi hn => h2 i o (by rw [List.getElem?_append_left (lt_of_some hi)]; exact hi) hn))
end
theorem fin_out {pre g : List AObj} {sz n : Nat} {out : AV} {cells : List AV} (ho : OutIs sz pre.length g out cells n) (hp : persL cells = true) : Fin (pre ++ g) out (.own sz cells n) := by
 rcases ho with ⟨rfl, rfl, rfl⟩ | ⟨i, rfl, hi, hl⟩
 · exact .inr ⟨⟨rfl, rfl⟩, by simp [finIds], by simp [finIds]⟩
 · exact fin_own (by rw [List.getElem?_append_right (by omega)]; simpa using hi) rfl rfl hl hp

def snapK (k : Nat) (h : List AObj) (a : AV) : AV :=
 let L := fun l => if persL l then l else l.map (snap k h)
 match a with
 | .e0 => .sl [] 0
 | .hs id off n _ => match h[id]? with
   | some (.arr _ sz cells) => if off + n * sz ≤ cells.length then .sl (L ((cells.drop off).take (n * sz))) n else .u
   | _ => .u
 | .ptr id off => match h[id]? with
   | some (.box _ cells) => .box (L cells) off
   | some (.arr _ _ cells) => .box (L cells) off
   | _ => .u
 | .mp id => match h[id]? with
   | some (.map _ ks vs) => .mapv (L ks) (L vs)
   | _ => .u
 | .fn f a b => .fn f (L a) (L b)
 | .agg cs => .agg (L cs)
 | .tup vs => .tup (L vs)
 | _ => .u
def reachK (k : Nat) (h : List AObj) (a : AV) : List Nat :=
 let L := fun l => if persL l then [] else l.flatMap (reach k h)
 match a with
 | .hs id off n _ => match h[id]? with
   | some (.arr _ sz cells) => id :: L ((cells.drop off).take (n * sz))
   | _ => []
 | .ptr id off => match h[id]? with
   | some (.box _ cells) => id :: L cells
   | some (.arr _ _ cells) => id :: L cells
   | _ => []
 | .mp id => match h[id]? with
   | some (.map _ ks vs) => id :: (L ks ++ L vs)
   | _ => []
 | .fn f a b => L a ++ L b
 | .agg cs => L cs
 | .tup vs => L vs
 | _ => []
theorem reach_dep {h : List AObj} {a : AV} : reach dep h a = if pers a then [] else reachK 8 h a := rfl
theorem snap_8 {h : List AObj} {a : AV} : snap 8 h a = if pers a then a else snapK 7 h a := rfl
theorem reach_8 {h : List AObj} {a : AV} : reach 8 h a = if pers a then [] else reachK 7 h a := rfl
theorem snap_7 {h : List AObj} {a : AV} : snap 7 h a = if pers a then a else snapK 6 h a := rfl
theorem reach_7 {h : List AObj} {a : AV} : reach 7 h a = if pers a then [] else reachK 6 h a := rfl
theorem snap_6 {h : List AObj} {a : AV} : snap 6 h a = if pers a then a else snapK 5 h a := rfl
theorem reach_6 {h : List AObj} {a : AV} : reach 6 h a = if pers a then [] else reachK 5 h a := rfl
theorem snap_5 {h : List AObj} {a : AV} : snap 5 h a = if pers a then a else snapK 4 h a := rfl
theorem reach_5 {h : List AObj} {a : AV} : reach 5 h a = if pers a then [] else reachK 4 h a := rfl
theorem snap_4 {h : List AObj} {a : AV} : snap 4 h a = if pers a then a else snapK 3 h a := rfl
theorem reach_4 {h : List AObj} {a : AV} : reach 4 h a = if pers a then [] else reachK 3 h a := rfl
theorem fz_0 {a : AObj} {l : List AObj} {f : AObj → AObj} : (a :: l).modify 0 f = f a :: l := rfl
theorem fz_s {a : AObj} {l : List AObj} {n : Nat} {f : AObj → AObj} : (a :: l).modify (n + 1) f = a :: l.modify n f := rfl
theorem fz_off {l m : List AObj} {n : Nat} {f : AObj → AObj} : (l ++ m).modify (l.length + n) f = l ++ m.modify n f := by
 apply List.ext_getElem?
 intro i
 rw [List.getElem?_modify]
 by_cases h : i < l.length
 · rw [List.getElem?_append_left h, List.getElem?_append_left h]
   have : l.length + n ≠ i := by omega
   simp [this]
 · rw [List.getElem?_append_right (by omega), List.getElem?_append_right (by omega), List.getElem?_modify]
   by_cases e : l.length + n = i
   · subst e; simp
   · have : n ≠ i - l.length := by omega
     simp [e, this]
theorem fz_off0 {l m : List AObj} {f : AObj → AObj} : (l ++ m).modify l.length f = l ++ m.modify 0 f := by
 have := fz_off (l := l) (m := m) (n := 0) (f := f); simpa using this
attribute [go_sem] reach_dep snap_8 reach_8 snap_7 reach_7 snap_6 reach_6 snap_5 reach_5 snap_4 reach_4 snapK reachK fz_0 fz_s fz_off fz_off0
end Go.Vo
